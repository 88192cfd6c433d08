/-
  LevelClasses on both sides.
-/
import Derived.Test.YtninagdclibmnaaLv
import Derived.Test.YtninagdclibmnaaRoots
import Derived.Test.YtninagdclibmnaaPr
import Derived.Test.YtninagdclibmnaaPrim
namespace Go.Proofs.Ytninagdclibmnaa
open Go.RowKit
set_option linter.unusedVariables false
set_option linter.unusedSimpArgs false
attribute [local go_sem] q2 q3 q4 q5 q6 q7 q8 q9 q10 q11 q12

theorem allB3_mem {d : Int} {f : T3} : ∀ a, f ∈ allB3 d a → ∃ (a' j : Nat), 1 ≤ a' ∧ a' < a ∧ rowP d a' j = true ∧ f = rowE d a' j
  | 0, h => by cases h
  | a + 1, h => by
    rw [allB3_succ, List.mem_append] at h
    rcases h with h | h
    · obtain ⟨a', j, h1, h2, h3⟩ := allB3_mem a h
      exact ⟨a', j, h1, by omega, h3⟩
    · obtain ⟨j, h1, h2, h3⟩ := flN_mem h
      exact ⟨a, j, by omega, by omega, h2, h3⟩
theorem rf_mem {d : Int} (hd : negB d = true) {f : T3} (hf : f ∈ rfL d) : Frm d f ∧ RcT f := by
  obtain ⟨d0, d1⟩ := neg_true hd
  obtain ⟨i, h1, h2, h3⟩ := flN_mem hf
  have hm : f ∈ allR d := by
    rw [h3, List.getD_eq_getElem?_getD, List.getElem?_eq_getElem h1]; exact List.getElem_mem h1
  have hform := allR_form d0 d1 f hm
  have hc : contI f.1 f.2.1 f.2.2 = 1 := by
    have h4 : primI ((allR d).getD i (0, 0, 0)) = true := h2
    have h5 : f = (allR d).getD i (0, 0, 0) := h3
    rw [← h5] at h4
    unfold primI at h4
    simpa using h4
  obtain ⟨a, j, ha, _, hp, he⟩ := allB3_mem _ hm
  unfold rowP at hp
  rw [Bool.and_eq_true] at hp
  have hD : discI f.1 f.2.1 f.2.2 = d := by
    have := disc_of (d := d) (b := 1 - (a : Int) + j) ha
    rw [hp.1] at this
    rw [he]
    simpa [rowE] using this
  have hr : redB f.1 f.2.1 f.2.2 = true := by rw [he]; exact hp.2
  have hcl : clB f = true := by
    show classB f.1 f.2.1 f.2.2 = true
    unfold classB shownB defB
    rw [hform, hD, hc]
    have : 0 < f.1 := by rw [he]; show (0 : Int) < (a : Int); omega
    simp [this]; omega
  have hF := frm_of hcl
  have hd2 : dT f = d := hD
  rw [hd2] at hF
  exact ⟨hF, ⟨cls_of hcl, hr⟩⟩
theorem rt_mem {d n r : Int} (hn : 1 ≤ n) (h : r ∈ rtL d n) : 0 ≤ r ∧ r < 2 * n ∧ (r * r - d) % (4 * n) = 0 := by
  obtain ⟨j, h1, h2, h3⟩ := flN_mem h
  have h4 : ((j : Int) * (j : Int) - d) % (4 * n) = 0 := by
    have : rtP d n j = true := h2
    unfold rtP at this
    simpa using this
  have h5 : r = (j : Int) := h3
  rw [h5]
  exact ⟨by omega, by omega, h4⟩
theorem rt_len {d n : Int} (hn : n ≤ 30) : (rtL d n).length ≤ 60 := by
  have := flN_len (rtP d n) (fun k => (k : Int)) (2 * n).toNat
  unfold rtL; omega
theorem getD_mem {α : Type} {l : List α} {i : Nat} {x : α} (h : i < l.length) : l.getD i x ∈ l := by
  rw [List.getD_eq_getElem?_getD, List.getElem?_eq_getElem h]; exact List.getElem_mem h
noncomputable def lcE (d n : Int) (i j : Nat) : T3 := lvX ((rfL d).getD j (0, 0, 0)) n ((rtL d n).getD i 0)
def gdT (X : T3) : Bool := formB X.1 X.2.1 X.2.2
noncomputable def lcR (d n : Int) (i : Nat) : Nat → List T3
  | 0 => []
  | j + 1 => lcR d n i j ++ [lcE d n i j]
noncomputable def lcK (d n : Int) : Nat → List T3
  | 0 => []
  | i + 1 => lcK d n i ++ lcR d n i (rfL d).length
noncomputable def lcJ (d n : Int) (i j : Nat) : List T3 := lcK d n i ++ lcR d n i j
theorem lcJ_zero (d n : Int) (i : Nat) : lcJ d n i 0 = lcK d n i := List.append_nil _
theorem lcJ_succ (d n : Int) (i j : Nat) : lcJ d n i (j + 1) = lcJ d n i j ++ [lcE d n i j] := by unfold lcJ; rw [lcR, ← List.append_assoc]
theorem lcJ_full (d n : Int) (i : Nat) : lcJ d n i (rfL d).length = lcK d n (i + 1) := rfl
theorem lcR_len (d n : Int) (i : Nat) : ∀ j, (lcR d n i j).length = j
  | 0 => rfl
  | j + 1 => by rw [lcR, List.length_append, lcR_len d n i j]; rfl
theorem lcK_len (d n : Int) : ∀ i, (lcK d n i).length = i * (rfL d).length
  | 0 => by rw [Nat.zero_mul]; rfl
  | i + 1 => by rw [lcK, List.length_append, lcK_len d n i, lcR_len, Nat.succ_mul]
/-- Are the first j of row i, and all rows ahead, good? -/
def lcG (d n : Int) (i j : Nat) : Prop := (∀ i' j', i' < i → j' < (rfL d).length → gdT (lcE d n i' j') = true) ∧ ∀ j', j' < j → gdT (lcE d n i j') = true
theorem lcG_next {d n : Int} {i j : Nat} (h : lcG d n i j) (h2 : gdT (lcE d n i j) = true) : lcG d n i (j + 1) :=
  ⟨h.1, fun j' hj => by
    rcases (show j' < j ∨ j' = j by omega) with q | rfl
    · exact h.2 j' q
    · exact h2⟩
theorem lcG_row {d n : Int} {i : Nat} (h : lcG d n i (rfL d).length) : lcG d n (i + 1) 0 :=
  ⟨fun i' j' h1 h2 => by
    rcases (show i' < i ∨ i' = i by omega) with q | rfl
    · exact h.1 i' j' q h2
    · exact h.2 j' h2, fun j' hj => absurd hj (by omega)⟩
noncomputable def lcB (d n : Int) : Bool := lrOk d n && @decide (lcG d n (rtL d n).length 0) (Classical.propDecidable _)
noncomputable def lcN (d n : Int) : Nat := if lcB d n then (lcK d n (rtL d n).length).length else 0
noncomputable def lcF (d n : Int) (i : Nat) : Int := (flat3 (lcK d n (rtL d n).length)).getD i 0
theorem lc_no {d n : Int} (h : lrOk d n = false) : lcB d n = false ∧ lcN d n = 0 := by simp [lcB, lcN, h]
theorem lc_bad {d n : Int} {i j : Nat} (h1 : i < (rtL d n).length) (h2 : j < (rfL d).length) (h : gdT (lcE d n i j) = false) : lcB d n = false ∧ lcN d n = 0 := by
  have : lcB d n = false := by
    unfold lcB
    rw [Bool.and_eq_false_iff]; right
    refine @decide_eq_false _ (Classical.propDecidable _) fun hg => ?_
    rw [hg.1 i j h1 h2] at h; cases h
  exact ⟨this, by unfold lcN; rw [this]; rfl⟩
theorem lc_good {d n : Int} (h0 : lrOk d n = true) (h : lcG d n (rtL d n).length 0) : lcB d n = true ∧ lcN d n = (lcK d n (rtL d n).length).length := by
  have : lcB d n = true := by
    unfold lcB
    rw [h0, Bool.true_and]
    exact @decide_eq_true _ (Classical.propDecidable _) h
  exact ⟨this, by unfold lcN; rw [this]; rfl⟩
theorem lcN_le (d n : Int) : lcN d n ≤ 100000000 := by
  unfold lcN
  split
  · rename_i h
    unfold lcB at h
    rw [Bool.and_eq_true] at h
    have h2 := h.1
    unfold lrOk at h2; simp at h2
    obtain ⟨d0, d1⟩ := neg_true h2.1
    obtain ⟨n0, n1⟩ := lev_true h2.2
    have a := rfL_len d0 d1
    have b := rt_len (d := d) n1
    rw [lcK_len]
    have := Nat.mul_le_mul b a
    omega
  · omega
theorem lf_rw (F X : T3) (n r d : Int) (w : World) (h0 : Frm d F ∧ RcT F) (h1 : 1 ≤ n) (h2 : n ≤ 30) (hr : 0 ≤ r ∧ r < 2 * n ∧ (r * r - d) % (4 * n) = 0) (hX : X = lvX F n r) :
    Calls Try.prog 93 #[frm F, .int .i64 n, .int .i64 r] w fun e w' => e = .returned (.tuple #[frm X, .bool (gdT X)]) ∧ Below w.heap.size w w' := by
  subst hX
  have hd : discI F.1 F.2.1 F.2.2 = d := h0.1.i.d
  exact levelForm_v F.1 F.2.1 F.2.2 n r w h0.2 h1 h2 hr.1 hr.2.1 (by rw [hd]; exact hr.2.2)
theorem lm_rw (F X : T3) (n r d : Int) (w : World) (h0 : Frm d F ∧ RcT F) (h1 : 1 ≤ n) (h2 : n ≤ 30) (hr : 0 ≤ r ∧ r < 2 * n ∧ (r * r - d) % (4 * n) = 0) (hX : X = lvX F n r) :
    Calls Try.prog 90 #[frm F, .int .i64 n, .int .i64 r] w fun e w' => e = .returned (frm X) ∧ Below w.heap.size w w' := by
  subst hX
  have hd : discI F.1 F.2.1 F.2.2 = d := h0.1.i.d
  exact lvMake_v F.1 F.2.1 F.2.2 F.1 F.2.1 F.2.2 n r w h0.2.cl.ok (E1 h0.2) h0.2 h1 h2 hr.1 hr.2.1 (by rw [hd]; exact hr.2.2)
theorem fg_rw (X : T3) (w : World) : Calls Try.prog 89 #[frm X] w fun e w' => e = .returned (.bool (gdT X)) ∧ Below w.heap.size w w' := foGood_a X.1 X.2.1 X.2.2 w
theorem IntsAt.cellX {w : World} {lo hi n : Nat} {a : Option Addr} {f : Nat → Int} (h : IntsAt w lo hi a n f) {i : Nat} (hi' : i < n) : ∃ g, a = some ⟨g, 0, none⟩ ∧ g < w.heap.size ∧ w.cell? ⟨g, i, none⟩ = some (.int .i64 (f i)) := by
  rcases h with h | ⟨g, cap, F, ha, h1, h2, h3, r, e⟩
  · omega
  · exact ⟨g, ha, r.lt, by rw [r.cell (i := i) (by omega), e i hi']⟩
theorem FormsAt.weak2 {w : World} {lo hi lo' : Nat} {a : Option Addr} {n : Nat} {f : Nat → Int} (h : FormsAt w lo hi a n f) (h1 : lo' ≤ lo) : FormsAt w lo' hi a n f := by
  rcases h with h | ⟨g, cap, F, ha, h2, h3⟩
  · exact .inl h
  · exact .inr ⟨g, cap, F, ha, by omega, h3⟩
theorem FAt.far {w w' : World} {lo hi : Nat} {a : Option Addr} {fs : List (Int × Int × Int)} {row : Option Nat} (h : FAt w lo hi a fs) (hg : w.grownBy w' row) (hr : ∀ k, row = some k → k < lo ∨ hi ≤ k) (hB : hi ≤ w.heap.size) : FAt w' lo hi a fs :=
  FormsAt.keep h fun k h1 h2 => hg.block k (by omega) (fun e => by have := hr k e.symm; omega)

set_option maxRecDepth 100000 in
set_option maxHeartbeats 8000000 in
theorem implLevelClasses (d n : Int) (w : World) : Calls Try.prog 44 #[.int .i64 d, .int .i64 n] w (RetForms w (lcN d n) (lcF d n) (lcB d n)) := by
  cases k0 : lrOk d n
  · obtain ⟨e1, e2⟩ := lc_no k0
    have HR : ∀ w, Calls Try.prog 97 #[.int .i64 d, .int .i64 n] w (RetInts w 0 (fun i => 0) false) := fun w => by
      have := implLevelRoots_a d n w
      rw [k0] at this
      have e : lrL d n = [] := by unfold lrL; rw [k0]; rfl
      rw [e] at this; exact this
    rw [e1, e2]
    clear e1 e2
    go_enter Try.func44, Try.ntmps44
    go_wp2_with (go_at_call 97; refine (HR _).mono ?_; rintro e wA ⟨ar, cr, rfl, hiA, hbA⟩)
    go_ret2
    exact ⟨_, _, rfl, .inl rfl, by (repeat' first | with_reducible (first | exact Below.refl _ _ | assumption | refine gr_alloc ?_ _ | refine below_drewN ?_ _ | refine below_drew ?_ | refine gr_call ?_ (by assumption) | refine Below.setCell ?_ ?_ _) | go_size | omega | (simp; omega))⟩
  · have hk := k0
    unfold lrOk at hk
    rw [Bool.and_eq_true] at hk
    obtain ⟨k1, k2⟩ := hk
    obtain ⟨d0, d1⟩ := neg_true k1
    obtain ⟨n0, n1⟩ := lev_true k2
    have hlen := rfL_len d0 d1
    have hrl := rt_len (d := d) n1
    have HR : ∀ w, Calls Try.prog 97 #[.int .i64 d, .int .i64 n] w (RetInts w (rtL d n).length (fun i => (rtL d n).getD i 0) true) := fun w => by
        have := implLevelRoots_a d n w
        rw [k0] at this
        have e : lrL d n = rtL d n := by unfold lrL; rw [k0]; rfl
        rw [e] at this; exact this
    go_enter Try.func44, Try.ntmps44
    go_wp2_with (go_at_call 97; refine (HR _).mono ?_; rintro e wA ⟨ar, cr, rfl, hiA, hbA⟩)
    
    go_loopw [8, 27] (fun ls is wr => ∃ (i : Nat) (a : Option Addr) (c : Nat), ls = .slice a (lcK d n i).length c ∧ is = .int .i64 (i : Int) ∧ i ≤ (rtL d n).length ∧ FL wr wA.heap.size (.slice a (lcK d n i).length c) (lcK d n i) ∧ Below wA.heap.size wA wr ∧ Hid (lcG d n i 0)) (fun ls is _ => (rtL d n).length - (intOf is).toNat)
    case atStart => exact ⟨0, _, _, rfl, rfl, by omega, FL.made wA _ (Nat.le_refl _), below_alloc_self wA _, hide ⟨fun i' j' h => absurd h (by omega), fun j' h => absurd h (by omega)⟩⟩
    case round =>
      obtain ⟨i, a, c, rfl, rfl, hi, hl, hb, hG⟩ := hrel
      obtain ⟨wl, rfl⟩ : ∃ wl : World, wl = wr := ⟨_, rfl⟩
      have hz := hb.size
      by_cases q : i < (rtL d n).length
      · have hci : (i : Int) < ((rtL d n).length : Int) := by omega
        have hr := rt_mem n0 (getD_mem (x := 0) q)
        obtain ⟨g0, hg0, hg1, hcell⟩ := (hiA.below hb (Nat.le_refl _)).cellX q
        obtain ⟨r, hrr⟩ : ∃ r, (rtL d n).getD i 0 = r := ⟨_, rfl⟩
        rw [hrr] at hr hcell
        subst hg0
        have HR9 := hide hrr
        clear hrr
        go_wp2_with (go_at_call 98; refine (reducedForms_a d _ d0 d1).mono ?_; rintro e wB ⟨af, cf, rfl, hlB, hbB⟩)
        have hzB := hbB.size
        have hF0 := hlB.at.2
        have hlj := (hl.below hbB)
        have hj0 : FL wB wA.heap.size (.slice a (lcJ d n i (0)).length c) (lcJ d n i (0)) := by
          have e : (lcJ d n i (0)) = lcK d n i := lcJ_zero _ _ _
          rw [e]; exact hlj
        have hbj : Below wA.heap.size wA wB := hb.trans (hbB.mono hz)
        have hkl : ∀ k, (Value.slice a (lcJ d n i (0)).length c).ownBlock = some k → k < wl.heap.size := fun k hk => (hl.lt k (by cases a <;> exact hk)).2
        have e0 : (lcK d n i).length = (lcJ d n i (0)).length := by rw [lcJ_zero]
        have E0 := hide e0
        clear e0 hcell
        go_loopw [8, 34] (fun ls is wr => ∃ (j : Nat) (a2 : Option Addr) (c2 : Nat), ls = .slice a2 (lcJ d n i (j)).length c2 ∧ is = .int .i64 (j : Int) ∧ j ≤ (rfL d).length ∧ FL wr wA.heap.size (.slice a2 (lcJ d n i (j)).length c2) (lcJ d n i (j)) ∧ Below wA.heap.size wA wr ∧ FAt wr wl.heap.size wB.heap.size af (rfL d) ∧ wB.heap.size ≤ wr.heap.size ∧ (∀ k, (Value.slice a2 (lcJ d n i (j)).length c2).ownBlock = some k → k < wl.heap.size ∨ wB.heap.size ≤ k) ∧ Hid (lcG d n i j)) (fun ls is _ => (rfL d).length - (intOf is).toNat)
        case atStart => exact ⟨0, a, c, by rw [unhide E0], rfl, by omega, hj0, hbj, hF0, Nat.le_refl _, fun k hk => .inl (hkl k hk), hG⟩
        case round =>
          obtain ⟨j, a2, c2, rfl, rfl, hj, hl2, hb2, hF2, hz2, hk2, hG2⟩ := hrel
          obtain ⟨wl2, rfl⟩ : ∃ wl2 : World, wl2 = wr := ⟨_, rfl⟩
          have hK2 := fun k => hk2 k
          clear hk2
          by_cases q2 : j < (rfL d).length
          · have hcj : (j : Int) < ((rfL d).length : Int) := by omega
            have hF := rf_mem k1 (getD_mem (x := (0, 0, 0)) q2)
            obtain ⟨g1, hg2, hg3, c0, c1, c3⟩ := hF2.cells q2
            obtain ⟨X, hX⟩ : ∃ X, X = lcE d n i j := ⟨_, rfl⟩
            have HE := hide hX
            have hX2 : X = lvX ((rfL d).getD j (0, 0, 0)) n r := by rw [hX, ← unhide HR9]; rfl
            clear hX
            obtain ⟨x, hx⟩ : ∃ x, ((rfL d).getD j (0, 0, 0)).1 = x := ⟨_, rfl⟩
            obtain ⟨y, hy⟩ : ∃ y, ((rfL d).getD j (0, 0, 0)).2.1 = y := ⟨_, rfl⟩
            obtain ⟨z, hz9⟩ : ∃ z, ((rfL d).getD j (0, 0, 0)).2.2 = z := ⟨_, rfl⟩
            have hxyz : (rfL d).getD j (0, 0, 0) = (x, y, z) := by rw [← hx, ← hy, ← hz9]
            rw [hxyz] at hF hX2
            rw [hx] at c0
            rw [hy] at c1
            rw [hz9] at c3
            have hX := hide hX2
            clear hx hy hz9 hxyz hX2
            subst hg2
            have hLL : (lcJ d n i (j)).length ≤ 1000000 := by
              unfold lcJ
              rw [List.length_append, lcK_len, lcR_len]
              have := Nat.mul_le_mul (show i ≤ 60 by omega) hlen
              omega
            cases hgd : gdT X
            · have hbad := lc_bad q q2 (by rw [← unhide HE]; exact hgd)
              have HB := hide hbad
              clear hbad
              go_wp2_with (first | (go_at_call 93; refine (lf_rw (x, y, z) X n r d _ hF n0 n1 hr (unhide hX)).mono ?_; rintro e w5 ⟨rfl, hb5⟩))
              go_ret2
              exact ⟨_, _, by rw [(unhide HB).1, (unhide HB).2]; rfl, .inl (by rw [(unhide HB).2]), by (repeat' first | with_reducible (first | exact Below.refl _ _ | assumption | refine gr_alloc ?_ _ | refine below_drewN ?_ _ | refine below_drew ?_ | refine gr_call ?_ (by assumption) | refine Below.setCell ?_ ?_ _) | go_size | omega | (simp; omega))⟩
            · have hnext := lcG_next (unhide hG2) (by rw [← unhide HE]; exact hgd)
              have HN := hide hnext
              clear hnext
              have el : (lcJ d n i (j + 1)) = (lcJ d n i (j)) ++ [(X.1, X.2.1, X.2.2)] := by rw [lcJ_succ, ← unhide HE]
              have EL := hide el
              clear el
              go_wp2_with fail
              refine (lf_rw (x, y, z) X n r d _ hF n0 n1 hr (unhide hX)).mono ?_
              rintro en w5 ⟨rfl, hb5⟩
              have hb6 : Below wl2.heap.size wl2 w5 := by (repeat' first | with_reducible (first | exact Below.refl _ _ | assumption | refine gr_alloc ?_ _ | refine below_drewN ?_ _ | refine below_drew ?_ | refine gr_call ?_ (by assumption) | refine Below.setCell ?_ ?_ _) | go_size | omega | (simp; omega))
              have hz6 := hb6.size
              have hl6 := (hl2.below hb6)
              have hf6 := hF2.below hb6 hz2
              go_wp2_with (at_builtin; refine app_FL _ rfl (.tmp 48) (.tmp 50) rfl wA.heap.size (.slice a2 (lcJ d n i (j)).length c2) (lcJ d n i (j)) X.1 X.2.1 X.2.2 (w5.heap.size + 1) rfl rfl ((hl6.alloc _).alloc _) (by go_simp) (by go_simp) (by go_simp) (by omega) (by simp; omega) ?_; intro g2 cap2 w7 hown hgrow hat hlt)
              go_roundw
              case rel =>
                have hl8 : FL w7 wA.heap.size (.slice (some ⟨g2, 0, none⟩) (lcJ d n i (j + 1)).length cap2) (lcJ d n i (j + 1)) := by
                  rw [unhide EL, List.length_append]; exact hown
                refine ⟨j + 1, some ⟨g2, 0, none⟩, cap2, by rw [unhide EL, List.length_append]; rfl, by go_num, by omega, hl8, ?_, ?_, ?_, ?_, HN⟩
                · exact ((hb2.trans (hb6.mono (by omega))).alloc (by omega) _).alloc (by simp; omega) _|>.grown hgrow (by simp; omega) (fun k hk => (hl2.lt k hk).1)
                · exact (hf6.below (below_alloc_p w5 _) (by omega)).below (below_alloc_p _ _) (by simp; omega)|>.far hgrow hK2 (by simp; omega)
                · have := hgrow.size; simp at this; omega
                · intro k hk
                  have hkg : k = g2 := by cases hk; rfl
                  subst hkg
                  rcases hat with h | h
                  · exact hK2 _ h
                  · right; rw [h]; simp; omega
              case measure => simp [intOf]; omega
          · obtain rfl : j = (rfL d).length := by omega
            go_wp2
            go_roundw
            case rel =>
              refine ⟨i + 1, a2, c2, rfl, by go_num, by omega, hl2, hb2, ?_⟩
              exact hide (lcG_row (unhide hG2))
            case measure => simp [intOf]; omega
      · obtain rfl : i = (rtL d n).length := by omega
        obtain ⟨e1, e2⟩ := lc_good k0 (unhide hG)
        have HE := hide (And.intro e1 e2)
        clear e1 e2
        go_wp2
        go_ret2
        have hlw := hl.at.2
        exact ⟨a, c, by rw [(unhide HE).1, (unhide HE).2]; rfl, by rw [(unhide HE).2]; exact FormsAt.weak2 hlw hbA.size, by (repeat' first | with_reducible (first | exact Below.refl _ _ | assumption | refine gr_alloc ?_ _ | refine below_drewN ?_ _ | refine below_drew ?_ | refine gr_call ?_ (by assumption) | refine Below.setCell ?_ ?_ _) | go_size | omega | (simp; omega))⟩

set_option maxRecDepth 100000 in
set_option maxHeartbeats 8000000 in
theorem specLevelClasses (d n : Int) (w : World) : Calls Try.prog 43 #[.int .i64 d, .int .i64 n] w (RetForms w (lcN d n) (lcF d n) (lcB d n)) := by
  cases k0 : lrOk d n
  · obtain ⟨e1, e2⟩ := lc_no k0
    rw [e1, e2]
    clear e1 e2
    cases k1 : negB d
    · go_enter Try.func43, Try.ntmps43
      go_wp2_with (first | (go_at_call 94; refine (reDisc_a _ _).mono ?_; rintro e w' ⟨rfl, rfl⟩) | (go_at_call 95; refine (lvGood_a _ _ _ (by first | assumption | omega)).mono ?_; rintro e w' ⟨rfl, nq, rfl⟩))
      go_ret2
      exact ⟨_, _, rfl, .inl rfl, by (repeat' first | with_reducible (first | exact Below.refl _ _ | assumption | refine gr_alloc ?_ _ | refine below_drewN ?_ _ | refine below_drew ?_ | refine gr_call ?_ (by assumption) | refine Below.setCell ?_ ?_ _) | go_size | omega | (simp; omega))⟩
    · have k2 : levB d n = false := by unfold lrOk at k0; rw [k1] at k0; exact k0
      obtain ⟨d0, d1⟩ := neg_true k1
      go_enter Try.func43, Try.ntmps43
      go_wp2_with (first | (go_at_call 94; refine (reDisc_a _ _).mono ?_; rintro e w' ⟨rfl, rfl⟩) | (go_at_call 95; refine (lvGood_a _ _ _ (by first | assumption | omega)).mono ?_; rintro e w' ⟨rfl, nq, rfl⟩))
      go_ret2
      exact ⟨_, _, rfl, .inl rfl, by (repeat' first | with_reducible (first | exact Below.refl _ _ | assumption | refine gr_alloc ?_ _ | refine below_drewN ?_ _ | refine below_drew ?_ | refine gr_call ?_ (by assumption) | refine Below.setCell ?_ ?_ _) | go_size | omega | (simp; omega))⟩
  · have hk := k0
    unfold lrOk at hk
    rw [Bool.and_eq_true] at hk
    obtain ⟨k1, k2⟩ := hk
    obtain ⟨d0, d1⟩ := neg_true k1
    obtain ⟨n0, n1⟩ := lev_true k2
    have hlen := rfL_len d0 d1
    have hrl := rt_len (d := d) n1
    go_enter Try.func43, Try.ntmps43
    go_wp2_with (first | (go_at_call 94; refine (reDisc_a _ _).mono ?_; rintro e w' ⟨rfl, rfl⟩) | (go_at_call 95; refine (lvGood_a _ _ _ (by first | assumption | omega)).mono ?_; rintro e w' ⟨rfl, nq, rfl⟩) | (go_at_call 88; refine (lvRoots_a d n _ d0 d1 n0 n1).mono ?_; rintro e wA ⟨ar, cr, rfl, hlA, hbA⟩))
    have hiA : IntsAt wA w.heap.size wA.heap.size ar (rtL d n).length (fun i => (rtL d n).getD i 0) := hlA.ints.2
    go_loopw [6, 25] (fun ls is wr => ∃ (i : Nat) (a : Option Addr) (c : Nat), ls = .slice a (lcK d n i).length c ∧ is = .int .i64 (i : Int) ∧ i ≤ (rtL d n).length ∧ FL wr wA.heap.size (.slice a (lcK d n i).length c) (lcK d n i) ∧ Below wA.heap.size wA wr ∧ Hid (lcG d n i 0)) (fun ls is _ => (rtL d n).length - (intOf is).toNat)
    case atStart => exact ⟨0, _, _, rfl, rfl, by omega, FL.nil _ _, Below.refl _ _, hide ⟨fun i' j' h => absurd h (by omega), fun j' h => absurd h (by omega)⟩⟩
    case round =>
      obtain ⟨i, a, c, rfl, rfl, hi, hl, hb, hG⟩ := hrel
      obtain ⟨wl, rfl⟩ : ∃ wl : World, wl = wr := ⟨_, rfl⟩
      have hz := hb.size
      by_cases q : i < (rtL d n).length
      · have hci : (i : Int) < ((rtL d n).length : Int) := by omega
        have hr := rt_mem n0 (getD_mem (x := 0) q)
        obtain ⟨g0, hg0, hg1, hcell⟩ := (hiA.below hb (Nat.le_refl _)).cellX q
        obtain ⟨r, hrr⟩ : ∃ r, (rtL d n).getD i 0 = r := ⟨_, rfl⟩
        rw [hrr] at hr hcell
        subst hg0
        have HR9 := hide hrr
        clear hrr
        go_wp2_with (go_at_call 96; refine (reList_a d _ d0 d1).mono ?_; rintro e wB ⟨af, cf, rfl, hlB, hbB⟩)
        have hzB := hbB.size
        have hF0 := hlB.at.2
        have hlj := (hl.below hbB)
        have hj0 : FL wB wA.heap.size (.slice a (lcJ d n i (0)).length c) (lcJ d n i (0)) := by
          have e : (lcJ d n i (0)) = lcK d n i := lcJ_zero _ _ _
          rw [e]; exact hlj
        have hbj : Below wA.heap.size wA wB := hb.trans (hbB.mono hz)
        have hkl : ∀ k, (Value.slice a (lcJ d n i (0)).length c).ownBlock = some k → k < wl.heap.size := fun k hk => (hl.lt k (by cases a <;> exact hk)).2
        have e0 : (lcK d n i).length = (lcJ d n i (0)).length := by rw [lcJ_zero]
        have E0 := hide e0
        clear e0 hcell
        go_loopw [6, 32] (fun ls is wr => ∃ (j : Nat) (a2 : Option Addr) (c2 : Nat), ls = .slice a2 (lcJ d n i (j)).length c2 ∧ is = .int .i64 (j : Int) ∧ j ≤ (rfL d).length ∧ FL wr wA.heap.size (.slice a2 (lcJ d n i (j)).length c2) (lcJ d n i (j)) ∧ Below wA.heap.size wA wr ∧ FAt wr wl.heap.size wB.heap.size af (rfL d) ∧ wB.heap.size ≤ wr.heap.size ∧ (∀ k, (Value.slice a2 (lcJ d n i (j)).length c2).ownBlock = some k → k < wl.heap.size ∨ wB.heap.size ≤ k) ∧ Hid (lcG d n i j)) (fun ls is _ => (rfL d).length - (intOf is).toNat)
        case atStart => exact ⟨0, a, c, by rw [unhide E0], rfl, by omega, hj0, hbj, hF0, Nat.le_refl _, fun k hk => .inl (hkl k hk), hG⟩
        case round =>
          obtain ⟨j, a2, c2, rfl, rfl, hj, hl2, hb2, hF2, hz2, hk2, hG2⟩ := hrel
          obtain ⟨wl2, rfl⟩ : ∃ wl2 : World, wl2 = wr := ⟨_, rfl⟩
          have hK2 := fun k => hk2 k
          clear hk2
          by_cases q2 : j < (rfL d).length
          · have hcj : (j : Int) < ((rfL d).length : Int) := by omega
            have hF := rf_mem k1 (getD_mem (x := (0, 0, 0)) q2)
            obtain ⟨g1, hg2, hg3, c0, c1, c3⟩ := hF2.cells q2
            obtain ⟨X, hX⟩ : ∃ X, X = lcE d n i j := ⟨_, rfl⟩
            have HE := hide hX
            have hX2 : X = lvX ((rfL d).getD j (0, 0, 0)) n r := by rw [hX, ← unhide HR9]; rfl
            clear hX
            obtain ⟨x, hx⟩ : ∃ x, ((rfL d).getD j (0, 0, 0)).1 = x := ⟨_, rfl⟩
            obtain ⟨y, hy⟩ : ∃ y, ((rfL d).getD j (0, 0, 0)).2.1 = y := ⟨_, rfl⟩
            obtain ⟨z, hz9⟩ : ∃ z, ((rfL d).getD j (0, 0, 0)).2.2 = z := ⟨_, rfl⟩
            have hxyz : (rfL d).getD j (0, 0, 0) = (x, y, z) := by rw [← hx, ← hy, ← hz9]
            rw [hxyz] at hF hX2
            rw [hx] at c0
            rw [hy] at c1
            rw [hz9] at c3
            have hX := hide hX2
            clear hx hy hz9 hxyz hX2
            subst hg2
            have hLL : (lcJ d n i (j)).length ≤ 1000000 := by
              unfold lcJ
              rw [List.length_append, lcK_len, lcR_len]
              have := Nat.mul_le_mul (show i ≤ 60 by omega) hlen
              omega
            cases hgd : gdT X
            · have hbad := lc_bad q q2 (by rw [← unhide HE]; exact hgd)
              have HB := hide hbad
              clear hbad
              go_wp2_with (first | (go_at_call 90; refine (lm_rw (x, y, z) X n r d _ hF n0 n1 hr (unhide hX)).mono ?_; rintro e w4 ⟨rfl, hb4⟩) | (go_at_call 89; refine (fg_rw X _).mono ?_; rintro e w5 ⟨rfl, hb5⟩))
              go_ret2
              exact ⟨_, _, by rw [(unhide HB).1, (unhide HB).2]; rfl, .inl (by rw [(unhide HB).2]), by (repeat' first | with_reducible (first | exact Below.refl _ _ | assumption | refine gr_alloc ?_ _ | refine below_drewN ?_ _ | refine below_drew ?_ | refine gr_call ?_ (by assumption) | refine Below.setCell ?_ ?_ _) | go_size | omega | (simp; omega))⟩
            · have hnext := lcG_next (unhide hG2) (by rw [← unhide HE]; exact hgd)
              have HN := hide hnext
              clear hnext
              have el : (lcJ d n i (j + 1)) = (lcJ d n i (j)) ++ [(X.1, X.2.1, X.2.2)] := by rw [lcJ_succ, ← unhide HE]
              have EL := hide el
              clear el
              go_wp2_with fail
              refine (lm_rw (x, y, z) X n r d _ hF n0 n1 hr (unhide hX)).mono ?_
              rintro en w4 ⟨rfl, hb4⟩
              have hs4 := hb4.size
              go_wp2_with fail
              refine (fg_rw X _).mono ?_
              rintro en w5 ⟨rfl, hb5⟩
              have hcs9 := cells_calls hb5 [⟨w4.heap.size, 0, none⟩, ⟨w4.heap.size, 1, none⟩, ⟨w4.heap.size, 2, none⟩] [.int .i64 (X.1), .int .i64 (X.2.1), .int .i64 (X.2.2)] (by refine ⟨?_, ?_, ?_, trivial⟩ <;> (first | with_reducible assumption | ((repeat' first | with_reducible (first | assumption | refine cell_al _ ?_ | refine cell_eq _ ?_ | refine cell_ne _ ?_ ?_ | refine ex_set _ ?_ | refine ex_al _ ?_ | exact ⟨_, by assumption⟩) | (intro hh; injection hh with hh1 hh2; omega)); done) | go_simp))
              have hzs9 := blocks_calls hb5 [w4.heap.size] (by refine ⟨?_, trivial⟩ <;> first | with_reducible assumption | omega | (simp; omega) | (simp; done))
              try clear c00 c01 c02
              obtain ⟨c00, c01, c02, -⟩ := hcs9
              obtain ⟨z0, -⟩ := hzs9
              have hs5 := hb5.size
              have o50 := z0
              have hb6 : Below wl2.heap.size wl2 w5 := by (repeat' first | with_reducible (first | exact Below.refl _ _ | assumption | refine gr_alloc ?_ _ | refine below_drewN ?_ _ | refine below_drew ?_ | refine gr_call ?_ (by assumption) | refine Below.setCell ?_ ?_ _) | go_size | omega | (simp; omega))
              have hz6 := hb6.size
              have hl6 := (hl2.below hb6)
              have hf6 := hF2.below hb6 hz2
              go_wp2_with (at_builtin; refine app_FL _ rfl (.tmp 43) (.tmp 45) rfl wA.heap.size (.slice a2 (lcJ d n i (j)).length c2) (lcJ d n i (j)) X.1 X.2.1 X.2.2 w5.heap.size rfl rfl (hl6.alloc _) (by go_simp) (by go_simp) (by go_simp) (by omega) (by simp; omega) ?_; intro g2 cap2 w7 hown hgrow hat hlt)
              go_roundw
              case rel =>
                have hl8 : FL w7 wA.heap.size (.slice (some ⟨g2, 0, none⟩) (lcJ d n i (j + 1)).length cap2) (lcJ d n i (j + 1)) := by
                  rw [unhide EL, List.length_append]; exact hown
                refine ⟨j + 1, some ⟨g2, 0, none⟩, cap2, by rw [unhide EL, List.length_append]; rfl, by go_num, by omega, hl8, ?_, ?_, ?_, ?_, HN⟩
                · exact (hb2.trans (hb6.mono (by omega))).alloc (by omega) _|>.grown hgrow (by simp; omega) (fun k hk => (hl2.lt k hk).1)
                · exact hf6.below (below_alloc_p w5 _) (by omega)|>.far hgrow hK2 (by simp; omega)
                · have := hgrow.size; simp at this; omega
                · intro k hk
                  have hkg : k = g2 := by cases hk; rfl
                  subst hkg
                  rcases hat with h | h
                  · exact hK2 _ h
                  · right; rw [h]; simp; omega
              case measure => simp [intOf]; omega
          · obtain rfl : j = (rfL d).length := by omega
            go_wp2
            go_roundw
            case rel =>
              refine ⟨i + 1, a2, c2, rfl, by go_num, by omega, hl2, hb2, ?_⟩
              exact hide (lcG_row (unhide hG2))
            case measure => simp [intOf]; omega
      · obtain rfl : i = (rtL d n).length := by omega
        obtain ⟨e1, e2⟩ := lc_good k0 (unhide hG)
        have HE := hide (And.intro e1 e2)
        clear e1 e2
        go_wp2
        go_ret2
        have hlw := hl.at.2
        exact ⟨a, c, by rw [(unhide HE).1, (unhide HE).2]; rfl, by rw [(unhide HE).2]; exact FormsAt.weak2 hlw hbA.size, by (repeat' first | with_reducible (first | exact Below.refl _ _ | assumption | refine gr_alloc ?_ _ | refine below_drewN ?_ _ | refine below_drew ?_ | refine gr_call ?_ (by assumption) | refine Below.setCell ?_ ?_ _) | go_size | omega | (simp; omega))⟩
end Go.Proofs.Ytninagdclibmnaa
