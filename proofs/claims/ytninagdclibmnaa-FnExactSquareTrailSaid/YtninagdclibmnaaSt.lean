/-
  SquareTrail on both sides.
-/
import Derived.Test.YtninagdclibmnaaDp
import Derived.Test.YtninagdclibmnaaFormS
namespace Go.Proofs.Ytninagdclibmnaa
open Go.RowKit
set_option linter.unusedVariables false
set_option linter.unusedSimpArgs false
attribute [local go_sem] q2 q3 q4 q5 q6 q7 q8 q9 q10 q11 q12

/-- The first n squares, one behind the other. -/
noncomputable def stL (F : T3) : Nat → List Int
  | 0 => []
  | n + 1 => stL F n ++ [(sqN (rdT F) n).1, (sqN (rdT F) n).2.1, (sqN (rdT F) n).2.2]
theorem stL_len (F : T3) : ∀ n, (stL F n).length = n * 3
  | 0 => rfl
  | n + 1 => by rw [stL, List.length_append, stL_len F n]; simp; omega
theorem stL_at (F : T3) (n : Nat) : (stL F (n + 1)).getD (n * 3) 0 = (sqN (rdT F) n).1 ∧ (stL F (n + 1)).getD (n * 3 + 1) 0 = (sqN (rdT F) n).2.1 ∧ (stL F (n + 1)).getD (n * 3 + 2) 0 = (sqN (rdT F) n).2.2 := by
  have hl := stL_len F n
  simp only [stL, List.getD_eq_getElem?_getD]
  refine ⟨?_, ?_, ?_⟩ <;> rw [List.getElem?_append_right (by omega)] <;> simp [hl]
noncomputable def stN (F : T3) (t : Int) : Nat := if srB F t then t.toNat + 1 else 0
noncomputable def stF (F : T3) (t : Int) (i : Nat) : Int := (stL F (t.toNat + 1)).getD i 0
theorem stN_le (F : T3) (t : Int) : stN F t ≤ 100000000 := by
  unfold stN
  split
  · rename_i h
    unfold srB tmB at h
    rw [Bool.and_eq_true] at h
    have := inB_true h.2
    omega
  · omega
theorem FormL.one {w : World} {lo : Nat} (x y z : Int) (h : lo ≤ w.heap.size) : FormL (w.alloc (.cells #[.int .i64 x, .int .i64 y, .int .i64 z] 26)) lo (.slice (some ⟨w.heap.size, 0, none⟩) 1 1) 1 [x, y, z] :=
  World.ownsRow_lit (size := 3) w #[.int .i64 x, .int .i64 y, .int .i64 z] 1 h (by decide) rfl
theorem st_next {D : Int} {F : T3} (h : InD D F) (p : Nat) : sqN (rdT F) (p + 1) = sqN (rdT (sqN (rdT F) p)) (1 : Int).toNat := by
  have hr : RcT (sqN (rdT F) p) := sqN_rc p h.rd (rd_rc h.cl)
  rw [rd_same hr, sqN_succ]
  rfl

set_option maxRecDepth 100000 in
set_option maxHeartbeats 1500000 in
theorem implSquareTrail (F : T3) (t : Int) (w : World) (i0 : I64T F) : Calls Try.prog 25 #[frm F, .int .i64 t] w (RetForms w (stN F t) (stF F t) (srB F t)) := by
  cases k0 : clB F
  · have HN : stN F t = 0 ∧ srB F t = false := by simp [stN, srB, k0]
    rw [HN.1, HN.2]
    clear HN
    go_enter Try.func25, Try.ntmps25
    go_wp2_with fail
    refine (isClass_p F _ i0).mono ?_
    rintro en w1 ⟨rfl, hb1⟩
    have hcs9 := cells_calls hb1 [⟨w.heap.size, 0, none⟩, ⟨w.heap.size, 1, none⟩, ⟨w.heap.size, 2, none⟩] [.int .i64 (F.1), .int .i64 (F.2.1), .int .i64 (F.2.2)] (by refine ⟨?_, ?_, ?_, trivial⟩ <;> (first | with_reducible assumption | ((repeat' first | with_reducible (first | assumption | refine cell_al _ ?_ | refine cell_eq _ ?_ | refine cell_ne _ ?_ ?_ | refine ex_set _ ?_ | refine ex_al _ ?_ | exact ⟨_, by assumption⟩) | (intro hh; injection hh with hh1 hh2; omega)); done) | go_simp))
    have hzs9 := blocks_calls hb1 [w.heap.size] (by refine ⟨?_, trivial⟩ <;> first | with_reducible assumption | omega | (simp; omega) | (simp; done))
    try clear c00 c01 c02
    obtain ⟨c00, c01, c02, -⟩ := hcs9
    obtain ⟨z0, -⟩ := hzs9
    have hs1 := hb1.size
    have o10 := z0
    rw [k0]
    go_wp2
    go_ret2
    exact ⟨_, _, rfl, .inl rfl, by (repeat' first | with_reducible (first | exact Below.refl _ _ | assumption | refine gr_alloc ?_ _ | refine below_drewN ?_ _ | refine below_drew ?_ | refine gr_call ?_ (by assumption) | refine Below.setCell ?_ ?_ _) | go_size | omega | (simp; omega))⟩
  · cases k1 : tmB t
    · have HN : stN F t = 0 ∧ srB F t = false := by simp [stN, srB, k0, k1]
      rw [HN.1, HN.2]
      clear HN
      go_enter Try.func25, Try.ntmps25
      go_wp2_with fail
      refine (isClass_p F _ i0).mono ?_
      rintro en w1 ⟨rfl, hb1⟩
      have hcs9 := cells_calls hb1 [⟨w.heap.size, 0, none⟩, ⟨w.heap.size, 1, none⟩, ⟨w.heap.size, 2, none⟩] [.int .i64 (F.1), .int .i64 (F.2.1), .int .i64 (F.2.2)] (by refine ⟨?_, ?_, ?_, trivial⟩ <;> (first | with_reducible assumption | ((repeat' first | with_reducible (first | assumption | refine cell_al _ ?_ | refine cell_eq _ ?_ | refine cell_ne _ ?_ ?_ | refine ex_set _ ?_ | refine ex_al _ ?_ | exact ⟨_, by assumption⟩) | (intro hh; injection hh with hh1 hh2; omega)); done) | go_simp))
      have hzs9 := blocks_calls hb1 [w.heap.size] (by refine ⟨?_, trivial⟩ <;> first | with_reducible assumption | omega | (simp; omega) | (simp; done))
      try clear c00 c01 c02
      obtain ⟨c00, c01, c02, -⟩ := hcs9
      obtain ⟨z0, -⟩ := hzs9
      have hs1 := hb1.size
      have o10 := z0
      rw [k0]
      go_wp2_with (go_at_call 54; refine (isTime_b _ _).mono ?_; rintro e w' ⟨rfl, rfl⟩)
      go_ret2
      exact ⟨_, _, rfl, .inl rfl, by (repeat' first | with_reducible (first | exact Below.refl _ _ | assumption | refine gr_alloc ?_ _ | refine below_drewN ?_ _ | refine below_drew ?_ | refine gr_call ?_ (by assumption) | refine Below.setCell ?_ ?_ _) | go_size | omega | (simp; omega))⟩
    · have HN : stN F t = t.toNat + 1 ∧ srB F t = true := by simp [stN, srB, k0, k1]
      have ht := inB_true k1
      have h0 := (frm_of k0).i
      rw [HN.1, HN.2]
      clear HN
      obtain ⟨tn, rfl⟩ := Int.eq_ofNat_of_zero_le (show 0 ≤ t by omega)
      have hF : stF F (tn : Int) = fun i => (stL F (tn + 1)).getD i 0 := rfl
      rw [hF]
      clear hF
      have htn : (tn : Int).toNat = tn := rfl
      rw [htn]
      clear htn
      go_enter Try.func25, Try.ntmps25
      go_wp2_with fail
      refine (isClass_p F _ i0).mono ?_
      rintro en w1 ⟨rfl, hb1⟩
      have hcs9 := cells_calls hb1 [⟨w.heap.size, 0, none⟩, ⟨w.heap.size, 1, none⟩, ⟨w.heap.size, 2, none⟩] [.int .i64 (F.1), .int .i64 (F.2.1), .int .i64 (F.2.2)] (by refine ⟨?_, ?_, ?_, trivial⟩ <;> (first | with_reducible assumption | ((repeat' first | with_reducible (first | assumption | refine cell_al _ ?_ | refine cell_eq _ ?_ | refine cell_ne _ ?_ ?_ | refine ex_set _ ?_ | refine ex_al _ ?_ | exact ⟨_, by assumption⟩) | (intro hh; injection hh with hh1 hh2; omega)); done) | go_simp))
      have hzs9 := blocks_calls hb1 [w.heap.size] (by refine ⟨?_, trivial⟩ <;> first | with_reducible assumption | omega | (simp; omega) | (simp; done))
      try clear c00 c01 c02
      obtain ⟨c00, c01, c02, -⟩ := hcs9
      obtain ⟨z0, -⟩ := hzs9
      have hs1 := hb1.size
      have o10 := z0
      rw [k0]
      go_wp2_with (go_at_call 54; refine (isTime_b _ _).mono ?_; rintro e w' ⟨rfl, rfl⟩)
      refine (reduced_D F _ h0).mono ?_
      rintro en w2 ⟨rfl, hb2⟩
      have hcs9 := cells_calls hb2 [⟨w.heap.size, 0, none⟩, ⟨w.heap.size, 1, none⟩, ⟨w.heap.size, 2, none⟩] [.int .i64 (F.1), .int .i64 (F.2.1), .int .i64 (F.2.2)] (by refine ⟨?_, ?_, ?_, trivial⟩ <;> (first | with_reducible assumption | ((repeat' first | with_reducible (first | assumption | refine cell_al _ ?_ | refine cell_eq _ ?_ | refine cell_ne _ ?_ ?_ | refine ex_set _ ?_ | refine ex_al _ ?_ | exact ⟨_, by assumption⟩) | (intro hh; injection hh with hh1 hh2; omega)); done) | go_simp))
      have hzs9 := blocks_calls hb2 [w.heap.size] (by refine ⟨?_, trivial⟩ <;> first | with_reducible assumption | omega | (simp; omega) | (simp; done))
      try clear c00 c01 c02
      obtain ⟨c00, c01, c02, -⟩ := hcs9
      obtain ⟨z0, -⟩ := hzs9
      have hs2 := hb2.size
      have o20 := z0
      go_wp2
      go_loopw [1, 6] (fun s1 s6 wr => ∃ (n : Nat) (a : Option Addr) (c : Nat), s1 = .int .i64 ((tn : Int) + 1 - n) ∧ s6 = .slice a n c ∧ 1 ≤ n ∧ n ≤ tn + 1 ∧ FormL wr w.heap.size (.slice a n c) n (stL F n) ∧ Below w.heap.size w wr) (fun s1 s6 _ => (intOf s1).toNat)
      case atStart =>
        refine ⟨1, _, _, by first | rfl | (congr 1; omega), rfl, by omega, by omega, ?_, ?_⟩
        · exact FormL.one (rdT F).1 (rdT F).2.1 (rdT F).2.2 (by first | omega | (simp; omega))
        · (repeat' first | with_reducible (first | exact Below.refl _ _ | assumption | refine gr_alloc ?_ _ | refine below_drewN ?_ _ | refine below_drew ?_ | refine gr_call ?_ (by assumption) | refine Below.setCell ?_ ?_ _) | go_size | omega | (simp; omega))
      case round =>
        clear c00 c01 c02 hb1 hb2
        obtain ⟨n, a, c, rfl, rfl, hn1, hn2, hl, hb⟩ := hrel
        obtain ⟨wl, rfl⟩ : ∃ wl : World, wl = wr := ⟨_, rfl⟩
        have hz := hb.size
        by_cases q : n = tn + 1
        · subst q
          go_wp2
          go_ret2
          exact ⟨a, c, rfl, hl.at.2.keep (fun _ _ _ => rfl), hb⟩
        · obtain ⟨p, rfl⟩ : ∃ p, n = p + 1 := ⟨n - 1, by omega⟩
          have hpt : (p : Int) + 1 ≤ (tn : Int) := by omega
          have hX : InD (dT F) (sqN (rdT F) p) := sqN_in p h0.rd
          obtain ⟨e0, e1, e2⟩ := stL_at F p
          rcases hl.at.2 with hx | ⟨g, cap, G, rfl, hg1, hg2, hcap, hr, hG⟩
          · cases hx
          have d0 := hr.cell (i := p * 3) (by omega)
          have d1 := hr.cell (i := p * 3 + 1) (by omega)
          have d2 := hr.cell (i := p * 3 + 2) (by omega)
          rw [hG _ (by omega)] at d0
          change _ = some (Value.int .i64 ((stL F (p + 1)).getD (p * 3) 0)) at d0
          rw [e0] at d0
          rw [hG _ (by omega)] at d1
          change _ = some (Value.int .i64 ((stL F (p + 1)).getD (p * 3 + 1) 0)) at d1
          rw [e1] at d1
          rw [hG _ (by omega)] at d2
          change _ = some (Value.int .i64 ((stL F (p + 1)).getD (p * 3 + 2) 0)) at d2
          rw [e2] at d2
          clear e0 e1 e2
          have HG := hide hG
          clear hG
          go_wp2_with fail
          refine (sq_rwi (sqN (rdT F) p) (sqN (rdT F) (p + 1)) 1 _ hX (by omega) (by omega) (st_next h0 p)).mono ?_
          rintro en w2 ⟨rfl, hb3⟩
          have hbw : Below wl.heap.size wl w2 := by (repeat' first | with_reducible (first | exact Below.refl _ _ | assumption | refine gr_alloc ?_ _ | refine below_drewN ?_ _ | refine below_drew ?_ | refine gr_call ?_ (by assumption) | refine Below.setCell ?_ ?_ _) | go_size | omega | (simp; omega))
          have hl2 := hl.below hbw
          have hz2 := hbw.size
          have hb2 : Below w.heap.size w w2 := hb.trans (hbw.mono hz)
          have hz3 : w.heap.size ≤ w2.heap.size := Nat.le_trans hz hz2
          go_wp2_with (at_builtin; refine app_Form _ rfl (.tmp 23) (.tmp 31) rfl w.heap.size (.slice (some ⟨g, 0, none⟩) (p + 1) c) (p + 1) (stL F (p + 1)) (sqN (rdT F) (p + 1)).1 (sqN (rdT F) (p + 1)).2.1 (sqN (rdT F) (p + 1)).2.2 w2.heap.size rfl rfl (hl2.alloc _) (by simp) (by simp) (by simp) (by omega) (by simp; omega) ?_; intro g2 cap2 w3 hown hgrow hat hlt)
          go_roundw
          case rel =>
            refine ⟨p + 1 + 1, some ⟨g2, 0, none⟩, cap2, by first | rfl | (congr 1; omega), rfl, by omega, by omega, hown, (hb2.alloc hz3 _).grown hgrow (by simp; omega) (fun k hk => (hl2.lt k hk).1)⟩
          case measure => (simp [intOf] <;> omega)

def sliceLen : Value → Nat
  | .slice _ n _ => n
  | _ => 0

set_option maxRecDepth 100000 in
set_option maxHeartbeats 1500000 in
theorem specSquareTrail (F : T3) (t : Int) (w : World)  : Calls Try.prog 24 #[frm F, .int .i64 t] w (RetForms w (stN F t) (stF F t) (srB F t)) := by
  cases k0 : clB F
  · have HN : stN F t = 0 ∧ srB F t = false := by simp [stN, srB, k0]
    rw [HN.1, HN.2]
    clear HN
    go_enter Try.func24, Try.ntmps24
    go_wp2_with fail
    refine (coGood_p F _).mono ?_
    rintro en w1 ⟨rfl, hb1⟩
    have hcs9 := cells_calls hb1 [⟨w.heap.size, 0, none⟩, ⟨w.heap.size, 1, none⟩, ⟨w.heap.size, 2, none⟩] [.int .i64 (F.1), .int .i64 (F.2.1), .int .i64 (F.2.2)] (by refine ⟨?_, ?_, ?_, trivial⟩ <;> (first | with_reducible assumption | ((repeat' first | with_reducible (first | assumption | refine cell_al _ ?_ | refine cell_eq _ ?_ | refine cell_ne _ ?_ ?_ | refine ex_set _ ?_ | refine ex_al _ ?_ | exact ⟨_, by assumption⟩) | (intro hh; injection hh with hh1 hh2; omega)); done) | go_simp))
    have hzs9 := blocks_calls hb1 [w.heap.size] (by refine ⟨?_, trivial⟩ <;> first | with_reducible assumption | omega | (simp; omega) | (simp; done))
    try clear c00 c01 c02
    obtain ⟨c00, c01, c02, -⟩ := hcs9
    obtain ⟨z0, -⟩ := hzs9
    have hs1 := hb1.size
    have o10 := z0
    rw [k0]
    go_wp2
    go_ret2
    exact ⟨_, _, rfl, .inl rfl, by (repeat' first | with_reducible (first | exact Below.refl _ _ | assumption | refine gr_alloc ?_ _ | refine below_drewN ?_ _ | refine below_drew ?_ | refine gr_call ?_ (by assumption) | refine Below.setCell ?_ ?_ _) | go_size | omega | (simp; omega))⟩
  · cases k1 : tmB t
    · have HN : stN F t = 0 ∧ srB F t = false := by simp [stN, srB, k0, k1]
      rw [HN.1, HN.2]
      clear HN
      go_enter Try.func24, Try.ntmps24
      go_wp2_with fail
      refine (coGood_p F _).mono ?_
      rintro en w1 ⟨rfl, hb1⟩
      have hcs9 := cells_calls hb1 [⟨w.heap.size, 0, none⟩, ⟨w.heap.size, 1, none⟩, ⟨w.heap.size, 2, none⟩] [.int .i64 (F.1), .int .i64 (F.2.1), .int .i64 (F.2.2)] (by refine ⟨?_, ?_, ?_, trivial⟩ <;> (first | with_reducible assumption | ((repeat' first | with_reducible (first | assumption | refine cell_al _ ?_ | refine cell_eq _ ?_ | refine cell_ne _ ?_ ?_ | refine ex_set _ ?_ | refine ex_al _ ?_ | exact ⟨_, by assumption⟩) | (intro hh; injection hh with hh1 hh2; omega)); done) | go_simp))
      have hzs9 := blocks_calls hb1 [w.heap.size] (by refine ⟨?_, trivial⟩ <;> first | with_reducible assumption | omega | (simp; omega) | (simp; done))
      try clear c00 c01 c02
      obtain ⟨c00, c01, c02, -⟩ := hcs9
      obtain ⟨z0, -⟩ := hzs9
      have hs1 := hb1.size
      have o10 := z0
      rw [k0]
      go_wp2_with (go_at_call 51; refine (dlTime_b _ _).mono ?_; rintro e w' ⟨rfl, rfl⟩)
      go_ret2
      exact ⟨_, _, rfl, .inl rfl, by (repeat' first | with_reducible (first | exact Below.refl _ _ | assumption | refine gr_alloc ?_ _ | refine below_drewN ?_ _ | refine below_drew ?_ | refine gr_call ?_ (by assumption) | refine Below.setCell ?_ ?_ _) | go_size | omega | (simp; omega))⟩
    · have HN : stN F t = t.toNat + 1 ∧ srB F t = true := by simp [stN, srB, k0, k1]
      have ht := inB_true k1
      have h0 := (frm_of k0).i
      rw [HN.1, HN.2]
      clear HN
      obtain ⟨tn, rfl⟩ := Int.eq_ofNat_of_zero_le (show 0 ≤ t by omega)
      have hF : stF F (tn : Int) = fun i => (stL F (tn + 1)).getD i 0 := rfl
      rw [hF]
      clear hF
      have htn : (tn : Int).toNat = tn := rfl
      rw [htn]
      clear htn
      go_enter Try.func24, Try.ntmps24
      go_wp2_with fail
      refine (coGood_p F _).mono ?_
      rintro en w1 ⟨rfl, hb1⟩
      have hcs9 := cells_calls hb1 [⟨w.heap.size, 0, none⟩, ⟨w.heap.size, 1, none⟩, ⟨w.heap.size, 2, none⟩] [.int .i64 (F.1), .int .i64 (F.2.1), .int .i64 (F.2.2)] (by refine ⟨?_, ?_, ?_, trivial⟩ <;> (first | with_reducible assumption | ((repeat' first | with_reducible (first | assumption | refine cell_al _ ?_ | refine cell_eq _ ?_ | refine cell_ne _ ?_ ?_ | refine ex_set _ ?_ | refine ex_al _ ?_ | exact ⟨_, by assumption⟩) | (intro hh; injection hh with hh1 hh2; omega)); done) | go_simp))
      have hzs9 := blocks_calls hb1 [w.heap.size] (by refine ⟨?_, trivial⟩ <;> first | with_reducible assumption | omega | (simp; omega) | (simp; done))
      try clear c00 c01 c02
      obtain ⟨c00, c01, c02, -⟩ := hcs9
      obtain ⟨z0, -⟩ := hzs9
      have hs1 := hb1.size
      have o10 := z0
      rw [k0]
      go_wp2_with (go_at_call 51; refine (dlTime_b _ _).mono ?_; rintro e w' ⟨rfl, rfl⟩)
      refine (reClass_D F _ h0).mono ?_
      rintro en w2 ⟨rfl, hb2⟩
      have hcs9 := cells_calls hb2 [⟨w.heap.size, 0, none⟩, ⟨w.heap.size, 1, none⟩, ⟨w.heap.size, 2, none⟩] [.int .i64 (F.1), .int .i64 (F.2.1), .int .i64 (F.2.2)] (by refine ⟨?_, ?_, ?_, trivial⟩ <;> (first | with_reducible assumption | ((repeat' first | with_reducible (first | assumption | refine cell_al _ ?_ | refine cell_eq _ ?_ | refine cell_ne _ ?_ ?_ | refine ex_set _ ?_ | refine ex_al _ ?_ | exact ⟨_, by assumption⟩) | (intro hh; injection hh with hh1 hh2; omega)); done) | go_simp))
      have hzs9 := blocks_calls hb2 [w.heap.size] (by refine ⟨?_, trivial⟩ <;> first | with_reducible assumption | omega | (simp; omega) | (simp; done))
      try clear c00 c01 c02
      obtain ⟨c00, c01, c02, -⟩ := hcs9
      obtain ⟨z0, -⟩ := hzs9
      have hs2 := hb2.size
      have o20 := z0
      go_wp2
      go_loopw [6] (fun s6 wr => ∃ (n : Nat) (a : Option Addr) (c : Nat), s6 = .slice a n c ∧ 1 ≤ n ∧ n ≤ tn + 1 ∧ FormL wr w.heap.size (.slice a n c) n (stL F n) ∧ Below w.heap.size w wr) (fun s6 _ => tn + 1 - sliceLen s6)
      case atStart =>
        refine ⟨1, _, _, rfl, by omega, by omega, ?_, ?_⟩
        · exact FormL.one (rdT F).1 (rdT F).2.1 (rdT F).2.2 (by first | omega | (simp; omega))
        · (repeat' first | with_reducible (first | exact Below.refl _ _ | assumption | refine gr_alloc ?_ _ | refine below_drewN ?_ _ | refine below_drew ?_ | refine gr_call ?_ (by assumption) | refine Below.setCell ?_ ?_ _) | go_size | omega | (simp; omega))
      case round =>
        clear c00 c01 c02 hb1 hb2
        obtain ⟨n, a, c, rfl, hn1, hn2, hl, hb⟩ := hrel
        obtain ⟨wl, rfl⟩ : ∃ wl : World, wl = wr := ⟨_, rfl⟩
        have hz := hb.size
        by_cases q : n = tn + 1
        · subst q
          go_wp2
          go_ret2
          exact ⟨a, c, rfl, hl.at.2.keep (fun _ _ _ => rfl), hb⟩
        · obtain ⟨p, rfl⟩ : ∃ p, n = p + 1 := ⟨n - 1, by omega⟩
          have hpt : (p : Int) + 1 ≤ (tn : Int) := by omega
          have hX : InD (dT F) (sqN (rdT F) p) := sqN_in p h0.rd
          obtain ⟨e0, e1, e2⟩ := stL_at F p
          rcases hl.at.2 with hx | ⟨g, cap, G, rfl, hg1, hg2, hcap, hr, hG⟩
          · cases hx
          have d0 := hr.cell (i := p * 3) (by omega)
          have d1 := hr.cell (i := p * 3 + 1) (by omega)
          have d2 := hr.cell (i := p * 3 + 2) (by omega)
          rw [hG _ (by omega)] at d0
          change _ = some (Value.int .i64 ((stL F (p + 1)).getD (p * 3) 0)) at d0
          rw [e0] at d0
          rw [hG _ (by omega)] at d1
          change _ = some (Value.int .i64 ((stL F (p + 1)).getD (p * 3 + 1) 0)) at d1
          rw [e1] at d1
          rw [hG _ (by omega)] at d2
          change _ = some (Value.int .i64 ((stL F (p + 1)).getD (p * 3 + 2) 0)) at d2
          rw [e2] at d2
          clear e0 e1 e2
          have HG := hide hG
          clear hG
          go_wp2_with fail
          refine (coMul_D (sqN (rdT F) p) (sqN (rdT F) p) _ hX hX).mono ?_
          rintro en w2 ⟨rfl, hb3⟩
          rw [← sqN_succ]
          have hbw : Below wl.heap.size wl w2 := by (repeat' first | with_reducible (first | exact Below.refl _ _ | assumption | refine gr_alloc ?_ _ | refine below_drewN ?_ _ | refine below_drew ?_ | refine gr_call ?_ (by assumption) | refine Below.setCell ?_ ?_ _) | go_size | omega | (simp; omega))
          have hl2 := hl.below hbw
          have hz2 := hbw.size
          have hb2 : Below w.heap.size w w2 := hb.trans (hbw.mono hz)
          have hz3 : w.heap.size ≤ w2.heap.size := Nat.le_trans hz hz2
          go_wp2_with (at_builtin; refine app_Form _ rfl (.tmp 29) (.tmp 33) rfl w.heap.size (.slice (some ⟨g, 0, none⟩) (p + 1) c) (p + 1) (stL F (p + 1)) (sqN (rdT F) (p + 1)).1 (sqN (rdT F) (p + 1)).2.1 (sqN (rdT F) (p + 1)).2.2 w2.heap.size rfl rfl (hl2.alloc _) (by simp) (by simp) (by simp) (by omega) (by simp; omega) ?_; intro g2 cap2 w3 hown hgrow hat hlt)
          go_roundw
          case rel =>
            refine ⟨p + 1 + 1, some ⟨g2, 0, none⟩, cap2, rfl, by omega, by omega, hown, (hb2.alloc hz3 _).grown hgrow (by simp; omega) (fun k hk => (hl2.lt k hk).1)⟩
          case measure => (simp [sliceLen] <;> omega)
end Go.Proofs.Ytninagdclibmnaa
