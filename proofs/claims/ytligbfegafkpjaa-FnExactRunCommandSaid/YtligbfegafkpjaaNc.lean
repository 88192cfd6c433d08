/-
  NamesOfClass on both sides.
-/
import Derived.Test.YtligbfegafkpjaaStrL
import Derived.Test.YtligbfegafkpjaaRd
import Derived.Test.YtligbfegafkpjaaCat
namespace Go.Proofs.Ytligbfegafkpjaa
open Go.RowKit
set_option linter.unusedVariables false
set_option linter.unusedSimpArgs false
attribute [local go_sem] q2 q3 q4 q5 q6 q7 q8 q9 q10 q11 q12

theorem okF_of {a b c : Int} (h : classB a b c = true) : OkF a b c := by
  obtain ⟨ha, hb, hc⟩ := form_true (class_form h)
  have hd := class_disc h
  have h2 := shown_def (class_shown h)
  unfold defB at h2; simp at h2
  have hbb : 0 ≤ b * b := by
    by_cases q : 0 ≤ b
    · exact Int.mul_nonneg q q
    · exact Int.mul_nonneg_of_nonpos_of_nonpos (by omega) (by omega)
  have e : 4 * a * c = 4 * (a * c) := Int.mul_assoc _ _ _
  have hac : 0 < a * c := by unfold discI at hd; omega
  have c0 : 0 < c := by
    by_cases q : 0 < c
    · exact q
    · have := Int.mul_nonneg_of_nonpos_of_nonpos (a := -a) (b := c) (by omega) (by omega)
      rw [Int.neg_mul] at this; omega
  exact ⟨h2.2.2, by omega, by omega, by omega, c0, by omega, hd.1, hd.2⟩
abbrev T3n := Int × Int × Int
noncomputable def rfN (X : T3n) : T3n := (rfA X.1 X.2.1 X.2.2, rfB X.1 X.2.1 X.2.2, rfC X.1 X.2.1 X.2.2)
def eqN (X Y : T3n) : Bool := decide (X.1 = Y.1) && (decide (X.2.1 = Y.2.1) && decide (X.2.2 = Y.2.2))
theorem eqN_res (X Y : T3n) (w : World) : (if X.1 = Y.1 then if X.2.1 = Y.2.1 then if X.2.2 = Y.2.2 then Result.ok (Next.value (Value.bool true)) w else Result.ok (Next.value (Value.bool false)) w else Result.ok (Next.value (Value.bool false)) w else Result.ok (Next.value (Value.bool false)) w) = Result.ok (Next.value (Value.bool (eqN X Y))) w := by
  unfold eqN
  by_cases h1 : X.1 = Y.1
  · by_cases h2 : X.2.1 = Y.2.1
    · by_cases h3 : X.2.2 = Y.2.2
      · simp [h1, h2, h3]
      · simp [h1, h2, h3]
    · simp [h1, h2]
  · simp [h1]
theorem rdN_i (x y z : Int) (R : T3n) (w : World) (h : OkF x y z) (hR : R = rfN (x, y, z)) : Calls Try.prog 47 #[.agg #[.int .i64 x, .int .i64 y, .int .i64 z]] w fun e w' => e = .returned (.agg #[.int .i64 R.1, .int .i64 R.2.1, .int .i64 R.2.2]) ∧ Below w.heap.size w w' := by
  subst hR; exact reduced_a x y z w h
theorem rdN_s (x y z : Int) (R : T3n) (w : World) (h : OkF x y z) (hR : R = rfN (x, y, z)) : Calls Try.prog 45 #[.agg #[.int .i64 x, .int .i64 y, .int .i64 z]] w fun e w' => e = .returned (.agg #[.int .i64 R.1, .int .i64 R.2.1, .int .i64 R.2.2]) ∧ Below w.heap.size w w' := by
  subst hR; exact reClass_a x y z w h
/-- The names of the first k entries whose reduced form is R. -/
noncomputable def ncN (E : Nat → Ent) (Q : T3n) : Nat → List ByteArray
  | 0 => []
  | k + 1 => if eqN (rfN ((E k).f.1, (E k).f.2.1, (E k).f.2.2)) Q then ncN E Q k ++ [(E k).n] else ncN E Q k
theorem ncN_yes {E : Nat → Ent} {Q : T3n} {k : Nat} (h : eqN (rfN ((E k).f.1, (E k).f.2.1, (E k).f.2.2)) Q = true) : ncN E Q (k + 1) = ncN E Q k ++ [(E k).n] := by rw [ncN, if_pos h]
theorem ncN_no {E : Nat → Ent} {Q : T3n} {k : Nat} (h : eqN (rfN ((E k).f.1, (E k).f.2.1, (E k).f.2.2)) Q = false) : ncN E Q (k + 1) = ncN E Q k := by rw [ncN, if_neg (by rw [h]; simp)]
theorem ncN_len (E : Nat → Ent) (Q : T3n) : ∀ k, (ncN E Q k).length ≤ k
  | 0 => Nat.le_refl _
  | k + 1 => by
    have := ncN_len E Q k
    rw [ncN]
    split
    · rw [List.length_append]; simp only [List.length_cons, List.length_nil]; omega
    · omega
def ncB (E : Nat → Ent) (n : Nat) (X : T3n) : Bool := ctB E n && classB X.1 X.2.1 X.2.2
noncomputable def ncL (E : Nat → Ent) (n : Nat) (X : T3n) : List ByteArray := if ncB E n X then ncN E (rfN X) n else []
theorem ct_class {E : Nat → Ent} {n : Nat} (h : ctB E n = true) : ∀ i, i < n → classB (E i).f.1 (E i).f.2.1 (E i).f.2.2 = true := by
  unfold ctB at h
  rw [Bool.and_eq_true] at h
  have h2 := h.1
  clear h
  intro i hi
  induction n with
  | zero => omega
  | succ n ih =>
    rw [ctG, Bool.and_eq_true] at h2
    by_cases q : i = n
    · subst q
      have := h2.2
      unfold goE at this
      rw [Bool.and_eq_true, Bool.and_eq_true] at this
      exact this.2.1
    · exact ih h2.1 (by omega)
/-- A call that returns a list of texts of its own, and a bool. -/
def RetSL (w : World) (zs : List ByteArray) (ok : Bool) (e : Ending) (w' : World) : Prop :=
  ∃ a c, e = .returned (.tuple #[.slice a zs.length c, .bool ok]) ∧ StrsAt w' w.heap.size w'.heap.size a zs.length (fun i => zs.getD i ⟨#[]⟩) ∧ Below w.heap.size w w'
theorem StrsAt.low {w : World} {lo lo' hi n : Nat} {a : Option Addr} {f : Nat → ByteArray} (h : StrsAt w lo hi a n f) (h1 : lo' ≤ lo) : StrsAt w lo' hi a n f := by
  rcases h with h | ⟨g, cap, F, ha, g1, g2, r⟩
  · exact .inl h
  · exact .inr ⟨g, cap, F, ha, by omega, g2, r⟩

set_option maxRecDepth 100000 in
set_option maxHeartbeats 8000000 in
theorem implNames_a (v : Value) (n : Nat) (E : Nat → Ent) (x y z : Int) (w : World) (h : ArgE w v n E) (hn : n ≤ 2000000) (ho : ∀ i, i < n → EntOk (E i)) (i0 : I64 x) (i1 : I64 y) (i2 : I64 z) :
    Calls Try.prog 24 #[v, .agg #[.int .i64 x, .int .i64 y, .int .i64 z]] w (RetSL w (ncL E n (x, y, z)) (ncB E n (x, y, z))) := by
  have HA0 := hide h
  have HA : Hid (ArgE (w.alloc (.cells #[.int .i64 x, .int .i64 y, .int .i64 z] 37)) v n E) := hide (h.below (below_alloc_self _ _))
  have HO := hide ho
  obtain ⟨a, c, rfl⟩ := h.len
  clear h ho
  cases kc : ctB E n
  · have HB : Hid (ncB E n (x, y, z) = false) := hide (by simp [ncB, kc])
    have HL : Hid (ncL E n (x, y, z) = []) := hide (by unfold ncL; rw [unhide HB]; rfl)
    go_enter Try.func24, Try.ntmps24
    go_wp2_with (first | (go_at_call 42; refine (isCatalogue_a (.slice a n c) n E _ (unhide HA) hn (unhide HO)).mono ?_; rintro e w1 ⟨rfl, hb⟩; obtain ⟨hc, hf⟩ := bcell hb; have hl := lt_keep hb; have hs := hb.size) | (go_at_call 46; refine (isClassForm_a _ _ _ _ (by assumption) (by assumption) (by assumption)).mono ?_; rintro e w2 ⟨rfl, hb2⟩; obtain ⟨hc2, hf2⟩ := bcell hb2; have hl2 := lt_keep hb2; have hs2 := hb2.size))
    go_ret2
    exact ⟨_, _, by rw [unhide HL, unhide HB]; rfl, .inl (by rw [unhide HL]; rfl), byGG⟩
  · cases kf : classB x y z
    · have HB : Hid (ncB E n (x, y, z) = false) := hide (by simp [ncB, kf])
      have HL : Hid (ncL E n (x, y, z) = []) := hide (by unfold ncL; rw [unhide HB]; rfl)
      go_enter Try.func24, Try.ntmps24
      go_wp2_with (first | (go_at_call 42; refine (isCatalogue_a (.slice a n c) n E _ (unhide HA) hn (unhide HO)).mono ?_; rintro e w1 ⟨rfl, hb⟩; obtain ⟨hc, hf⟩ := bcell hb; have hl := lt_keep hb; have hs := hb.size) | (go_at_call 46; refine (isClassForm_a _ _ _ _ (by assumption) (by assumption) (by assumption)).mono ?_; rintro e w2 ⟨rfl, hb2⟩; obtain ⟨hc2, hf2⟩ := bcell hb2; have hl2 := lt_keep hb2; have hs2 := hb2.size))
      go_ret2
      exact ⟨_, _, by rw [unhide HL, unhide HB]; rfl, .inl (by rw [unhide HL]; rfl), byGG⟩
    · have HB : Hid (ncB E n (x, y, z) = true) := hide (by simp [ncB, kf, kc])
      have hOkF := okF_of kf
      have HCE := hide (ct_class kc)
      obtain ⟨Q, hQ⟩ : ∃ Q, Q = rfN (x, y, z) := ⟨_, rfl⟩
      have HL : Hid (ncL E n (x, y, z) = ncN E Q n) := hide (by unfold ncL; rw [unhide HB, hQ]; rfl)
      have HQ := hide hQ
      clear hQ
      go_enter Try.func24, Try.ntmps24
      go_wp2_with fail
      refine (isCatalogue_a (.slice a n c) n E _ (unhide HA) hn (unhide HO)).mono ?_
      rintro e w1 ⟨rfl, hb1⟩
      have hcs9 := cells_calls hb1 [⟨w.heap.size, 0, none⟩, ⟨w.heap.size, 1, none⟩, ⟨w.heap.size, 2, none⟩] [.int .i64 x, .int .i64 y, .int .i64 z] (by refine ⟨?_, ?_, ?_, trivial⟩ <;> exact byCT)
      have hzs9 := blocks_calls hb1 [w.heap.size] (by refine ⟨?_, trivial⟩ <;> first | with_reducible assumption | omega | (simp; omega) | (simp; done))
      try clear c00 c01 c02
      obtain ⟨c00, c01, c02, -⟩ := hcs9
      obtain ⟨z0, -⟩ := hzs9
      have hs1 := hb1.size
      have hB1 : Below w.heap.size w w1 := byGG
      go_wp2_with fail
      refine (isClassForm_a _ _ _ _ (by assumption) (by assumption) (by assumption)).mono ?_
      rintro e w2 ⟨rfl, hb2⟩
      have hcs9 := cells_calls hb2 [⟨w.heap.size, 0, none⟩, ⟨w.heap.size, 1, none⟩, ⟨w.heap.size, 2, none⟩] [.int .i64 x, .int .i64 y, .int .i64 z] (by refine ⟨?_, ?_, ?_, trivial⟩ <;> exact byCT)
      have hzs9 := blocks_calls hb2 [w.heap.size] (by refine ⟨?_, trivial⟩ <;> first | with_reducible assumption | omega | (simp; omega) | (simp; done))
      try clear c00 c01 c02
      obtain ⟨c00, c01, c02, -⟩ := hcs9
      obtain ⟨z0, -⟩ := hzs9
      have hs2 := hb2.size
      have hB2 : Below w.heap.size w w2 := hB1.trans (hb2.mono hB1.size)
      have zb2 : w.heap.size < w2.heap.size := World.block_lt_of_cell? _ _ c00
      clear hb1 hb2 hB1
      go_wp2
      go_loopw [6, 21] (fun ls is wr => ∃ (jx : Nat) (a' : Option Addr) (c' : Nat), jx ≤ n ∧ is = .int .i64 (jx : Int) ∧ ls = .slice a' (ncN E Q jx).length c' ∧ SL wr (w.heap.size + 1) (.slice a' (ncN E Q jx).length c') (ncN E Q jx) ∧ wr.cell? ⟨w.heap.size, 0, none⟩ = some (.int .i64 x) ∧ wr.cell? ⟨w.heap.size, 1, none⟩ = some (.int .i64 y) ∧ wr.cell? ⟨w.heap.size, 2, none⟩ = some (.int .i64 z) ∧ Below w.heap.size w wr) (fun _ is _ => n - (intOf is).toNat)
      case atStart => exact ⟨0, _, _, by omega, rfl, rfl, SL.made _ _ (by omega), byCT, byCT, byCT, (hB2.alloc hB2.size _)⟩
      case round =>
        obtain ⟨jx, a', c', hj, rfl, rfl, hl, c00, c01, c02, hb⟩ := hrel
        obtain ⟨wl, rfl⟩ : ∃ wl : World, wl = wr := ⟨_, rfl⟩
        have hzl := hb.size
        have zb : w.heap.size < wl.heap.size := World.block_lt_of_cell? _ _ c00
        have hL := ncN_len E Q jx
        by_cases q0 : jx < n
        · have hci : (jx : Int) < (n : Int) := by omega
          obtain ⟨b, off, hv, hcs⟩ := ((unhide HA0).below hb).cells (by omega)
          obtain ⟨d0, d1, d2, d3⟩ := hcs jx q0
          have hbl : b < wl.heap.size := World.block_lt_of_cell? _ _ d0
          subst hv
          have hOkE := okF_of (unhide HCE jx q0)
          obtain ⟨R, hR⟩ : ∃ R, R = rfN ((E jx).f.1, (E jx).f.2.1, (E jx).f.2.2) := ⟨_, rfl⟩
          have HY : Hid (eqN R Q = true → ncN E Q (jx + 1) = ncN E Q jx ++ [(E jx).n]) := hide fun hh => ncN_yes (by rw [← hR]; exact hh)
          have HN : Hid (eqN R Q = false → ncN E Q (jx + 1) = ncN E Q jx) := hide fun hh => ncN_no (by rw [← hR]; exact hh)
          obtain ⟨nm, hnm⟩ : ∃ s, (E jx).n = s := ⟨_, rfl⟩
          obtain ⟨p, hp⟩ : ∃ x, (E jx).f.1 = x := ⟨_, rfl⟩
          obtain ⟨q, hq⟩ : ∃ x, (E jx).f.2.1 = x := ⟨_, rfl⟩
          obtain ⟨r, hr⟩ : ∃ x, (E jx).f.2.2 = x := ⟨_, rfl⟩
          rw [hnm] at d0 HY
          rw [hp] at d1 hR hOkE
          rw [hq] at d2 hR hOkE
          rw [hr] at d3 hR hOkE
          have HRE := hide hR
          clear hnm hp hq hr hR hcs
          cases ke : eqN R Q
          · have EL : Hid (ncN E Q (jx + 1) = ncN E Q jx) := hide (unhide HN ke)
            have HK := hide ke
            clear ke
            go_upto_region 7 with fail
            go_cut [30] (fun s30 wx => s30 = .bool (eqN R Q) ∧ wx.cell? ⟨w.heap.size, 0, none⟩ = some (.int .i64 x) ∧ wx.cell? ⟨w.heap.size, 1, none⟩ = some (.int .i64 y) ∧ wx.cell? ⟨w.heap.size, 2, none⟩ = some (.int .i64 z) ∧ wx.cell? ⟨wl.heap.size, 0, none⟩ = some (.string nm) ∧ wx.cell? ⟨wl.heap.size, 1, none⟩ = some (.int .i64 p) ∧ wx.cell? ⟨wl.heap.size, 2, none⟩ = some (.int .i64 q) ∧ wx.cell? ⟨wl.heap.size, 3, none⟩ = some (.int .i64 r) ∧ Below wl.heap.size wl wx)
            case first =>
              have h1 := trivial
              rename_i K2 h2 h3
              refine region_n0 (by kernel_rfl) (fun j => #[25,26,27,28,29,30].getD j 0) (fun j => Kd.ok ((fun j => match j with | 0 => Kd.val (.pointer (some ⟨wl.heap.size, 1, none⟩)) | 1 => Kd.val (.agg #[.int .i64 p, .int .i64 q, .int .i64 r]) | 2 => Kd.val (.agg #[.int .i64 (R.1), .int .i64 (R.2.1), .int .i64 (R.2.2)]) | 3 => Kd.val (.agg #[.int .i64 x, .int .i64 y, .int .i64 z]) | 4 => Kd.val (.agg #[.int .i64 (Q.1), .int .i64 (Q.2.1), .int .i64 (Q.2.2)]) | 5 => Kd.val (.bool (eqN R Q)) | _ => Kd.any : Nat → Kd) j)) (Sy wl (wl.heap.size + 1) [(⟨w.heap.size, 0, none⟩, .int .i64 x), (⟨w.heap.size, 1, none⟩, .int .i64 y), (⟨w.heap.size, 2, none⟩, .int .i64 z), (⟨wl.heap.size, 0, none⟩, .string nm), (⟨wl.heap.size, 1, none⟩, .int .i64 p), (⟨wl.heap.size, 2, none⟩, .int .i64 q), (⟨wl.heap.size, 3, none⟩, .int .i64 r)] []) (by kernel_rfl) (by kernel_rfl) ?_ ?_ ?_ ?_
              · intro j hj
                have hj2 : j < 6 := hj
                have : ∀ j, j < 6 → (#[25,26,27,28,29,30] : Array Nat).getD j 0 < 38 := by decide
                exact this j hj2
              · refine Sy.drew (Sy.mk_of ?_ ?_ ?_ ?_)
                · first | rfl | (simp; done) | (simp; omega)
                · intro c hc
                  simp only [List.mem_cons, List.not_mem_nil, or_false] at hc
                  rcases hc with rfl | rfl | rfl | rfl | rfl | rfl | rfl <;> exact byCT
                · intro p hp; cases hp
                · (repeat' first | with_reducible (first | exact Below.refl _ _ | assumption | refine gr_alloc ?_ _ | refine below_drewN ?_ _ | refine below_drew ?_ | refine gr_call ?_ (by assumption) | refine Below.setCell ?_ ?_ _) | go_size | omega | (simp; omega))
              · clear h1 h2 h3
                refine ⟨?r27x0, ?r27x1, ?r27x2, ?r27x3, ?r27x4, ?r27x5, trivial⟩
                all_goals intro _ aq wx Kq hf hS hdep ev1 ev2 hK
                case' r27x0 =>
                  have F8 : aq.eval (.tmp 8) = .pointer (some ⟨wl.heap.size, 0, none⟩) := hf 8
                case' r27x1 =>
                  have D0 : aq.eval (.tmp 25) = _ := hdep 0
                  have c0 := hS.cells (⟨wl.heap.size, 1, none⟩, .int .i64 p) (by simp)
                  have c1 := hS.cells (⟨wl.heap.size, 2, none⟩, .int .i64 q) (by simp)
                  have c2 := hS.cells (⟨wl.heap.size, 3, none⟩, .int .i64 r) (by simp)
                case' r27x2 =>
                  have D1 : aq.eval (.tmp 26) = _ := hdep 1
                case' r27x3 =>
                  have F3 : aq.eval (.tmp 3) = .pointer (some ⟨w.heap.size, 0, none⟩) := hf 3
                  have c0 := hS.cells (⟨w.heap.size, 0, none⟩, .int .i64 x) (by simp)
                  have c1 := hS.cells (⟨w.heap.size, 1, none⟩, .int .i64 y) (by simp)
                  have c2 := hS.cells (⟨w.heap.size, 2, none⟩, .int .i64 z) (by simp)
                case' r27x4 =>
                  have D3 : aq.eval (.tmp 28) = _ := hdep 3
                case' r27x5 =>
                  have D2 : aq.eval (.tmp 27) = _ := hdep 2
                  have D4 : aq.eval (.tmp 29) = _ := hdep 4
                all_goals (clear hf hdep; unfold Oper.wp; generalize Act.eval _ = ev at *; go_simp)
                case r27x2 =>
                  refine ((rdN_i p q r R _ hOkE (unhide HRE))).mono ?_
                  rintro e w2 ⟨rfl, hb⟩
                  refine hK _ _ (hS.call hb) ?_ (fun j u _ h => Kd.ok_below hb h)
                  rw [if_pos (by rfl)]
                  show (_ : Value) = _
                  first | rfl | (refine congrArg (Value.int .i64) ?_; first | rfl | exact int_in (by omega) | exact quo_in (by omega) (by omega) (by omega) | exact rem_in (by omega) (by omega) | omega | rfl) | (simp; done) | (simp [*]; done)
                case r27x4 =>
                  refine ((rdN_i x y z Q _ hOkF (unhide HQ))).mono ?_
                  rintro e w2 ⟨rfl, hb⟩
                  refine hK _ _ (hS.call hb) ?_ (fun j u _ h => Kd.ok_below hb h)
                  rw [if_pos (by rfl)]
                  show (_ : Value) = _
                  first | rfl | (refine congrArg (Value.int .i64) ?_; first | rfl | exact int_in (by omega) | exact quo_in (by omega) (by omega) (by omega) | exact rem_in (by omega) (by omega) | omega | rfl) | (simp; done) | (simp [*]; done)
                case' r27x5 =>
                  rw [eqN_res, Oper.upon_value]
                all_goals (refine hK _ _ hS ?_ (fun j u _ h => h); rw [if_pos (by rfl)]; show (_ : Value) = _; (first | rfl | (refine congrArg (Value.int .i64) ?_; first | rfl | exact int_in (by omega) | exact quo_in (by omega) (by omega) (by omega) | exact rem_in (by omega) (by omega) | omega | rfl) | (simp; done) | (simp [*]; done)))
              · intro aq wx hd hw hf hS hg
                have G30 : tau aq 30 = .bool (eqN R Q) := hg 5 (by decide)
                have haq : aq = ⟨#[tau aq 0, tau aq 1, tau aq 2, tau aq 3, tau aq 4, tau aq 5, tau aq 6, tau aq 7, tau aq 8, tau aq 9, tau aq 10, tau aq 11, tau aq 12, tau aq 13, tau aq 14, tau aq 15, tau aq 16, tau aq 17, tau aq 18, tau aq 19, tau aq 20, tau aq 21, tau aq 22, tau aq 23, tau aq 24, tau aq 25, tau aq 26, tau aq 27, tau aq 28, tau aq 29, tau aq 30, tau aq 31, tau aq 32, tau aq 33, tau aq 34, tau aq 35, tau aq 36, tau aq 37], []⟩ := by
                  obtain ⟨tq, dq⟩ := aq
                  have h5 := arr_eq (show tq.size = 38 from hw)
                  have h6 : dq = [] := hd
                  subst h6
                  exact congrArg (fun z => Act.mk z []) h5
                show K2 aq wx
                rw [haq, hf 0, hf 1, hf 2, hf 3, hf 4, hf 5, hf 6, hf 7, hf 8, hf 9, hf 10, hf 11, hf 12, hf 13, hf 14, hf 15, hf 16, hf 17, hf 18, hf 19, hf 20, hf 21, hf 22, hf 23, hf 24, hf 31, hf 32, hf 33, hf 34, hf 35, hf 36, hf 37, G30]
                clear haq hf hd hw
                try dsimp only
                refine h3 _ _ ?_
                go_meet
                exact ⟨rfl, hS.cells (⟨w.heap.size, 0, none⟩, .int .i64 x) (by simp), hS.cells (⟨w.heap.size, 1, none⟩, .int .i64 y) (by simp), hS.cells (⟨w.heap.size, 2, none⟩, .int .i64 z) (by simp), hS.cells (⟨wl.heap.size, 0, none⟩, .string nm) (by simp), hS.cells (⟨wl.heap.size, 1, none⟩, .int .i64 p) (by simp), hS.cells (⟨wl.heap.size, 2, none⟩, .int .i64 q) (by simp), hS.cells (⟨wl.heap.size, 3, none⟩, .int .i64 r) (by simp), hS.below⟩
            try clear c00
            try clear c01
            try clear c02
            try clear c10
            try clear c11
            try clear c12
            try clear c13
            obtain ⟨rfl, c00, c01, c02, c10, c11, c12, c13, hb0⟩ := hcut
            have z0 := World.block_lt_of_cell? _ _ c00
            have z1 := World.block_lt_of_cell? _ _ c10
            change w.heap.size < wc.heap.size at z0
            change wl.heap.size < wc.heap.size at z1
            have hbw := hb.trans (hb0.mono hzl)
            have hlc := hl.below hb0
            have hzc := hbw.size
            rw [unhide HK]
            go_wp2
            go_roundw
            case rel => exact ⟨jx + 1, a', c', by omega, by first | rfl | go_num, by rw [unhide EL], by rw [unhide EL]; exact hlc, c00, c01, c02, hbw⟩
            case measure => simp [intOf]; omega
          · have EL : Hid (ncN E Q (jx + 1) = ncN E Q jx ++ [nm]) := hide (unhide HY ke)
            have HK := hide ke
            clear ke
            go_upto_region 7 with fail
            go_cut [30] (fun s30 wx => s30 = .bool (eqN R Q) ∧ wx.cell? ⟨w.heap.size, 0, none⟩ = some (.int .i64 x) ∧ wx.cell? ⟨w.heap.size, 1, none⟩ = some (.int .i64 y) ∧ wx.cell? ⟨w.heap.size, 2, none⟩ = some (.int .i64 z) ∧ wx.cell? ⟨wl.heap.size, 0, none⟩ = some (.string nm) ∧ wx.cell? ⟨wl.heap.size, 1, none⟩ = some (.int .i64 p) ∧ wx.cell? ⟨wl.heap.size, 2, none⟩ = some (.int .i64 q) ∧ wx.cell? ⟨wl.heap.size, 3, none⟩ = some (.int .i64 r) ∧ Below wl.heap.size wl wx)
            case first =>
              have h1 := trivial
              rename_i K2 h2 h3
              refine region_n0 (by kernel_rfl) (fun j => #[25,26,27,28,29,30].getD j 0) (fun j => Kd.ok ((fun j => match j with | 0 => Kd.val (.pointer (some ⟨wl.heap.size, 1, none⟩)) | 1 => Kd.val (.agg #[.int .i64 p, .int .i64 q, .int .i64 r]) | 2 => Kd.val (.agg #[.int .i64 (R.1), .int .i64 (R.2.1), .int .i64 (R.2.2)]) | 3 => Kd.val (.agg #[.int .i64 x, .int .i64 y, .int .i64 z]) | 4 => Kd.val (.agg #[.int .i64 (Q.1), .int .i64 (Q.2.1), .int .i64 (Q.2.2)]) | 5 => Kd.val (.bool (eqN R Q)) | _ => Kd.any : Nat → Kd) j)) (Sy wl (wl.heap.size + 1) [(⟨w.heap.size, 0, none⟩, .int .i64 x), (⟨w.heap.size, 1, none⟩, .int .i64 y), (⟨w.heap.size, 2, none⟩, .int .i64 z), (⟨wl.heap.size, 0, none⟩, .string nm), (⟨wl.heap.size, 1, none⟩, .int .i64 p), (⟨wl.heap.size, 2, none⟩, .int .i64 q), (⟨wl.heap.size, 3, none⟩, .int .i64 r)] []) (by kernel_rfl) (by kernel_rfl) ?_ ?_ ?_ ?_
              · intro j hj
                have hj2 : j < 6 := hj
                have : ∀ j, j < 6 → (#[25,26,27,28,29,30] : Array Nat).getD j 0 < 38 := by decide
                exact this j hj2
              · refine Sy.drew (Sy.mk_of ?_ ?_ ?_ ?_)
                · first | rfl | (simp; done) | (simp; omega)
                · intro c hc
                  simp only [List.mem_cons, List.not_mem_nil, or_false] at hc
                  rcases hc with rfl | rfl | rfl | rfl | rfl | rfl | rfl <;> exact byCT
                · intro p hp; cases hp
                · (repeat' first | with_reducible (first | exact Below.refl _ _ | assumption | refine gr_alloc ?_ _ | refine below_drewN ?_ _ | refine below_drew ?_ | refine gr_call ?_ (by assumption) | refine Below.setCell ?_ ?_ _) | go_size | omega | (simp; omega))
              · clear h1 h2 h3
                refine ⟨?r28x0, ?r28x1, ?r28x2, ?r28x3, ?r28x4, ?r28x5, trivial⟩
                all_goals intro _ aq wx Kq hf hS hdep ev1 ev2 hK
                case' r28x0 =>
                  have F8 : aq.eval (.tmp 8) = .pointer (some ⟨wl.heap.size, 0, none⟩) := hf 8
                case' r28x1 =>
                  have D0 : aq.eval (.tmp 25) = _ := hdep 0
                  have c0 := hS.cells (⟨wl.heap.size, 1, none⟩, .int .i64 p) (by simp)
                  have c1 := hS.cells (⟨wl.heap.size, 2, none⟩, .int .i64 q) (by simp)
                  have c2 := hS.cells (⟨wl.heap.size, 3, none⟩, .int .i64 r) (by simp)
                case' r28x2 =>
                  have D1 : aq.eval (.tmp 26) = _ := hdep 1
                case' r28x3 =>
                  have F3 : aq.eval (.tmp 3) = .pointer (some ⟨w.heap.size, 0, none⟩) := hf 3
                  have c0 := hS.cells (⟨w.heap.size, 0, none⟩, .int .i64 x) (by simp)
                  have c1 := hS.cells (⟨w.heap.size, 1, none⟩, .int .i64 y) (by simp)
                  have c2 := hS.cells (⟨w.heap.size, 2, none⟩, .int .i64 z) (by simp)
                case' r28x4 =>
                  have D3 : aq.eval (.tmp 28) = _ := hdep 3
                case' r28x5 =>
                  have D2 : aq.eval (.tmp 27) = _ := hdep 2
                  have D4 : aq.eval (.tmp 29) = _ := hdep 4
                all_goals (clear hf hdep; unfold Oper.wp; generalize Act.eval _ = ev at *; go_simp)
                case r28x2 =>
                  refine ((rdN_i p q r R _ hOkE (unhide HRE))).mono ?_
                  rintro e w2 ⟨rfl, hb⟩
                  refine hK _ _ (hS.call hb) ?_ (fun j u _ h => Kd.ok_below hb h)
                  rw [if_pos (by rfl)]
                  show (_ : Value) = _
                  first | rfl | (refine congrArg (Value.int .i64) ?_; first | rfl | exact int_in (by omega) | exact quo_in (by omega) (by omega) (by omega) | exact rem_in (by omega) (by omega) | omega | rfl) | (simp; done) | (simp [*]; done)
                case r28x4 =>
                  refine ((rdN_i x y z Q _ hOkF (unhide HQ))).mono ?_
                  rintro e w2 ⟨rfl, hb⟩
                  refine hK _ _ (hS.call hb) ?_ (fun j u _ h => Kd.ok_below hb h)
                  rw [if_pos (by rfl)]
                  show (_ : Value) = _
                  first | rfl | (refine congrArg (Value.int .i64) ?_; first | rfl | exact int_in (by omega) | exact quo_in (by omega) (by omega) (by omega) | exact rem_in (by omega) (by omega) | omega | rfl) | (simp; done) | (simp [*]; done)
                case' r28x5 =>
                  rw [eqN_res, Oper.upon_value]
                all_goals (refine hK _ _ hS ?_ (fun j u _ h => h); rw [if_pos (by rfl)]; show (_ : Value) = _; (first | rfl | (refine congrArg (Value.int .i64) ?_; first | rfl | exact int_in (by omega) | exact quo_in (by omega) (by omega) (by omega) | exact rem_in (by omega) (by omega) | omega | rfl) | (simp; done) | (simp [*]; done)))
              · intro aq wx hd hw hf hS hg
                have G30 : tau aq 30 = .bool (eqN R Q) := hg 5 (by decide)
                have haq : aq = ⟨#[tau aq 0, tau aq 1, tau aq 2, tau aq 3, tau aq 4, tau aq 5, tau aq 6, tau aq 7, tau aq 8, tau aq 9, tau aq 10, tau aq 11, tau aq 12, tau aq 13, tau aq 14, tau aq 15, tau aq 16, tau aq 17, tau aq 18, tau aq 19, tau aq 20, tau aq 21, tau aq 22, tau aq 23, tau aq 24, tau aq 25, tau aq 26, tau aq 27, tau aq 28, tau aq 29, tau aq 30, tau aq 31, tau aq 32, tau aq 33, tau aq 34, tau aq 35, tau aq 36, tau aq 37], []⟩ := by
                  obtain ⟨tq, dq⟩ := aq
                  have h5 := arr_eq (show tq.size = 38 from hw)
                  have h6 : dq = [] := hd
                  subst h6
                  exact congrArg (fun z => Act.mk z []) h5
                show K2 aq wx
                rw [haq, hf 0, hf 1, hf 2, hf 3, hf 4, hf 5, hf 6, hf 7, hf 8, hf 9, hf 10, hf 11, hf 12, hf 13, hf 14, hf 15, hf 16, hf 17, hf 18, hf 19, hf 20, hf 21, hf 22, hf 23, hf 24, hf 31, hf 32, hf 33, hf 34, hf 35, hf 36, hf 37, G30]
                clear haq hf hd hw
                try dsimp only
                refine h3 _ _ ?_
                go_meet
                exact ⟨rfl, hS.cells (⟨w.heap.size, 0, none⟩, .int .i64 x) (by simp), hS.cells (⟨w.heap.size, 1, none⟩, .int .i64 y) (by simp), hS.cells (⟨w.heap.size, 2, none⟩, .int .i64 z) (by simp), hS.cells (⟨wl.heap.size, 0, none⟩, .string nm) (by simp), hS.cells (⟨wl.heap.size, 1, none⟩, .int .i64 p) (by simp), hS.cells (⟨wl.heap.size, 2, none⟩, .int .i64 q) (by simp), hS.cells (⟨wl.heap.size, 3, none⟩, .int .i64 r) (by simp), hS.below⟩
            try clear c00
            try clear c01
            try clear c02
            try clear c10
            try clear c11
            try clear c12
            try clear c13
            obtain ⟨rfl, c00, c01, c02, c10, c11, c12, c13, hb0⟩ := hcut
            have z0 := World.block_lt_of_cell? _ _ c00
            have z1 := World.block_lt_of_cell? _ _ c10
            change w.heap.size < wc.heap.size at z0
            change wl.heap.size < wc.heap.size at z1
            have hbw := hb.trans (hb0.mono hzl)
            have hlc := hl.below hb0
            have hzc := hbw.size
            rw [unhide HK]
            go_wp2_with (first | (at_builtin; refine app_str _ rfl (.tmp 31) (.tmp 34) rfl (w.heap.size + 1) (.slice a' (ncN E Q jx).length c') (ncN E Q jx) nm wc.heap.size rfl rfl (hlc.alloc _) (by simp) (by omega) (by simp; omega) ?_; intro g cap w2 hown hgrow hat hlt))
            go_roundw
            case rel =>
              have hne : ∀ k, (Value.slice a' (ncN E Q jx).length c').ownBlock = some k → w.heap.size + 1 ≤ k := fun k hk => (hlc.lt k hk).1
              have hbx : some w.heap.size ≠ (Value.slice a' (ncN E Q jx).length c').ownBlock := fun hh => by have := hne _ hh.symm; omega
              refine ⟨jx + 1, some ⟨g, 0, none⟩, cap, by omega, by first | rfl | go_num, ?_, ?_, ?_, ?_, ?_, (hbw.alloc hzc _).grown hgrow (by simp; omega) (fun k hk => by have := hne k hk; omega)⟩
              · rw [unhide EL, List.length_append]; rfl
              · rw [unhide EL, List.length_append]; exact hown
              · rw [hgrow.cell_far _ (by simp; omega) hbx]; exact byCT
              · rw [hgrow.cell_far _ (by simp; omega) hbx]; exact byCT
              · rw [hgrow.cell_far _ (by simp; omega) hbx]; exact byCT
            case measure => simp [intOf]; omega
        · obtain rfl : jx = n := by omega
          go_wp2
          go_ret2
          exact ⟨a', c', by rw [unhide HL, unhide HB]; rfl, by rw [unhide HL]; exact hl.strs.2.low (by omega), hb⟩

set_option maxRecDepth 100000 in
set_option maxHeartbeats 8000000 in
theorem specNames_a (v : Value) (n : Nat) (E : Nat → Ent) (x y z : Int) (w : World) (h : ArgE w v n E) (hn : n ≤ 2000000) (ho : ∀ i, i < n → EntOk (E i)) (i0 : I64 x) (i1 : I64 y) (i2 : I64 z) :
    Calls Try.prog 22 #[v, .agg #[.int .i64 x, .int .i64 y, .int .i64 z]] w (RetSL w (ncL E n (x, y, z)) (ncB E n (x, y, z))) := by
  have HA0 := hide h
  have HA : Hid (ArgE (w.alloc (.cells #[.int .i64 x, .int .i64 y, .int .i64 z] 37)) v n E) := hide (h.below (below_alloc_self _ _))
  have HO := hide ho
  obtain ⟨a, c, rfl⟩ := h.len
  clear h ho
  cases kc : ctB E n
  · have HB : Hid (ncB E n (x, y, z) = false) := hide (by simp [ncB, kc])
    have HL : Hid (ncL E n (x, y, z) = []) := hide (by unfold ncL; rw [unhide HB]; rfl)
    go_enter Try.func22, Try.ntmps22
    go_wp2_with (first | (go_at_call 40; refine (lgGood_a (.slice a n c) n E _ (unhide HA) hn (unhide HO)).mono ?_; rintro e w1 ⟨rfl, hb⟩; obtain ⟨hc, hf⟩ := bcell hb; have hl := lt_keep hb; have hs := hb.size) | (go_at_call 44; refine (coGood_a _ _ _ _ ).mono ?_; rintro e w2 ⟨rfl, hb2⟩; obtain ⟨hc2, hf2⟩ := bcell hb2; have hl2 := lt_keep hb2; have hs2 := hb2.size))
    go_ret2
    exact ⟨_, _, by rw [unhide HL, unhide HB]; rfl, .inl (by rw [unhide HL]; rfl), byGG⟩
  · cases kf : classB x y z
    · have HB : Hid (ncB E n (x, y, z) = false) := hide (by simp [ncB, kf])
      have HL : Hid (ncL E n (x, y, z) = []) := hide (by unfold ncL; rw [unhide HB]; rfl)
      go_enter Try.func22, Try.ntmps22
      go_wp2_with (first | (go_at_call 40; refine (lgGood_a (.slice a n c) n E _ (unhide HA) hn (unhide HO)).mono ?_; rintro e w1 ⟨rfl, hb⟩; obtain ⟨hc, hf⟩ := bcell hb; have hl := lt_keep hb; have hs := hb.size) | (go_at_call 44; refine (coGood_a _ _ _ _ ).mono ?_; rintro e w2 ⟨rfl, hb2⟩; obtain ⟨hc2, hf2⟩ := bcell hb2; have hl2 := lt_keep hb2; have hs2 := hb2.size))
      go_ret2
      exact ⟨_, _, by rw [unhide HL, unhide HB]; rfl, .inl (by rw [unhide HL]; rfl), byGG⟩
    · have HB : Hid (ncB E n (x, y, z) = true) := hide (by simp [ncB, kf, kc])
      have hOkF := okF_of kf
      have HCE := hide (ct_class kc)
      obtain ⟨Q, hQ⟩ : ∃ Q, Q = rfN (x, y, z) := ⟨_, rfl⟩
      have HL : Hid (ncL E n (x, y, z) = ncN E Q n) := hide (by unfold ncL; rw [unhide HB, hQ]; rfl)
      have HQ := hide hQ
      clear hQ
      go_enter Try.func22, Try.ntmps22
      go_wp2_with fail
      refine (lgGood_a (.slice a n c) n E _ (unhide HA) hn (unhide HO)).mono ?_
      rintro e w1 ⟨rfl, hb1⟩
      have hcs9 := cells_calls hb1 [⟨w.heap.size, 0, none⟩, ⟨w.heap.size, 1, none⟩, ⟨w.heap.size, 2, none⟩] [.int .i64 x, .int .i64 y, .int .i64 z] (by refine ⟨?_, ?_, ?_, trivial⟩ <;> exact byCT)
      have hzs9 := blocks_calls hb1 [w.heap.size] (by refine ⟨?_, trivial⟩ <;> first | with_reducible assumption | omega | (simp; omega) | (simp; done))
      try clear c00 c01 c02
      obtain ⟨c00, c01, c02, -⟩ := hcs9
      obtain ⟨z0, -⟩ := hzs9
      have hs1 := hb1.size
      have hB1 : Below w.heap.size w w1 := byGG
      go_wp2_with fail
      refine (coGood_a _ _ _ _ ).mono ?_
      rintro e w2 ⟨rfl, hb2⟩
      have hcs9 := cells_calls hb2 [⟨w.heap.size, 0, none⟩, ⟨w.heap.size, 1, none⟩, ⟨w.heap.size, 2, none⟩] [.int .i64 x, .int .i64 y, .int .i64 z] (by refine ⟨?_, ?_, ?_, trivial⟩ <;> exact byCT)
      have hzs9 := blocks_calls hb2 [w.heap.size] (by refine ⟨?_, trivial⟩ <;> first | with_reducible assumption | omega | (simp; omega) | (simp; done))
      try clear c00 c01 c02
      obtain ⟨c00, c01, c02, -⟩ := hcs9
      obtain ⟨z0, -⟩ := hzs9
      have hs2 := hb2.size
      have hB2 : Below w.heap.size w w2 := hB1.trans (hb2.mono hB1.size)
      have zb2 : w.heap.size < w2.heap.size := World.block_lt_of_cell? _ _ c00
      clear hb1 hb2 hB1
      go_wp2
      go_loopw [6, 19] (fun ls is wr => ∃ (jx : Nat) (a' : Option Addr) (c' : Nat), jx ≤ n ∧ is = .int .i64 (jx : Int) ∧ ls = .slice a' (ncN E Q jx).length c' ∧ SL wr (w.heap.size + 1) (.slice a' (ncN E Q jx).length c') (ncN E Q jx) ∧ wr.cell? ⟨w.heap.size, 0, none⟩ = some (.int .i64 x) ∧ wr.cell? ⟨w.heap.size, 1, none⟩ = some (.int .i64 y) ∧ wr.cell? ⟨w.heap.size, 2, none⟩ = some (.int .i64 z) ∧ Below w.heap.size w wr) (fun _ is _ => n - (intOf is).toNat)
      case atStart => exact ⟨0, none, 0, by omega, rfl, rfl, SL.nil _ _, by assumption, by assumption, by assumption, hB2⟩
      case round =>
        obtain ⟨jx, a', c', hj, rfl, rfl, hl, c00, c01, c02, hb⟩ := hrel
        obtain ⟨wl, rfl⟩ : ∃ wl : World, wl = wr := ⟨_, rfl⟩
        have hzl := hb.size
        have zb : w.heap.size < wl.heap.size := World.block_lt_of_cell? _ _ c00
        have hL := ncN_len E Q jx
        by_cases q0 : jx < n
        · have hci : (jx : Int) < (n : Int) := by omega
          obtain ⟨b, off, hv, hcs⟩ := ((unhide HA0).below hb).cells (by omega)
          obtain ⟨d0, d1, d2, d3⟩ := hcs jx q0
          have hbl : b < wl.heap.size := World.block_lt_of_cell? _ _ d0
          subst hv
          have hOkE := okF_of (unhide HCE jx q0)
          obtain ⟨R, hR⟩ : ∃ R, R = rfN ((E jx).f.1, (E jx).f.2.1, (E jx).f.2.2) := ⟨_, rfl⟩
          have HY : Hid (eqN R Q = true → ncN E Q (jx + 1) = ncN E Q jx ++ [(E jx).n]) := hide fun hh => ncN_yes (by rw [← hR]; exact hh)
          have HN : Hid (eqN R Q = false → ncN E Q (jx + 1) = ncN E Q jx) := hide fun hh => ncN_no (by rw [← hR]; exact hh)
          obtain ⟨nm, hnm⟩ : ∃ s, (E jx).n = s := ⟨_, rfl⟩
          obtain ⟨p, hp⟩ : ∃ x, (E jx).f.1 = x := ⟨_, rfl⟩
          obtain ⟨q, hq⟩ : ∃ x, (E jx).f.2.1 = x := ⟨_, rfl⟩
          obtain ⟨r, hr⟩ : ∃ x, (E jx).f.2.2 = x := ⟨_, rfl⟩
          rw [hnm] at d0 HY
          rw [hp] at d1 hR hOkE
          rw [hq] at d2 hR hOkE
          rw [hr] at d3 hR hOkE
          have HRE := hide hR
          clear hnm hp hq hr hR hcs
          cases ke : eqN R Q
          · have EL : Hid (ncN E Q (jx + 1) = ncN E Q jx) := hide (unhide HN ke)
            have HK := hide ke
            clear ke
            go_upto_region 7 with fail
            go_cut [28] (fun s28 wx => s28 = .bool (eqN R Q) ∧ wx.cell? ⟨w.heap.size, 0, none⟩ = some (.int .i64 x) ∧ wx.cell? ⟨w.heap.size, 1, none⟩ = some (.int .i64 y) ∧ wx.cell? ⟨w.heap.size, 2, none⟩ = some (.int .i64 z) ∧ wx.cell? ⟨wl.heap.size, 0, none⟩ = some (.string nm) ∧ wx.cell? ⟨wl.heap.size, 1, none⟩ = some (.int .i64 p) ∧ wx.cell? ⟨wl.heap.size, 2, none⟩ = some (.int .i64 q) ∧ wx.cell? ⟨wl.heap.size, 3, none⟩ = some (.int .i64 r) ∧ Below wl.heap.size wl wx)
            case first =>
              have h1 := trivial
              rename_i K2 h2 h3
              refine region_n0 (by kernel_rfl) (fun j => #[23,24,25,26,27,28].getD j 0) (fun j => Kd.ok ((fun j => match j with | 0 => Kd.val (.pointer (some ⟨wl.heap.size, 1, none⟩)) | 1 => Kd.val (.agg #[.int .i64 p, .int .i64 q, .int .i64 r]) | 2 => Kd.val (.agg #[.int .i64 (R.1), .int .i64 (R.2.1), .int .i64 (R.2.2)]) | 3 => Kd.val (.agg #[.int .i64 x, .int .i64 y, .int .i64 z]) | 4 => Kd.val (.agg #[.int .i64 (Q.1), .int .i64 (Q.2.1), .int .i64 (Q.2.2)]) | 5 => Kd.val (.bool (eqN R Q)) | _ => Kd.any : Nat → Kd) j)) (Sy wl (wl.heap.size + 1) [(⟨w.heap.size, 0, none⟩, .int .i64 x), (⟨w.heap.size, 1, none⟩, .int .i64 y), (⟨w.heap.size, 2, none⟩, .int .i64 z), (⟨wl.heap.size, 0, none⟩, .string nm), (⟨wl.heap.size, 1, none⟩, .int .i64 p), (⟨wl.heap.size, 2, none⟩, .int .i64 q), (⟨wl.heap.size, 3, none⟩, .int .i64 r)] []) (by kernel_rfl) (by kernel_rfl) ?_ ?_ ?_ ?_
              · intro j hj
                have hj2 : j < 6 := hj
                have : ∀ j, j < 6 → (#[23,24,25,26,27,28] : Array Nat).getD j 0 < 36 := by decide
                exact this j hj2
              · refine Sy.drew (Sy.mk_of ?_ ?_ ?_ ?_)
                · first | rfl | (simp; done) | (simp; omega)
                · intro c hc
                  simp only [List.mem_cons, List.not_mem_nil, or_false] at hc
                  rcases hc with rfl | rfl | rfl | rfl | rfl | rfl | rfl <;> exact byCT
                · intro p hp; cases hp
                · (repeat' first | with_reducible (first | exact Below.refl _ _ | assumption | refine gr_alloc ?_ _ | refine below_drewN ?_ _ | refine below_drew ?_ | refine gr_call ?_ (by assumption) | refine Below.setCell ?_ ?_ _) | go_size | omega | (simp; omega))
              · clear h1 h2 h3
                refine ⟨?r29x0, ?r29x1, ?r29x2, ?r29x3, ?r29x4, ?r29x5, trivial⟩
                all_goals intro _ aq wx Kq hf hS hdep ev1 ev2 hK
                case' r29x0 =>
                  have F8 : aq.eval (.tmp 8) = .pointer (some ⟨wl.heap.size, 0, none⟩) := hf 8
                case' r29x1 =>
                  have D0 : aq.eval (.tmp 23) = _ := hdep 0
                  have c0 := hS.cells (⟨wl.heap.size, 1, none⟩, .int .i64 p) (by simp)
                  have c1 := hS.cells (⟨wl.heap.size, 2, none⟩, .int .i64 q) (by simp)
                  have c2 := hS.cells (⟨wl.heap.size, 3, none⟩, .int .i64 r) (by simp)
                case' r29x2 =>
                  have D1 : aq.eval (.tmp 24) = _ := hdep 1
                case' r29x3 =>
                  have F3 : aq.eval (.tmp 3) = .pointer (some ⟨w.heap.size, 0, none⟩) := hf 3
                  have c0 := hS.cells (⟨w.heap.size, 0, none⟩, .int .i64 x) (by simp)
                  have c1 := hS.cells (⟨w.heap.size, 1, none⟩, .int .i64 y) (by simp)
                  have c2 := hS.cells (⟨w.heap.size, 2, none⟩, .int .i64 z) (by simp)
                case' r29x4 =>
                  have D3 : aq.eval (.tmp 26) = _ := hdep 3
                case' r29x5 =>
                  have D2 : aq.eval (.tmp 25) = _ := hdep 2
                  have D4 : aq.eval (.tmp 27) = _ := hdep 4
                all_goals (clear hf hdep; unfold Oper.wp; generalize Act.eval _ = ev at *; go_simp)
                case r29x2 =>
                  refine ((rdN_s p q r R _ hOkE (unhide HRE))).mono ?_
                  rintro e w2 ⟨rfl, hb⟩
                  refine hK _ _ (hS.call hb) ?_ (fun j u _ h => Kd.ok_below hb h)
                  rw [if_pos (by rfl)]
                  show (_ : Value) = _
                  first | rfl | (refine congrArg (Value.int .i64) ?_; first | rfl | exact int_in (by omega) | exact quo_in (by omega) (by omega) (by omega) | exact rem_in (by omega) (by omega) | omega | rfl) | (simp; done) | (simp [*]; done)
                case r29x4 =>
                  refine ((rdN_s x y z Q _ hOkF (unhide HQ))).mono ?_
                  rintro e w2 ⟨rfl, hb⟩
                  refine hK _ _ (hS.call hb) ?_ (fun j u _ h => Kd.ok_below hb h)
                  rw [if_pos (by rfl)]
                  show (_ : Value) = _
                  first | rfl | (refine congrArg (Value.int .i64) ?_; first | rfl | exact int_in (by omega) | exact quo_in (by omega) (by omega) (by omega) | exact rem_in (by omega) (by omega) | omega | rfl) | (simp; done) | (simp [*]; done)
                case' r29x5 =>
                  rw [eqN_res, Oper.upon_value]
                all_goals (refine hK _ _ hS ?_ (fun j u _ h => h); rw [if_pos (by rfl)]; show (_ : Value) = _; (first | rfl | (refine congrArg (Value.int .i64) ?_; first | rfl | exact int_in (by omega) | exact quo_in (by omega) (by omega) (by omega) | exact rem_in (by omega) (by omega) | omega | rfl) | (simp; done) | (simp [*]; done)))
              · intro aq wx hd hw hf hS hg
                have G28 : tau aq 28 = .bool (eqN R Q) := hg 5 (by decide)
                have haq : aq = ⟨#[tau aq 0, tau aq 1, tau aq 2, tau aq 3, tau aq 4, tau aq 5, tau aq 6, tau aq 7, tau aq 8, tau aq 9, tau aq 10, tau aq 11, tau aq 12, tau aq 13, tau aq 14, tau aq 15, tau aq 16, tau aq 17, tau aq 18, tau aq 19, tau aq 20, tau aq 21, tau aq 22, tau aq 23, tau aq 24, tau aq 25, tau aq 26, tau aq 27, tau aq 28, tau aq 29, tau aq 30, tau aq 31, tau aq 32, tau aq 33, tau aq 34, tau aq 35], []⟩ := by
                  obtain ⟨tq, dq⟩ := aq
                  have h5 := arr_eq (show tq.size = 36 from hw)
                  have h6 : dq = [] := hd
                  subst h6
                  exact congrArg (fun z => Act.mk z []) h5
                show K2 aq wx
                rw [haq, hf 0, hf 1, hf 2, hf 3, hf 4, hf 5, hf 6, hf 7, hf 8, hf 9, hf 10, hf 11, hf 12, hf 13, hf 14, hf 15, hf 16, hf 17, hf 18, hf 19, hf 20, hf 21, hf 22, hf 29, hf 30, hf 31, hf 32, hf 33, hf 34, hf 35, G28]
                clear haq hf hd hw
                try dsimp only
                refine h3 _ _ ?_
                go_meet
                exact ⟨rfl, hS.cells (⟨w.heap.size, 0, none⟩, .int .i64 x) (by simp), hS.cells (⟨w.heap.size, 1, none⟩, .int .i64 y) (by simp), hS.cells (⟨w.heap.size, 2, none⟩, .int .i64 z) (by simp), hS.cells (⟨wl.heap.size, 0, none⟩, .string nm) (by simp), hS.cells (⟨wl.heap.size, 1, none⟩, .int .i64 p) (by simp), hS.cells (⟨wl.heap.size, 2, none⟩, .int .i64 q) (by simp), hS.cells (⟨wl.heap.size, 3, none⟩, .int .i64 r) (by simp), hS.below⟩
            try clear c00
            try clear c01
            try clear c02
            try clear c10
            try clear c11
            try clear c12
            try clear c13
            obtain ⟨rfl, c00, c01, c02, c10, c11, c12, c13, hb0⟩ := hcut
            have z0 := World.block_lt_of_cell? _ _ c00
            have z1 := World.block_lt_of_cell? _ _ c10
            change w.heap.size < wc.heap.size at z0
            change wl.heap.size < wc.heap.size at z1
            have hbw := hb.trans (hb0.mono hzl)
            have hlc := hl.below hb0
            have hzc := hbw.size
            rw [unhide HK]
            go_wp2
            go_roundw
            case rel => exact ⟨jx + 1, a', c', by omega, by first | rfl | go_num, by rw [unhide EL], by rw [unhide EL]; exact hlc, c00, c01, c02, hbw⟩
            case measure => simp [intOf]; omega
          · have EL : Hid (ncN E Q (jx + 1) = ncN E Q jx ++ [nm]) := hide (unhide HY ke)
            have HK := hide ke
            clear ke
            go_upto_region 7 with fail
            go_cut [28] (fun s28 wx => s28 = .bool (eqN R Q) ∧ wx.cell? ⟨w.heap.size, 0, none⟩ = some (.int .i64 x) ∧ wx.cell? ⟨w.heap.size, 1, none⟩ = some (.int .i64 y) ∧ wx.cell? ⟨w.heap.size, 2, none⟩ = some (.int .i64 z) ∧ wx.cell? ⟨wl.heap.size, 0, none⟩ = some (.string nm) ∧ wx.cell? ⟨wl.heap.size, 1, none⟩ = some (.int .i64 p) ∧ wx.cell? ⟨wl.heap.size, 2, none⟩ = some (.int .i64 q) ∧ wx.cell? ⟨wl.heap.size, 3, none⟩ = some (.int .i64 r) ∧ Below wl.heap.size wl wx)
            case first =>
              have h1 := trivial
              rename_i K2 h2 h3
              refine region_n0 (by kernel_rfl) (fun j => #[23,24,25,26,27,28].getD j 0) (fun j => Kd.ok ((fun j => match j with | 0 => Kd.val (.pointer (some ⟨wl.heap.size, 1, none⟩)) | 1 => Kd.val (.agg #[.int .i64 p, .int .i64 q, .int .i64 r]) | 2 => Kd.val (.agg #[.int .i64 (R.1), .int .i64 (R.2.1), .int .i64 (R.2.2)]) | 3 => Kd.val (.agg #[.int .i64 x, .int .i64 y, .int .i64 z]) | 4 => Kd.val (.agg #[.int .i64 (Q.1), .int .i64 (Q.2.1), .int .i64 (Q.2.2)]) | 5 => Kd.val (.bool (eqN R Q)) | _ => Kd.any : Nat → Kd) j)) (Sy wl (wl.heap.size + 1) [(⟨w.heap.size, 0, none⟩, .int .i64 x), (⟨w.heap.size, 1, none⟩, .int .i64 y), (⟨w.heap.size, 2, none⟩, .int .i64 z), (⟨wl.heap.size, 0, none⟩, .string nm), (⟨wl.heap.size, 1, none⟩, .int .i64 p), (⟨wl.heap.size, 2, none⟩, .int .i64 q), (⟨wl.heap.size, 3, none⟩, .int .i64 r)] []) (by kernel_rfl) (by kernel_rfl) ?_ ?_ ?_ ?_
              · intro j hj
                have hj2 : j < 6 := hj
                have : ∀ j, j < 6 → (#[23,24,25,26,27,28] : Array Nat).getD j 0 < 36 := by decide
                exact this j hj2
              · refine Sy.drew (Sy.mk_of ?_ ?_ ?_ ?_)
                · first | rfl | (simp; done) | (simp; omega)
                · intro c hc
                  simp only [List.mem_cons, List.not_mem_nil, or_false] at hc
                  rcases hc with rfl | rfl | rfl | rfl | rfl | rfl | rfl <;> exact byCT
                · intro p hp; cases hp
                · (repeat' first | with_reducible (first | exact Below.refl _ _ | assumption | refine gr_alloc ?_ _ | refine below_drewN ?_ _ | refine below_drew ?_ | refine gr_call ?_ (by assumption) | refine Below.setCell ?_ ?_ _) | go_size | omega | (simp; omega))
              · clear h1 h2 h3
                refine ⟨?r30x0, ?r30x1, ?r30x2, ?r30x3, ?r30x4, ?r30x5, trivial⟩
                all_goals intro _ aq wx Kq hf hS hdep ev1 ev2 hK
                case' r30x0 =>
                  have F8 : aq.eval (.tmp 8) = .pointer (some ⟨wl.heap.size, 0, none⟩) := hf 8
                case' r30x1 =>
                  have D0 : aq.eval (.tmp 23) = _ := hdep 0
                  have c0 := hS.cells (⟨wl.heap.size, 1, none⟩, .int .i64 p) (by simp)
                  have c1 := hS.cells (⟨wl.heap.size, 2, none⟩, .int .i64 q) (by simp)
                  have c2 := hS.cells (⟨wl.heap.size, 3, none⟩, .int .i64 r) (by simp)
                case' r30x2 =>
                  have D1 : aq.eval (.tmp 24) = _ := hdep 1
                case' r30x3 =>
                  have F3 : aq.eval (.tmp 3) = .pointer (some ⟨w.heap.size, 0, none⟩) := hf 3
                  have c0 := hS.cells (⟨w.heap.size, 0, none⟩, .int .i64 x) (by simp)
                  have c1 := hS.cells (⟨w.heap.size, 1, none⟩, .int .i64 y) (by simp)
                  have c2 := hS.cells (⟨w.heap.size, 2, none⟩, .int .i64 z) (by simp)
                case' r30x4 =>
                  have D3 : aq.eval (.tmp 26) = _ := hdep 3
                case' r30x5 =>
                  have D2 : aq.eval (.tmp 25) = _ := hdep 2
                  have D4 : aq.eval (.tmp 27) = _ := hdep 4
                all_goals (clear hf hdep; unfold Oper.wp; generalize Act.eval _ = ev at *; go_simp)
                case r30x2 =>
                  refine ((rdN_s p q r R _ hOkE (unhide HRE))).mono ?_
                  rintro e w2 ⟨rfl, hb⟩
                  refine hK _ _ (hS.call hb) ?_ (fun j u _ h => Kd.ok_below hb h)
                  rw [if_pos (by rfl)]
                  show (_ : Value) = _
                  first | rfl | (refine congrArg (Value.int .i64) ?_; first | rfl | exact int_in (by omega) | exact quo_in (by omega) (by omega) (by omega) | exact rem_in (by omega) (by omega) | omega | rfl) | (simp; done) | (simp [*]; done)
                case r30x4 =>
                  refine ((rdN_s x y z Q _ hOkF (unhide HQ))).mono ?_
                  rintro e w2 ⟨rfl, hb⟩
                  refine hK _ _ (hS.call hb) ?_ (fun j u _ h => Kd.ok_below hb h)
                  rw [if_pos (by rfl)]
                  show (_ : Value) = _
                  first | rfl | (refine congrArg (Value.int .i64) ?_; first | rfl | exact int_in (by omega) | exact quo_in (by omega) (by omega) (by omega) | exact rem_in (by omega) (by omega) | omega | rfl) | (simp; done) | (simp [*]; done)
                case' r30x5 =>
                  rw [eqN_res, Oper.upon_value]
                all_goals (refine hK _ _ hS ?_ (fun j u _ h => h); rw [if_pos (by rfl)]; show (_ : Value) = _; (first | rfl | (refine congrArg (Value.int .i64) ?_; first | rfl | exact int_in (by omega) | exact quo_in (by omega) (by omega) (by omega) | exact rem_in (by omega) (by omega) | omega | rfl) | (simp; done) | (simp [*]; done)))
              · intro aq wx hd hw hf hS hg
                have G28 : tau aq 28 = .bool (eqN R Q) := hg 5 (by decide)
                have haq : aq = ⟨#[tau aq 0, tau aq 1, tau aq 2, tau aq 3, tau aq 4, tau aq 5, tau aq 6, tau aq 7, tau aq 8, tau aq 9, tau aq 10, tau aq 11, tau aq 12, tau aq 13, tau aq 14, tau aq 15, tau aq 16, tau aq 17, tau aq 18, tau aq 19, tau aq 20, tau aq 21, tau aq 22, tau aq 23, tau aq 24, tau aq 25, tau aq 26, tau aq 27, tau aq 28, tau aq 29, tau aq 30, tau aq 31, tau aq 32, tau aq 33, tau aq 34, tau aq 35], []⟩ := by
                  obtain ⟨tq, dq⟩ := aq
                  have h5 := arr_eq (show tq.size = 36 from hw)
                  have h6 : dq = [] := hd
                  subst h6
                  exact congrArg (fun z => Act.mk z []) h5
                show K2 aq wx
                rw [haq, hf 0, hf 1, hf 2, hf 3, hf 4, hf 5, hf 6, hf 7, hf 8, hf 9, hf 10, hf 11, hf 12, hf 13, hf 14, hf 15, hf 16, hf 17, hf 18, hf 19, hf 20, hf 21, hf 22, hf 29, hf 30, hf 31, hf 32, hf 33, hf 34, hf 35, G28]
                clear haq hf hd hw
                try dsimp only
                refine h3 _ _ ?_
                go_meet
                exact ⟨rfl, hS.cells (⟨w.heap.size, 0, none⟩, .int .i64 x) (by simp), hS.cells (⟨w.heap.size, 1, none⟩, .int .i64 y) (by simp), hS.cells (⟨w.heap.size, 2, none⟩, .int .i64 z) (by simp), hS.cells (⟨wl.heap.size, 0, none⟩, .string nm) (by simp), hS.cells (⟨wl.heap.size, 1, none⟩, .int .i64 p) (by simp), hS.cells (⟨wl.heap.size, 2, none⟩, .int .i64 q) (by simp), hS.cells (⟨wl.heap.size, 3, none⟩, .int .i64 r) (by simp), hS.below⟩
            try clear c00
            try clear c01
            try clear c02
            try clear c10
            try clear c11
            try clear c12
            try clear c13
            obtain ⟨rfl, c00, c01, c02, c10, c11, c12, c13, hb0⟩ := hcut
            have z0 := World.block_lt_of_cell? _ _ c00
            have z1 := World.block_lt_of_cell? _ _ c10
            change w.heap.size < wc.heap.size at z0
            change wl.heap.size < wc.heap.size at z1
            have hbw := hb.trans (hb0.mono hzl)
            have hlc := hl.below hb0
            have hzc := hbw.size
            rw [unhide HK]
            go_wp2_with (first | (at_builtin; refine app_str _ rfl (.tmp 29) (.tmp 32) rfl (w.heap.size + 1) (.slice a' (ncN E Q jx).length c') (ncN E Q jx) nm wc.heap.size rfl rfl (hlc.alloc _) (by simp) (by omega) (by simp; omega) ?_; intro g cap w2 hown hgrow hat hlt))
            go_roundw
            case rel =>
              have hne : ∀ k, (Value.slice a' (ncN E Q jx).length c').ownBlock = some k → w.heap.size + 1 ≤ k := fun k hk => (hlc.lt k hk).1
              have hbx : some w.heap.size ≠ (Value.slice a' (ncN E Q jx).length c').ownBlock := fun hh => by have := hne _ hh.symm; omega
              refine ⟨jx + 1, some ⟨g, 0, none⟩, cap, by omega, by first | rfl | go_num, ?_, ?_, ?_, ?_, ?_, (hbw.alloc hzc _).grown hgrow (by simp; omega) (fun k hk => by have := hne k hk; omega)⟩
              · rw [unhide EL, List.length_append]; rfl
              · rw [unhide EL, List.length_append]; exact hown
              · rw [hgrow.cell_far _ (by simp; omega) hbx]; exact byCT
              · rw [hgrow.cell_far _ (by simp; omega) hbx]; exact byCT
              · rw [hgrow.cell_far _ (by simp; omega) hbx]; exact byCT
            case measure => simp [intOf]; omega
        · obtain rfl : jx = n := by omega
          go_wp2
          go_ret2
          exact ⟨a', c', by rw [unhide HL, unhide HB]; rfl, by rw [unhide HL]; exact hl.strs.2.low (by omega), hb⟩
end Go.Proofs.Ytligbfegafkpjaa
