/-
  The law of SquareTrail.
-/
import Derived.Test.YtninagdclibmnaaSt
namespace Go.Proofs.Ytninagdclibmnaa
open Go.RowKit
set_option linter.unusedVariables false
set_option linter.unusedSimpArgs false
attribute [local go_sem] q2 q3 q4 q5 q6 q7 q8 q9 q10 q11 q12

theorem toForm_w (F : T3) (w : World) : Calls Try.prog 17 #[frm F] w fun e w' => e = .returned (frm F) ∧ Below w.heap.size w w' := by
  go_enter Try.func17, Try.ntmps17
  go_wp2
  refine bodyPost_ret (v := frm F) (by simp [results, Try.results17, go_sem, *]) rfl ?_
  exact ⟨rfl, by (repeat' first | with_reducible (first | exact Below.refl _ _ | assumption | refine gr_alloc ?_ _ | refine below_drewN ?_ _ | refine below_drew ?_ | refine gr_call ?_ (by assumption) | refine Below.setCell ?_ ?_ _) | go_size | omega | (simp; omega))⟩

theorem ls_SquareTrail_s (F : T3) (t : Int) (N : Nat) (f : Nat → Int) (b : Bool) (w : World)  (hN : stN F t = N) (hF : stF F t = f) (hB : srB F t = b) : Calls Try.prog 24 #[frm F, .int .i64 t] w (RetForms w N f b) := by
  subst hN hF hB; exact specSquareTrail F t w
theorem ls_SquareTrail_i (F : T3) (t : Int) (N : Nat) (f : Nat → Int) (b : Bool) (w : World) (i0 : I64T F) (hN : stN F t = N) (hF : stF F t = f) (hB : srB F t = b) : Calls Try.prog 25 #[frm F, .int .i64 t] w (RetForms w N f b) := by
  subst hN hF hB; exact implSquareTrail F t w i0
set_option maxRecDepth 100000 in
set_option maxHeartbeats 1500000 in
theorem lawSquareTrail (F : T3) (t : Int) (w : World) (i0 : I64T F) : Calls Try.prog 6 #[frm F, .int .i64 t] w fun e w' => e = .returned (.bool true) ∧ Below w.heap.size w w' := by
  have hn : stN F t ≤ 100000000 := stN_le F t
  obtain ⟨N, hN⟩ : ∃ N, stN F t = N := ⟨_, rfl⟩
  obtain ⟨f, hF⟩ : ∃ f, stF F t = f := ⟨_, rfl⟩
  obtain ⟨b, hB⟩ : ∃ b, srB F t = b := ⟨_, rfl⟩
  rw [hN] at hn
  replace hN := hide hN
  replace hF := hide hF
  replace hB := hide hB
  go_enter Try.func6, Try.ntmps6
  go_wp2_with fail
  refine (toForm_w F _).mono ?_
  rintro en w1 ⟨rfl, hb1⟩
  have hcs9 := cells_calls hb1 [⟨w.heap.size, 0, none⟩, ⟨w.heap.size, 1, none⟩, ⟨w.heap.size, 2, none⟩] [.int .i64 (F.1), .int .i64 (F.2.1), .int .i64 (F.2.2)] (by refine ⟨?_, ?_, ?_, trivial⟩ <;> (first | with_reducible assumption | ((repeat' first | with_reducible (first | assumption | refine cell_al _ ?_ | refine cell_eq _ ?_ | refine cell_ne _ ?_ ?_ | refine ex_set _ ?_ | refine ex_al _ ?_ | exact ⟨_, by assumption⟩) | (intro hh; injection hh with hh1 hh2; omega)); done) | go_simp))
  have hzs9 := blocks_calls hb1 [w.heap.size] (by refine ⟨?_, trivial⟩ <;> first | with_reducible assumption | omega | (simp; omega) | (simp; done))
  try clear c00 c01 c02
  obtain ⟨c00, c01, c02, -⟩ := hcs9
  obtain ⟨z0, -⟩ := hzs9
  have hs1 := hb1.size
  have o10 := z0
  go_wp2_with fail
  refine (ls_SquareTrail_s F t N f b _ (unhide hN) (unhide hF) (unhide hB)).mono ?_
  rintro e w2 ⟨a1, d1, rfl, i1, hb2⟩
  have hcs9 := cells_calls hb2 [⟨w.heap.size, 0, none⟩, ⟨w.heap.size, 1, none⟩, ⟨w.heap.size, 2, none⟩] [.int .i64 (F.1), .int .i64 (F.2.1), .int .i64 (F.2.2)] (by refine ⟨?_, ?_, ?_, trivial⟩ <;> (first | with_reducible assumption | ((repeat' first | with_reducible (first | assumption | refine cell_al _ ?_ | refine cell_eq _ ?_ | refine cell_ne _ ?_ ?_ | refine ex_set _ ?_ | refine ex_al _ ?_ | exact ⟨_, by assumption⟩) | (intro hh; injection hh with hh1 hh2; omega)); done) | go_simp))
  have hzs9 := blocks_calls hb2 [w.heap.size] (by refine ⟨?_, trivial⟩ <;> first | with_reducible assumption | omega | (simp; omega) | (simp; done))
  try clear c00 c01 c02
  obtain ⟨c00, c01, c02, -⟩ := hcs9
  obtain ⟨z0, -⟩ := hzs9
  have hs2 := hb2.size
  go_wp2_with fail
  refine (toForm_w F _).mono ?_
  rintro en w3 ⟨rfl, hb3⟩
  have hcs9 := cells_calls hb3 [⟨w.heap.size, 0, none⟩, ⟨w.heap.size, 1, none⟩, ⟨w.heap.size, 2, none⟩] [.int .i64 (F.1), .int .i64 (F.2.1), .int .i64 (F.2.2)] (by refine ⟨?_, ?_, ?_, trivial⟩ <;> (first | with_reducible assumption | ((repeat' first | with_reducible (first | assumption | refine cell_al _ ?_ | refine cell_eq _ ?_ | refine cell_ne _ ?_ ?_ | refine ex_set _ ?_ | refine ex_al _ ?_ | exact ⟨_, by assumption⟩) | (intro hh; injection hh with hh1 hh2; omega)); done) | go_simp))
  have hzs9 := blocks_calls hb3 [w.heap.size] (by refine ⟨?_, trivial⟩ <;> first | with_reducible assumption | omega | (simp; omega) | (simp; done))
  try clear c00 c01 c02
  obtain ⟨c00, c01, c02, -⟩ := hcs9
  obtain ⟨z0, -⟩ := hzs9
  have hs3 := hb3.size
  have o30 := z0
  go_wp2_with fail
  refine (ls_SquareTrail_i F t N f b _ i0 (unhide hN) (unhide hF) (unhide hB)).mono ?_
  rintro e w4 ⟨a2, d2, rfl, i2, hb4⟩
  have hcs9 := cells_calls hb4 [⟨w.heap.size, 0, none⟩, ⟨w.heap.size, 1, none⟩, ⟨w.heap.size, 2, none⟩] [.int .i64 (F.1), .int .i64 (F.2.1), .int .i64 (F.2.2)] (by refine ⟨?_, ?_, ?_, trivial⟩ <;> (first | with_reducible assumption | ((repeat' first | with_reducible (first | assumption | refine cell_al _ ?_ | refine cell_eq _ ?_ | refine cell_ne _ ?_ ?_ | refine ex_set _ ?_ | refine ex_al _ ?_ | exact ⟨_, by assumption⟩) | (intro hh; injection hh with hh1 hh2; omega)); done) | go_simp))
  have hzs9 := blocks_calls hb4 [w.heap.size] (by refine ⟨?_, trivial⟩ <;> first | with_reducible assumption | omega | (simp; omega) | (simp; done))
  try clear c00 c01 c02
  obtain ⟨c00, c01, c02, -⟩ := hcs9
  obtain ⟨z0, -⟩ := hzs9
  have hs4 := hb4.size
  have j1 := (i1.below hb3 (Nat.le_refl _)).below hb4 hs3
  go_wp2_with fail
  refine (eqFormS_any a2 a1 _ _ _ _ N d2 d1 f w4 hn i2 j1).mono ?_
  rintro e w5 ⟨rfl, hb5⟩
  have hcs9 := cells_calls hb5 [⟨w.heap.size, 0, none⟩, ⟨w.heap.size, 1, none⟩, ⟨w.heap.size, 2, none⟩] [.int .i64 (F.1), .int .i64 (F.2.1), .int .i64 (F.2.2)] (by refine ⟨?_, ?_, ?_, trivial⟩ <;> (first | with_reducible assumption | ((repeat' first | with_reducible (first | assumption | refine cell_al _ ?_ | refine cell_eq _ ?_ | refine cell_ne _ ?_ ?_ | refine ex_set _ ?_ | refine ex_al _ ?_ | exact ⟨_, by assumption⟩) | (intro hh; injection hh with hh1 hh2; omega)); done) | go_simp))
  have hzs9 := blocks_calls hb5 [w.heap.size] (by refine ⟨?_, trivial⟩ <;> first | with_reducible assumption | omega | (simp; omega) | (simp; done))
  try clear c00 c01 c02
  obtain ⟨c00, c01, c02, -⟩ := hcs9
  obtain ⟨z0, -⟩ := hzs9
  have hs5 := hb5.size
  have k2 := i2.below hb5 (Nat.le_refl _)
  have l1 := j1.below hb5 (Nat.le_trans hs3 hs4)
  go_wp2_with fail
  refine (markFormS_any a2 w3.heap.size w4.heap.size N d2 1 f w5 hn (by omega) k2).mono ?_
  rintro e w6 ⟨rfl, i4, h4, s4, b6⟩
  have S4 := hide s4
  clear s4
  have zz : w.heap.size < w3.heap.size := o30
  have e0 : w6.cell? ⟨w.heap.size, 0, none⟩ = some (.int .i64 F.1) := by rw [b6.cell zz]; exact c00
  have e1 : w6.cell? ⟨w.heap.size, 1, none⟩ = some (.int .i64 F.2.1) := by rw [b6.cell zz]; exact c01
  have e2 : w6.cell? ⟨w.heap.size, 2, none⟩ = some (.int .i64 F.2.2) := by rw [b6.cell zz]; exact c02
  clear c00 c01 c02
  have c00 := e0
  have c01 := e1
  have c02 := e2
  clear e0 e1 e2
  have zy : w.heap.size < w6.heap.size := by have := unhide S4; omega
  go_wp2_with fail
  refine (heldFormS_any a2 w3.heap.size w4.heap.size N d2 1 w6 hn (by omega) i4).mono ?_
  rintro e w6' ⟨rfl, rfl⟩
  have hs36 : w3.heap.size ≤ w6.heap.size := by have := unhide S4; omega
  have hs46 : w4.heap.size ≤ w6.heap.size := by have := unhide S4; omega
  go_wp2_with fail
  refine (toForm_w F _).mono ?_
  rintro en w7 ⟨rfl, hb7⟩
  have hcs9 := cells_calls hb7 [⟨w.heap.size, 0, none⟩, ⟨w.heap.size, 1, none⟩, ⟨w.heap.size, 2, none⟩] [.int .i64 (F.1), .int .i64 (F.2.1), .int .i64 (F.2.2)] (by refine ⟨?_, ?_, ?_, trivial⟩ <;> (first | with_reducible assumption | ((repeat' first | with_reducible (first | assumption | refine cell_al _ ?_ | refine cell_eq _ ?_ | refine cell_ne _ ?_ ?_ | refine ex_set _ ?_ | refine ex_al _ ?_ | exact ⟨_, by assumption⟩) | (intro hh; injection hh with hh1 hh2; omega)); done) | go_simp))
  have hzs9 := blocks_calls hb7 [w.heap.size] (by refine ⟨?_, trivial⟩ <;> first | with_reducible assumption | omega | (simp; omega) | (simp; done))
  try clear c00 c01 c02
  obtain ⟨c00, c01, c02, -⟩ := hcs9
  obtain ⟨z0, -⟩ := hzs9
  have hs7 := hb7.size
  have o70 := z0
  go_wp2_with fail
  refine (ls_SquareTrail_i F t N f b _ i0 (unhide hN) (unhide hF) (unhide hB)).mono ?_
  rintro e w8 ⟨a6, d6, rfl, i6, hb8⟩
  have hs8 := hb8.size
  have m1 : FormsAt w8 w1.heap.size w2.heap.size a1 N f := ((l1.keep (w' := w6) (fun k _ h2 => h4 k (Nat.lt_of_lt_of_le h2 hs3))).below hb7 (Nat.le_trans hs3 hs36)).below hb8 (Nat.le_trans hs3 (Nat.le_trans hs36 hs7))
  have m2 : FormsAt w8 w3.heap.size w4.heap.size a2 N (fun i => ((1 : Nat) : Int) + i) := (i4.below hb7 hs46).below hb8 (Nat.le_trans hs46 hs7)
  go_wp2_with fail
  refine (eqFormS_any a6 a1 _ _ _ _ N d6 d1 f w8 hn i6 m1).mono ?_
  rintro e w9 ⟨rfl, hb9⟩
  have m3 := m2.below hb9 (Nat.le_trans hs46 (Nat.le_trans hs7 hs8))
  go_wp2_with fail
  refine (heldFormS_any a2 w3.heap.size w4.heap.size N d2 1 w9 hn (by omega) m3).mono ?_
  rintro e w9' ⟨rfl, rfl⟩
  have g1 : Below w.heap.size w w1 := by (repeat' first | with_reducible (first | exact Below.refl _ _ | assumption | refine gr_alloc ?_ _ | refine below_drewN ?_ _ | refine below_drew ?_ | refine gr_call ?_ (by assumption) | refine Below.setCell ?_ ?_ _) | go_size | omega | (simp; omega))
  have g5 : Below w.heap.size w w5 := (((g1.trans (hb2.mono g1.size)).trans (hb3.mono (Nat.le_trans g1.size hs2))).trans (hb4.mono (Nat.le_trans g1.size (Nat.le_trans hs2 hs3)))).trans (hb5.mono (Nat.le_trans g1.size (Nat.le_trans hs2 (Nat.le_trans hs3 hs4))))
  have g6 : Below w.heap.size w w6 := g5.trans (b6.mono (Nat.le_trans g1.size (Nat.le_trans hs2 hs3)))
  have g9 : Below w.heap.size w w9 := ((g6.trans (hb7.mono g6.size)).trans (hb8.mono (Nat.le_trans g6.size hs7))).trans (hb9.mono (Nat.le_trans g6.size (Nat.le_trans hs7 hs8)))
  go_wp2
  go_ret
  exact ⟨rfl, g9⟩
end Go.Proofs.Ytninagdclibmnaa
