/-
  The law of HalvingProof.
-/
import Derived.Test.YtninagdclibmnaaHp
import Derived.Test.YtninagdclibmnaaTo
namespace Go.Proofs.Ytninagdclibmnaa
open Go.RowKit
set_option linter.unusedVariables false
set_option linter.unusedSimpArgs false
attribute [local go_sem] q2 q3 q4 q5 q6 q7 q8 q9 q10 q11 q12

theorem lhp_s (F X : T3) (k : Int) (N : Nat) (f : Nat → Int) (b : Bool) (w : World)  (hX : hpV F k = X) (hN : hpN F k = N) (hF : hpF F k = f) (hB : hpB F k = b) : Calls Try.prog 33 #[frm F, .int .i64 k] w (RetFForms w X N f b) := by
  subst hX hN hF hB; exact specHalvingProof F k w
theorem lhp_i (F X : T3) (k : Int) (N : Nat) (f : Nat → Int) (b : Bool) (w : World) (i0 : I64T F) (hX : hpV F k = X) (hN : hpN F k = N) (hF : hpF F k = f) (hB : hpB F k = b) : Calls Try.prog 34 #[frm F, .int .i64 k] w (RetFForms w X N f b) := by
  subst hX hN hF hB; exact implHalvingProof F k w i0
set_option maxRecDepth 100000 in
set_option maxHeartbeats 4000000 in
theorem lawHalvingProof (F : T3) (k : Int) (w : World) (i0 : I64T F) : Calls Try.prog 9 #[frm F, .int .i64 k] w fun e w' => e = .returned (.bool true) ∧ Below w.heap.size w w' := by
  have hn := hpN_le F k
  obtain ⟨X, hX⟩ : ∃ X, hpV F k = X := ⟨_, rfl⟩
  obtain ⟨N, hN⟩ : ∃ N, hpN F k = N := ⟨_, rfl⟩
  obtain ⟨f, hF⟩ : ∃ f, hpF F k = f := ⟨_, rfl⟩
  obtain ⟨b, hB⟩ : ∃ b, hpB F k = b := ⟨_, rfl⟩
  rw [hN] at hn
  replace hX := hide hX
  replace hN := hide hN
  replace hF := hide hF
  replace hB := hide hB
  go_enter Try.func9, Try.ntmps9
  go_wp2_with fail
  refine (toForm_w F _).mono ?_
  rintro en w1 ⟨rfl, hb1⟩
  have hcs9 := cells_calls hb1 [⟨w.heap.size, 0, none⟩, ⟨w.heap.size, 1, none⟩, ⟨w.heap.size, 2, none⟩] [.int .i64 (F.1), .int .i64 (F.2.1), .int .i64 (F.2.2)] (by refine ⟨?_, ?_, ?_, trivial⟩ <;> (first | with_reducible assumption | ((repeat' first | with_reducible (first | assumption | refine cell_al _ ?_ | refine cell_eq _ ?_ | refine cell_ne _ ?_ ?_ | refine ex_set _ ?_ | refine ex_al _ ?_ | exact ⟨_, by assumption⟩) | (intro hh; injection hh with hh1 hh2; omega)); done) | go_simp))
  have hzs9 := blocks_calls hb1 [w.heap.size] (by refine ⟨?_, trivial⟩ <;> first | with_reducible assumption | omega | (simp; omega) | (simp; done))
  try clear c00 c01 c02
  obtain ⟨c00, c01, c02, -⟩ := hcs9
  obtain ⟨z0, -⟩ := hzs9
  have hs1 := hb1.size
  have o10 := z0
  go_wp2_with fail
  refine (lhp_s F X k N f b _ (unhide hX) (unhide hN) (unhide hF) (unhide hB)).mono ?_
  rintro e w2 ⟨a1, d1, rfl, i1, hb2⟩
  have hcs9 := cells_calls hb2 [⟨w.heap.size, 0, none⟩, ⟨w.heap.size, 1, none⟩, ⟨w.heap.size, 2, none⟩] [.int .i64 (F.1), .int .i64 (F.2.1), .int .i64 (F.2.2)] (by refine ⟨?_, ?_, ?_, trivial⟩ <;> (first | with_reducible assumption | ((repeat' first | with_reducible (first | assumption | refine cell_al _ ?_ | refine cell_eq _ ?_ | refine cell_ne _ ?_ ?_ | refine ex_set _ ?_ | refine ex_al _ ?_ | exact ⟨_, by assumption⟩) | (intro hh; injection hh with hh1 hh2; omega)); done) | go_simp))
  have hzs9 := blocks_calls hb2 [w.heap.size] (by refine ⟨?_, trivial⟩ <;> first | with_reducible assumption | omega | (simp; omega) | (simp; done))
  try clear c00 c01 c02
  obtain ⟨c00, c01, c02, -⟩ := hcs9
  obtain ⟨z0, -⟩ := hzs9
  have hs2 := hb2.size
  have g2 : Below w.heap.size w w2 := by (repeat' first | with_reducible (first | exact Below.refl _ _ | assumption | refine gr_alloc ?_ _ | refine below_drewN ?_ _ | refine below_drew ?_ | refine gr_call ?_ (by assumption) | refine Below.setCell ?_ ?_ _) | go_size | omega | (simp; omega))
  go_wp2_with fail
  refine (toForm_w F _).mono ?_
  rintro en w3 ⟨rfl, hb3⟩
  have hcs9 := cells_calls hb3 [⟨w.heap.size, 0, none⟩, ⟨w.heap.size, 1, none⟩, ⟨w.heap.size, 2, none⟩, ⟨w2.heap.size, 0, none⟩, ⟨w2.heap.size, 1, none⟩, ⟨w2.heap.size, 2, none⟩] [.int .i64 (F.1), .int .i64 (F.2.1), .int .i64 (F.2.2), .int .i64 (X.1), .int .i64 (X.2.1), .int .i64 (X.2.2)] (by refine ⟨?_, ?_, ?_, ?_, ?_, ?_, trivial⟩ <;> (first | with_reducible assumption | ((repeat' first | with_reducible (first | assumption | refine cell_al _ ?_ | refine cell_eq _ ?_ | refine cell_ne _ ?_ ?_ | refine ex_set _ ?_ | refine ex_al _ ?_ | exact ⟨_, by assumption⟩) | (intro hh; injection hh with hh1 hh2; omega)); done) | go_simp))
  have hzs9 := blocks_calls hb3 [w.heap.size, w2.heap.size] (by refine ⟨?_, ?_, trivial⟩ <;> first | with_reducible assumption | omega | (simp; omega) | (simp; done))
  try clear c00 c01 c02
  try clear c10 c11 c12
  obtain ⟨c00, c01, c02, c10, c11, c12, -⟩ := hcs9
  obtain ⟨z0, z1, -⟩ := hzs9
  have hs3 := hb3.size
  have o30 := z0
  have o31 := z1
  have q3 : Below w2.heap.size w2 w3 := by (repeat' first | with_reducible (first | exact Below.refl _ _ | assumption | refine gr_alloc ?_ _ | refine below_drewN ?_ _ | refine below_drew ?_ | refine gr_call ?_ (by assumption) | refine Below.setCell ?_ ?_ _) | go_size | omega | (simp; omega))
  have g3 : Below w.heap.size w w3 := g2.trans (q3.mono g2.size)
  have hs3' := q3.size
  go_wp2_with fail
  refine (lhp_i F X k N f b _ i0 (unhide hX) (unhide hN) (unhide hF) (unhide hB)).mono ?_
  rintro e w4 ⟨a2, d2, rfl, i2, hb4⟩
  have hcs9 := cells_calls hb4 [⟨w.heap.size, 0, none⟩, ⟨w.heap.size, 1, none⟩, ⟨w.heap.size, 2, none⟩, ⟨w2.heap.size, 0, none⟩, ⟨w2.heap.size, 1, none⟩, ⟨w2.heap.size, 2, none⟩] [.int .i64 (F.1), .int .i64 (F.2.1), .int .i64 (F.2.2), .int .i64 (X.1), .int .i64 (X.2.1), .int .i64 (X.2.2)] (by refine ⟨?_, ?_, ?_, ?_, ?_, ?_, trivial⟩ <;> (first | with_reducible assumption | ((repeat' first | with_reducible (first | assumption | refine cell_al _ ?_ | refine cell_eq _ ?_ | refine cell_ne _ ?_ ?_ | refine ex_set _ ?_ | refine ex_al _ ?_ | exact ⟨_, by assumption⟩) | (intro hh; injection hh with hh1 hh2; omega)); done) | go_simp))
  have hzs9 := blocks_calls hb4 [w.heap.size, w2.heap.size] (by refine ⟨?_, ?_, trivial⟩ <;> first | with_reducible assumption | omega | (simp; omega) | (simp; done))
  try clear c00 c01 c02
  try clear c10 c11 c12
  obtain ⟨c00, c01, c02, c10, c11, c12, -⟩ := hcs9
  obtain ⟨z0, z1, -⟩ := hzs9
  have hs4 := hb4.size
  have g4 : Below w.heap.size w w4 := g3.trans (hb4.mono g3.size)
  have j1 := i1.below (q3.trans (hb4.mono hs3')) (Nat.le_refl _)
  go_wp2_with fail
  refine (eqForm_same (X.1) (X.2.1) (X.2.2) _).mono ?_
  rintro en w5 ⟨rfl, hb5⟩
  have hcs9 := cells_calls hb5 [⟨w.heap.size, 0, none⟩, ⟨w.heap.size, 1, none⟩, ⟨w.heap.size, 2, none⟩, ⟨w2.heap.size, 0, none⟩, ⟨w2.heap.size, 1, none⟩, ⟨w2.heap.size, 2, none⟩, ⟨w4.heap.size, 0, none⟩, ⟨w4.heap.size, 1, none⟩, ⟨w4.heap.size, 2, none⟩] [.int .i64 (F.1), .int .i64 (F.2.1), .int .i64 (F.2.2), .int .i64 (X.1), .int .i64 (X.2.1), .int .i64 (X.2.2), .int .i64 (X.1), .int .i64 (X.2.1), .int .i64 (X.2.2)] (by refine ⟨?_, ?_, ?_, ?_, ?_, ?_, ?_, ?_, ?_, trivial⟩ <;> (first | with_reducible assumption | ((repeat' first | with_reducible (first | assumption | refine cell_al _ ?_ | refine cell_eq _ ?_ | refine cell_ne _ ?_ ?_ | refine ex_set _ ?_ | refine ex_al _ ?_ | exact ⟨_, by assumption⟩) | (intro hh; injection hh with hh1 hh2; omega)); done) | go_simp))
  have hzs9 := blocks_calls hb5 [w.heap.size, w2.heap.size, w4.heap.size] (by refine ⟨?_, ?_, ?_, trivial⟩ <;> first | with_reducible assumption | omega | (simp; omega) | (simp; done))
  try clear c00 c01 c02
  try clear c10 c11 c12
  try clear c20 c21 c22
  obtain ⟨c00, c01, c02, c10, c11, c12, c20, c21, c22, -⟩ := hcs9
  obtain ⟨z0, z1, z2, -⟩ := hzs9
  have hs5 := hb5.size
  have o50 := z0
  have o51 := z1
  have o52 := z2
  have q5 : Below w4.heap.size w4 w5 := by (repeat' first | with_reducible (first | exact Below.refl _ _ | assumption | refine gr_alloc ?_ _ | refine below_drewN ?_ _ | refine below_drew ?_ | refine gr_call ?_ (by assumption) | refine Below.setCell ?_ ?_ _) | go_size | omega | (simp; omega))
  have g5 : Below w.heap.size w w5 := g4.trans (q5.mono g4.size)
  have hs5' := q5.size
  have k2 := i2.below q5 (Nat.le_refl _)
  have l1 := j1.below q5 (Nat.le_trans hs3' hs4)
  go_wp2_with fail
  refine (eqFormS_any a2 a1 _ _ _ _ N d2 d1 f w5 hn k2 l1).mono ?_
  rintro e w6 ⟨rfl, hb6⟩
  have hcs9 := cells_calls hb6 [⟨w.heap.size, 0, none⟩, ⟨w.heap.size, 1, none⟩, ⟨w.heap.size, 2, none⟩, ⟨w2.heap.size, 0, none⟩, ⟨w2.heap.size, 1, none⟩, ⟨w2.heap.size, 2, none⟩] [.int .i64 (F.1), .int .i64 (F.2.1), .int .i64 (F.2.2), .int .i64 (X.1), .int .i64 (X.2.1), .int .i64 (X.2.2)] (by refine ⟨?_, ?_, ?_, ?_, ?_, ?_, trivial⟩ <;> (first | with_reducible assumption | ((repeat' first | with_reducible (first | assumption | refine cell_al _ ?_ | refine cell_eq _ ?_ | refine cell_ne _ ?_ ?_ | refine ex_set _ ?_ | refine ex_al _ ?_ | exact ⟨_, by assumption⟩) | (intro hh; injection hh with hh1 hh2; omega)); done) | go_simp))
  have hzs9 := blocks_calls hb6 [w.heap.size, w2.heap.size] (by refine ⟨?_, ?_, trivial⟩ <;> first | with_reducible assumption | omega | (simp; omega) | (simp; done))
  try clear c00 c01 c02
  try clear c10 c11 c12
  obtain ⟨c00, c01, c02, c10, c11, c12, -⟩ := hcs9
  obtain ⟨z0, z1, -⟩ := hzs9
  have hs6 := hb6.size
  have g6 : Below w.heap.size w w6 := g5.trans (hb6.mono g5.size)
  have k3 := k2.below hb6 hs5'
  have l2 := l1.below hb6 (Nat.le_trans hs3' (Nat.le_trans hs4 hs5'))
  go_wp2_with fail
  refine (markFormS_any a2 w3.heap.size w4.heap.size N d2 1 f w6 hn (by omega) k3).mono ?_
  rintro e w7 ⟨rfl, i4, h4, s4, b7⟩
  have S4 := hide s4
  clear s4
  have zz0 : w.heap.size < w3.heap.size := o30
  have zz1 : w2.heap.size < w3.heap.size := o31
  have e00 : w7.cell? ⟨w.heap.size, 0, none⟩ = some (.int .i64 F.1) := by rw [b7.cell zz0]; exact c00
  have e01 : w7.cell? ⟨w.heap.size, 1, none⟩ = some (.int .i64 F.2.1) := by rw [b7.cell zz0]; exact c01
  have e02 : w7.cell? ⟨w.heap.size, 2, none⟩ = some (.int .i64 F.2.2) := by rw [b7.cell zz0]; exact c02
  have e10 : w7.cell? ⟨w2.heap.size, 0, none⟩ = some (.int .i64 X.1) := by rw [b7.cell zz1]; exact c10
  have e11 : w7.cell? ⟨w2.heap.size, 1, none⟩ = some (.int .i64 X.2.1) := by rw [b7.cell zz1]; exact c11
  have e12 : w7.cell? ⟨w2.heap.size, 2, none⟩ = some (.int .i64 X.2.2) := by rw [b7.cell zz1]; exact c12
  clear c00 c01 c02 c10 c11 c12
  have c00 := e00
  have c01 := e01
  have c02 := e02
  have c10 := e10
  have c11 := e11
  have c12 := e12
  clear e00 e01 e02 e10 e11 e12
  have hs36 : w3.heap.size ≤ w7.heap.size := by have := unhide S4; omega
  have hs46 : w4.heap.size ≤ w7.heap.size := by have := unhide S4; omega
  have zy0 : w.heap.size < w7.heap.size := by omega
  have zy1 : w2.heap.size < w7.heap.size := by omega
  have g7 : Below w.heap.size w w7 := g6.trans (b7.mono g3.size)
  go_wp2_with fail
  refine (heldFormS_any a2 w3.heap.size w4.heap.size N d2 1 w7 hn (by omega) i4).mono ?_
  rintro e w7' ⟨rfl, rfl⟩
  go_wp2_with fail
  refine (toForm_w F _).mono ?_
  rintro en w8 ⟨rfl, hb8⟩
  have hcs9 := cells_calls hb8 [⟨w.heap.size, 0, none⟩, ⟨w.heap.size, 1, none⟩, ⟨w.heap.size, 2, none⟩, ⟨w2.heap.size, 0, none⟩, ⟨w2.heap.size, 1, none⟩, ⟨w2.heap.size, 2, none⟩] [.int .i64 (F.1), .int .i64 (F.2.1), .int .i64 (F.2.2), .int .i64 (X.1), .int .i64 (X.2.1), .int .i64 (X.2.2)] (by refine ⟨?_, ?_, ?_, ?_, ?_, ?_, trivial⟩ <;> (first | with_reducible assumption | ((repeat' first | with_reducible (first | assumption | refine cell_al _ ?_ | refine cell_eq _ ?_ | refine cell_ne _ ?_ ?_ | refine ex_set _ ?_ | refine ex_al _ ?_ | exact ⟨_, by assumption⟩) | (intro hh; injection hh with hh1 hh2; omega)); done) | go_simp))
  have hzs9 := blocks_calls hb8 [w.heap.size, w2.heap.size] (by refine ⟨?_, ?_, trivial⟩ <;> first | with_reducible assumption | omega | (simp; omega) | (simp; done))
  try clear c00 c01 c02
  try clear c10 c11 c12
  obtain ⟨c00, c01, c02, c10, c11, c12, -⟩ := hcs9
  obtain ⟨z0, z1, -⟩ := hzs9
  have hs8 := hb8.size
  have o80 := z0
  have o81 := z1
  have g8 : Below w.heap.size w w8 := g7.trans (hb8.mono g7.size)
  go_wp2_with fail
  refine (lhp_i F X k N f b _ i0 (unhide hX) (unhide hN) (unhide hF) (unhide hB)).mono ?_
  rintro e w10 ⟨a6, d6, rfl, i6, hb10⟩
  have hcs9 := cells_calls hb10 [⟨w.heap.size, 0, none⟩, ⟨w.heap.size, 1, none⟩, ⟨w.heap.size, 2, none⟩, ⟨w2.heap.size, 0, none⟩, ⟨w2.heap.size, 1, none⟩, ⟨w2.heap.size, 2, none⟩] [.int .i64 (F.1), .int .i64 (F.2.1), .int .i64 (F.2.2), .int .i64 (X.1), .int .i64 (X.2.1), .int .i64 (X.2.2)] (by refine ⟨?_, ?_, ?_, ?_, ?_, ?_, trivial⟩ <;> (first | with_reducible assumption | ((repeat' first | with_reducible (first | assumption | refine cell_al _ ?_ | refine cell_eq _ ?_ | refine cell_ne _ ?_ ?_ | refine ex_set _ ?_ | refine ex_al _ ?_ | exact ⟨_, by assumption⟩) | (intro hh; injection hh with hh1 hh2; omega)); done) | go_simp))
  have hzs9 := blocks_calls hb10 [w.heap.size, w2.heap.size] (by refine ⟨?_, ?_, trivial⟩ <;> first | with_reducible assumption | omega | (simp; omega) | (simp; done))
  try clear c00 c01 c02
  try clear c10 c11 c12
  obtain ⟨c00, c01, c02, c10, c11, c12, -⟩ := hcs9
  obtain ⟨z0, z1, -⟩ := hzs9
  have hs10 := hb10.size
  have g10 : Below w.heap.size w w10 := g8.trans (hb10.mono g8.size)
  go_wp2_with fail
  refine (eqForm_same (X.1) (X.2.1) (X.2.2) _).mono ?_
  rintro en w11 ⟨rfl, hb11⟩
  have hcs9 := cells_calls hb11 [⟨w.heap.size, 0, none⟩, ⟨w.heap.size, 1, none⟩, ⟨w.heap.size, 2, none⟩, ⟨w2.heap.size, 0, none⟩, ⟨w2.heap.size, 1, none⟩, ⟨w2.heap.size, 2, none⟩, ⟨w10.heap.size, 0, none⟩, ⟨w10.heap.size, 1, none⟩, ⟨w10.heap.size, 2, none⟩] [.int .i64 (F.1), .int .i64 (F.2.1), .int .i64 (F.2.2), .int .i64 (X.1), .int .i64 (X.2.1), .int .i64 (X.2.2), .int .i64 (X.1), .int .i64 (X.2.1), .int .i64 (X.2.2)] (by refine ⟨?_, ?_, ?_, ?_, ?_, ?_, ?_, ?_, ?_, trivial⟩ <;> (first | with_reducible assumption | ((repeat' first | with_reducible (first | assumption | refine cell_al _ ?_ | refine cell_eq _ ?_ | refine cell_ne _ ?_ ?_ | refine ex_set _ ?_ | refine ex_al _ ?_ | exact ⟨_, by assumption⟩) | (intro hh; injection hh with hh1 hh2; omega)); done) | go_simp))
  have hzs9 := blocks_calls hb11 [w.heap.size, w2.heap.size, w10.heap.size] (by refine ⟨?_, ?_, ?_, trivial⟩ <;> first | with_reducible assumption | omega | (simp; omega) | (simp; done))
  try clear c00 c01 c02
  try clear c10 c11 c12
  try clear c20 c21 c22
  obtain ⟨c00, c01, c02, c10, c11, c12, c20, c21, c22, -⟩ := hcs9
  obtain ⟨z0, z1, z2, -⟩ := hzs9
  have hs11 := hb11.size
  have o110 := z0
  have o111 := z1
  have o112 := z2
  have q11 : Below w10.heap.size w10 w11 := by (repeat' first | with_reducible (first | exact Below.refl _ _ | assumption | refine gr_alloc ?_ _ | refine below_drewN ?_ _ | refine below_drew ?_ | refine gr_call ?_ (by assumption) | refine Below.setCell ?_ ?_ _) | go_size | omega | (simp; omega))
  have hs11' := q11.size
  have g11 : Below w.heap.size w w11 := g10.trans (q11.mono g10.size)
  have m1 : FormsAt w11 w1.heap.size w2.heap.size a1 N f := (((l2.keep (w' := w7) (fun k _ h2 => h4 k (Nat.lt_of_lt_of_le h2 hs3'))).below hb8 (by omega)).below hb10 (by omega)).below q11 (by omega)
  have m2 : FormsAt w11 w3.heap.size w4.heap.size a2 N (fun i => ((1 : Nat) : Int) + i) := ((i4.below hb8 hs46).below hb10 (Nat.le_trans hs46 hs8)).below q11 (by omega)
  have m6 := i6.below q11 (Nat.le_refl _)
  go_wp2_with fail
  refine (eqFormS_any a6 a1 _ _ _ _ N d6 d1 f w11 hn m6 m1).mono ?_
  rintro e w12 ⟨rfl, hb12⟩
  have m3 := m2.below hb12 (by omega)
  go_wp2_with fail
  refine (heldFormS_any a2 w3.heap.size w4.heap.size N d2 1 w12 hn (by omega) m3).mono ?_
  rintro e w12' ⟨rfl, rfl⟩
  have g12 : Below w.heap.size w w12 := g11.trans (hb12.mono g11.size)
  go_wp2
  go_ret
  exact ⟨rfl, g12⟩
end Go.Proofs.Ytninagdclibmnaa
