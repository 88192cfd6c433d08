/-
  The laws of SquareRepeatedly, DelayProof.
-/
import Derived.Test.YtninagdclibmnaaDp
import Derived.Test.YtninagdclibmnaaFormS
namespace Go.Proofs.Ytninagdclibmnaa
open Go.RowKit
set_option linter.unusedVariables false
set_option linter.unusedSimpArgs false
attribute [local go_sem] q2 q3 q4 q5 q6 q7 q8 q9 q10 q11 q12

theorem toForm_w (F : T3) (w : World) : Calls Try.prog 17 #[frm F] w fun e w' => e = .returned (frm F) ∧ Below w.heap.size w w' := by
  go_enter Try.func17, Try.ntmps17
  go_wp2
  refine bodyPost_ret (v := frm F) (by simp [results, Try.results17, go_sem, *]) rfl ?_
  exact ⟨rfl, by (repeat' first | with_reducible (first | exact Below.refl _ _ | assumption | refine gr_alloc ?_ _ | refine below_drewN ?_ _ | refine below_drew ?_ | refine gr_call ?_ (by assumption) | refine Below.setCell ?_ ?_ _) | go_size | omega | (simp; omega))⟩

set_option maxRecDepth 100000 in
set_option maxHeartbeats 1500000 in
theorem lawSquareRepeatedly (F : T3) (t : Int) (w : World) (i1 : I64T F) : Calls Try.prog 5 #[frm F, .int .i64 t] w fun e w' => e = .returned (.bool true) ∧ Below w.heap.size w w' := by
  go_enter Try.func5, Try.ntmps5
  go_wp2_with fail
  refine (toForm_w F _).mono ?_
  rintro en w1 ⟨rfl, hb1⟩
  have hcs9 := cells_calls hb1 [⟨w.heap.size, 0, none⟩, ⟨w.heap.size, 1, none⟩, ⟨w.heap.size, 2, none⟩] [.int .i64 (F.1), .int .i64 (F.2.1), .int .i64 (F.2.2)] (by refine ⟨?_, ?_, ?_, trivial⟩ <;> (first | with_reducible assumption | ((repeat' first | with_reducible (first | assumption | refine cell_al _ ?_ | refine cell_eq _ ?_ | refine cell_ne _ ?_ ?_ | refine ex_set _ ?_ | refine ex_al _ ?_ | exact ⟨_, by assumption⟩) | (intro hh; injection hh with hh1 hh2; omega)); done) | go_simp))
  have hzs9 := blocks_calls hb1 [w.heap.size] (by refine ⟨?_, trivial⟩ <;> first | with_reducible assumption | omega | (simp; omega) | (simp; done))
  try clear c00 c01 c02
  obtain ⟨c00, c01, c02, -⟩ := hcs9
  obtain ⟨z0, -⟩ := hzs9
  have hs1 := hb1.size
  have o10 := z0
  go_wp2_with fail
  refine (specSquareRepeatedly F t _).mono ?_
  rintro en w2 ⟨rfl, hb2⟩
  have hcs9 := cells_calls hb2 [⟨w.heap.size, 0, none⟩, ⟨w.heap.size, 1, none⟩, ⟨w.heap.size, 2, none⟩] [.int .i64 (F.1), .int .i64 (F.2.1), .int .i64 (F.2.2)] (by refine ⟨?_, ?_, ?_, trivial⟩ <;> (first | with_reducible assumption | ((repeat' first | with_reducible (first | assumption | refine cell_al _ ?_ | refine cell_eq _ ?_ | refine cell_ne _ ?_ ?_ | refine ex_set _ ?_ | refine ex_al _ ?_ | exact ⟨_, by assumption⟩) | (intro hh; injection hh with hh1 hh2; omega)); done) | go_simp))
  have hzs9 := blocks_calls hb2 [w.heap.size] (by refine ⟨?_, trivial⟩ <;> first | with_reducible assumption | omega | (simp; omega) | (simp; done))
  try clear c00 c01 c02
  obtain ⟨c00, c01, c02, -⟩ := hcs9
  obtain ⟨z0, -⟩ := hzs9
  have hs2 := hb2.size
  have o20 := z0
  go_wp2_with fail
  refine (toForm_w F _).mono ?_
  rintro en w3 ⟨rfl, hb3⟩
  have hcs9 := cells_calls hb3 [⟨w.heap.size, 0, none⟩, ⟨w.heap.size, 1, none⟩, ⟨w.heap.size, 2, none⟩, ⟨w2.heap.size, 0, none⟩, ⟨w2.heap.size, 1, none⟩, ⟨w2.heap.size, 2, none⟩] [.int .i64 (F.1), .int .i64 (F.2.1), .int .i64 (F.2.2), .int .i64 (((srV F t)).1), .int .i64 (((srV F t)).2.1), .int .i64 (((srV F t)).2.2)] (by refine ⟨?_, ?_, ?_, ?_, ?_, ?_, trivial⟩ <;> (first | with_reducible assumption | ((repeat' first | with_reducible (first | assumption | refine cell_al _ ?_ | refine cell_eq _ ?_ | refine cell_ne _ ?_ ?_ | refine ex_set _ ?_ | refine ex_al _ ?_ | exact ⟨_, by assumption⟩) | (intro hh; injection hh with hh1 hh2; omega)); done) | go_simp))
  have hzs9 := blocks_calls hb3 [w.heap.size, w2.heap.size] (by refine ⟨?_, ?_, trivial⟩ <;> first | with_reducible assumption | omega | (simp; omega) | (simp; done))
  try clear c00 c01 c02
  try clear c10 c11 c12
  obtain ⟨c00, c01, c02, c10, c11, c12, -⟩ := hcs9
  obtain ⟨z0, z1, -⟩ := hzs9
  have hs3 := hb3.size
  have o30 := z0
  have o31 := z1
  go_wp2_with fail
  refine (implSquareRepeatedly F t _ i1).mono ?_
  rintro en w4 ⟨rfl, hb4⟩
  have hcs9 := cells_calls hb4 [⟨w.heap.size, 0, none⟩, ⟨w.heap.size, 1, none⟩, ⟨w.heap.size, 2, none⟩, ⟨w2.heap.size, 0, none⟩, ⟨w2.heap.size, 1, none⟩, ⟨w2.heap.size, 2, none⟩] [.int .i64 (F.1), .int .i64 (F.2.1), .int .i64 (F.2.2), .int .i64 (((srV F t)).1), .int .i64 (((srV F t)).2.1), .int .i64 (((srV F t)).2.2)] (by refine ⟨?_, ?_, ?_, ?_, ?_, ?_, trivial⟩ <;> (first | with_reducible assumption | ((repeat' first | with_reducible (first | assumption | refine cell_al _ ?_ | refine cell_eq _ ?_ | refine cell_ne _ ?_ ?_ | refine ex_set _ ?_ | refine ex_al _ ?_ | exact ⟨_, by assumption⟩) | (intro hh; injection hh with hh1 hh2; omega)); done) | go_simp))
  have hzs9 := blocks_calls hb4 [w.heap.size, w2.heap.size] (by refine ⟨?_, ?_, trivial⟩ <;> first | with_reducible assumption | omega | (simp; omega) | (simp; done))
  try clear c00 c01 c02
  try clear c10 c11 c12
  obtain ⟨c00, c01, c02, c10, c11, c12, -⟩ := hcs9
  obtain ⟨z0, z1, -⟩ := hzs9
  have hs4 := hb4.size
  have o40 := z0
  have o41 := z1
  go_wp2_with fail
  refine (eqForm_same (((srV F t)).1) (((srV F t)).2.1) (((srV F t)).2.2) _).mono ?_
  rintro en w5 ⟨rfl, hb5⟩
  have hcs9 := cells_calls hb5 [⟨w.heap.size, 0, none⟩, ⟨w.heap.size, 1, none⟩, ⟨w.heap.size, 2, none⟩, ⟨w2.heap.size, 0, none⟩, ⟨w2.heap.size, 1, none⟩, ⟨w2.heap.size, 2, none⟩, ⟨w4.heap.size, 0, none⟩, ⟨w4.heap.size, 1, none⟩, ⟨w4.heap.size, 2, none⟩] [.int .i64 (F.1), .int .i64 (F.2.1), .int .i64 (F.2.2), .int .i64 (((srV F t)).1), .int .i64 (((srV F t)).2.1), .int .i64 (((srV F t)).2.2), .int .i64 (((srV F t)).1), .int .i64 (((srV F t)).2.1), .int .i64 (((srV F t)).2.2)] (by refine ⟨?_, ?_, ?_, ?_, ?_, ?_, ?_, ?_, ?_, trivial⟩ <;> (first | with_reducible assumption | ((repeat' first | with_reducible (first | assumption | refine cell_al _ ?_ | refine cell_eq _ ?_ | refine cell_ne _ ?_ ?_ | refine ex_set _ ?_ | refine ex_al _ ?_ | exact ⟨_, by assumption⟩) | (intro hh; injection hh with hh1 hh2; omega)); done) | go_simp))
  have hzs9 := blocks_calls hb5 [w.heap.size, w2.heap.size, w4.heap.size] (by refine ⟨?_, ?_, ?_, trivial⟩ <;> first | with_reducible assumption | omega | (simp; omega) | (simp; done))
  try clear c00 c01 c02
  try clear c10 c11 c12
  try clear c20 c21 c22
  obtain ⟨c00, c01, c02, c10, c11, c12, c20, c21, c22, -⟩ := hcs9
  obtain ⟨z0, z1, z2, -⟩ := hzs9
  have hs5 := hb5.size
  have o50 := z0
  have o51 := z1
  have o52 := z2
  go_wp2
  go_ret
  exact ⟨rfl, by (repeat' first | with_reducible (first | exact Below.refl _ _ | assumption | refine gr_alloc ?_ _ | refine below_drewN ?_ _ | refine below_drew ?_ | refine gr_call ?_ (by assumption) | refine Below.setCell ?_ ?_ _) | go_size | omega | (simp; omega))⟩

set_option maxRecDepth 100000 in
set_option maxHeartbeats 1500000 in
theorem lawDelayProof (F : T3) (t : Int) (w : World) (i1 : I64T F) : Calls Try.prog 7 #[frm F, .int .i64 t] w fun e w' => e = .returned (.bool true) ∧ Below w.heap.size w w' := by
  go_enter Try.func7, Try.ntmps7
  go_wp2_with fail
  refine (toForm_w F _).mono ?_
  rintro en w1 ⟨rfl, hb1⟩
  have hcs9 := cells_calls hb1 [⟨w.heap.size, 0, none⟩, ⟨w.heap.size, 1, none⟩, ⟨w.heap.size, 2, none⟩] [.int .i64 (F.1), .int .i64 (F.2.1), .int .i64 (F.2.2)] (by refine ⟨?_, ?_, ?_, trivial⟩ <;> (first | with_reducible assumption | ((repeat' first | with_reducible (first | assumption | refine cell_al _ ?_ | refine cell_eq _ ?_ | refine cell_ne _ ?_ ?_ | refine ex_set _ ?_ | refine ex_al _ ?_ | exact ⟨_, by assumption⟩) | (intro hh; injection hh with hh1 hh2; omega)); done) | go_simp))
  have hzs9 := blocks_calls hb1 [w.heap.size] (by refine ⟨?_, trivial⟩ <;> first | with_reducible assumption | omega | (simp; omega) | (simp; done))
  try clear c00 c01 c02
  obtain ⟨c00, c01, c02, -⟩ := hcs9
  obtain ⟨z0, -⟩ := hzs9
  have hs1 := hb1.size
  have o10 := z0
  go_wp2_with fail
  refine (specDelayProof F t _).mono ?_
  rintro en w2 ⟨rfl, hb2⟩
  have hcs9 := cells_calls hb2 [⟨w.heap.size, 0, none⟩, ⟨w.heap.size, 1, none⟩, ⟨w.heap.size, 2, none⟩] [.int .i64 (F.1), .int .i64 (F.2.1), .int .i64 (F.2.2)] (by refine ⟨?_, ?_, ?_, trivial⟩ <;> (first | with_reducible assumption | ((repeat' first | with_reducible (first | assumption | refine cell_al _ ?_ | refine cell_eq _ ?_ | refine cell_ne _ ?_ ?_ | refine ex_set _ ?_ | refine ex_al _ ?_ | exact ⟨_, by assumption⟩) | (intro hh; injection hh with hh1 hh2; omega)); done) | go_simp))
  have hzs9 := blocks_calls hb2 [w.heap.size] (by refine ⟨?_, trivial⟩ <;> first | with_reducible assumption | omega | (simp; omega) | (simp; done))
  try clear c00 c01 c02
  obtain ⟨c00, c01, c02, -⟩ := hcs9
  obtain ⟨z0, -⟩ := hzs9
  have hs2 := hb2.size
  have o20 := z0
  go_wp2_with fail
  refine (toForm_w F _).mono ?_
  rintro en w3 ⟨rfl, hb3⟩
  have hcs9 := cells_calls hb3 [⟨w.heap.size, 0, none⟩, ⟨w.heap.size, 1, none⟩, ⟨w.heap.size, 2, none⟩, ⟨w2.heap.size, 0, none⟩, ⟨w2.heap.size, 1, none⟩, ⟨w2.heap.size, 2, none⟩, ⟨w2.heap.size + 1, 0, none⟩, ⟨w2.heap.size + 1, 1, none⟩, ⟨w2.heap.size + 1, 2, none⟩] [.int .i64 (F.1), .int .i64 (F.2.1), .int .i64 (F.2.2), .int .i64 (((srV F t)).1), .int .i64 (((srV F t)).2.1), .int .i64 (((srV F t)).2.2), .int .i64 (((dpV F t)).1), .int .i64 (((dpV F t)).2.1), .int .i64 (((dpV F t)).2.2)] (by refine ⟨?_, ?_, ?_, ?_, ?_, ?_, ?_, ?_, ?_, trivial⟩ <;> (first | with_reducible assumption | ((repeat' first | with_reducible (first | assumption | refine cell_al _ ?_ | refine cell_eq _ ?_ | refine cell_ne _ ?_ ?_ | refine ex_set _ ?_ | refine ex_al _ ?_ | exact ⟨_, by assumption⟩) | (intro hh; injection hh with hh1 hh2; omega)); done) | go_simp))
  have hzs9 := blocks_calls hb3 [w.heap.size, w2.heap.size, w2.heap.size + 1] (by refine ⟨?_, ?_, ?_, trivial⟩ <;> first | with_reducible assumption | omega | (simp; omega) | (simp; done))
  try clear c00 c01 c02
  try clear c10 c11 c12
  try clear c20 c21 c22
  obtain ⟨c00, c01, c02, c10, c11, c12, c20, c21, c22, -⟩ := hcs9
  obtain ⟨z0, z1, z2, -⟩ := hzs9
  have hs3 := hb3.size
  have o30 := z0
  have o31 := z1
  have o32 := z2
  go_wp2_with fail
  refine (implDelayProof F t _ i1).mono ?_
  rintro en w4 ⟨rfl, hb4⟩
  have hcs9 := cells_calls hb4 [⟨w.heap.size, 0, none⟩, ⟨w.heap.size, 1, none⟩, ⟨w.heap.size, 2, none⟩, ⟨w2.heap.size, 0, none⟩, ⟨w2.heap.size, 1, none⟩, ⟨w2.heap.size, 2, none⟩, ⟨w2.heap.size + 1, 0, none⟩, ⟨w2.heap.size + 1, 1, none⟩, ⟨w2.heap.size + 1, 2, none⟩] [.int .i64 (F.1), .int .i64 (F.2.1), .int .i64 (F.2.2), .int .i64 (((srV F t)).1), .int .i64 (((srV F t)).2.1), .int .i64 (((srV F t)).2.2), .int .i64 (((dpV F t)).1), .int .i64 (((dpV F t)).2.1), .int .i64 (((dpV F t)).2.2)] (by refine ⟨?_, ?_, ?_, ?_, ?_, ?_, ?_, ?_, ?_, trivial⟩ <;> (first | with_reducible assumption | ((repeat' first | with_reducible (first | assumption | refine cell_al _ ?_ | refine cell_eq _ ?_ | refine cell_ne _ ?_ ?_ | refine ex_set _ ?_ | refine ex_al _ ?_ | exact ⟨_, by assumption⟩) | (intro hh; injection hh with hh1 hh2; omega)); done) | go_simp))
  have hzs9 := blocks_calls hb4 [w.heap.size, w2.heap.size, w2.heap.size + 1] (by refine ⟨?_, ?_, ?_, trivial⟩ <;> first | with_reducible assumption | omega | (simp; omega) | (simp; done))
  try clear c00 c01 c02
  try clear c10 c11 c12
  try clear c20 c21 c22
  obtain ⟨c00, c01, c02, c10, c11, c12, c20, c21, c22, -⟩ := hcs9
  obtain ⟨z0, z1, z2, -⟩ := hzs9
  have hs4 := hb4.size
  have o40 := z0
  have o41 := z1
  have o42 := z2
  go_wp2_with fail
  refine (eqForm_same (((srV F t)).1) (((srV F t)).2.1) (((srV F t)).2.2) _).mono ?_
  rintro en w5 ⟨rfl, hb5⟩
  have hcs9 := cells_calls hb5 [⟨w.heap.size, 0, none⟩, ⟨w.heap.size, 1, none⟩, ⟨w.heap.size, 2, none⟩, ⟨w2.heap.size, 0, none⟩, ⟨w2.heap.size, 1, none⟩, ⟨w2.heap.size, 2, none⟩, ⟨w2.heap.size + 1, 0, none⟩, ⟨w2.heap.size + 1, 1, none⟩, ⟨w2.heap.size + 1, 2, none⟩, ⟨w4.heap.size, 0, none⟩, ⟨w4.heap.size, 1, none⟩, ⟨w4.heap.size, 2, none⟩, ⟨w4.heap.size + 1, 0, none⟩, ⟨w4.heap.size + 1, 1, none⟩, ⟨w4.heap.size + 1, 2, none⟩] [.int .i64 (F.1), .int .i64 (F.2.1), .int .i64 (F.2.2), .int .i64 (((srV F t)).1), .int .i64 (((srV F t)).2.1), .int .i64 (((srV F t)).2.2), .int .i64 (((dpV F t)).1), .int .i64 (((dpV F t)).2.1), .int .i64 (((dpV F t)).2.2), .int .i64 (((srV F t)).1), .int .i64 (((srV F t)).2.1), .int .i64 (((srV F t)).2.2), .int .i64 (((dpV F t)).1), .int .i64 (((dpV F t)).2.1), .int .i64 (((dpV F t)).2.2)] (by refine ⟨?_, ?_, ?_, ?_, ?_, ?_, ?_, ?_, ?_, ?_, ?_, ?_, ?_, ?_, ?_, trivial⟩ <;> (first | with_reducible assumption | ((repeat' first | with_reducible (first | assumption | refine cell_al _ ?_ | refine cell_eq _ ?_ | refine cell_ne _ ?_ ?_ | refine ex_set _ ?_ | refine ex_al _ ?_ | exact ⟨_, by assumption⟩) | (intro hh; injection hh with hh1 hh2; omega)); done) | go_simp))
  have hzs9 := blocks_calls hb5 [w.heap.size, w2.heap.size, w2.heap.size + 1, w4.heap.size, w4.heap.size + 1] (by refine ⟨?_, ?_, ?_, ?_, ?_, trivial⟩ <;> first | with_reducible assumption | omega | (simp; omega) | (simp; done))
  try clear c00 c01 c02
  try clear c10 c11 c12
  try clear c20 c21 c22
  try clear c30 c31 c32
  try clear c40 c41 c42
  obtain ⟨c00, c01, c02, c10, c11, c12, c20, c21, c22, c30, c31, c32, c40, c41, c42, -⟩ := hcs9
  obtain ⟨z0, z1, z2, z3, z4, -⟩ := hzs9
  have hs5 := hb5.size
  have o50 := z0
  have o51 := z1
  have o52 := z2
  have o53 := z3
  have o54 := z4
  go_wp2_with fail
  refine (eqForm_same (((dpV F t)).1) (((dpV F t)).2.1) (((dpV F t)).2.2) _).mono ?_
  rintro en w6 ⟨rfl, hb6⟩
  have hcs9 := cells_calls hb6 [⟨w.heap.size, 0, none⟩, ⟨w.heap.size, 1, none⟩, ⟨w.heap.size, 2, none⟩, ⟨w2.heap.size, 0, none⟩, ⟨w2.heap.size, 1, none⟩, ⟨w2.heap.size, 2, none⟩, ⟨w2.heap.size + 1, 0, none⟩, ⟨w2.heap.size + 1, 1, none⟩, ⟨w2.heap.size + 1, 2, none⟩, ⟨w4.heap.size, 0, none⟩, ⟨w4.heap.size, 1, none⟩, ⟨w4.heap.size, 2, none⟩, ⟨w4.heap.size + 1, 0, none⟩, ⟨w4.heap.size + 1, 1, none⟩, ⟨w4.heap.size + 1, 2, none⟩] [.int .i64 (F.1), .int .i64 (F.2.1), .int .i64 (F.2.2), .int .i64 (((srV F t)).1), .int .i64 (((srV F t)).2.1), .int .i64 (((srV F t)).2.2), .int .i64 (((dpV F t)).1), .int .i64 (((dpV F t)).2.1), .int .i64 (((dpV F t)).2.2), .int .i64 (((srV F t)).1), .int .i64 (((srV F t)).2.1), .int .i64 (((srV F t)).2.2), .int .i64 (((dpV F t)).1), .int .i64 (((dpV F t)).2.1), .int .i64 (((dpV F t)).2.2)] (by refine ⟨?_, ?_, ?_, ?_, ?_, ?_, ?_, ?_, ?_, ?_, ?_, ?_, ?_, ?_, ?_, trivial⟩ <;> (first | with_reducible assumption | ((repeat' first | with_reducible (first | assumption | refine cell_al _ ?_ | refine cell_eq _ ?_ | refine cell_ne _ ?_ ?_ | refine ex_set _ ?_ | refine ex_al _ ?_ | exact ⟨_, by assumption⟩) | (intro hh; injection hh with hh1 hh2; omega)); done) | go_simp))
  have hzs9 := blocks_calls hb6 [w.heap.size, w2.heap.size, w2.heap.size + 1, w4.heap.size, w4.heap.size + 1] (by refine ⟨?_, ?_, ?_, ?_, ?_, trivial⟩ <;> first | with_reducible assumption | omega | (simp; omega) | (simp; done))
  try clear c00 c01 c02
  try clear c10 c11 c12
  try clear c20 c21 c22
  try clear c30 c31 c32
  try clear c40 c41 c42
  obtain ⟨c00, c01, c02, c10, c11, c12, c20, c21, c22, c30, c31, c32, c40, c41, c42, -⟩ := hcs9
  obtain ⟨z0, z1, z2, z3, z4, -⟩ := hzs9
  have hs6 := hb6.size
  have o60 := z0
  have o61 := z1
  have o62 := z2
  have o63 := z3
  have o64 := z4
  go_wp2
  go_ret
  exact ⟨rfl, by (repeat' first | with_reducible (first | exact Below.refl _ _ | assumption | refine gr_alloc ?_ _ | refine below_drewN ?_ _ | refine below_drew ?_ | refine gr_call ?_ (by assumption) | refine Below.setCell ?_ ?_ _) | go_size | omega | (simp; omega))⟩
end Go.Proofs.Ytninagdclibmnaa
