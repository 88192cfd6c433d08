/- The reduced form on both sides. -/
import Derived.Test.YtaeabefbohlcpaaReduceS
import Derived.Test.YtaeabefbohlcpaaCmp
namespace Go.Proofs.Ytaeabefbohlcpaa
open Go.RowKit
set_option linter.unusedVariables false
set_option linter.unusedSimpArgs false
attribute [local go_sem] q2 q3 q4 q5 q6 q7 q8 q9 q10 q11 q12

set_option maxRecDepth 100000 in
set_option maxHeartbeats 4000000 in
theorem reduced_a (a b c : Int) (w : World) (h0 : OkF a b c) :
  Calls Try.prog 56 #[.agg #[.int .i64 a, .int .i64 b, .int .i64 c]] w fun e w' => e = .returned (.agg #[.int .i64 (rfA a b c), .int .i64 (rfB a b c), .int .i64 (rfC a b c)]) ∧ Below w.heap.size w w' := by
 go_enter Try.func56, Try.ntmps56
 go_wp2_with fail
 refine (reduce_a _ _ _ _ (by first | assumption | omega)).mono ?_
 rintro e w1 ⟨rfl, hb1⟩
 have tq0 := Ri3.c hb1 w.heap.size a b c
 have tq1 := Wi3.c hb1 (w.heap.size + 1) 0 0 0
 try clear c00 c01 c02
 try clear c10 c11 c12 f10 f11 f12
 obtain ⟨c00, c01, c02, z0⟩ := tq0
 obtain ⟨c10, c11, c12, f10, f11, f12, z1⟩ := tq1
 have hs1 := hb1.size
 go_wp2
 first | go_returns | (refine bodyPost_ret (v := .agg #[.int .i64 (rfA a b c), .int .i64 (rfB a b c), .int .i64 (rfC a b c)]) (by simp [results, Try.results56, go_sem, *]) rfl ?_)
 refine ⟨rfl, ?_⟩
 (repeat' first | with_reducible (first | exact Below.refl _ _ | assumption | refine gr_alloc ?_ _ | refine below_drewN ?_ _ | refine below_drew ?_ | refine gr_call ?_ (by assumption) | refine Below.setCell ?_ ?_ _) | go_size | omega | (simp; omega))

set_option maxRecDepth 100000 in
set_option maxHeartbeats 4000000 in
theorem reClass_a (a b c : Int) (w : World) (h0 : OkF a b c) :
  Calls Try.prog 52 #[.agg #[.int .i64 a, .int .i64 b, .int .i64 c]] w fun e w' => e = .returned (.agg #[.int .i64 (rfA a b c), .int .i64 (rfB a b c), .int .i64 (rfC a b c)]) ∧ Below w.heap.size w w' := by
 go_enter Try.func52, Try.ntmps52
 go_wp2_with fail
 refine (reReduce_a _ _ _ _ (by first | assumption | omega)).mono ?_
 rintro e w1 ⟨rfl, hb1⟩
 have tq0 := Ri3.c hb1 w.heap.size a b c
 have tq1 := Wi3.c hb1 (w.heap.size + 1) 0 0 0
 try clear c00 c01 c02
 try clear c10 c11 c12 f10 f11 f12
 obtain ⟨c00, c01, c02, z0⟩ := tq0
 obtain ⟨c10, c11, c12, f10, f11, f12, z1⟩ := tq1
 have hs1 := hb1.size
 go_wp2
 first | go_returns | (refine bodyPost_ret (v := .agg #[.int .i64 (rfA a b c), .int .i64 (rfB a b c), .int .i64 (rfC a b c)]) (by simp [results, Try.results52, go_sem, *]) rfl ?_)
 refine ⟨rfl, ?_⟩
 (repeat' first | with_reducible (first | exact Below.refl _ _ | assumption | refine gr_alloc ?_ _ | refine below_drewN ?_ _ | refine below_drew ?_ | refine gr_call ?_ (by assumption) | refine Below.setCell ?_ ?_ _) | go_size | omega | (simp; omega))

theorem reClass_rw (a b c x y z : Int) (h : OkF a b c) (hE : rfA a b c = x ∧ rfB a b c = y ∧ rfC a b c = z) (w : World) :
  Calls Try.prog 52 #[.agg #[.int .i64 a, .int .i64 b, .int .i64 c]] w fun e w' => e = .returned (.agg #[.int .i64 x, .int .i64 y, .int .i64 z]) ∧ Below w.heap.size w w' := by
 obtain ⟨rfl, rfl, rfl⟩ := hE
 exact reClass_a a b c w h
end Go.Proofs.Ytaeabefbohlcpaa
