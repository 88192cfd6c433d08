/-
  The composite (impl).
-/
import Derived.Test.YtninagdclibmnaaUnw
namespace Go.Proofs.Ytninagdclibmnaa
open Go.RowKit
set_option linter.unusedVariables false
set_option linter.unusedSimpArgs false
attribute [local go_sem] q2 q3 q4 q5 q6 q7 q8 q9 q10 q11 q12

set_option maxRecDepth 100000 in
set_option maxHeartbeats 1000000 in
theorem composite_a (a e t s m0 m1 m2 m3 n0 n1 n2 n3 : Int) (w : World) (h0 : 0 ≤ a * e ∧ a * e ≤ 1000000) :
    Calls Try.prog 123 #[.agg #[.int .i64 a, .int .i64 e, .int .i64 t, .int .i64 s, .int .i64 m0, .int .i64 m1, .int .i64 m2, .int .i64 m3, .int .i64 n0, .int .i64 n1, .int .i64 n2, .int .i64 n3]] w fun e' w' => e' = .returned (.agg #[.int .i64 (a * e), .int .i64 t, .int .i64 s]) ∧ Below w.heap.size w w' := by
  go_enter Try.func123, Try.ntmps123
  go_wp2
  refine bodyPost_ret (v := .agg #[.int .i64 (a * e), .int .i64 t, .int .i64 s]) (by simp [results, Try.results123, go_sem, *]) rfl ?_
  refine ⟨rfl, ?_⟩
  (repeat' first | with_reducible (first | exact Below.refl _ _ | assumption | refine gr_alloc ?_ _ | refine below_drewN ?_ _ | refine below_drew ?_ | refine gr_call ?_ (by assumption) | refine Below.setCell ?_ ?_ _) | go_size | omega | (simp; omega))

theorem composite_v (a b c p q r : Int) (x y : Nat) (w : World) (h0 : 0 ≤ a * cpE p q r x y ∧ a * cpE p q r x y ≤ 1000000) :
    Calls Try.prog 123 #[uV a b c p q r x y] w fun e' w' => e' = .returned (.agg #[.int .i64 (a * cpE p q r x y), .int .i64 (uT a b (cpE p q r x y) (cpB p q r x y)), .int .i64 (uS a b c (cpE p q r x y) (cpB p q r x y))]) ∧ Below w.heap.size w w' := composite_a _ _ _ _ _ _ _ _ _ _ _ _ w h0
end Go.Proofs.Ytninagdclibmnaa
