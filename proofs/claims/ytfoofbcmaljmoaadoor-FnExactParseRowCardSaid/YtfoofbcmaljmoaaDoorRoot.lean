/-
  The walks of impl.root and spec.nuRoot, isSquare and nuSquare: both return the integer square root.
-/
import Derived.Test.YtfoofbcmaljmoaaDoorProg
import Derived.Test.YtfoofbcmaljmoaaDoorBase
namespace Go.Proofs.YtfoofbcmaljmoaaDoor
open Go.RowKit
set_option linter.unusedVariables false
set_option linter.unusedSimpArgs false

theorem mid_sq (l u : Int) (h0 : 0 ≤ l) (h : l < u) (hu : u ≤ 3000000000) : 0 ≤ (l + u + 1) / 2 * ((l + u + 1) / 2) ∧ (l + u + 1) / 2 * ((l + u + 1) / 2) ≤ 9000000000000000000 :=
  ⟨Int.mul_nonneg (by omega) (by omega), by have := sq_mono (a := (l + u + 1) / 2) (b := 3000000000) (by omega) (by omega); omega⟩

/-- Is n a square? -/
def isSqB (n : Int) : Bool := isq n * isq n == n

theorem isq_sq_bd {n : Int} (h0 : 0 ≤ n) : 0 ≤ isq n * isq n ∧ isq n * isq n ≤ n := ⟨Int.mul_nonneg (isq_nonneg n) (isq_nonneg n), isq_le h0⟩

set_option maxHeartbeats 400000 in
theorem l1In_any (n lo hi : Int) (w : World) :
    Calls Tryd.prog 22 #[.int .i64 n, .int .i64 lo, .int .i64 hi] w fun e w' => e = .returned (.bool (inB n lo hi)) ∧ w = w' := by
  go_enter Tryd.func22, Tryd.ntmps22
  go_wp2
  all_goals (go_ret; exact ⟨ret_bool (by simp [inB]; try omega), rfl⟩)

end Go.Proofs.YtfoofbcmaljmoaaDoor
