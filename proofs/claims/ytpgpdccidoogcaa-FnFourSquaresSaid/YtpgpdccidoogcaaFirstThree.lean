/-
  impl.FirstThree and spec.FirstThree, and the law's walk.
-/
import Derived.Test.YtpgpdccidoogcaaThree
namespace Go.Proofs.Ytpgpdccidoogcaa
open Go.RowKit
set_option linter.unusedVariables false
set_option linter.unusedSimpArgs false

/-- What FirstThree returns. -/
def f3 (n : Int) : Option (Int × Int × Int) := if inB n 0 10000 then ftI n (isq n) else none

theorem f3_no {n : Int} (h : inB n 0 10000 = false) : fX (f3 n) = 0 ∧ fY (f3 n) = 0 ∧ fZ (f3 n) = 0 ∧ fOk (f3 n) = false := by simp [f3, h, fX, fY, fZ, fOk]
theorem f3_yes {n : Int} (h : inB n 0 10000 = true) : f3 n = ftI n (isq n) := by simp [f3, h]

set_option maxHeartbeats 400000 in
theorem implFirstThree_any (n : Int) (w : World) :
    Calls Try.prog 20 #[.int .i64 n] w fun e w' => e = .returned (.tuple #[.int .i64 (fX (f3 n)), .int .i64 (fY (f3 n)), .int .i64 (fZ (f3 n)), .bool (fOk (f3 n))]) ∧ w = w' := by
  cases h : inB n 0 10000
  · obtain ⟨e1, e2, e3, e4⟩ := f3_no h
    rw [e1, e2, e3, e4]
    clear e1 e2 e3 e4
    go_enter Try.func20, Try.ntmps20
    go_wp2_with (go_at_call 35; refine (isSum_any _ _).mono ?_; rintro e w' ⟨rfl, rfl⟩)
    refine bodyPost_ret (results_tmp4 rfl _ _ _) rfl ?_
    exact ⟨rfl, rfl⟩
  · obtain ⟨h0, h1⟩ := inB_true h
    rw [f3_yes h]
    have hr0 := isq_nonneg n
    go_enter Try.func20, Try.ntmps20
    go_wp2_with (first | (go_at_call 35; refine (isSum_any _ _).mono ?_; rintro e w' ⟨rfl, rfl⟩) | (go_at_call 36; refine (root_any _ _ (by omega)).mono ?_; rintro e w' ⟨rfl, rfl⟩) | (go_at_call 37; refine (firstThree_any _ _ _ (by omega) (by omega) (by omega) (by omega)).mono ?_; rintro e w' ⟨rfl, rfl⟩))
    refine bodyPost_ret (results_tmp4 rfl _ _ _) rfl ?_
    exact ⟨rfl, rfl⟩

end Go.Proofs.Ytpgpdccidoogcaa
