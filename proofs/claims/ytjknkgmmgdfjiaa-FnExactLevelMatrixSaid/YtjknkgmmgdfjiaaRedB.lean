/-
  Which forms are reduced, on both sides.
-/
import Derived.Test.YtjknkgmmgdfjiaaForm
namespace Go.Proofs.Ytjknkgmmgdfjiaa
open Go.RowKit
set_option linter.unusedVariables false
set_option linter.unusedSimpArgs false
attribute [local go_sem] q2 q3 q4 q5 q6 q7 q8 q9 q10 q11 q12

def normB (a b : Int) : Bool := decide (-a < b) && decide (b ≤ a)
def redB (a b c : Int) : Bool := normB a b && (decide (a < c) || (decide (a = c) && decide (0 ≤ b)))
set_option maxRecDepth 100000 in
set_option maxHeartbeats 1000000 in
theorem isNormal_x (a b c : Int) (w : World) (h0 : -1000000000000000000 ≤ a ∧ a ≤ 1000000000000000000) :
    Calls Try.prog 59 #[.agg #[.int .i64 a, .int .i64 b, .int .i64 c]] w fun e w' => e = .returned (.bool (normB a b)) ∧ w' = w.alloc (.cells #[.int .i64 a, .int .i64 b, .int .i64 c] 26) := by
  by_cases k0 : -a < b
  · by_cases k1 : b ≤ a
    · go_enter Try.func59, Try.ntmps59
      go_wp2
      go_returns
      refine ⟨ret_bool (by simp [normB, k0, k1] <;> (try (intros; omega))), ?_⟩
      rfl
    · go_enter Try.func59, Try.ntmps59
      go_wp2
      go_returns
      refine ⟨ret_bool (by simp [normB, k0, k1] <;> (try (intros; omega))), ?_⟩
      rfl
  · go_enter Try.func59, Try.ntmps59
    go_wp2
    go_returns
    refine ⟨ret_bool (by simp [normB, k0] <;> (try (intros; omega))), ?_⟩
    rfl

set_option maxRecDepth 100000 in
set_option maxHeartbeats 2000000 in
theorem isReduced_x (a b c : Int) (w : World) (h0 : -1000000000000000000 ≤ a ∧ a ≤ 1000000000000000000) :
    Calls Try.prog 42 #[.agg #[.int .i64 a, .int .i64 b, .int .i64 c]] w fun e w' => e = .returned (.bool (redB a b c)) ∧ w' = (w.alloc (.cells #[.int .i64 a, .int .i64 b, .int .i64 c] 26)).alloc (.cells #[.int .i64 a, .int .i64 b, .int .i64 c] 26) := by
  cases k0 : normB a b
  · go_enter Try.func42, Try.ntmps42
    go_wp2_with (go_at_call 59; refine (isNormal_x _ _ _ _ (by first | assumption | omega)).mono ?_; rintro e w' ⟨rfl, rfl⟩)
    go_returns
    refine ⟨ret_bool (by simp [redB, k0] <;> (try (intros; omega))), ?_⟩
    rfl
  · by_cases k1 : a < c
    · go_enter Try.func42, Try.ntmps42
      go_wp2_with (go_at_call 59; refine (isNormal_x _ _ _ _ (by first | assumption | omega)).mono ?_; rintro e w' ⟨rfl, rfl⟩)
      go_returns
      refine ⟨ret_bool (by simp [redB, k0, k1] <;> (try (intros; omega))), ?_⟩
      rfl
    · by_cases k2 : a = c
      · subst k2
        by_cases k3 : 0 ≤ b
        · go_enter Try.func42, Try.ntmps42
          go_wp2_with (go_at_call 59; refine (isNormal_x _ _ _ _ (by first | assumption | omega)).mono ?_; rintro e w' ⟨rfl, rfl⟩)
          go_returns
          refine ⟨ret_bool (by simp [redB, k0, k3] <;> (try (intros; omega))), ?_⟩
          rfl
        · go_enter Try.func42, Try.ntmps42
          go_wp2_with (go_at_call 59; refine (isNormal_x _ _ _ _ (by first | assumption | omega)).mono ?_; rintro e w' ⟨rfl, rfl⟩)
          go_returns
          refine ⟨ret_bool (by simp [redB, k0, k3] <;> (try (intros; omega))), ?_⟩
          rfl
      · go_enter Try.func42, Try.ntmps42
        go_wp2_with (go_at_call 59; refine (isNormal_x _ _ _ _ (by first | assumption | omega)).mono ?_; rintro e w' ⟨rfl, rfl⟩)
        go_returns
        refine ⟨ret_bool (by simp [redB, k0, k1, k2] <;> (try (intros; omega))), ?_⟩
        rfl

set_option maxRecDepth 100000 in
set_option maxHeartbeats 2000000 in
theorem reIs_x (a b c : Int) (w : World) (h0 : -1000000000000000000 ≤ a ∧ a ≤ 1000000000000000000) :
    Calls Try.prog 32 #[.agg #[.int .i64 a, .int .i64 b, .int .i64 c]] w fun e w' => e = .returned (.bool (redB a b c)) ∧ w' = w.alloc (.cells #[.int .i64 a, .int .i64 b, .int .i64 c] 26) := by
  by_cases n0 : -a < b
  · by_cases n1 : b ≤ a
    · by_cases k1 : a < c
      · go_enter Try.func32, Try.ntmps32
        go_wp2
        go_returns
        refine ⟨ret_bool (by simp [redB, normB, n0, n1, k1] <;> (try (intros; omega))), ?_⟩
        rfl
      · by_cases k2 : a = c
        · subst k2
          by_cases k3 : 0 ≤ b
          · go_enter Try.func32, Try.ntmps32
            go_wp2
            go_returns
            refine ⟨ret_bool (by simp [redB, normB, n0, n1, k3] <;> (try (intros; omega))), ?_⟩
            rfl
          · go_enter Try.func32, Try.ntmps32
            go_wp2
            go_returns
            refine ⟨ret_bool (by simp [redB, normB, n0, n1, k3] <;> (try (intros; omega))), ?_⟩
            rfl
        · go_enter Try.func32, Try.ntmps32
          go_wp2
          go_returns
          refine ⟨ret_bool (by simp [redB, normB, n0, n1, k1, k2] <;> (try (intros; omega))), ?_⟩
          rfl
    · go_enter Try.func32, Try.ntmps32
      go_wp2
      go_returns
      refine ⟨ret_bool (by simp [redB, normB, n0, n1] <;> (try (intros; omega))), ?_⟩
      rfl
  · go_enter Try.func32, Try.ntmps32
    go_wp2
    go_returns
    refine ⟨ret_bool (by simp [redB, normB, n0] <;> (try (intros; omega))), ?_⟩
    rfl

end Go.Proofs.Ytjknkgmmgdfjiaa
