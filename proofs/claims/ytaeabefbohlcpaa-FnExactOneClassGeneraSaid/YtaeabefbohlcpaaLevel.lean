/- Which forms are reduced, on both sides. Levels on both sides. -/
import Derived.Test.YtaeabefbohlcpaaForm
import Derived.Deep.RegionWith
namespace Go.Proofs.Ytaeabefbohlcpaa
open Go.RowKit
set_option linter.unusedVariables false
set_option linter.unusedSimpArgs false
attribute [local go_sem] q2 q3 q4 q5 q6 q7 q8 q9 q10 q11 q12

def normB (a b : Int) : Bool := decide (-a < b) && decide (b ≤ a)
def redB (a b c : Int) : Bool := normB a b && (decide (a < c) || (decide (a = c) && decide (0 ≤ b)))
set_option maxRecDepth 100000 in
set_option maxHeartbeats 1000000 in
theorem isNormal_x (a b c : Int) (w : World) (h0 : -1000000000000000000 ≤ a ∧ a ≤ 1000000000000000000) :
  Calls Try.prog 80 #[.agg #[.int .i64 a, .int .i64 b, .int .i64 c]] w fun e w' => e = .returned (.bool (normB a b)) ∧ w' = w.alloc (.cells #[.int .i64 a, .int .i64 b, .int .i64 c] 46) := by
 by_cases k0 : -a < b
 ·by_cases k1 : b ≤ a
  ·go_enter Try.func80, Try.ntmps80
   go_wp2
   go_returns
   refine ⟨ret_bool (by simp [normB, k0, k1] <;> (try (intros; omega))), ?_⟩
   rfl
  ·go_enter Try.func80, Try.ntmps80
   go_wp2
   go_returns
   refine ⟨ret_bool (by simp [normB, k0, k1] <;> (try (intros; omega))), ?_⟩
   rfl
 ·go_enter Try.func80, Try.ntmps80
  go_wp2
  go_returns
  refine ⟨ret_bool (by simp [normB, k0] <;> (try (intros; omega))), ?_⟩
  rfl

set_option maxRecDepth 100000 in
set_option maxHeartbeats 2000000 in
theorem isReduced_x (a b c : Int) (w : World) (h0 : -1000000000000000000 ≤ a ∧ a ≤ 1000000000000000000) :
  Calls Try.prog 62 #[.agg #[.int .i64 a, .int .i64 b, .int .i64 c]] w fun e w' => e = .returned (.bool (redB a b c)) ∧ w' = (w.alloc (.cells #[.int .i64 a, .int .i64 b, .int .i64 c] 46)).alloc (.cells #[.int .i64 a, .int .i64 b, .int .i64 c] 46) := by
 cases k0 : normB a b
 ·go_enter Try.func62, Try.ntmps62
  go_wp2_with (go_at_call 80; refine (isNormal_x _ _ _ _ (by first | assumption | omega)).mono ?_; rintro e w' ⟨rfl, rfl⟩)
  go_returns
  refine ⟨ret_bool (by simp [redB, k0] <;> (try (intros; omega))), ?_⟩
  rfl
 ·by_cases k1 : a < c
  ·go_enter Try.func62, Try.ntmps62
   go_wp2_with (go_at_call 80; refine (isNormal_x _ _ _ _ (by first | assumption | omega)).mono ?_; rintro e w' ⟨rfl, rfl⟩)
   go_returns
   refine ⟨ret_bool (by simp [redB, k0, k1] <;> (try (intros; omega))), ?_⟩
   rfl
  ·by_cases k2 : a = c
   ·subst k2
    by_cases k3 : 0 ≤ b
    ·go_enter Try.func62, Try.ntmps62
     go_wp2_with (go_at_call 80; refine (isNormal_x _ _ _ _ (by first | assumption | omega)).mono ?_; rintro e w' ⟨rfl, rfl⟩)
     go_returns
     refine ⟨ret_bool (by simp [redB, k0, k3] <;> (try (intros; omega))), ?_⟩
     rfl
    ·go_enter Try.func62, Try.ntmps62
     go_wp2_with (go_at_call 80; refine (isNormal_x _ _ _ _ (by first | assumption | omega)).mono ?_; rintro e w' ⟨rfl, rfl⟩)
     go_returns
     refine ⟨ret_bool (by simp [redB, k0, k3] <;> (try (intros; omega))), ?_⟩
     rfl
   ·go_enter Try.func62, Try.ntmps62
    go_wp2_with (go_at_call 80; refine (isNormal_x _ _ _ _ (by first | assumption | omega)).mono ?_; rintro e w' ⟨rfl, rfl⟩)
    go_returns
    refine ⟨ret_bool (by simp [redB, k0, k1, k2] <;> (try (intros; omega))), ?_⟩
    rfl

set_option maxRecDepth 100000 in
set_option maxHeartbeats 2000000 in
theorem reIs_x (a b c : Int) (w : World) (h0 : -1000000000000000000 ≤ a ∧ a ≤ 1000000000000000000) :
  Calls Try.prog 53 #[.agg #[.int .i64 a, .int .i64 b, .int .i64 c]] w fun e w' => e = .returned (.bool (redB a b c)) ∧ w' = w.alloc (.cells #[.int .i64 a, .int .i64 b, .int .i64 c] 46) := by
 by_cases n0 : -a < b
 ·by_cases n1 : b ≤ a
  ·by_cases k1 : a < c
   ·go_enter Try.func53, Try.ntmps53
    go_wp2
    go_returns
    refine ⟨ret_bool (by simp [redB, normB, n0, n1, k1] <;> (try (intros; omega))), ?_⟩
    rfl
   ·by_cases k2 : a = c
    ·subst k2
     by_cases k3 : 0 ≤ b
     ·go_enter Try.func53, Try.ntmps53
      go_wp2
      go_returns
      refine ⟨ret_bool (by simp [redB, normB, n0, n1, k3] <;> (try (intros; omega))), ?_⟩
      rfl
     ·go_enter Try.func53, Try.ntmps53
      go_wp2
      go_returns
      refine ⟨ret_bool (by simp [redB, normB, n0, n1, k3] <;> (try (intros; omega))), ?_⟩
      rfl
    ·go_enter Try.func53, Try.ntmps53
     go_wp2
     go_returns
     refine ⟨ret_bool (by simp [redB, normB, n0, n1, k1, k2] <;> (try (intros; omega))), ?_⟩
     rfl
  ·go_enter Try.func53, Try.ntmps53
   go_wp2
   go_returns
   refine ⟨ret_bool (by simp [redB, normB, n0, n1] <;> (try (intros; omega))), ?_⟩
   rfl
 ·go_enter Try.func53, Try.ntmps53
  go_wp2
  go_returns
  refine ⟨ret_bool (by simp [redB, normB, n0] <;> (try (intros; omega))), ?_⟩
  rfl

end Go.Proofs.Ytaeabefbohlcpaa
namespace Go.Proofs.Ytaeabefbohlcpaa
open Go.RowKit
set_option linter.unusedVariables false
set_option linter.unusedSimpArgs false
attribute [local go_sem] q2 q3 q4 q5 q6 q7 q8 q9 q10 q11 q12

def negB (d : Int) : Bool := inB d (-2000) (-3) && decide (d % 4 ≤ 1)
theorem neg_true {d : Int} (h : negB d = true) : -2000 ≤ d ∧ d ≤ -3 := by
 unfold negB at h; simp at h; exact inB_true h.1
set_option maxRecDepth 100000 in
set_option maxHeartbeats 1000000 in
theorem isNegativeDisc_a (d : Int) (w : World) :
  Calls Try.prog 55 #[.int .i64 d] w fun e w' => e = .returned (.bool (negB d)) ∧ w = w' := by
 by_cases k0 : -2000 ≤ d
 ·by_cases k1 : d ≤ -3
  ·by_cases k2 : d % 4 ≤ 1
   ·go_enter Try.func55, Try.ntmps55
    go_wp2_with (go_at_call 75; refine (mod_a _ _ _ (by first | assumption | omega) (by first | assumption | omega) (by first | assumption | omega)).mono ?_; rintro e w' ⟨rfl, rfl⟩)
    go_returns
    exact ⟨ret_bool (by simp [negB, inB, k0, k1, k2] <;> (try (intros; omega))), rfl⟩
   ·go_enter Try.func55, Try.ntmps55
    go_wp2_with (go_at_call 75; refine (mod_a _ _ _ (by first | assumption | omega) (by first | assumption | omega) (by first | assumption | omega)).mono ?_; rintro e w' ⟨rfl, rfl⟩)
    go_returns
    exact ⟨ret_bool (by simp [negB, inB, k0, k1, k2] <;> (try (intros; omega))), rfl⟩
  ·go_enter Try.func55, Try.ntmps55
   go_wp2_with (go_at_call 75; refine (mod_a _ _ _ (by first | assumption | omega) (by first | assumption | omega) (by first | assumption | omega)).mono ?_; rintro e w' ⟨rfl, rfl⟩)
   go_returns
   exact ⟨ret_bool (by simp [negB, inB, k0, k1] <;> (try (intros; omega))), rfl⟩
 ·go_enter Try.func55, Try.ntmps55
  go_wp2_with (go_at_call 75; refine (mod_a _ _ _ (by first | assumption | omega) (by first | assumption | omega) (by first | assumption | omega)).mono ?_; rintro e w' ⟨rfl, rfl⟩)
  go_returns
  exact ⟨ret_bool (by simp [negB, inB, k0] <;> (try (intros; omega))), rfl⟩

set_option maxRecDepth 100000 in
set_option maxHeartbeats 1000000 in
theorem reDisc_a (d : Int) (w : World) :
  Calls Try.prog 32 #[.int .i64 d] w fun e w' => e = .returned (.bool (negB d)) ∧ w = w' := by
 cases k0 : inB d (-2000) (-3)
 ·go_enter Try.func32, Try.ntmps32
  go_wp2_with (first | (go_at_call 31; refine (l1In_any _ _ _ _).mono ?_; rintro e w' ⟨rfl, rfl⟩) | (go_at_call 48; refine (nuMod_a _ _ _ (by first | assumption | omega) (by first | assumption | omega) (by first | assumption | omega)).mono ?_; rintro e w' ⟨rfl, rfl⟩))
  go_returns
  exact ⟨ret_bool (by simp [negB, k0] <;> (try (intros; omega))), rfl⟩
 ·obtain ⟨e0, e1⟩ := inB_true k0
  by_cases k1 : d % 4 ≤ 1
  ·go_enter Try.func32, Try.ntmps32
   go_wp2_with (first | (go_at_call 31; refine (l1In_any _ _ _ _).mono ?_; rintro e w' ⟨rfl, rfl⟩) | (go_at_call 48; refine (nuMod_a _ _ _ (by first | assumption | omega) (by first | assumption | omega) (by first | assumption | omega)).mono ?_; rintro e w' ⟨rfl, rfl⟩))
   go_returns
   exact ⟨ret_bool (by simp [negB, k0, k1] <;> (try (intros; omega))), rfl⟩
  ·go_enter Try.func32, Try.ntmps32
   go_wp2_with (first | (go_at_call 31; refine (l1In_any _ _ _ _).mono ?_; rintro e w' ⟨rfl, rfl⟩) | (go_at_call 48; refine (nuMod_a _ _ _ (by first | assumption | omega) (by first | assumption | omega) (by first | assumption | omega)).mono ?_; rintro e w' ⟨rfl, rfl⟩))
   go_returns
   exact ⟨ret_bool (by simp [negB, k0, k1] <;> (try (intros; omega))), rfl⟩

end Go.Proofs.Ytaeabefbohlcpaa
