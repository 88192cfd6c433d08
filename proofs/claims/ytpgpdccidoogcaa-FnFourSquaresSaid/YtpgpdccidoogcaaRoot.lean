/-
  The walks of impl.root and spec.nuRoot, isSquare and nuSquare: both return the integer square root.
-/
import Derived.Test.YtpgpdccidoogcaaProg
import Derived.Test.YtpgpdccidoogcaaBase
namespace Go.Proofs.Ytpgpdccidoogcaa
open Go.RowKit
set_option linter.unusedVariables false
set_option linter.unusedSimpArgs false

theorem mid_sq (l u : Int) (h0 : 0 ≤ l) (h : l < u) (hu : u ≤ 3000000000) : 0 ≤ (l + u + 1) / 2 * ((l + u + 1) / 2) ∧ (l + u + 1) / 2 * ((l + u + 1) / 2) ≤ 9000000000000000000 :=
  ⟨Int.mul_nonneg (by omega) (by omega), by have := sq_mono (a := (l + u + 1) / 2) (b := 3000000000) (by omega) (by omega); omega⟩

set_option maxHeartbeats 400000 in
theorem root_any (n : Int) (w : World) (h : n < 9000000006000000001) :
    Calls Try.prog 36 #[.int .i64 n] w fun e w' => e = .returned (.int .i64 (isq n)) ∧ w = w' := by
  go_enter Try.func36, Try.ntmps36
  go_wp2
  go_loop [3, 4] (fun lo hi => ∃ l u : Int, 0 ≤ l ∧ l ≤ u ∧ u ≤ 3000000000 ∧ (l * l ≤ n ∨ l = 0) ∧ n < (u + 1) * (u + 1) ∧ lo = .int .i64 l ∧ hi = .int .i64 u) (fun lo hi => (intOf hi - intOf lo).toNat)
  case atStart => exact ⟨0, 3000000000, by omega, by omega, by omega, .inr rfl, by omega, rfl, rfl⟩
  case round =>
    obtain ⟨l, u, h0, h1, h2, h3, h4, rfl, rfl⟩ := hrel
    by_cases c : l < u
    · obtain ⟨m0, m1⟩ := mid_sq l u h0 c h2
      go_wp2
      · have hm : (l + u + 1) / 2 * ((l + u + 1) / 2) ≤ n := by assumption
        go_round
        case rel => exact ⟨(l + u + 1) / 2, u, by omega, by omega, by omega, .inl hm, h4, rfl, rfl⟩
        case measure => simp [intOf]; omega
      · have hm : n < (l + u + 1) / 2 * ((l + u + 1) / 2) := by assumption
        go_round
        case rel => exact ⟨l, (l + u + 1) / 2 - 1, by omega, by omega, by omega, h3, by rw [show (l + u + 1) / 2 - 1 + 1 = (l + u + 1) / 2 from by omega]; exact hm, rfl, rfl⟩
        case measure => simp [intOf]; omega
    · have hlu : l = u := by omega
      subst hlu
      have hq : isq n = l := by
        rcases h3 with h3 | h3
        · exact isq_unique h0 h3 h4
        · by_cases hn : 0 ≤ n
          · exact isq_unique h0 (by rw [h3]; omega) h4
          · rw [isq_neg (by omega)]; omega
      have hQ := hide hq
      clear hq
      go_wp2
      go_ret
      exact ⟨ret_int (unhide hQ).symm, rfl⟩

set_option maxHeartbeats 400000 in
theorem nuRoot_any (n : Int) (w : World) (h0 : 0 ≤ n) (h : n < 1000000002000000001) :
    Calls Try.prog 53 #[.int .i64 n] w fun e w' => e = .returned (.int .i64 (isq n)) ∧ w = w' := by
  go_enter Try.func53, Try.ntmps53
  go_wp2
  go_loop [3, 4] (fun lo hi => ∃ l u : Int, 0 ≤ l ∧ l ≤ u ∧ u ≤ 1000000000 ∧ l * l ≤ n ∧ n < (u + 1) * (u + 1) ∧ lo = .int .i64 l ∧ hi = .int .i64 u) (fun lo hi => (intOf hi - intOf lo).toNat)
  case atStart => exact ⟨0, 1000000000, by omega, by omega, by omega, by omega, by omega, rfl, rfl⟩
  case round =>
    obtain ⟨l, u, h0, h1, h2, h3, h4, rfl, rfl⟩ := hrel
    by_cases c : l < u
    · obtain ⟨m0, m1⟩ := mid_sq l u h0 c (by omega)
      go_wp2
      · have hm : (l + u + 1) / 2 * ((l + u + 1) / 2) ≤ n := by assumption
        go_round
        case rel => exact ⟨(l + u + 1) / 2, u, by omega, by omega, by omega, hm, h4, rfl, rfl⟩
        case measure => simp [intOf]; omega
      · have hm : n < (l + u + 1) / 2 * ((l + u + 1) / 2) := by assumption
        go_round
        case rel => exact ⟨l, (l + u + 1) / 2 - 1, by omega, by omega, by omega, h3, by rw [show (l + u + 1) / 2 - 1 + 1 = (l + u + 1) / 2 from by omega]; exact hm, rfl, rfl⟩
        case measure => simp [intOf]; omega
    · have hlu : l = u := by omega
      subst hlu
      have hQ := hide (isq_unique h0 h3 h4)
      go_wp2
      go_ret
      exact ⟨ret_int (unhide hQ).symm, rfl⟩

/-- Is n a square? -/
def isSqB (n : Int) : Bool := isq n * isq n == n

theorem isq_sq_bd {n : Int} (h0 : 0 ≤ n) : 0 ≤ isq n * isq n ∧ isq n * isq n ≤ n := ⟨Int.mul_nonneg (isq_nonneg n) (isq_nonneg n), isq_le h0⟩

set_option maxHeartbeats 400000 in
theorem isSquare_any (n : Int) (w : World) (h0 : 0 ≤ n) (h : n < 9000000006000000001) :
    Calls Try.prog 45 #[.int .i64 n] w fun e w' => e = .returned (.bool (isSqB n)) ∧ w = w' := by
  obtain ⟨b0, b1⟩ := isq_sq_bd h0
  go_enter Try.func45, Try.ntmps45
  go_wp2_with (go_at_call 36; refine (root_any _ _ (by omega)).mono ?_; rintro e w' ⟨rfl, rfl⟩)
  go_ret
  exact ⟨rfl, rfl⟩

set_option maxHeartbeats 400000 in
theorem nuSquare_any (n : Int) (w : World) (h0 : 0 ≤ n) (h : n < 1000000002000000001) :
    Calls Try.prog 47 #[.int .i64 n] w fun e w' => e = .returned (.bool (isSqB n)) ∧ w = w' := by
  obtain ⟨b0, b1⟩ := isq_sq_bd h0
  go_enter Try.func47, Try.ntmps47
  go_wp2_with (go_at_call 53; refine (nuRoot_any _ _ (by omega) (by omega)).mono ?_; rintro e w' ⟨rfl, rfl⟩)
  go_ret
  exact ⟨rfl, rfl⟩


set_option maxHeartbeats 400000 in
theorem l1In_any (n lo hi : Int) (w : World) :
    Calls Try.prog 46 #[.int .i64 n, .int .i64 lo, .int .i64 hi] w fun e w' => e = .returned (.bool (inB n lo hi)) ∧ w = w' := by
  go_enter Try.func46, Try.ntmps46
  go_wp2
  all_goals (go_ret; exact ⟨ret_bool (by simp [inB]; try omega), rfl⟩)

set_option maxHeartbeats 400000 in
theorem sqGood_any (n : Int) (w : World) :
    Calls Try.prog 30 #[.int .i64 n] w fun e w' => e = .returned (.bool (inB n 0 10000)) ∧ w = w' := by
  go_enter Try.func30, Try.ntmps30
  go_wp2_with (go_at_call 46; refine (l1In_any _ _ _ _).mono ?_; rintro e w' ⟨rfl, rfl⟩)
  go_ret
  exact ⟨rfl, rfl⟩

set_option maxHeartbeats 400000 in
theorem isSum_any (n : Int) (w : World) :
    Calls Try.prog 35 #[.int .i64 n] w fun e w' => e = .returned (.bool (inB n 0 10000)) ∧ w = w' := by
  go_enter Try.func35, Try.ntmps35
  go_wp2
  all_goals (go_ret; exact ⟨ret_bool (by simp [inB]; try omega), rfl⟩)

end Go.Proofs.Ytpgpdccidoogcaa
