/-
  abs, mod, gcd on both sides.
-/
import Derived.Test.YtfoofbcmaljmoaaDoorWorld
namespace Go.Proofs.YtfoofbcmaljmoaaDoor
open Go.RowKit
set_option linter.unusedVariables false
set_option linter.unusedSimpArgs false
theorem mod_tmod {a m : Int} (hm : 0 < m) : (if a.tmod m < 0 then a.tmod m + m else a.tmod m) = a % m := by
  have h1 := Int.tmod_add_mul_tdiv a m
  have h2 : (a.tmod m).natAbs < m.natAbs := by rw [Int.natAbs_tmod]; exact Nat.mod_lt _ (by omega)
  have h3 : a % m = (a.tmod m) % m := by
    conv => lhs; rw [← h1]
    rw [Int.add_mul_emod_self_left]
  rw [h3]
  split
  · rw [← Int.add_emod_right (a.tmod m) m]
    exact (Int.emod_eq_of_lt (by omega) (by omega)).symm
  · exact (Int.emod_eq_of_lt (by omega) (by omega)).symm
theorem tmod_bd {a m : Int} (hm : m ≠ 0) : -m.natAbs < a.tmod m ∧ a.tmod m < m.natAbs := by
  have h2 : (a.tmod m).natAbs < m.natAbs := by rw [Int.natAbs_tmod]; exact Nat.mod_lt _ (by omega)
  omega
theorem gcd_step {a b : Int} : Int.gcd b (a.tmod b) = Int.gcd a b := by
  unfold Int.gcd
  rw [Int.natAbs_tmod, Nat.gcd_comm b.natAbs, ← Nat.gcd_rec, Nat.gcd_comm]
/-- The greatest common divisor, as an integer. -/
def igcd (a b : Int) : Int := (Int.gcd a b : Int)
theorem igcd_nonneg (a b : Int) : 0 ≤ igcd a b := by unfold igcd; omega
theorem gcd_le_bd {a b : Int} (ha : -4611686018427387904 ≤ a ∧ a ≤ 4611686018427387904) (hb : -4611686018427387904 ≤ b ∧ b ≤ 4611686018427387904) : 0 ≤ igcd a b ∧ igcd a b ≤ 4611686018427387904 := by
  refine ⟨igcd_nonneg a b, ?_⟩
  unfold igcd
  by_cases h : a = 0
  · subst h; simp; omega
  · have := Nat.le_of_dvd (by omega) (Int.gcd_dvd_natAbs_left a b); omega

set_option maxRecDepth 100000 in
set_option maxHeartbeats 400000 in
theorem mod_a (a m : Int) (w : World) (h0 : -4611686018427387904 ≤ a ∧ a ≤ 4611686018427387904) (h1 : 0 < m) (h2 : m ≤ 4611686018427387904) :
    Calls Tryd.prog 42 #[.int .i64 a, .int .i64 m] w fun e w' => e = .returned (.int .i64 (a % m)) ∧ w = w' := by
  have hr := mod_tmod (a := a) h1
  obtain ⟨b1, b2⟩ := tmod_bd (a := a) (m := m) (by omega)
  have b3 : -m < a.tmod m := by omega
  have b4 : a.tmod m < m := by omega
  clear b1 b2
  have HR := hide hr
  clear hr
  by_cases c : a.tmod m < 0
  · by_cases ha : 0 ≤ a
    · exfalso; rw [Int.tmod_eq_emod_of_nonneg ha] at c; have := Int.emod_nonneg a (show m ≠ 0 by omega); omega
    · have hq : (decide (a.tmod m < 0)) = true := by simpa using c
      go_enter Tryd.func42, Tryd.ntmps42
      go_wp2
      all_goals (go_ret; exact ⟨ret_int (by rw [← unhide HR]; first | rw [if_pos c] | omega), rfl⟩)
  · by_cases ha : 0 ≤ a
    · rw [Int.tmod_eq_emod_of_nonneg ha] at c b3 b4
      have HA := Int.tmod_eq_emod_of_nonneg (b := m) ha
      have HA2 := hide HA
      clear HA
      go_enter Tryd.func42, Tryd.ntmps42
      go_wp2
      all_goals (go_ret; exact ⟨ret_int rfl, rfl⟩)
    · go_enter Tryd.func42, Tryd.ntmps42
      go_wp2
      all_goals (go_ret; exact ⟨ret_int (by rw [← unhide HR]; first | rw [if_neg c] | omega), rfl⟩)

set_option maxRecDepth 100000 in
set_option maxHeartbeats 400000 in
theorem nuMod_a (a m : Int) (w : World) (h0 : -4611686018427387904 ≤ a ∧ a ≤ 4611686018427387904) (h1 : 0 < m) (h2 : m ≤ 4611686018427387904) :
    Calls Tryd.prog 36 #[.int .i64 a, .int .i64 m] w fun e w' => e = .returned (.int .i64 (a % m)) ∧ w = w' := by
  have hr := mod_tmod (a := a) h1
  obtain ⟨b1, b2⟩ := tmod_bd (a := a) (m := m) (by omega)
  have b3 : -m < a.tmod m := by omega
  have b4 : a.tmod m < m := by omega
  clear b1 b2
  have HR := hide hr
  clear hr
  by_cases c : a.tmod m < 0
  · by_cases ha : 0 ≤ a
    · exfalso; rw [Int.tmod_eq_emod_of_nonneg ha] at c; have := Int.emod_nonneg a (show m ≠ 0 by omega); omega
    · have hq : (decide (a.tmod m < 0)) = true := by simpa using c
      go_enter Tryd.func36, Tryd.ntmps36
      go_wp2
      all_goals (go_ret; exact ⟨ret_int (by rw [← unhide HR]; first | rw [if_pos c] | omega), rfl⟩)
  · by_cases ha : 0 ≤ a
    · rw [Int.tmod_eq_emod_of_nonneg ha] at c b3 b4
      have HA := Int.tmod_eq_emod_of_nonneg (b := m) ha
      have HA2 := hide HA
      clear HA
      go_enter Tryd.func36, Tryd.ntmps36
      go_wp2
      all_goals (go_ret; exact ⟨ret_int rfl, rfl⟩)
    · go_enter Tryd.func36, Tryd.ntmps36
      go_wp2
      all_goals (go_ret; exact ⟨ret_int (by rw [← unhide HR]; first | rw [if_neg c] | omega), rfl⟩)

end Go.Proofs.YtfoofbcmaljmoaaDoor
