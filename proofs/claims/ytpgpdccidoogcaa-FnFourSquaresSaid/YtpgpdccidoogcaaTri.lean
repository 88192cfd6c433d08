/-
  The walks of CountTriangular on both sides: two loops in one another, and the law's walk.
-/
import Derived.Test.YtpgpdccidoogcaaCounts
namespace Go.Proofs.Ytpgpdccidoogcaa
open Go.RowKit
set_option linter.unusedVariables false
set_option linter.unusedSimpArgs false

def tri (x : Nat) : Nat := x * (x + 1) / 2
theorem tri_succ (x : Nat) : tri (x + 1) = tri x + (x + 1) := by
  unfold tri
  have h : (x + 1) * (x + 1 + 1) = x * (x + 1) + 2 * (x + 1) := by rw [Nat.mul_comm (x + 1), Nat.add_mul]; rw [Nat.add_mul]; omega
  omega
theorem tri_ge (x : Nat) : x ≤ tri x := by
  induction x with
  | zero => simp [tri]
  | succ x ih => rw [tri_succ]; omega
theorem tri_mono {a b : Nat} (h : a ≤ b) : tri a ≤ tri b := by
  induction b with
  | zero => rw [show a = 0 from by omega]; exact Nat.le_refl _
  | succ b ih =>
    by_cases c : a = b + 1
    · rw [c]; exact Nat.le_refl _
    · have := ih (by omega); rw [tri_succ]; omega
theorem tri_int (x : Nat) : ((tri x : Nat) : Int) = (x : Int) * ((x : Int) + 1) / 2 := by
  unfold tri
  have := Int.natCast_mul x (x + 1)
  rw [show ((x + 1 : Nat) : Int) = (x : Int) + 1 from by omega] at this
  omega
def tf (n t k : Nat) : Int := if t + tri k ≤ n then (if isSqB (8 * ((n : Int) - (t : Int) - (tri k : Int)) + 1) then 1 else 0) else 0
def tg (n i : Nat) : Int := if tri i ≤ n then sumN (tf n (tri i)) (n + 1) else 0
def triN (n : Nat) : Int := sumN (tg n) (n + 1)
theorem tf_bd (n t k : Nat) : 0 ≤ tf n t k ∧ tf n t k ≤ 1 := by unfold tf; split <;> (try split) <;> omega
theorem tfs_bd (n t k : Nat) : 0 ≤ sumN (tf n t) k ∧ sumN (tf n t) k ≤ k := by
  refine ⟨sumN_nonneg (fun i _ => (tf_bd n t i).1), ?_⟩
  have := sumN_le (h := tf n t) (g := fun _ => 1) (n := k) (fun i _ => (tf_bd n t i).2)
  rw [sumN_const] at this
  omega
theorem tg_bd (n i : Nat) (hn : n ≤ 1000) : 0 ≤ tg n i ∧ tg n i ≤ 1001 := by
  unfold tg
  split
  · have := tfs_bd n (tri i) (n + 1); omega
  · omega
theorem tgs_bd (n k : Nat) (hn : n ≤ 1000) : 0 ≤ sumN (tg n) k ∧ sumN (tg n) k ≤ 1001 * k := by
  refine ⟨sumN_nonneg (fun i _ => (tg_bd n i hn).1), ?_⟩
  have := sumN_le (h := tg n) (g := fun _ => 1001) (n := k) (fun i _ => (tg_bd n i hn).2)
  rw [sumN_const] at this
  omega
theorem tf_all {n t k : Nat} (hk : k ≤ n + 1) (h : n < t + tri k) : sumN (tf n t) (n + 1) = sumN (tf n t) k :=
  sumN_tail hk (fun i h1 _ => by have := tri_mono h1; unfold tf; rw [if_neg (by omega)])
theorem tg_all {n i : Nat} (hk : i ≤ n + 1) (h : n < tri i) : sumN (tg n) (n + 1) = sumN (tg n) i :=
  sumN_tail hk (fun j h1 _ => by have := tri_mono h1; unfold tg; rw [if_neg (by omega)])
/-- Spelled as the walk spells it. -/
theorem mul_bd {x : Nat} (h : x ≤ 1001) : 0 ≤ (x : Int) * ((x : Int) + 1) ∧ (x : Int) * ((x : Int) + 1) ≤ 1003002 :=
  ⟨Int.mul_nonneg (by omega) (by omega), by have := Int.mul_le_mul (show (x : Int) ≤ 1001 by omega) (show (x : Int) + 1 ≤ 1002 by omega) (by omega) (by omega); omega⟩
def cntT (n : Int) : Int := if inB n 0 1000 then triN n.toNat else 0
theorem cntT_no {n : Int} (h : inB n 0 1000 = false) : cntT n = 0 := by simp [cntT, h]
theorem cntT_yes {m : Nat} (h : inB (m : Int) 0 1000 = true) : cntT (m : Int) = triN m := by simp [cntT, h]

set_option maxHeartbeats 2000000 in
theorem implCountTriangular_any (n : Int) (w : World) :
    Calls Try.prog 22 #[.int .i64 n] w fun e w' => e = .returned (.tuple #[.int .i64 (cntT n), .bool (inB n 0 1000)]) ∧ w = w' := by
  cases h : inB n 0 1000
  · rw [cntT_no h]
    have h2 := inB_false h
    by_cases c : n < 0
    · go_enter Try.func22, Try.ntmps22
      go_wp2
      go_ret2
      exact ⟨rfl, rfl⟩
    · have h3 : (1000 : Int) < n := by omega
      go_enter Try.func22, Try.ntmps22
      go_wp2
      go_ret2
      exact ⟨rfl, rfl⟩
  · obtain ⟨h0, h1⟩ := inB_true h
    obtain ⟨m, rfl⟩ := Int.eq_ofNat_of_zero_le h0
    rw [cntT_yes h]
    have hm : m ≤ 1000 := by omega
    have hm1 : (m : Int) ≤ 1000 := by omega
    go_enter Try.func22, Try.ntmps22
    go_wp2
    go_loop [4, 5] (fun cs xs => ∃ i : Nat, i ≤ m + 1 ∧ xs = .int .i64 (i : Int) ∧ cs = .int .i64 (sumN (tg m) i)) (fun _ xs => m + 1 - (intOf xs).toNat)
    case atStart => exact ⟨0, by omega, rfl, rfl⟩
    case round =>
      obtain ⟨i, hi, rfl, rfl⟩ := hrel
      have hb := tgs_bd m i hm
      have hp := mul_bd (x := i) (by omega)
      have ht := tri_int i
      by_cases c : tri i ≤ m
      · have hg := tri_ge i
        have hc : (i : Int) * ((i : Int) + 1) / 2 ≤ (m : Int) := by omega
        have HT := hide ht
        clear ht
        go_wp2
        go_loop [4, 6] (fun cs ys => ∃ k : Nat, k ≤ m + 1 ∧ ys = .int .i64 (k : Int) ∧ cs = .int .i64 (sumN (tg m) i + sumN (tf m (tri i)) k)) (fun _ ys => m + 1 - (intOf ys).toNat)
        case atStart => exact ⟨0, by omega, rfl, congrArg (Value.int .i64) (by show _ = _ + 0; omega)⟩
        case round =>
          obtain ⟨k, hk, rfl, rfl⟩ := hrel
          have hb2 := tfs_bd m (tri i) k
          have hq := mul_bd (x := k) (by omega)
          have hu := tri_int k
          by_cases d : tri i + tri k ≤ m
          · have hg2 := tri_ge k
            have hd : (i : Int) * ((i : Int) + 1) / 2 + (k : Int) * ((k : Int) + 1) / 2 ≤ (m : Int) := by have := unhide HT; omega
            have hs : isSqB (8 * ((m : Int) - (i : Int) * ((i : Int) + 1) / 2 - (k : Int) * ((k : Int) + 1) / 2) + 1) = isSqB (8 * ((m : Int) - (tri i : Int) - (tri k : Int)) + 1) := by rw [unhide HT, hu]
            have hv : tf m (tri i) k = if isSqB (8 * ((m : Int) - (tri i : Int) - (tri k : Int)) + 1) then 1 else 0 := by unfold tf; rw [if_pos d]
            cases hz : isSqB (8 * ((m : Int) - (tri i : Int) - (tri k : Int)) + 1)
            · rw [hz] at hs hv
              have HV := hide hv
              have HZ := hide hz
              have HU := hide hu
              clear hv hz hu
              go_wp2_with (go_at_call 45; refine (isSquare_any _ _ (by omega) (by omega)).mono ?_; rintro e w' ⟨rfl, rfl⟩)
              go_round
              case rel => exact ⟨k + 1, by omega, by go_num, congrArg (Value.int .i64) (by show _ = _ + (sumN (tf m (tri i)) k + tf m (tri i) k); rw [unhide HV]; simp)⟩
              case measure => simp [intOf]; omega
            · rw [hz] at hs hv
              have HV := hide hv
              have HZ := hide hz
              have HU := hide hu
              clear hv hz hu
              go_wp2_with (go_at_call 45; refine (isSquare_any _ _ (by omega) (by omega)).mono ?_; rintro e w' ⟨rfl, rfl⟩)
              go_round
              case rel => exact ⟨k + 1, by omega, by go_num, congrArg (Value.int .i64) (by show _ = _ + (sumN (tf m (tri i)) k + tf m (tri i) k); rw [unhide HV]; simp; omega)⟩
              case measure => simp [intOf]; omega
          · have hd : (m : Int) < (i : Int) * ((i : Int) + 1) / 2 + (k : Int) * ((k : Int) + 1) / 2 := by have := unhide HT; omega
            have ha := tf_all hk (show m < tri i + tri k by omega)
            have HA := hide ha
            have HU := hide hu
            clear ha hu
            go_wp2
            go_round
            case rel => exact ⟨i + 1, by omega, by go_num, congrArg (Value.int .i64) (by show _ = sumN (tg m) i + tg m i; unfold tg; rw [if_pos c, unhide HA])⟩
            case measure => simp [intOf]; omega
      · have hc : (m : Int) < (i : Int) * ((i : Int) + 1) / 2 := by omega
        have ha := tg_all hi (show m < tri i by omega)
        have HA := hide ha
        have HT := hide ht
        clear ha ht
        go_wp2
        go_ret2
        exact ⟨by show _ = Ending.returned (.tuple #[.int .i64 (sumN (tg m) (m + 1)), _]); rw [unhide HA]; rfl, rfl⟩

set_option maxHeartbeats 2000000 in
theorem specCountTriangular_any (n : Int) (w : World) :
    Calls Try.prog 23 #[.int .i64 n] w fun e w' => e = .returned (.tuple #[.int .i64 (cntT n), .bool (inB n 0 1000)]) ∧ w = w' := by
  cases h : inB n 0 1000
  · rw [cntT_no h]
    go_enter Try.func23, Try.ntmps23
    go_wp2_with (go_at_call 46; refine (l1In_any _ _ _ _).mono ?_; rintro e w' ⟨rfl, rfl⟩)
    go_ret2
    exact ⟨rfl, rfl⟩
  · obtain ⟨h0, h1⟩ := inB_true h
    obtain ⟨m, rfl⟩ := Int.eq_ofNat_of_zero_le h0
    rw [cntT_yes h]
    have hm : m ≤ 1000 := by omega
    have hm1 : (m : Int) ≤ 1000 := by omega
    go_enter Try.func23, Try.ntmps23
    go_wp2_with (go_at_call 46; refine (l1In_any _ _ _ _).mono ?_; rintro e w' ⟨rfl, rfl⟩)
    go_loop [4, 5] (fun cs xs => ∃ i : Nat, i ≤ m + 1 ∧ xs = .int .i64 (i : Int) ∧ cs = .int .i64 (sumN (tg m) i)) (fun _ xs => m + 1 - (intOf xs).toNat)
    case atStart => exact ⟨0, by omega, rfl, rfl⟩
    case round =>
      obtain ⟨i, hi, rfl, rfl⟩ := hrel
      have hb := tgs_bd m i hm
      have hp := mul_bd (x := i) (by omega)
      have ht := tri_int i
      by_cases c : tri i ≤ m
      · have hg := tri_ge i
        have hc : (i : Int) * ((i : Int) + 1) / 2 ≤ (m : Int) := by omega
        have HT := hide ht
        clear ht
        go_wp2
        go_loop [4, 6] (fun cs ys => ∃ k : Nat, k ≤ m + 1 ∧ ys = .int .i64 (k : Int) ∧ cs = .int .i64 (sumN (tg m) i + sumN (tf m (tri i)) k)) (fun _ ys => m + 1 - (intOf ys).toNat)
        case atStart => exact ⟨0, by omega, rfl, congrArg (Value.int .i64) (by show _ = _ + 0; omega)⟩
        case round =>
          obtain ⟨k, hk, rfl, rfl⟩ := hrel
          have hb2 := tfs_bd m (tri i) k
          have hq := mul_bd (x := k) (by omega)
          have hu := tri_int k
          by_cases d : tri i + tri k ≤ m
          · have hg2 := tri_ge k
            have hd : (i : Int) * ((i : Int) + 1) / 2 + (k : Int) * ((k : Int) + 1) / 2 ≤ (m : Int) := by have := unhide HT; omega
            have hs : isSqB (8 * ((m : Int) - (i : Int) * ((i : Int) + 1) / 2 - (k : Int) * ((k : Int) + 1) / 2) + 1) = isSqB (8 * ((m : Int) - (tri i : Int) - (tri k : Int)) + 1) := by rw [unhide HT, hu]
            have hv : tf m (tri i) k = if isSqB (8 * ((m : Int) - (tri i : Int) - (tri k : Int)) + 1) then 1 else 0 := by unfold tf; rw [if_pos d]
            cases hz : isSqB (8 * ((m : Int) - (tri i : Int) - (tri k : Int)) + 1)
            · rw [hz] at hs hv
              have HV := hide hv
              have HZ := hide hz
              have HU := hide hu
              clear hv hz hu
              go_wp2_with (go_at_call 47; refine (nuSquare_any _ _ (by omega) (by omega)).mono ?_; rintro e w' ⟨rfl, rfl⟩)
              go_round
              case rel => exact ⟨k + 1, by omega, by go_num, congrArg (Value.int .i64) (by show _ = _ + (sumN (tf m (tri i)) k + tf m (tri i) k); rw [unhide HV]; simp)⟩
              case measure => simp [intOf]; omega
            · rw [hz] at hs hv
              have HV := hide hv
              have HZ := hide hz
              have HU := hide hu
              clear hv hz hu
              go_wp2_with (go_at_call 47; refine (nuSquare_any _ _ (by omega) (by omega)).mono ?_; rintro e w' ⟨rfl, rfl⟩)
              go_round
              case rel => exact ⟨k + 1, by omega, by go_num, congrArg (Value.int .i64) (by show _ = _ + (sumN (tf m (tri i)) k + tf m (tri i) k); rw [unhide HV]; simp; omega)⟩
              case measure => simp [intOf]; omega
          · have hd : (m : Int) < (i : Int) * ((i : Int) + 1) / 2 + (k : Int) * ((k : Int) + 1) / 2 := by have := unhide HT; omega
            have ha := tf_all hk (show m < tri i + tri k by omega)
            have HA := hide ha
            have HU := hide hu
            clear ha hu
            go_wp2
            go_round
            case rel => exact ⟨i + 1, by omega, by go_num, congrArg (Value.int .i64) (by show _ = sumN (tg m) i + tg m i; unfold tg; rw [if_pos c, unhide HA])⟩
            case measure => simp [intOf]; omega
      · have hc : (m : Int) < (i : Int) * ((i : Int) + 1) / 2 := by omega
        have ha := tg_all hi (show m < tri i by omega)
        have HA := hide ha
        have HT := hide ht
        clear ha ht
        go_wp2
        go_ret2
        exact ⟨by show _ = Ending.returned (.tuple #[.int .i64 (sumN (tg m) (m + 1)), _]); rw [unhide HA]; rfl, rfl⟩

end Go.Proofs.Ytpgpdccidoogcaa
