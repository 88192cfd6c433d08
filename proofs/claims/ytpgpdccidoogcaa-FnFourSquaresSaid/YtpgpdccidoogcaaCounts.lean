/-
  The walks of impl.countSquares, CountTwo, CountThree, CountFour on both sides, and the three laws' walks.
-/
import Derived.Test.YtpgpdccidoogcaaTwo
namespace Go.Proofs.Ytpgpdccidoogcaa
open Go.RowKit
set_option linter.unusedVariables false
set_option linter.unusedSimpArgs false

/-- g n for a valid n, 0 else. -/
def cnt (g : Nat → Int) (n : Int) : Int := if inB n 0 10000 then g n.toNat else 0
theorem cnt_no {g : Nat → Int} {n : Int} (h : inB n 0 10000 = false) : cnt g n = 0 := by simp [cnt, h]
theorem cnt_yes {g : Nat → Int} {m : Nat} (h : inB (m : Int) 0 10000 = true) : cnt g (m : Int) = g m := by simp [cnt, h]
theorem cnt_congr {g h : Nat → Int} (e : ∀ m, g m = h m) : cnt g = cnt h := by rw [show g = h from funext e]

set_option maxHeartbeats 1000000 in
theorem countSquares_any (k : Nat) (n : Int) (w : World) (hk : k ≤ 4) :
    Calls Try.prog 29 #[.int .i64 (k : Int), .int .i64 n] w fun e w' => e = .returned (.tuple #[.int .i64 (cnt (fun m => sc m k m) n), .bool (inB n 0 10000)]) ∧ Below w.heap.size w w' := by
  cases h : inB n 0 10000
  · rw [cnt_no h]
    go_enter Try.func29, Try.ntmps29
    go_wp2_with (go_at_call 35; refine (isSum_any _ _).mono ?_; rintro e w' ⟨rfl, rfl⟩)
    go_ret2
    exact ⟨rfl, Below.refl _ _⟩
  · obtain ⟨h0, h1⟩ := inB_true h
    obtain ⟨m, rfl⟩ := Int.eq_ofNat_of_zero_le h0
    rw [cnt_yes h]
    have hm : m ≤ 10000 := by omega
    go_enter Try.func29, Try.ntmps29
    go_wp2_with (first | (go_at_call 35; refine (isSum_any _ _).mono ?_; rintro e w' ⟨rfl, rfl⟩) | (go_at_call 48; refine (squareCounts_any k m _ (by omega) (by omega) (by omega)).mono ?_; rintro e w1 ⟨b, rfl, hrow, hbw, hbel⟩; have hcell := hrow.cell (i := m) (by omega); clear hrow))
    go_ret2
    exact ⟨rfl, by assumption⟩

set_option maxHeartbeats 1000000 in
theorem implCountTwo_any (n : Int) (w : World) :
    Calls Try.prog 10 #[.int .i64 n] w fun e w' => e = .returned (.tuple #[.int .i64 (cnt (fun m => sc m 2 m) n), .bool (inB n 0 10000)]) ∧ Below w.heap.size w w' := by
  go_enter Try.func10, Try.ntmps10
  go_wp2_with (go_at_call 29; refine (countSquares_any 2 n _ (by omega)).mono ?_; rintro e w1 ⟨rfl, hbel⟩)
  go_ret2
  exact ⟨rfl, by assumption⟩

set_option maxHeartbeats 1000000 in
theorem implCountThree_any (n : Int) (w : World) :
    Calls Try.prog 17 #[.int .i64 n] w fun e w' => e = .returned (.tuple #[.int .i64 (cnt (fun m => sc m 3 m) n), .bool (inB n 0 10000)]) ∧ Below w.heap.size w w' := by
  go_enter Try.func17, Try.ntmps17
  go_wp2_with (go_at_call 29; refine (countSquares_any 3 n _ (by omega)).mono ?_; rintro e w1 ⟨rfl, hbel⟩)
  go_ret2
  exact ⟨rfl, by assumption⟩

set_option maxHeartbeats 1000000 in
theorem implCountFour_any (n : Int) (w : World) :
    Calls Try.prog 7 #[.int .i64 n] w fun e w' => e = .returned (.tuple #[.int .i64 (cnt (fun m => sc m 4 m) n), .bool (inB n 0 10000)]) ∧ Below w.heap.size w w' := by
  go_enter Try.func7, Try.ntmps7
  go_wp2_with (go_at_call 29; refine (countSquares_any 4 n _ (by omega)).mono ?_; rintro e w1 ⟨rfl, hbel⟩)
  go_ret2
  exact ⟨rfl, by assumption⟩

set_option maxHeartbeats 1000000 in
theorem specCountThree_any (n : Int) (w : World) :
    Calls Try.prog 18 #[.int .i64 n] w fun e w' => e = .returned (.tuple #[.int .i64 (cnt three n), .bool (inB n 0 10000)]) ∧ Below w.heap.size w w' := by
  cases h : inB n 0 10000
  · rw [cnt_no h]
    go_enter Try.func18, Try.ntmps18
    go_wp2_with (go_at_call 30; refine (sqGood_any _ _).mono ?_; rintro e w' ⟨rfl, rfl⟩)
    go_ret2
    exact ⟨rfl, Below.refl _ _⟩
  · obtain ⟨h0, h1⟩ := inB_true h
    obtain ⟨m, rfl⟩ := Int.eq_ofNat_of_zero_le h0
    rw [cnt_yes h]
    have hm : m ≤ 10000 := by omega
    go_enter Try.func18, Try.ntmps18
    go_wp2_with (first | (go_at_call 30; refine (sqGood_any _ _).mono ?_; rintro e w' ⟨rfl, rfl⟩) | (go_at_call 42; refine (sqThree_any m _ (by omega)).mono ?_; rintro e w' ⟨rfl, rfl⟩))
    go_ret2
    exact ⟨rfl, Below.refl _ _⟩

theorem cntCountTwo_eq (n : Int) : cnt (fun m => sc m 2 m) n = cnt two n := congrFun (cnt_congr (fun m => sc_two m m (Nat.le_refl _))) n

theorem cntCountThree_eq (n : Int) : cnt (fun m => sc m 3 m) n = cnt three n := congrFun (cnt_congr (fun m => sc_three m m (Nat.le_refl _))) n

theorem four_bd (n k : Nat) (hn : n ≤ 10000) : 0 ≤ sumN (fun k => two k * two (n - k)) k ∧ (k ≤ n + 1 → sumN (fun k => two k * two (n - k)) k ≤ 163216 * k) := by
  induction k with
  | zero => simp [sumN]
  | succ k ih =>
    by_cases hk : k ≤ n
    · have a := two_bd k (by omega)
      have b := two_bd (n - k) (by omega)
      have c := Int.mul_nonneg a.1 b.1
      have d : two k * two (n - k) ≤ 404 * 404 := Int.mul_le_mul a.2 b.2 b.1 (by omega)
      simp only [sumN]
      omega
    · have a : 0 ≤ two k := sumN_nonneg (fun i _ => (tt_bd k i).1)
      have b : 0 ≤ two (n - k) := sumN_nonneg (fun i _ => (tt_bd (n - k) i).1)
      have c := Int.mul_nonneg a b
      simp only [sumN]
      omega

set_option maxHeartbeats 1000000 in
theorem specCountFour_any (n : Int) (w : World) :
    Calls Try.prog 8 #[.int .i64 n] w fun e w' => e = .returned (.tuple #[.int .i64 (cnt four n), .bool (inB n 0 10000)]) ∧ Below w.heap.size w w' := by
  cases h : inB n 0 10000
  · rw [cnt_no h]
    go_enter Try.func8, Try.ntmps8
    go_wp2_with (go_at_call 30; refine (sqGood_any _ _).mono ?_; rintro e w' ⟨rfl, rfl⟩)
    go_ret2
    exact ⟨rfl, Below.refl _ _⟩
  · obtain ⟨h0, h1⟩ := inB_true h
    obtain ⟨m, rfl⟩ := Int.eq_ofNat_of_zero_le h0
    rw [cnt_yes h]
    have hm : m ≤ 10000 := by omega
    go_enter Try.func8, Try.ntmps8
    go_wp2_with (first | (go_at_call 30; refine (sqGood_any _ _).mono ?_; rintro e w' ⟨rfl, rfl⟩) | (go_at_call 31; refine (sqTwos_any m _ (by omega)).mono ?_; rintro e w1 ⟨b, rfl, hrow, hbw, hbel⟩))
    go_loop [5, 15] (fun cs ks => ∃ k : Nat, k ≤ m + 1 ∧ ks = .int .i64 (k : Int) ∧ cs = .int .i64 (sumN (fun k => two k * two (m - k)) k)) (fun _ ks => m + 1 - (intOf ks).toNat)
    case atStart => exact ⟨0, by omega, rfl, rfl⟩
    case round =>
      obtain ⟨k, hk, rfl, rfl⟩ := hrel
      by_cases c : k < m + 1
      · have hc1 := hrow.cell c
        have hc2 := hrow.cell (i := m - k) (by omega)
        have a := two_bd k (by omega)
        have b' := two_bd (m - k) (by omega)
        have d1 := Int.mul_nonneg a.1 b'.1
        have d2 : two k * two (m - k) ≤ 404 * 404 := Int.mul_le_mul a.2 b'.2 b'.1 (by omega)
        obtain ⟨s1, s2⟩ := four_bd m k hm
        have s3 := s2 hk
        have ci : (k : Int) < (m : Int) + 1 := by omega
        clear s2
        go_wp2
        go_round
        case rel => exact ⟨k + 1, by omega, by go_num, rfl⟩
        case measure => simp [intOf]; omega
      · have hk2 : k = m + 1 := by omega
        have HK := hide hk2
        clear hk2
        go_wp2
        go_ret2
        exact ⟨by rw [unhide HK]; rfl, hbel⟩

theorem cntCountFour_eq (n : Int) : cnt (fun m => sc m 4 m) n = cnt four n := congrFun (cnt_congr (fun m => sc_four m m (Nat.le_refl _))) n

end Go.Proofs.Ytpgpdccidoogcaa
