/-
  The walks of spec.sqTwo, spec.sqThree, spec.sqTwos, and of CountTwo, CountThree, CountFour on both sides.
-/
import Derived.Test.YtpgpdccidoogcaaCount
namespace Go.Proofs.Ytpgpdccidoogcaa
open Go.RowKit
set_option linter.unusedVariables false
set_option linter.unusedSimpArgs false

theorem isq_nat {n x : Nat} (h : x * x ≤ n) : isq ((n : Int) - (x : Int) * (x : Int)) = ((isqN (n - x * x) : Nat) : Int) := by
  unfold isq
  have : ((n : Int) - (x : Int) * (x : Int)).toNat = n - x * x := by
    have := Int.natCast_mul x x
    omega
  rw [this]
theorem isSqB_nat {n x : Nat} (h : x * x ≤ n) : isSqB ((n : Int) - (x : Int) * (x : Int)) = decide (isqN (n - x * x) * isqN (n - x * x) = n - x * x) := by
  unfold isSqB
  rw [isq_nat h]
  have := Int.natCast_mul x x
  have h2 := Int.natCast_mul (isqN (n - x * x)) (isqN (n - x * x))
  rw [Bool.eq_iff_iff]
  simp only [beq_iff_eq, decide_eq_true_eq]
  omega
theorem isqN_zero : isqN 0 = 0 := rfl
theorem cw_isq {m : Nat} (h : m ≠ 0) : cw (isqN m) = 2 := by
  have : isqN m ≠ 0 := fun c => by have := (isqN_spec m).2; rw [c] at this; omega
  unfold cw; rw [if_neg this]
theorem tt_bd (n x : Nat) : 0 ≤ tt n x ∧ tt n x ≤ 4 := by
  unfold tt
  split
  · unfold cw; split <;> split <;> omega
  · omega
theorem sum_bd (n k : Nat) : 0 ≤ sumN (tt n) k ∧ sumN (tt n) k ≤ 4 * k := by
  refine ⟨sumN_nonneg (fun i _ => (tt_bd n i).1), ?_⟩
  have := sumN_le (h := tt n) (g := fun _ => 4) (n := k) (fun i _ => (tt_bd n i).2)
  rw [sumN_const] at this
  omega
theorem isqN_le_100 {n : Nat} (h : n ≤ 10000) : isqN n ≤ 100 := by
  by_cases c : isqN n ≤ 100
  · exact c
  · have := (isqN_spec n).1
    have := Nat.mul_le_mul (show 101 ≤ isqN n by omega) (show 101 ≤ isqN n by omega)
    omega
theorem two_bd (n : Nat) (h : n ≤ 10000) : 0 ≤ two n ∧ two n ≤ 404 := by
  have := sum_bd n (isqN n + 1)
  have := isqN_le_100 h
  unfold two; omega

theorem tt_val {n x : Nat} (hq : x * x ≤ n) (d : isqN (n - x * x) * isqN (n - x * x) = n - x * x) : tt n x = if x = 0 then (if x * x = n then 1 else 2) else (if x * x = n then 2 else 4) := by
  unfold tt
  rw [if_pos d]
  by_cases f : x * x = n
  · rw [if_pos f, if_pos f, show n - x * x = 0 from by omega, isqN_zero]
    unfold cw; split <;> simp
  · rw [if_neg f, if_neg f, cw_isq (by omega)]
    unfold cw; split <;> simp
theorem tt_end {n x : Nat} {b1 b2 : Bool} {v : Int} (h : tt n x = if x = 0 then (if x * x = n then 1 else 2) else (if x * x = n then 2 else 4)) (hq : ((x * x : Nat) : Int) = (x : Int) * (x : Int))
    (h1 : ((x : Int) == 0) = b1) (h2 : ((x : Int) * (x : Int) == (n : Int)) = b2) (hv : v = sumN (tt n) x + (if b1 then (if b2 then 1 else 2) else (if b2 then 2 else 4))) : Value.int .i64 v = .int .i64 (sumN (tt n) (x + 1)) := by
  rw [hv]
  show _ = Value.int .i64 (sumN (tt n) x + tt n x)
  rw [h, ← h1, ← h2]
  congr 2
  simp only [beq_iff_eq]
  by_cases e : x = 0
  · rw [if_pos e, if_pos (by omega)]
    by_cases f : x * x = n
    · rw [if_pos f, if_pos (by omega)]
    · rw [if_neg f, if_neg (by omega)]
  · rw [if_neg e, if_neg (by omega)]
    by_cases f : x * x = n
    · rw [if_pos f, if_pos (by omega)]
    · rw [if_neg f, if_neg (by omega)]

set_option maxHeartbeats 1000000 in
theorem sqTwo_any (n : Nat) (w : World) (hn : n ≤ 10000) :
    Calls Try.prog 51 #[.int .i64 (n : Int)] w fun e w' => e = .returned (.int .i64 (two n)) ∧ w = w' := by
  go_enter Try.func51, Try.ntmps51
  go_wp2
  go_loop [3, 4, 5] (fun cs xs _ => ∃ x : Nat, x ≤ isqN n + 1 ∧ xs = .int .i64 (x : Int) ∧ cs = .int .i64 (sumN (tt n) x)) (fun _ xs _ => isqN n + 1 - (intOf xs).toNat)
  case atStart => exact ⟨0, by omega, rfl, rfl⟩
  case round =>
    obtain ⟨x, hx, rfl, rfl⟩ := hrel
    have h100 := isqN_le_100 hn
    have hb := sum_bd n x
    by_cases c : x < isqN n + 1
    · have hq := isqN_iff.2 c
      have hq1 := Int.natCast_mul x x
      have hq2 : (x : Int) * (x : Int) ≤ (n : Int) := by omega
      have hq3 : (0 : Int) ≤ (x : Int) * (x : Int) := Int.mul_nonneg (by omega) (by omega)
      have hs := isSqB_nat hq
      by_cases d : isqN (n - x * x) * isqN (n - x * x) = n - x * x
      · have hs1 : isSqB ((n : Int) - (x : Int) * (x : Int)) = true := by rw [hs]; simpa using d
        clear hs
        have HT := hide (tt_val hq d)
        have D := hide d
        have Q1 := hide hq1
        clear d hq1
        go_wp2_with (go_at_call 47; refine (nuSquare_any _ _ (by omega) (by omega)).mono ?_; rintro e w' ⟨rfl, rfl⟩)
        all_goals
          go_round
          case rel => exact ⟨x + 1, by omega, by go_num, tt_end (unhide HT) (unhide Q1) (by assumption) (by assumption) rfl⟩
          case measure => simp [intOf]; omega
      · have hs1 : isSqB ((n : Int) - (x : Int) * (x : Int)) = false := by rw [hs]; simpa using d
        clear hs
        have ht : tt n x = 0 := by unfold tt; rw [if_neg d]
        have HT := hide ht
        have D := hide d
        have Q1 := hide hq1
        clear d hq1 ht
        go_wp2_with (go_at_call 47; refine (nuSquare_any _ _ (by omega) (by omega)).mono ?_; rintro e w' ⟨rfl, rfl⟩)
        go_round
        case rel => exact ⟨x + 1, by omega, by go_num, congrArg (Value.int .i64) (by have := unhide HT; show _ = sumN (tt n) x + tt n x; omega)⟩
        case measure => simp [intOf]; omega
    · have hx2 : x = isqN n + 1 := by omega
      have hq : ¬ x * x ≤ n := fun h => c (isqN_iff.1 h)
      have hq1 := Int.natCast_mul x x
      have hq3 : x * x ≤ 101 * 101 := Nat.mul_le_mul (by omega) (by omega)
      have hq2 : (n : Int) < (x : Int) * (x : Int) := by omega
      have hq4 : (x : Int) * (x : Int) ≤ 10201 := by omega
      have HX := hide hx2
      have Q1 := hide hq1
      clear hx2 hq1
      go_wp2
      go_ret
      exact ⟨ret_int (by rw [unhide HX]; rfl), rfl⟩

theorem three_bd (n k : Nat) (hn : n ≤ 10000) : 0 ≤ sumN (fun x => cw x * two (n - x * x)) k ∧ sumN (fun x => cw x * two (n - x * x)) k ≤ 808 * k := by
  have hb : ∀ i, 0 ≤ cw i * two (n - i * i) ∧ cw i * two (n - i * i) ≤ 808 := fun i => by
    have := two_bd (n - i * i) (by omega)
    unfold cw; split <;> omega
  refine ⟨sumN_nonneg (fun i _ => (hb i).1), ?_⟩
  have := sumN_le (h := fun x => cw x * two (n - x * x)) (g := fun _ => 808) (n := k) (fun i _ => (hb i).2)
  rw [sumN_const] at this
  omega

theorem sub_nat {n x : Nat} (h : x * x ≤ n) : (n : Int) - (x : Int) * (x : Int) = ((n - x * x : Nat) : Int) := by
  have := Int.natCast_mul x x
  omega

set_option maxHeartbeats 1000000 in
theorem sqTwo_int (n : Int) (k : Nat) (w : World) (hn : n = (k : Int)) (hk : k ≤ 10000) :
    Calls Try.prog 51 #[.int .i64 n] w fun e w' => e = .returned (.int .i64 (two k)) ∧ w = w' := by
  subst hn
  exact sqTwo_any k w hk

set_option maxHeartbeats 1000000 in
theorem sqThree_any (n : Nat) (w : World) (hn : n ≤ 10000) :
    Calls Try.prog 42 #[.int .i64 (n : Int)] w fun e w' => e = .returned (.int .i64 (three n)) ∧ w = w' := by
  go_enter Try.func42, Try.ntmps42
  go_wp2_with (go_at_call 51; refine (sqTwo_any _ _ hn).mono ?_; rintro e w' ⟨rfl, rfl⟩)
  go_loop [3, 4] (fun cs xs => ∃ x : Nat, 1 ≤ x ∧ x ≤ isqN n + 1 ∧ xs = .int .i64 (x : Int) ∧ cs = .int .i64 (sumN (fun x => cw x * two (n - x * x)) x)) (fun _ xs => isqN n + 1 - (intOf xs).toNat)
  case atStart => exact ⟨1, by omega, by omega, rfl, congrArg (Value.int .i64) (by simp [sumN, cw])⟩
  case round =>
    obtain ⟨x, h1, hx, rfl, rfl⟩ := hrel
    have h100 := isqN_le_100 hn
    have hb := three_bd n x hn
    by_cases c : x < isqN n + 1
    · have hq := isqN_iff.2 c
      have hq1 := Int.natCast_mul x x
      have hq2 : (x : Int) * (x : Int) ≤ (n : Int) := by omega
      have hq3 : (0 : Int) ≤ (x : Int) * (x : Int) := Int.mul_nonneg (by omega) (by omega)
      have HS := hide (sub_nat hq)
      have hbt := two_bd (n - x * x) (by omega)
      have Q1 := hide hq1
      clear hq1
      go_wp2_with (go_at_call 51; refine (sqTwo_int _ _ _ (unhide HS) (by omega)).mono ?_; rintro e w' ⟨rfl, rfl⟩)
      go_round
      case rel => exact ⟨x + 1, by omega, by omega, by go_num, congrArg (Value.int .i64) (by show _ = sumN (fun x => cw x * two (n - x * x)) x + cw x * two (n - x * x); unfold cw; rw [if_neg (by omega)])⟩
      case measure => simp [intOf]; omega
    · have hx2 : x = isqN n + 1 := by omega
      have hq : ¬ x * x ≤ n := fun h => c (isqN_iff.1 h)
      have hq1 := Int.natCast_mul x x
      have hq3 : x * x ≤ 101 * 101 := Nat.mul_le_mul (by omega) (by omega)
      have hq2 : (n : Int) < (x : Int) * (x : Int) := by omega
      have hq4 : (x : Int) * (x : Int) ≤ 10201 := by omega
      have HX := hide hx2
      have Q1 := hide hq1
      clear hx2 hq1
      go_wp2
      go_ret
      exact ⟨ret_int (by rw [unhide HX]; rfl), rfl⟩

theorem mul2 (a b : Int) (ha : 1 ≤ a ∧ a ≤ 2) (hb : 1 ≤ b ∧ b ≤ 2) : 1 ≤ a * b ∧ a * b ≤ 4 := by
  have : a = 1 ∨ a = 2 := by omega
  rcases this with rfl | rfl <;> omega
theorem addx_le (c : Int) (n : Nat) (g : Nat → Int) (B : Int) (hc : 1 ≤ c ∧ c ≤ 2) (hg : ∀ j, 0 ≤ g j ∧ g j ≤ B) (X : Nat) : ∀ j, 0 ≤ addx c n X g j ∧ addx c n X g j ≤ B + 4 * X := by
  induction X with
  | zero => intro j; have := hg j; simp only [addx]; omega
  | succ X ih =>
    intro j
    have := ih j
    have := mul2 c (cw X) hc (cw_pos X)
    simp only [addx]; split <;> omega
theorem addm_bd (most X j : Nat) (hm : most ≤ 10000) : 0 ≤ addm most X j ∧ addm most X j ≤ 404 * X := by
  induction X generalizing j with
  | zero => simp [addm]
  | succ X ih =>
    have := addx_le (cw X) (X * X) (addm most X) (404 * X) (cw_pos X) (fun j => ih j) (isqN (most - X * X) + 1) j
    have := isqN_le_100 (show most - X * X ≤ 10000 by omega)
    simp only [addm]; omega

/-- The times of the reference at x and y. -/
theorem tm_end {x y : Nat} {b1 b2 : Bool} {v A : Int} (h1 : ((x : Int) == 0) = b1) (h2 : ((y : Int) == 0) = b2) (hv : v = A + (if b1 then (if b2 then 1 else 2) else (if b2 then 2 else 4))) : v = A + cw x * cw y := by
  rw [hv, ← h1, ← h2]
  simp only [beq_iff_eq]
  congr 1
  unfold cw
  by_cases e : x = 0
  · rw [if_pos e, if_pos (by omega)]
    by_cases f : y = 0
    · rw [if_pos f, if_pos (by omega)]; rfl
    · rw [if_neg f, if_neg (by omega)]; rfl
  · rw [if_neg e, if_neg (by omega)]
    by_cases f : y = 0
    · rw [if_pos f, if_pos (by omega)]; rfl
    · rw [if_neg f, if_neg (by omega)]; rfl

set_option maxHeartbeats 1000000 in
theorem sqTwos_any (m : Nat) (w : World) (hm : m ≤ 10000) :
    Calls Try.prog 31 #[.int .i64 (m : Int)] w fun e w' => ∃ b, e = .returned (.slice (some ⟨b, 0, none⟩) (m + 1) (m + 1)) ∧ w'.rowIs b 3 (m + 1) (fun j => .int .i64 (two j)) ∧ w.heap.size ≤ b ∧ Below w.heap.size w w' := by
  have hmk := make_ints m (by omega)
  go_enter Try.func31, Try.ntmps31
  go_wp2
  go_loopw [4] (fun xs wr => ∃ x : Nat, x ≤ isqN m + 1 ∧ xs = .int .i64 (x : Int) ∧ wr.rowIs w.heap.size 3 (m + 1) (fun j => .int .i64 (addm m x j)) ∧ Below w.heap.size w wr) (fun xs _ => isqN m + 1 - (intOf xs).toNat)
  case atStart => exact ⟨0, by omega, rfl, (World.rowIs_made _ _ _ _).congr (fun j _ => by simp [addm]), (Below.refl _ _).alloc (Nat.le_refl _) _⟩
  case round =>
    obtain ⟨x, hx, rfl, hr, hb⟩ := hrel
    obtain ⟨w1, rfl⟩ : ∃ w1 : World, w1 = wr := ⟨_, rfl⟩
    have h100 := isqN_le_100 hm
    have hq1 := Int.natCast_mul x x
    by_cases c : x < isqN m + 1
    · have hq := isqN_iff.2 c
      have hq2 : (x : Int) * (x : Int) ≤ (m : Int) := by omega
      have hq3 : (0 : Int) ≤ (x : Int) * (x : Int) := Int.mul_nonneg (by omega) (by omega)
      have Q1 := hide hq1
      clear hq1
      go_wp2
      go_loopw [5, 6] (fun ys _ wx => ∃ y : Nat, y ≤ isqN (m - x * x) + 1 ∧ ys = .int .i64 (y : Int) ∧ wx.rowIs w.heap.size 3 (m + 1) (fun j => .int .i64 (addx (cw x) (x * x) y (addm m x) j)) ∧ Below w.heap.size w wx) (fun ys _ _ => isqN (m - x * x) + 1 - (intOf ys).toNat)
      case atStart => exact ⟨0, by omega, rfl, hr, hb⟩
      case round =>
        obtain ⟨y, hy, rfl, hs, hb2⟩ := hrel
        have hp1 := Int.natCast_mul y y
        have h101 := isqN_le_100 (show m - x * x ≤ 10000 by omega)
        have hA := addx_le (cw x) (x * x) (addm m x) (404 * x) (cw_pos x) (fun j => addm_bd m x j hm) y (x * x + y * y)
        by_cases d : y < isqN (m - x * x) + 1
        · have hp := isqN_iff.2 d
          have hp2 : (x : Int) * (x : Int) + (y : Int) * (y : Int) ≤ (m : Int) := by have := unhide Q1; omega
          have hp3 : (0 : Int) ≤ (y : Int) * (y : Int) := Int.mul_nonneg (by omega) (by omega)
          have hcell := hs.cell (i := x * x + y * y) (by omega)
          have hfr := hs.frozen (x * x + y * y)
          have P1 := hide hp1
          clear hp1
          go_wp2
          all_goals
            go_roundw
            case rel =>
              refine ⟨y + 1, by omega, by go_num, (hs.set _ _).congr (fun j _ => ?_), hb2.setCell (Nat.le_refl _) _⟩
              simp only [addx]
              split
              · rename_i hj
                subst hj
                exact congrArg (Value.int .i64) (tm_end (by assumption) (by assumption) rfl)
              · rfl
            case measure => simp [intOf]; omega
        · have hy2 : y = isqN (m - x * x) + 1 := by omega
          have hp : ¬ y * y ≤ m - x * x := fun h => d (isqN_iff.1 h)
          have hp3 : y * y ≤ 101 * 101 := Nat.mul_le_mul (by omega) (by omega)
          have hp2 : (m : Int) < (x : Int) * (x : Int) + (y : Int) * (y : Int) := by have := unhide Q1; omega
          have hp4 : (y : Int) * (y : Int) ≤ 10201 := by omega
          have HY := hide hy2
          have P1 := hide hp1
          clear hy2 hp1
          go_wp2
          go_roundw
          case rel => exact ⟨x + 1, by omega, by go_num, hs.congr (fun j _ => by rw [unhide HY]; rfl), hb2⟩
          case measure => simp [intOf]; omega
    · have hx2 : x = isqN m + 1 := by omega
      have hq : ¬ x * x ≤ m := fun h => c (isqN_iff.1 h)
      have hq3 : x * x ≤ 101 * 101 := Nat.mul_le_mul (by omega) (by omega)
      have hq2 : (m : Int) < (x : Int) * (x : Int) := by omega
      have hq4 : (x : Int) * (x : Int) ≤ 10201 := by omega
      have HX := hide hx2
      have Q1 := hide hq1
      clear hx2 hq1
      go_wp2
      go_ret
      exact ⟨w.heap.size, rfl, hr.congr (fun j hj => by rw [unhide HX, addm_two m j (by omega)]), Nat.le_refl _, hb⟩
end Go.Proofs.Ytpgpdccidoogcaa
