/-
  Plain: what the three counts of sums of three squares have to do with each other.
-/
import Derived.Test.YtpgpdccidoogcaaLeg
import Derived.Test.YtpgpdccidoogcaaTwo
import Derived.Test.YtpgpdccidoogcaaTri
import Derived.Test.YtpgpdccidoogcaaSeries
namespace Go.Proofs.Ytpgpdccidoogcaa
open Go.RowKit
set_option linter.unusedVariables false
set_option linter.unusedSimpArgs false

theorem sumN_pos_ex {h : Nat → Int} : ∀ {n : Nat}, 0 < sumN h n → ∃ i, i < n ∧ 0 < h i
  | 0, hp => absurd hp (by simp [sumN])
  | n + 1, hp => by
    by_cases q : 0 < h n
    · exact ⟨n, by omega, q⟩
    · have : 0 < sumN h n := by simp only [sumN] at hp; omega
      obtain ⟨i, hi, hh⟩ := sumN_pos_ex this
      exact ⟨i, by omega, hh⟩
theorem sumN_pos_of {h : Nat → Int} (h0 : ∀ i, 0 ≤ h i) : ∀ {n : Nat} (i : Nat), i < n → 0 < h i → 0 < sumN h n
  | 0, i, hi, _ => absurd hi (by omega)
  | n + 1, i, hi, hp => by
    simp only [sumN]
    have hn := sumN_nonneg (h := h) (n := n) (fun i _ => h0 i)
    by_cases q : i = n
    · subst q; omega
    · have := sumN_pos_of h0 (n := n) i (by omega) hp
      have := h0 n
      omega
theorem tt_nonneg (n x : Nat) : 0 ≤ tt n x := by
  unfold tt
  split
  · have := cw_pos x; have := cw_pos (isqN (n - x * x))
    exact Int.mul_nonneg (by omega) (by omega)
  · exact Int.le_refl _
theorem two_nonneg (m : Nat) : 0 ≤ two m := sumN_nonneg fun i _ => tt_nonneg m i
theorem two_pos {m : Nat} : 0 < two m ↔ ∃ y z : Nat, y * y + z * z = m := by
  constructor
  · intro h
    obtain ⟨y, hy, hp⟩ := sumN_pos_ex h
    have hle := isqN_sq_le (m := m) (x := y) (by omega)
    unfold tt at hp
    by_cases q : isqN (m - y * y) * isqN (m - y * y) = m - y * y
    · exact ⟨y, isqN (m - y * y), by omega⟩
    · rw [if_neg q] at hp; exact absurd hp (by omega)
  · rintro ⟨y, z, rfl⟩
    refine sumN_pos_of (tt_nonneg _) y (isqN_iff.1 (by omega)) ?_
    have e : y * y + z * z - y * y = z * z := by omega
    unfold tt
    rw [e, isqN_sq, if_pos rfl]
    have := cw_pos y; have := cw_pos z
    exact Int.mul_pos (by omega) (by omega)
theorem three_pos {n : Nat} : 0 < three n ↔ ∃ x y z : Nat, x * x + y * y + z * z = n := by
  have h0 : ∀ x, 0 ≤ cw x * two (n - x * x) := fun x => Int.mul_nonneg (by have := cw_pos x; omega) (two_nonneg _)
  constructor
  · intro h
    obtain ⟨x, hx, hp⟩ := sumN_pos_ex h
    have hle := isqN_sq_le (m := n) (x := x) (by omega)
    have h2 : 0 < two (n - x * x) := by
      have h1 := two_nonneg (n - x * x)
      by_cases q : two (n - x * x) = 0
      · rw [q, Int.mul_zero] at hp; exact absurd hp (by omega)
      · omega
    obtain ⟨y, z, e⟩ := two_pos.1 h2
    exact ⟨x, y, z, by omega⟩
  · rintro ⟨x, y, z, e⟩
    refine sumN_pos_of h0 x (isqN_iff.1 (by omega)) ?_
    exact Int.mul_pos (by have := cw_pos x; omega) (two_pos.2 ⟨y, z, by omega⟩)
/-- A sum of three squares exactly if it has a representation. -/
theorem is3_three {n : Nat} (hn : n ≤ 10000) : (!(formB n)) = decide (0 < three n) := by
  cases hf : formB n
  · have : 0 < three n := by
      rcases wit_all n hn with h | ⟨x, y, z, h, _⟩
      · rw [hf] at h; cases h
      · exact three_pos.2 ⟨x, y, z, h⟩
    simp [this]
  · have : ¬ 0 < three n := fun h => by
      obtain ⟨x, y, z, e⟩ := three_pos.1 h
      have h2 := no_form 20 n x y z e
      unfold formB at hf
      rw [beq_iff_eq] at hf
      exact h2 hf
    simp [this]
theorem fyN_some {n x y : Int} : ∀ {k : Nat}, fyN n x k = some y → chk n x y = true ∧ 0 ≤ y ∧ y < k
  | 0, h => by simp [fyN] at h
  | k + 1, h => by
    unfold fyN at h
    split at h
    · rename_i c
      cases h
      exact ⟨c, by omega, by omega⟩
    · obtain ⟨h1, h2, h3⟩ := fyN_some h
      exact ⟨h1, h2, by omega⟩
theorem ftN_some {n : Int} {t : Int × Int × Int} : ∀ {k : Nat}, ftN n k = some t → t.1 * t.1 + t.2.1 * t.2.1 + t.2.2 * t.2.2 = n ∧ t.2.1 ≤ t.1 ∧ t.2.2 ≤ t.2.1 ∧ 0 ≤ t.2.2
  | 0, h => by simp [ftN] at h
  | k + 1, h => by
    unfold ftN at h
    split at h
    · rename_i y hy
      cases h
      unfold fyI at hy
      obtain ⟨h1, h2, h3⟩ := fyN_some hy
      unfold chk isSqB at h1
      rw [Bool.and_eq_true, beq_iff_eq, decide_eq_true_eq] at h1
      refine ⟨?_, ?_, h1.2, isq_nonneg _⟩
      · show (k : Int) * k + y * y + isq _ * isq _ = n
        rw [h1.1]; omega
      · show y ≤ (k : Int)
        have := Int.min_le_left (k : Int) (isq (n - k * k))
        omega
    · exact ftN_some h
theorem f3_facts {n : Int} (h : fOk (f3 n) = true) : fX (f3 n) * fX (f3 n) + fY (f3 n) * fY (f3 n) + fZ (f3 n) * fZ (f3 n) = n ∧ fY (f3 n) ≤ fX (f3 n) ∧ fZ (f3 n) ≤ fY (f3 n) ∧ 0 ≤ fZ (f3 n) := by
  unfold fOk at h
  obtain ⟨t, ht⟩ := Option.isSome_iff_exists.1 h
  rw [ht]
  unfold f3 at ht
  split at ht
  · exact ftN_some ht
  · cases ht
theorem sumN_odd (h : Nat → Int) : ∀ k, sumN h (2 * k) = sumN (fun i => h (2 * i) + h (2 * i + 1)) k
  | 0 => rfl
  | k + 1 => by
    have e : 2 * (k + 1) = 2 * k + 1 + 1 := by omega
    rw [e]
    simp only [sumN]
    rw [sumN_odd h k]; omega
theorem sumN_more {h : Nat → Int} {a : Nat} : ∀ d, (∀ i, a ≤ i → i < a + d → h i = 0) → sumN h (a + d) = sumN h a
  | 0, _ => rfl
  | d + 1, hz => by
    show sumN h (a + d) + h (a + d) = _
    rw [hz (a + d) (by omega) (by omega), sumN_more d (fun i h1 h2 => hz i h1 (by omega))]; omega
theorem two_ext {m Y : Nat} (h : isqN m + 1 ≤ Y) : two m = sumN (fun y => if y * y ≤ m then tt m y else 0) Y := by
  obtain ⟨d, rfl⟩ : ∃ d, Y = isqN m + 1 + d := ⟨Y - (isqN m + 1), by omega⟩
  rw [sumN_more d (fun i h1 h2 => by rw [if_neg (fun q => by have := isqN_mono_sq q; omega)])]
  exact sumN_congr fun i hi => by rw [if_pos (isqN_sq_le (by omega))]
theorem three_ext {n X : Nat} (h : isqN n + 1 ≤ X) : three n = sumN (fun x => if x * x ≤ n then cw x * two (n - x * x) else 0) X := by
  obtain ⟨d, rfl⟩ : ∃ d, X = isqN n + 1 + d := ⟨X - (isqN n + 1), by omega⟩
  rw [sumN_more d (fun i h1 h2 => by rw [if_neg (fun q => by have := isqN_mono_sq q; omega)])]
  exact sumN_congr fun i hi => by rw [if_pos (isqN_sq_le (by omega))]
theorem tri_odd (i : Nat) : (2 * i + 1) * (2 * i + 1) = 8 * tri i + 1 := by
  have h : 2 ∣ i * (i + 1) := by
    rcases Nat.mod_two_eq_zero_or_one i with q | q
    · exact Nat.dvd_mul_right_of_dvd (Nat.dvd_of_mod_eq_zero q) _
    · exact Nat.dvd_mul_left_of_dvd (Nat.dvd_of_mod_eq_zero (by omega)) _
  have h2 : 2 * tri i = i * (i + 1) := by unfold tri; exact Nat.mul_div_cancel' h
  have h3 : (2 * i + 1) * (2 * i + 1) = 4 * (i * (i + 1)) + 1 := by
    simp only [Nat.mul_add, Nat.add_mul, Nat.mul_one, Nat.one_mul]
    have : 2 * i * (2 * i) = 4 * (i * i) := by rw [Nat.mul_mul_mul_comm]
    omega
  omega
theorem sq_mod4 (x : Nat) : x * x % 4 = 0 ∨ x * x % 4 = 1 := by have := sq_mod8 x; omega
theorem even_sq (k : Nat) : 2 * k * (2 * k) = 4 * (k * k) := by rw [Nat.mul_mul_mul_comm]
theorem cw_odd (k : Nat) : cw (2 * k + 1) = 2 := by unfold cw; rw [if_neg (by omega)]
/-- With an odd first root: two squares of a number 8 d + 2. -/
theorem two_tri (d M : Nat) (h : d ≤ M) : two (8 * d + 2) = 4 * sumN (fun k => if tri k ≤ d then (if isqN (8 * (d - tri k) + 1) * isqN (8 * (d - tri k) + 1) = 8 * (d - tri k) + 1 then 1 else 0) else 0) (M + 1) := by
  have hY : isqN (8 * d + 2) + 1 ≤ 2 * (M + 1) := by
    have h1 := (isqN_spec (8 * d + 2)).1
    by_cases q : isqN (8 * d + 2) ≤ 2 * M + 1
    · omega
    · have h2 := Nat.mul_le_mul (show 2 * M + 2 ≤ isqN (8 * d + 2) by omega) (show 2 * M + 2 ≤ isqN (8 * d + 2) by omega)
      have h3 : (2 * M + 2) * (2 * M + 2) = 4 * (M * M) + 8 * M + 4 := by
        simp only [Nat.mul_add, Nat.add_mul]
        have : 2 * M * (2 * M) = 4 * (M * M) := even_sq M
        omega
      omega
  rw [two_ext hY, sumN_odd]
  have hs : ∀ (f : Nat → Int) (n : Nat), 4 * sumN f n = sumN (fun i => 4 * f i) n := fun f n => by
    induction n with
    | zero => rfl
    | succ n ih => simp only [sumN]; rw [← ih, Int.mul_add]
  rw [hs]
  refine sumN_congr fun k hk => ?_
  have e0 : (if 2 * k * (2 * k) ≤ 8 * d + 2 then tt (8 * d + 2) (2 * k) else 0) = 0 := by
    split
    · rename_i q
      rw [even_sq] at q
      unfold tt
      rw [even_sq, if_neg]
      intro e
      have := sq_mod4 (isqN (8 * d + 2 - 4 * (k * k)))
      omega
    · rfl
  show (if 2 * k * (2 * k) ≤ 8 * d + 2 then tt (8 * d + 2) (2 * k) else 0) + (if (2 * k + 1) * (2 * k + 1) ≤ 8 * d + 2 then tt (8 * d + 2) (2 * k + 1) else 0) = _
  rw [e0, Int.zero_add, tri_odd]
  by_cases q : tri k ≤ d
  · rw [if_pos (by omega), if_pos q]
    unfold tt
    rw [tri_odd]
    have e : 8 * d + 2 - (8 * tri k + 1) = 8 * (d - tri k) + 1 := by omega
    rw [e, cw_odd]
    by_cases s : isqN (8 * (d - tri k) + 1) * isqN (8 * (d - tri k) + 1) = 8 * (d - tri k) + 1
    · rw [if_pos s, if_pos s, cw_isq (by omega)]; rfl
    · rw [if_neg s, if_neg s]; rfl
  · rw [if_neg (by omega), if_neg q]; rfl
theorem three_tri (m : Nat) : three (8 * m + 3) = 8 * triN m := by
  have hX : isqN (8 * m + 3) + 1 ≤ 2 * (m + 1) := by
    have h1 := (isqN_spec (8 * m + 3)).1
    by_cases q : isqN (8 * m + 3) ≤ 2 * m + 1
    · omega
    · have h2 := Nat.mul_le_mul (show 2 * m + 2 ≤ isqN (8 * m + 3) by omega) (show 2 * m + 2 ≤ isqN (8 * m + 3) by omega)
      have h3 : (2 * m + 2) * (2 * m + 2) = 4 * (m * m) + 8 * m + 4 := by
        simp only [Nat.mul_add, Nat.add_mul]
        have : 2 * m * (2 * m) = 4 * (m * m) := even_sq m
        omega
      omega
  have hs : ∀ (f : Nat → Int) (n : Nat), 8 * sumN f n = sumN (fun i => 8 * f i) n := fun f n => by
    induction n with
    | zero => rfl
    | succ n ih => simp only [sumN]; rw [← ih, Int.mul_add]
  rw [three_ext hX, sumN_odd]
  unfold triN
  rw [hs]
  refine sumN_congr fun i hi => ?_
  have e0 : (if 2 * i * (2 * i) ≤ 8 * m + 3 then cw (2 * i) * two (8 * m + 3 - 2 * i * (2 * i)) else 0) = 0 := by
    split
    · rename_i q
      have hz : two (8 * m + 3 - 2 * i * (2 * i)) = 0 := by
        by_cases p : 0 < two (8 * m + 3 - 2 * i * (2 * i))
        · obtain ⟨y, z, e⟩ := two_pos.1 p
          rw [even_sq] at e q
          have := sq_mod4 y; have := sq_mod4 z
          omega
        · have := two_nonneg (8 * m + 3 - 2 * i * (2 * i)); omega
      rw [hz, Int.mul_zero]
    · rfl
  show (if 2 * i * (2 * i) ≤ 8 * m + 3 then cw (2 * i) * two (8 * m + 3 - 2 * i * (2 * i)) else 0) + (if (2 * i + 1) * (2 * i + 1) ≤ 8 * m + 3 then cw (2 * i + 1) * two (8 * m + 3 - (2 * i + 1) * (2 * i + 1)) else 0) = 8 * tg m i
  rw [e0, Int.zero_add, tri_odd]
  unfold tg
  by_cases q : tri i ≤ m
  · rw [if_pos (by omega), if_pos q, cw_odd]
    have e : 8 * m + 3 - (8 * tri i + 1) = 8 * (m - tri i) + 2 := by omega
    rw [e, two_tri (m - tri i) m (by omega)]
    have e2 : sumN (fun k => if tri k ≤ m - tri i then (if isqN (8 * (m - tri i - tri k) + 1) * isqN (8 * (m - tri i - tri k) + 1) = 8 * (m - tri i - tri k) + 1 then 1 else 0) else 0) (m + 1) = sumN (tf m (tri i)) (m + 1) := sumN_congr fun k hk => by
      unfold tf
      by_cases p : tri i + tri k ≤ m
      · rw [if_pos (by omega), if_pos p]
        have e3 : 8 * ((m : Int) - (tri i : Int) - (tri k : Int)) + 1 = ((8 * (m - tri i - tri k) + 1 : Nat) : Int) := by omega
        rw [e3]
        unfold isSqB
        rw [isq_nat']
        by_cases s : isqN (8 * (m - tri i - tri k) + 1) * isqN (8 * (m - tri i - tri k) + 1) = 8 * (m - tri i - tri k) + 1
        · rw [if_pos s, if_pos (by rw [beq_iff_eq]; exact_mod_cast s)]
        · rw [if_neg s, if_neg (by rw [beq_iff_eq]; exact_mod_cast s)]
      · rw [if_neg (by omega), if_neg p]
    rw [e2]
    omega
  · rw [if_neg (by omega), if_neg q]; rfl
end Go.Proofs.Ytpgpdccidoogcaa
