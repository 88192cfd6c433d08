/-
  Plain: every number up to 10000 has a first representation by four squares.
-/
import Derived.Test.YtpgpdccidoogcaaFoS
import Derived.Test.YtpgpdccidoogcaaThS
import Derived.Test.YtpgpdccidoogcaaFirstFour
namespace Go.Proofs.Ytpgpdccidoogcaa
open Go.RowKit
set_option linter.unusedVariables false
set_option linter.unusedSimpArgs false

theorem findsB {n x y z : Nat} {b : Int} (h : x * x + y * y + z * z = n) (hzy : z ≤ y) (hyx : y ≤ x) (hb : (x : Int) ≤ b) : fOk (ftI (n : Int) b) = true := by
  cases e : ftI (n : Int) b with
  | some t => rfl
  | none =>
    exfalso
    unfold ftI at e
    have h1 := ftN_none e x (by omega)
    have c1 : (n : Int) - (x : Int) * (x : Int) = ((n - x * x : Nat) : Int) := by have := Int.natCast_mul x x; omega
    have hy : y ≤ isqN (n - x * x) := isqN_mono_sq (by omega)
    rw [c1, isq_nat'] at h1
    unfold fyI at h1
    have h2 := fyN_none h1 y (by omega)
    have c2 : (n : Int) - (x : Int) * (x : Int) - (y : Int) * (y : Int) = ((z * z : Nat) : Int) := by have := Int.natCast_mul x x; have := Int.natCast_mul y y; omega
    unfold chk isSqB at h2
    rw [c2, isq_nat', isqN_sq] at h2
    have := Int.natCast_mul z z
    simp at h2
    omega
theorem ftN_bd {n : Int} {t : Int × Int × Int} : ∀ {k : Nat}, ftN n k = some t → t.1 < k
  | 0, h => by simp [ftN] at h
  | k + 1, h => by
    unfold ftN at h
    split at h
    · cases h; show (k : Int) < ((k + 1 : Nat) : Int); omega
    · have := ftN_bd h; omega
theorem sort3 (a b c : Nat) : ∃ x y z : Nat, y ≤ x ∧ z ≤ y ∧ x * x + y * y + z * z = a * a + b * b + c * c := by
  rcases Nat.le_total a b with h1 | h1
  · rcases Nat.le_total b c with h2 | h2
    · exact ⟨c, b, a, h2, h1, by omega⟩
    · rcases Nat.le_total a c with h3 | h3
      · exact ⟨b, c, a, h2, h3, by omega⟩
      · exact ⟨b, a, c, h1, h3, by omega⟩
  · rcases Nat.le_total a c with h2 | h2
    · exact ⟨c, a, b, h2, h1, by omega⟩
    · rcases Nat.le_total b c with h3 | h3
      · exact ⟨a, c, b, h2, h3, by omega⟩
      · exact ⟨a, b, c, h1, h3, by omega⟩
theorem sort4 (a b c d : Nat) : ∃ x y z u : Nat, y ≤ x ∧ z ≤ y ∧ u ≤ z ∧ x * x + y * y + z * z + u * u = a * a + b * b + c * c + d * d := by
  obtain ⟨x, y, z, h1, h2, h3⟩ := sort3 a b c
  rcases Nat.le_total x d with g1 | g1
  · exact ⟨d, x, y, z, g1, h1, h2, by omega⟩
  · rcases Nat.le_total y d with g2 | g2
    · exact ⟨x, d, y, z, g1, g2, h2, by omega⟩
    · rcases Nat.le_total z d with g3 | g3
      · exact ⟨x, y, d, z, h1, g2, g3, by omega⟩
      · exact ⟨x, y, z, d, h1, h2, g3, by omega⟩
theorem four_rep {n : Nat} (h : 0 < four n) : ∃ a b c d : Nat, a * a + b * b + c * c + d * d = n := by
  obtain ⟨k, hk, hp⟩ := sumN_pos_ex h
  have h1 := two_nonneg k
  have h2 := two_nonneg (n - k)
  have p1 : 0 < two k := by
    by_cases q : two k = 0
    · rw [q, Int.zero_mul] at hp; exact absurd hp (by omega)
    · omega
  have p2 : 0 < two (n - k) := by
    by_cases q : two (n - k) = 0
    · rw [q, Int.mul_zero] at hp; exact absurd hp (by omega)
    · omega
  obtain ⟨a, b, e1⟩ := two_pos.1 p1
  obtain ⟨c, d, e2⟩ := two_pos.1 p2
  exact ⟨a, b, c, d, by omega⟩
/-- The divisor 1 is there. -/
theorem four_pos (n : Nat) (h1 : 1 ≤ n) (hn : n ≤ 10000) : 0 < four n := by
  rw [four_divs n h1 hn, gsum_divs _ _ (by omega)]
  have h0 : ∀ i : Nat, 0 ≤ (if n % (i + 1) = 0 then (fun z : Int => if z % 4 = 0 then 0 else z) ((i + 1 : Nat) : Int) else 0) := fun i => by
    split
    · show 0 ≤ (if ((i + 1 : Nat) : Int) % 4 = 0 then 0 else ((i + 1 : Nat) : Int)); split <;> omega
    · omega
  have := sumN_pos_of (h := fun i => if n % (i + 1) = 0 then (fun z : Int => if z % 4 = 0 then 0 else z) ((i + 1 : Nat) : Int) else 0) h0 (n := n) 0 (by omega) (by simp [Nat.mod_one])
  exact Int.mul_pos (by omega) this
theorem ffN_none {n : Int} : ∀ {k : Nat}, ffN n k = none → ∀ j : Nat, j < k → fOk (ft4 n j) = false
  | 0, _, j, hj => absurd hj (by omega)
  | k + 1, h, j, hj => by
    unfold ffN at h
    split at h
    · cases h
    · rename_i hc
      by_cases e : j = k
      · subst e; simpa using hc
      · exact ffN_none h j (by omega)
theorem ff_ok {n : Nat} (hn : n ≤ 10000) (h : 0 < four n) : gOk (ff (n : Int)) = true := by
  obtain ⟨a, b, c, d, e⟩ := four_rep h
  obtain ⟨x, y, z, u, h1, h2, h3, h4⟩ := sort4 a b c d
  rw [e] at h4
  cases hf : ff (n : Int) with
  | some t => rfl
  | none =>
    exfalso
    have hin : inB (n : Int) 0 10000 = true := by unfold inB; simp; omega
    rw [ff_yes hin] at hf
    unfold ffI at hf
    have hx : x ≤ isqN n := isqN_mono_sq (by omega)
    have hz := ffN_none hf x (by rw [isq_nat']; omega)
    have c1 : (n : Int) - (x : Int) * (x : Int) = ((n - x * x : Nat) : Int) := by have := Int.natCast_mul x x; omega
    unfold ft4 at hz
    rw [c1, isq_nat'] at hz
    have hy : y ≤ isqN (n - x * x) := isqN_mono_sq (by omega)
    have := findsB (n := n - x * x) (x := y) (y := z) (z := u) (b := min (x : Int) ((isqN (n - x * x) : Nat) : Int)) (by omega) h3 h2 (by omega)
    rw [this] at hz
    cases hz
theorem ffN_some {n : Int} {t : Int × Int × Int × Int} : ∀ {k : Nat}, ffN n k = some t → t.1 * t.1 + t.2.1 * t.2.1 + t.2.2.1 * t.2.2.1 + t.2.2.2 * t.2.2.2 = n ∧ t.2.1 ≤ t.1 ∧ t.2.2.1 ≤ t.2.1 ∧ t.2.2.2 ≤ t.2.2.1 ∧ 0 ≤ t.2.2.2
  | 0, h => by simp [ffN] at h
  | k + 1, h => by
    unfold ffN at h
    split at h
    · rename_i hc
      cases h
      unfold fOk at hc
      obtain ⟨s, hs⟩ := Option.isSome_iff_exists.1 hc
      rw [hs]
      unfold ft4 ftI at hs
      obtain ⟨g1, g2, g3, g4⟩ := ftN_some hs
      have g5 := ftN_bd hs
      have m1 := Int.min_le_left (k : Int) (isq (n - (k : Int) * k))
      have g6 : s.1 ≤ (k : Int) := by
        by_cases q : 0 ≤ min (k : Int) (isq (n - (k : Int) * k))
        · omega
        · have : (min (k : Int) (isq (n - (k : Int) * k)) + 1).toNat = 0 := by omega
          rw [this] at hs; simp [ftN] at hs
      exact ⟨by show (k : Int) * k + s.1 * s.1 + s.2.1 * s.2.1 + s.2.2 * s.2.2 = n; omega, g6, g2, g3, g4⟩
    · exact ffN_some h
theorem ff_facts {n : Int} (h : gOk (ff n) = true) : gX (ff n) * gX (ff n) + gY (ff n) * gY (ff n) + gZ (ff n) * gZ (ff n) + gW (ff n) * gW (ff n) = n ∧ gY (ff n) ≤ gX (ff n) ∧ gZ (ff n) ≤ gY (ff n) ∧ gW (ff n) ≤ gZ (ff n) ∧ 0 ≤ gW (ff n) := by
  unfold gOk at h
  obtain ⟨t, ht⟩ := Option.isSome_iff_exists.1 h
  rw [ht]
  unfold ff at ht
  split at ht
  · exact ffN_some ht
  · cases ht
end Go.Proofs.Ytpgpdccidoogcaa
