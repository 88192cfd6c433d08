/-
  What the law of three squares says of one number.
-/
import Derived.Test.YtpgpdccidoogcaaThS
import Derived.Test.YtpgpdccidoogcaaCounts
import Derived.Test.YtpgpdccidoogcaaFirstThree
namespace Go.Proofs.Ytpgpdccidoogcaa
open Go.RowKit
set_option linter.unusedVariables false
set_option linter.unusedSimpArgs false

/-- What the three functions say of one number. -/
theorem th_cases (n : Int) : ∃ (K X Y Z : Int) (b s t : Bool), cnt (fun m => sc m 3 m) n = K ∧ cnt three n = K ∧ inB n 0 10000 = b ∧ is3 n = s ∧ fX (f3 n) = X ∧ fY (f3 n) = Y ∧ fZ (f3 n) = Z ∧ fOk (f3 n) = t ∧
    ((b = false ∧ s = false ∧ t = false ∧ ¬ 0 < K) ∨ (b = true ∧ s = false ∧ t = false ∧ ¬ 0 < K) ∨
      (b = true ∧ s = true ∧ t = true ∧ 0 < K ∧ X * X + Y * Y + Z * Z = n ∧ ¬ X < Y ∧ ¬ Y < Z ∧ ¬ Z < 0 ∧ (0 ≤ X * X ∧ X * X ≤ 10000) ∧ (0 ≤ Y * Y ∧ Y * Y ≤ 10000) ∧ (0 ≤ Z * Z ∧ Z * Z ≤ 10000))) := by
  refine ⟨_, _, _, _, _, _, _, rfl, (cntCountThree_eq n).symm, rfl, rfl, rfl, rfl, rfl, rfl, ?_⟩
  rw [cntCountThree_eq]
  cases h : inB n 0 10000
  · left
    exact ⟨rfl, is3_no h, (f3_no h).2.2.2, by rw [cnt_no h]; omega⟩
  · right
    have hb := inB_true h
    obtain ⟨m, rfl⟩ := Int.eq_ofNat_of_zero_le hb.1
    have hm : m ≤ 10000 := by omega
    rw [is3_yes h, is3_three hm, cnt_yes h]
    have ht : fOk (f3 (m : Int)) = decide (0 < three m) := by rw [f3_yes h, legendre m hm, is3_three hm]
    by_cases q : 0 < three m
    · right
      have ht2 : fOk (f3 (m : Int)) = true := by rw [ht]; simp [q]
      obtain ⟨h1, h2, h3, h4⟩ := f3_facts ht2
      have z0 := Int.mul_nonneg h4 h4
      have y0 := Int.mul_nonneg (Int.le_trans h4 h3) (Int.le_trans h4 h3)
      have x0 := Int.mul_nonneg (Int.le_trans (Int.le_trans h4 h3) h2) (Int.le_trans (Int.le_trans h4 h3) h2)
      exact ⟨rfl, by simp [q], ht2, q, h1, by omega, by omega, by omega, ⟨x0, by omega⟩, ⟨y0, by omega⟩, ⟨z0, by omega⟩⟩
    · left
      exact ⟨rfl, by simp [q], by rw [ht]; simp [q], q⟩
/-- Triangular numbers: eight times as many sums of three squares. -/
theorem tr_cases (m : Int) : ∃ (T : Int) (b : Bool), cntT m = T ∧ inB m 0 1000 = b ∧ (b = false ∨ (b = true ∧ (0 ≤ m ∧ m ≤ 1000) ∧ (0 ≤ T ∧ T ≤ 2000000) ∧ cnt (fun m => sc m 3 m) (8 * m + 3) = 8 * T ∧ inB (8 * m + 3) 0 10000 = true)) := by
  refine ⟨_, _, rfl, rfl, ?_⟩
  cases h : inB m 0 1000
  · exact .inl rfl
  · right
    have hb := inB_true h
    obtain ⟨k, rfl⟩ := Int.eq_ofNat_of_zero_le hb.1
    have hin : inB (8 * (k : Int) + 3) 0 10000 = true := by unfold inB; simp; omega
    have e : (8 * (k : Int) + 3) = ((8 * k + 3 : Nat) : Int) := by omega
    refine ⟨rfl, hb, ?_, ?_, hin⟩
    · rw [cntT_yes h]; exact (by have := tgs_bd k (k + 1) (by omega); unfold triN; omega)
    · rw [cntCountThree_eq, cntT_yes h, e, cnt_yes (by rw [← e]; exact hin), three_tri]
theorem se_val {k m : Int} {i : Nat} (hk : k = 3) (h : ssOk k m = true) (hi : i < ssLen k m) : cnt (fun m => sc m 3 m) (i : Int) = ssF k m i ∧ inB (i : Int) 0 10000 = true := by
  subst hk
  unfold ssOk at h
  rw [Bool.and_eq_true] at h
  have hb := inB_true h.2
  have hl : ssLen 3 m = m.toNat + 1 := by unfold ssLen ssOk; rw [h.1, h.2]; rfl
  have hin : inB (i : Int) 0 10000 = true := by unfold inB; simp; omega
  refine ⟨?_, hin⟩
  rw [cntCountThree_eq, cnt_yes hin]
  unfold ssF
  rw [show (3 : Int).toNat = 3 from rfl, sc_three _ _ (by omega)]
end Go.Proofs.Ytpgpdccidoogcaa
