/-
  Forms, matrices and their validity on both sides.
-/
import Derived.Test.YtfoofbcmaljmoaaDoorNum
import Derived.Deep.QuietTactic
import Derived.BigQuiet
namespace Go.Proofs.YtfoofbcmaljmoaaDoor
open Go.RowKit
set_option linter.unusedVariables false
set_option linter.unusedSimpArgs false
attribute [local go_sem] q2 q3 q4 q5 q6 q7 q8 q9 q10 q11 q12

/-- Is n a number of the document? -/
def numB (n : Int) : Bool := inB n (-1000000) 1000000
theorem num_true {n : Int} (h : numB n = true) : -1000000 ≤ n ∧ n ≤ 1000000 := inB_true h
def formB (a b c : Int) : Bool := allB [a, b, c] (-1000000) 1000000
theorem form_true {a b c : Int} (h : formB a b c = true) : (-1000000 ≤ a ∧ a ≤ 1000000) ∧ (-1000000 ≤ b ∧ b ≤ 1000000) ∧ (-1000000 ≤ c ∧ c ≤ 1000000) := by
  have := allB_mem h
  simpa only [List.mem_cons, List.not_mem_nil, or_false, forall_eq_or_imp, forall_eq] using this
def matB (p q r s : Int) : Bool := allB [p, q, r, s] (-1000000) 1000000
theorem mat_true {p q r s : Int} (h : matB p q r s = true) : (-1000000 ≤ p ∧ p ≤ 1000000) ∧ (-1000000 ≤ q ∧ q ≤ 1000000) ∧ (-1000000 ≤ r ∧ r ≤ 1000000) ∧ (-1000000 ≤ s ∧ s ≤ 1000000) := by
  have := allB_mem h
  simpa only [List.mem_cons, List.not_mem_nil, or_false, forall_eq_or_imp, forall_eq] using this
theorem mul_bd {a b A B : Int} (hA : 0 ≤ A) (ha : -A ≤ a ∧ a ≤ A) (hb : -B ≤ b ∧ b ≤ B) : -(A * B) ≤ a * b ∧ a * b ≤ A * B := by
  have h1 : a.natAbs ≤ A.natAbs := by omega
  have h2 : b.natAbs ≤ B.natAbs := by omega
  have h3 := Nat.mul_le_mul h1 h2
  rw [← Int.natAbs_mul, ← Int.natAbs_mul] at h3
  have h4 : 0 ≤ A * B := Int.mul_nonneg hA (by omega)
  omega
theorem num_mul {a b : Int} (ha : -1000000 ≤ a ∧ a ≤ 1000000) (hb : -1000000 ≤ b ∧ b ≤ 1000000) : -1000000000000 ≤ a * b ∧ a * b ≤ 1000000000000 := by
  have := mul_bd (by omega) ha hb; omega
def discI (a b c : Int) : Int := b * b - 4 * a * c
theorem disc_bd {a b c : Int} (h : formB a b c = true) : -4000000000000 ≤ discI a b c ∧ discI a b c ≤ 5000000000000 := by
  obtain ⟨ha, hb, hc⟩ := form_true h
  have h1 := num_mul hb hb
  have h2 := num_mul ha hc
  have h3 : 4 * a * c = 4 * (a * c) := by rw [Int.mul_assoc]
  unfold discI
  rw [h3]
  by_cases hq : 0 ≤ b
  · have := Int.mul_nonneg hq hq; omega
  · have := Int.mul_nonneg_of_nonpos_of_nonpos (a := b) (b := b) (by omega) (by omega); omega
theorem form_num (a b c : Int) : formB a b c = (numB a && (numB b && numB c)) := by simp [formB, allB, numB]
theorem mat_num (p q r s : Int) : matB p q r s = (numB p && (numB q && (numB r && numB s))) := by simp [matB, allB, numB]
def detI (p q r s : Int) : Int := p * s - q * r
theorem det_bd {p q r s : Int} (h : matB p q r s = true) : -2000000000000 ≤ detI p q r s ∧ detI p q r s ≤ 2000000000000 := by
  obtain ⟨hp, hq, hr, hs⟩ := mat_true h
  have h1 := num_mul hp hs
  have h2 := num_mul hq hr
  unfold detI; omega
/-- The greatest common divisor of the coefficients. -/
def contI (a b c : Int) : Int := igcd a (igcd b c)
theorem cont_alt (a b c : Int) : igcd (igcd a b) c = contI a b c := by
  unfold contI igcd Int.gcd
  simp only [Int.natAbs_natCast]
  rw [Nat.gcd_assoc]
def defB (a b c : Int) : Bool := formB a b c && (decide (discI a b c < 0) && decide (0 < a))
def shownB (a b c : Int) : Bool := defB a b c && decide (-2000 ≤ discI a b c)
def classB (a b c : Int) : Bool := shownB a b c && (contI a b c == 1)
def properB (p q r s : Int) : Bool := matB p q r s && (detI p q r s == 1)
theorem def_form {a b c : Int} (h : defB a b c = true) : formB a b c = true := by unfold defB at h; simp at h; exact h.1
theorem shown_def {a b c : Int} (h : shownB a b c = true) : defB a b c = true := by unfold shownB at h; simp at h; exact h.1
theorem class_shown {a b c : Int} (h : classB a b c = true) : shownB a b c = true := by unfold classB at h; simp at h; exact h.1
theorem class_form {a b c : Int} (h : classB a b c = true) : formB a b c = true := def_form (shown_def (class_shown h))
theorem proper_mat {p q r s : Int} (h : properB p q r s = true) : matB p q r s = true := by unfold properB at h; simp at h; exact h.1
theorem class_disc {a b c : Int} (h : classB a b c = true) : -2000 ≤ discI a b c ∧ discI a b c < 0 := by
  have h1 := class_shown h
  have h2 := shown_def h1
  unfold shownB at h1; unfold defB at h2; simp at h1 h2; omega

end Go.Proofs.YtfoofbcmaljmoaaDoor
