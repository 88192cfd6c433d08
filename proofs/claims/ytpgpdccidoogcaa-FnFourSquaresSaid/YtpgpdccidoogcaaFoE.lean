/-
  Two quadruples and their product.
-/
import Derived.Test.YtpgpdccidoogcaaFoC
import Derived.Test.YtpgpdccidoogcaaProdF
namespace Go.Proofs.Ytpgpdccidoogcaa
open Go.RowKit
set_option linter.unusedVariables false
set_option linter.unusedSimpArgs false

theorem pr_bd {x y : Int} (h1 : -2000 ≤ x ∧ x ≤ 2000) (h2 : -2000 ≤ y ∧ y ≤ 2000) : -4000000 ≤ x * y ∧ x * y ≤ 4000000 := by
  have a := sq_bd h1
  have b := sq_bd h2
  have c := sq_bd2 (x := x - y) (by omega)
  have d := sq_bd2 (x := x + y) (by omega)
  have e1 : (x - y) * (x - y) = x * x - 2 * (x * y) + y * y := by grind
  have e2 : (x + y) * (x + y) = x * x + 2 * (x * y) + y * y := by grind
  omega
theorem sq_bd3 {x : Int} (h : -16000000 ≤ x ∧ x ≤ 16000000) : 0 ≤ x * x ∧ x * x ≤ 256000000000000 := by
  have h1 := Int.mul_le_mul_of_nonneg_left (a := x.natAbs) (b := 16000000) (c := x.natAbs) (by omega) (by omega)
  have h2 : (x.natAbs : Int) * x.natAbs = x * x := by
    rcases Int.natAbs_eq x with e | e
    · rw [← e]
    · have : (x.natAbs : Int) = -x := by omega
      rw [this, Int.neg_mul_neg]
  have h4 := Int.mul_nonneg (a := (x.natAbs : Int)) (b := x.natAbs) (by omega) (by omega)
  rw [h2] at h1 h4
  omega
def Bd8 (x1 y1 z1 u1 x2 y2 z2 u2 : Int) : Prop := (-2000 ≤ x1 ∧ x1 ≤ 2000) ∧ (-2000 ≤ y1 ∧ y1 ≤ 2000) ∧ (-2000 ≤ z1 ∧ z1 ≤ 2000) ∧ (-2000 ≤ u1 ∧ u1 ≤ 2000) ∧ (-2000 ≤ x2 ∧ x2 ≤ 2000) ∧ (-2000 ≤ y2 ∧ y2 ≤ 2000) ∧ (-2000 ≤ z2 ∧ z2 ≤ 2000) ∧ (-2000 ≤ u2 ∧ u2 ≤ 2000)
theorem fp_cases (x1 y1 z1 u1 x2 y2 z2 u2 : Int) (h : Bd8 x1 y1 z1 u1 x2 y2 z2 u2) : ∃ (r0 r1 r2 r3 : Int) (ok : Bool), FourProductR0 x1 y1 z1 u1 x2 y2 z2 u2 = r0 ∧ FourProductR1 x1 y1 z1 u1 x2 y2 z2 u2 = r1 ∧ FourProductR2 x1 y1 z1 u1 x2 y2 z2 u2 = r2 ∧ FourProductR3 x1 y1 z1 u1 x2 y2 z2 u2 = r3 ∧ FourProductOk x1 y1 z1 u1 x2 y2 z2 u2 = ok ∧
    (ok = false ∨ (ok = true ∧ (x1 * x1 + y1 * y1 + z1 * z1 + u1 * u1) * (x2 * x2 + y2 * y2 + z2 * z2 + u2 * u2) = r0 * r0 + r1 * r1 + r2 * r2 + r3 * r3 ∧ (0 ≤ r0 * r0 ∧ r0 * r0 ≤ 256000000000000) ∧ (0 ≤ r1 * r1 ∧ r1 * r1 ≤ 256000000000000) ∧ (0 ≤ r2 * r2 ∧ r2 * r2 ≤ 256000000000000) ∧ (0 ≤ r3 * r3 ∧ r3 * r3 ≤ 256000000000000))) := by
  obtain ⟨b1, b2, b3, b4, b5, b6, b7, b8⟩ := h
  refine ⟨_, _, _, _, _, rfl, rfl, rfl, rfl, rfl, ?_⟩
  cases ho : FourProductOk x1 y1 z1 u1 x2 y2 z2 u2
  · exact .inl rfl
  · right
    unfold FourProductR0 FourProductR1 FourProductR2 FourProductR3
    rw [ho, if_pos rfl, if_pos rfl, if_pos rfl, if_pos rfl]
    have m15 := pr_bd b1 b5
    have m16 := pr_bd b1 b6
    have m17 := pr_bd b1 b7
    have m18 := pr_bd b1 b8
    have m25 := pr_bd b2 b5
    have m26 := pr_bd b2 b6
    have m27 := pr_bd b2 b7
    have m28 := pr_bd b2 b8
    have m35 := pr_bd b3 b5
    have m36 := pr_bd b3 b6
    have m37 := pr_bd b3 b7
    have m38 := pr_bd b3 b8
    have m45 := pr_bd b4 b5
    have m46 := pr_bd b4 b6
    have m47 := pr_bd b4 b7
    have m48 := pr_bd b4 b8
    refine ⟨rfl, by grind, sq_bd3 (by omega), sq_bd3 (by omega), sq_bd3 (by omega), sq_bd3 (by omega)⟩
end Go.Proofs.Ytpgpdccidoogcaa
