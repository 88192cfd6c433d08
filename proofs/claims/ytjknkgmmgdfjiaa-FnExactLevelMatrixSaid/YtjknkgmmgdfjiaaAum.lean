/-
  Plain: the matrix of a reduction: its determinant, what it makes, its bounds.
-/
import Derived.Test.YtjknkgmmgdfjiaaStep
import Derived.Test.YtjknkgmmgdfjiaaAut
namespace Go.Proofs.Ytjknkgmmgdfjiaa
open Go.RowKit
set_option linter.unusedVariables false
set_option linter.unusedSimpArgs false

/-- The matrix (p q; r s) makes (a, b, c) of (a0, b0, c0). -/
structure MadeM (a0 b0 c0 a b c p q r s : Int) : Prop where
  det : p * s - q * r = 1
  ea : a = a0 * p * p + b0 * p * r + c0 * r * r
  eb : b = 2 * a0 * p * q + b0 * (p * s + q * r) + 2 * c0 * r * s
  ec : c = a0 * q * q + b0 * q * s + c0 * s * s
theorem MadeM.backA {a0 b0 c0 a b c p q r s : Int} (h : MadeM a0 b0 c0 a b c p q r s) : a0 = a * s * s - b * s * r + c * r * r := by
  obtain ⟨h1, h2, h3, h4⟩ := h
  subst h2 h3 h4
  grind
theorem MadeM.backC {a0 b0 c0 a b c p q r s : Int} (h : MadeM a0 b0 c0 a b c p q r s) : c0 = a * q * q - b * q * p + c * p * p := by
  obtain ⟨h1, h2, h3, h4⟩ := h
  subst h2 h3 h4
  grind
theorem sqM_le {r M : Int} (h : r * r ≤ M * M) (hM : 0 ≤ M) : -M ≤ r ∧ r ≤ M := by
  constructor
  · by_cases q : -M ≤ r
    · exact q
    · have h1 := Int.mul_le_mul (show M + 1 ≤ -r by omega) (show M + 1 ≤ -r by omega) (by omega) (by omega)
      rw [Int.neg_mul_neg] at h1
      have : (M + 1) * (M + 1) = M * M + 2 * M + 1 := by grind
      omega
  · by_cases q : r ≤ M
    · exact q
    · have h1 := Int.mul_le_mul (show M + 1 ≤ r by omega) (show M + 1 ≤ r by omega) (by omega) (by omega)
      have : (M + 1) * (M + 1) = M * M + 2 * M + 1 := by grind
      omega
/-- What a definite form with a value can be at. -/
theorem val_bd {a b c n x y : Int} (ha : 0 < a) (ha1 : a ≤ 100000000) (hd : discI a b c < 0) (hn : n = a * x * x - b * x * y + c * y * y) (hn1 : n ≤ 100000000) : -200000000 ≤ y ∧ y ≤ 200000000 := by
  have e : 4 * a * n = (2 * a * x - b * y) * (2 * a * x - b * y) + (-(discI a b c)) * (y * y) := by subst hn; unfold discI; grind
  have h0 : 0 ≤ (2 * a * x - b * y) * (2 * a * x - b * y) := by
    by_cases q : 0 ≤ 2 * a * x - b * y
    · exact Int.mul_nonneg q q
    · exact Int.mul_nonneg_of_nonpos_of_nonpos (by omega) (by omega)
  have hy : 0 ≤ y * y := by
    by_cases q : 0 ≤ y
    · exact Int.mul_nonneg q q
    · exact Int.mul_nonneg_of_nonpos_of_nonpos (by omega) (by omega)
  have h1 : y * y ≤ (-(discI a b c)) * (y * y) := by
    have := Int.mul_le_mul_of_nonneg_right (show 1 ≤ -(discI a b c) by omega) hy
    omega
  have h2 : 4 * a * n ≤ 40000000000000000 := by
    have h3 : a * n ≤ a * 100000000 := Int.mul_le_mul_of_nonneg_left hn1 (by omega)
    have h4 : 4 * a * n = 4 * (a * n) := Int.mul_assoc _ _ _
    omega
  exact sqM_le (M := 200000000) (by omega) (by omega)
theorem MadeM.bd {a0 b0 c0 a b c p q r s : Int} (h : MadeM a0 b0 c0 a b c p q r s) (h0 : OkF a0 b0 c0) (h1 : OkF a b c) :
    (-200000000 ≤ p ∧ p ≤ 200000000) ∧ (-200000000 ≤ q ∧ q ≤ 200000000) ∧ (-200000000 ≤ r ∧ r ≤ 200000000) ∧ (-200000000 ≤ s ∧ s ≤ 200000000) := by
  have eA := h.backA
  have eC := h.backC
  have hd2 : discI c b a < 0 := by have := h1.d1; unfold discI at *; have e : 4 * c * a = 4 * a * c := by grind
                                   omega
  refine ⟨?_, ?_, ?_, ?_⟩
  · exact val_bd (n := c0) (x := q) (y := p) h1.a0 h1.a1 h1.d1 eC h0.c1
  · exact val_bd (a := c) (b := b) (c := a) (n := c0) (x := p) (y := q) h1.c0 h1.c1 hd2 (by rw [eC]; grind) h0.c1
  · exact val_bd (n := a0) (x := s) (y := r) h1.a0 h1.a1 h1.d1 eA h0.a1
  · exact val_bd (a := c) (b := b) (c := a) (n := a0) (x := r) (y := s) h1.c0 h1.c1 hd2 (by rw [eA]; grind) h0.a1
theorem pr_bdM {x y : Int} {M N : Int} (hM : 0 ≤ M) (hx : -M ≤ x ∧ x ≤ M) (hy : -N ≤ y ∧ y ≤ N) : -(M * N) ≤ x * y ∧ x * y ≤ M * N := by
  have a := Int.mul_nonneg (show 0 ≤ M - x by omega) (show 0 ≤ N + y by omega)
  have b := Int.mul_nonneg (show 0 ≤ M + x by omega) (show 0 ≤ N - y by omega)
  have c := Int.mul_nonneg (show 0 ≤ M - x by omega) (show 0 ≤ N - y by omega)
  have d := Int.mul_nonneg (show 0 ≤ M + x by omega) (show 0 ≤ N + y by omega)
  have e1 : (M - x) * (N + y) = M * N + M * y - x * N - x * y := by grind
  have e2 : (M + x) * (N - y) = M * N - M * y + x * N - x * y := by grind
  have e3 : (M - x) * (N - y) = M * N - M * y - x * N + x * y := by grind
  have e4 : (M + x) * (N + y) = M * N + M * y + x * N + x * y := by grind
  omega
theorem wrap_sum {u v : Int} (hu : -40000000000000000 ≤ u ∧ u ≤ 40000000000000000) (hv : -40000000000000000 ≤ v ∧ v ≤ 40000000000000000) : wrap64 (wrap64 u + wrap64 v) = u + v := by unfold wrap64; omega
theorem sM_bd {a b c : Int} (h : OkF a b c) : (-200000000 ≤ sP a b ∧ sP a b ≤ 200000000) ∧ (-200000000 ≤ sQ a b ∧ sQ a b ≤ 200000000) ∧ (-200000000 ≤ sR a b ∧ sR a b ≤ 200000000) ∧ (-200000000 ≤ sS a b ∧ sS a b ≤ 200000000) := by
  have ht := at_tr h
  unfold sP sQ sR sS
  cases normB a b
  · simp; omega
  · simp
/-- One step more. -/
theorem MadeM.step {a0 b0 c0 a b c p q r s : Int} (h : MadeM a0 b0 c0 a b c p q r s) (h0 : OkF a0 b0 c0) (h1 : OkF a b c) :
    MadeM a0 b0 c0 (stepA a b c) (stepB a b c) (stepC a b c) (mmP p q r s (sP a b) (sQ a b) (sR a b) (sS a b)) (mmQ p q r s (sP a b) (sQ a b) (sR a b) (sS a b)) (mmR p q r s (sP a b) (sQ a b) (sR a b) (sS a b)) (mmS p q r s (sP a b) (sQ a b) (sR a b) (sS a b)) := by
  obtain ⟨bp, bq, br, bs⟩ := h.bd h0 h1
  obtain ⟨tp, tq, tr, ts⟩ := sM_bd h1
  have P := fun {x y : Int} (hx : -200000000 ≤ x ∧ x ≤ 200000000) (hy : -200000000 ≤ y ∧ y ≤ 200000000) => (show -40000000000000000 ≤ x * y ∧ x * y ≤ 40000000000000000 by have := pr_bdM (M := 200000000) (N := 200000000) (by omega) hx hy; omega)
  have e1 : mmP p q r s (sP a b) (sQ a b) (sR a b) (sS a b) = p * sP a b + q * sR a b := wrap_sum (P bp tp) (P bq tr)
  have e2 : mmQ p q r s (sP a b) (sQ a b) (sR a b) (sS a b) = p * sQ a b + q * sS a b := wrap_sum (P bp tq) (P bq ts)
  have e3 : mmR p q r s (sP a b) (sQ a b) (sR a b) (sS a b) = r * sP a b + s * sR a b := wrap_sum (P br tp) (P bs tr)
  have e4 : mmS p q r s (sP a b) (sQ a b) (sR a b) (sS a b) = r * sQ a b + s * sS a b := wrap_sum (P br tq) (P bs ts)
  rw [e1, e2, e3, e4]
  obtain ⟨g1, g2, g3, g4⟩ := h
  clear e1 e2 e3 e4 P bp bq br bs tp tq tr ts h0 h1
  unfold stepA stepB stepC sP sQ sR sS
  generalize trT a b = t
  cases normB a b
  · simp only [Bool.false_eq_true, if_false]
    constructor <;> grind
  · simp only [if_true]
    constructor <;> grind
theorem rdM_made {a0 b0 c0 : Int} (h0 : OkF a0 b0 c0) : ∀ (n : Nat) {a b c p q r s : Int}, OkF a b c → MadeM a0 b0 c0 a b c p q r s →
    MadeM a0 b0 c0 (redN n a b c).1 (redN n a b c).2.1 (redN n a b c).2.2 (rdM n a b c p q r s).1 (rdM n a b c p q r s).2.1 (rdM n a b c p q r s).2.2.1 (rdM n a b c p q r s).2.2.2
  | 0, _, _, _, _, _, _, _, _, h => h
  | n + 1, a, b, c, p, q, r, s, h1, h => by
    unfold redN rdM
    cases hr : redB a b c
    · simp only [Bool.false_eq_true, if_false]
      exact rdM_made h0 n (step_ok h1) (h.step h0 h1)
    · simp only [if_true]
      exact h
theorem redM_made {a b c : Int} (h : OkF a b c) : MadeM a b c (redF a b c).1 (redF a b c).2.1 (redF a b c).2.2 (redM a b c 1 0 0 1).1 (redM a b c 1 0 0 1).2.1 (redM a b c 1 0 0 1).2.2.1 (redM a b c 1 0 0 1).2.2.2 :=
  rdM_made h _ h ⟨by omega, by grind, by grind, by grind⟩
end Go.Proofs.Ytjknkgmmgdfjiaa
