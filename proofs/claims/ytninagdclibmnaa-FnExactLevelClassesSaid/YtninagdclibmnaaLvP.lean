/-
  Plain: the level form of a reduced form with a root.
-/
import Derived.Test.YtninagdclibmnaaUni
namespace Go.Proofs.Ytninagdclibmnaa
open Go.RowKit
set_option linter.unusedVariables false
set_option linter.unusedSimpArgs false

noncomputable def lvT (e B n r : Int) : Int := cmT B e ((-r) % (2 * n)) n
noncomputable def lvS (e B n r : Int) : Int := if e * n < lvT e B n r then lvT e B n r - 2 * e * n else lvT e B n r
noncomputable def lvA (D e B n r : Int) : Int := (lvS e B n r * lvS e B n r - D) / (4 * e)
structure LvF (D e B C n r t b A : Int) : Prop where
  e0 : 1 ≤ e
  e1 : e ≤ 20000
  B0 : 0 ≤ B
  B1 : B < 2 * e
  g1 : Int.gcd n e = 1
  par : 2 ∣ (-r) % (2 * n) - B
  m0 : 0 ≤ (-r) % (2 * n)
  m1 : (-r) % (2 * n) < 2 * n
  t0 : 0 ≤ t
  t1 : t < 2 * e * n
  Bt : B ≤ t
  en : 0 < e * n ∧ e * n ≤ 600000
  te : 2 * e ∣ t - B
  tr : 2 * n ∣ t + r
  uni : ∀ z, 0 ≤ z → z ≤ t → 2 * e ∣ z - B → 2 * n ∣ z + r → z = t
  bt : e * n - (e * n - t) % (2 * e * n) = b
  bb : b = if e * n < t then t - 2 * e * n else t
  b0 : -600000 ≤ b ∧ b ≤ 600000
  b2 : 0 ≤ b * b ∧ b * b ≤ 360000000000
  aa : (b * b - D).tdiv (4 * e) = A
  a0 : 0 ≤ A ∧ A ≤ 1000000000000
theorem emod_half {k x : Int} (hk : 0 < k) (h0 : -k < x) (h1 : x ≤ k) : k - (k - x) % (2 * k) = x := by
  rw [Int.emod_eq_of_lt (by omega) (by omega)]; omega
theorem lv_facts {a b c D n r : Int} {k x y : Nat} (h : RedC a b c) (hD : discI a b c = D) (hn : 1 ≤ n) (hn2 : n ≤ 30) (hr0 : 0 ≤ r) (hr1 : r < 2 * n) (hr : (r * r - D) % (4 * n) = 0) (hf : IsFirst a b c n k x y) :
    (x ≤ 5 ∧ y ≤ 5 ∧ Int.gcd x y = 1) ∧ LvF D (cpE a b c x y) (cpB a b c x y) (cpC a b c x y) n r (lvT (cpE a b c x y) (cpB a b c x y) n r) (lvS (cpE a b c x y) (cpB a b c x y) n r) (lvA D (cpE a b c x y) (cpB a b c x y) n r) := by
  have hk := first_le (by omega) (by omega) h.cls.pr hf
  obtain ⟨f1, f2, f3⟩ := hit_facts hf.hit
  have hx : x ≤ 5 := by omega
  have hy : y ≤ 5 := by omega
  refine ⟨⟨hx, hy, f2⟩, ?_⟩
  have hF := cpl_facts h hx hy f2
  have f4 : Int.gcd (cpE a b c x y) n = 1 := f3
  have e0 := hF.e0
  have e1 := hF.e1
  have B0 := hF.B0
  have B1 := hF.B1
  have dd := hF.dd
  rw [hD] at dd
  have hT : lvT (cpE a b c x y) (cpB a b c x y) n r = cmT (cpB a b c x y) (cpE a b c x y) ((-r) % (2 * n)) n := rfl
  have hS : lvS (cpE a b c x y) (cpB a b c x y) n r = if cpE a b c x y * n < lvT (cpE a b c x y) (cpB a b c x y) n r then lvT (cpE a b c x y) (cpB a b c x y) n r - 2 * cpE a b c x y * n else lvT (cpE a b c x y) (cpB a b c x y) n r := rfl
  have hA : lvA D (cpE a b c x y) (cpB a b c x y) n r = (lvS (cpE a b c x y) (cpB a b c x y) n r * lvS (cpE a b c x y) (cpB a b c x y) n r - D) / (4 * cpE a b c x y) := rfl
  have d0 := h.cls.ok.d0
  have d1 := h.cls.ok.d1
  rw [hD] at d0 d1
  clear hF f1 f3 hf hx hy f2 hk h hD
  generalize lvA D (cpE a b c x y) (cpB a b c x y) n r = A at *
  generalize lvS (cpE a b c x y) (cpB a b c x y) n r = s at *
  generalize lvT (cpE a b c x y) (cpB a b c x y) n r = t at *
  generalize cpE a b c x y = e at *
  generalize cpB a b c x y = B at *
  generalize cpC a b c x y = C at *
  have g2 : Int.gcd n e = 1 := by rw [Int.gcd_comm]; exact f4
  have m0 := Int.emod_nonneg (-r) (show 2 * n ≠ 0 by omega)
  have m1 := Int.emod_lt_of_pos (-r) (show 0 < 2 * n by omega)
  have mq := Int.emod_add_mul_ediv (-r) (2 * n)
  have eq2 : 2 * n * (-r / (2 * n)) = 2 * (n * (-r / (2 * n))) := Int.mul_assoc _ _ _
  have par : 2 ∣ (-r) % (2 * n) - B := by
    have q1 := Int.emod_add_mul_ediv (r * r - D) (4 * n)
    have q2 : 4 * n * ((r * r - D) / (4 * n)) = 4 * (n * ((r * r - D) / (4 * n))) := Int.mul_assoc _ _ _
    unfold discI at dd
    have q3 : 4 * e * C = 4 * (e * C) := Int.mul_assoc _ _ _
    have h2 : (r * r) % 2 = (B * B) % 2 := by omega
    rw [Int.mul_emod, Int.mul_emod B B] at h2
    rcases Int.emod_two_eq r with hB | hB <;> rcases Int.emod_two_eq B with hb | hb <;> rw [hB, hb] at h2 <;> omega
  obtain ⟨t0, t1, t2, t3⟩ := cm_facts (a0 := B) (p := e) (b0 := (-r) % (2 * n)) (q := n) e0 hn g2 par
  rw [← hT] at t0 t1 t2 t3
  have n0 := Int.mul_pos (show 0 < e by omega) (show 0 < n by omega)
  have n1 : e * n ≤ 20000 * 30 := Int.mul_le_mul e1 hn2 (by omega) (by omega)
  have e2 : 2 * e * n = 2 * (e * n) := Int.mul_assoc _ _ _
  have t4 : 2 * n ∣ t + r := by
    obtain ⟨z, hz⟩ := t3
    exact ⟨z - (-r) / (2 * n), by rw [Int.mul_sub, ← hz]; omega⟩
  have Bt : B ≤ t := by
    obtain ⟨z, hz⟩ := t2
    by_cases q : 0 ≤ z
    · have := Int.mul_nonneg (show 0 ≤ 2 * e by omega) q; omega
    · have := Int.mul_le_mul_of_nonneg_left (show z ≤ -1 by omega) (show 0 ≤ 2 * e by omega); omega
  have uni : ∀ z, 0 ≤ z → z ≤ t → 2 * e ∣ z - B → 2 * n ∣ z + r → z = t := by
    intro z z0 z1 z2 z3
    have hg : Int.gcd e n = 1 := f4
    obtain ⟨i, hi⟩ := z2
    obtain ⟨j, hj⟩ := t2
    obtain ⟨k, hk⟩ := z3
    obtain ⟨l, hl⟩ := t4
    have e3 : e * (j - i) = n * (l - k) := by
      have x1 : 2 * e * j - 2 * e * i = 2 * n * l - 2 * n * k := by omega
      have x2 : 2 * (e * (j - i)) = 2 * (n * (l - k)) := by grind
      omega
    obtain ⟨m, hm⟩ := coprime_dvd (a := e) (b := n) (c := l - k) ⟨j - i, e3.symm⟩ hg
    refine (eq_of_mod (m := 2 * e * n) (j := m) ?_ t0 t1 z0 (by omega)).symm
    have : t - z = 2 * n * (l - k) := by grind
    rw [this, hm]; grind
  have bb : e * n - (e * n - t) % (2 * e * n) = s ∧ (-600000 ≤ s ∧ s ≤ 600000) ∧ ∃ i, s = B + 2 * e * i := by
    obtain ⟨j, hj⟩ := t2
    rw [hS, e2]
    by_cases q : e * n < t
    · rw [if_pos q]
      refine ⟨?_, by omega, j - n, by grind⟩
      have : (e * n - t) % (2 * (e * n)) = e * n - t + 2 * (e * n) := by
        rw [← Int.add_emod_right (a := e * n - t), Int.emod_eq_of_lt (by omega) (by omega)]
      rw [this]; omega
    · rw [if_neg q]
      exact ⟨by rw [Int.emod_eq_of_lt (by omega) (by omega)]; omega, by omega, j, by omega⟩
  obtain ⟨bb1, bb2, i, hi⟩ := bb
  have sq0 : 0 ≤ s * s := by
    by_cases q : 0 ≤ s
    · exact Int.mul_nonneg q q
    · exact Int.mul_nonneg_of_nonpos_of_nonpos (by omega) (by omega)
  have sq1 : s * s ≤ 600000 * 600000 := by
    have h1 : s.natAbs ≤ 600000 := by omega
    have h2 := Nat.mul_le_mul h1 h1
    rw [← Int.natAbs_mul] at h2; omega
  have hdiv : s * s - D = 4 * e * (C + B * i + e * i * i) := by
    unfold discI at dd
    rw [hi]; grind
  have hA2 : A = C + B * i + e * i * i := by rw [hA, hdiv, Int.mul_ediv_cancel_left _ (by omega)]
  have hA3 : 4 * e * A = 4 * (e * A) := Int.mul_assoc _ _ _
  rw [← hA2] at hdiv
  have A0 : 0 ≤ A := by
    by_cases q : 0 ≤ A
    · exact q
    · have := Int.mul_nonneg_of_nonpos_of_nonpos (a := -e) (b := A) (by omega) (by omega)
      rw [Int.neg_mul] at this
      have h3 := Int.mul_le_mul_of_nonneg_left (show A ≤ -1 by omega) (show 0 ≤ e by omega)
      omega
  have A1 : A ≤ 1000000000000 := by
    have := Int.mul_le_mul_of_nonneg_right (show 1 ≤ e by omega) A0
    omega
  refine ⟨e0, e1, B0, B1, g2, par, m0, m1, t0, t1, Bt, ⟨n0, by omega⟩, t2, t4, uni, bb1, hS, bb2, ⟨sq0, by omega⟩, ?_, ⟨A0, A1⟩⟩
  rw [hdiv, Int.mul_tdiv_cancel_left _ (by omega)]
end Go.Proofs.Ytninagdclibmnaa
