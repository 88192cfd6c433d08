/-
  Plain: inverses modulo a number, common residues.
-/
import Derived.Test.YtninagdclibmnaaRedF
namespace Go.Proofs.Ytninagdclibmnaa
set_option linter.unusedVariables false
set_option linter.unusedSimpArgs false

theorem coprime_dvd {a b c : Int} (h : a ∣ b * c) (hc : Int.gcd a b = 1) : a ∣ c := by
  have h1 : a.natAbs ∣ b.natAbs * c.natAbs := by
    have := Int.natAbs_dvd_natAbs.2 h
    rwa [Int.natAbs_mul] at this
  exact Int.natAbs_dvd_natAbs.1 (Nat.Coprime.dvd_of_dvd_mul_left (show Nat.Coprime a.natAbs b.natAbs from hc) h1)
theorem gcd_mod_left (x m : Int) : Int.gcd (x % m) m = Int.gcd x m := by
  have h := Int.gcd_add_mul_right_left m (x % m) (x / m)
  rw [Int.mul_comm (x / m) m, Int.emod_add_mul_ediv] at h
  exact h.symm
/-- s is the inverse of a modulo m. -/
def IsInv (a m s : Int) : Prop := 0 ≤ s ∧ s < m ∧ m ∣ a * s - 1
theorem IsInv.same {a m s t : Int} (hg : Int.gcd m a = 1) (h : IsInv a m s) (h' : IsInv a m t) : s = t := by
  obtain ⟨s0, s1, k, hk⟩ := h
  obtain ⟨t0, t1, l, hl⟩ := h'
  have hd : m ∣ a * (s - t) := ⟨k - l, by grind⟩
  obtain ⟨q, hq⟩ := coprime_dvd hd hg
  have : q = 0 := by
    rcases Int.lt_trichotomy q 0 with c | c | c
    · have := Int.mul_le_mul_of_nonneg_left (show q ≤ -1 by omega) (show 0 ≤ m by omega); omega
    · exact c
    · have := Int.mul_le_mul_of_nonneg_left (show 1 ≤ q by omega) (show 0 ≤ m by omega); omega
  rw [this] at hq; omega
open Classical in
/-- The inverse of a modulo m. -/
noncomputable def invI (a m : Int) : Int := if h : ∃ s, IsInv a m s then h.choose else 0
theorem inv_of {a m s : Int} (hg : Int.gcd m a = 1) (h : IsInv a m s) : invI a m = s := by
  have he : ∃ s, IsInv a m s := ⟨s, h⟩
  unfold invI
  rw [dif_pos he]
  exact IsInv.same hg he.choose_spec h
/-- One step of Euclid's algorithm: what holds of remainders r, s and of factors x, y. -/
structure EucI (a m r s x y : Int) : Prop where
  r0 : 0 ≤ r
  s0 : 0 ≤ s
  rx : m ∣ a * x - r
  sy : m ∣ a * y - s
  sign : (0 ≤ x ∧ y ≤ 0 ∧ x * s - y * r = m) ∨ (x ≤ 0 ∧ 0 ≤ y ∧ y * r - x * s = m)
  g : Int.gcd r s = 1
  rm : r ≤ m
  sm : s ≤ m
  yb : -m ≤ y ∧ y ≤ m
  xb : -m ≤ x ∧ x ≤ m
theorem EucI.step {a m r s x y : Int} (h : EucI a m r s x y) (hs : s ≠ 0) (hm : 1 ≤ m) : EucI a m s (r - r / s * s) y (x - r / s * y) ∧ r - r / s * s = r % s ∧ 0 ≤ r / s ∧ r / s ≤ r ∧ -(2 * m) ≤ r / s * y ∧ r / s * y ≤ 2 * m ∧ 0 ≤ r / s * s ∧ r / s * s ≤ r := by
  have s1 : 1 ≤ s := by have := h.s0; omega
  have e : r - r / s * s = r % s := by have := Int.emod_add_mul_ediv r s; rw [Int.mul_comm s] at this; omega
  have m0 := Int.emod_nonneg r hs
  have m1 := Int.emod_lt_of_pos r (show 0 < s by omega)
  have q0 : 0 ≤ r / s := Int.ediv_nonneg h.r0 (by omega)
  have q1 : r / s ≤ r := Int.ediv_le_self s h.r0
  have hg : Int.gcd s (r % s) = 1 := by
    rw [Int.gcd_comm, gcd_mod_left]
    exact h.g
  generalize hq : r / s = q at *
  rw [e]
  have er : r % s = r - q * s := e.symm
  obtain ⟨k, hk⟩ := h.rx
  obtain ⟨l, hl⟩ := h.sy
  have hsg : (0 ≤ y ∧ x - q * y ≤ 0 ∧ y * (r % s) - (x - q * y) * s = m) ∨ (y ≤ 0 ∧ 0 ≤ x - q * y ∧ (x - q * y) * s - y * (r % s) = m) := by
    rcases h.sign with ⟨x0, y0, hh⟩ | ⟨x0, y0, hh⟩
    · right
      have := Int.mul_nonneg q0 (show 0 ≤ -y by omega)
      rw [Int.mul_neg] at this
      refine ⟨y0, by omega, ?_⟩
      rw [er]; grind
    · left
      have := Int.mul_nonneg q0 y0
      refine ⟨y0, by omega, ?_⟩
      rw [er]; grind
  have nb : -m ≤ x - q * y ∧ x - q * y ≤ m := by
    rcases hsg with ⟨g0, g1, g2⟩ | ⟨g0, g1, g2⟩
    · have h1 := Int.mul_nonneg g0 m0
      have h2 : (x - q * y) * s = -(-(x - q * y) * s) := by rw [Int.neg_mul]; omega
      have h3 := Int.mul_le_mul_of_nonneg_left s1 (show 0 ≤ -(x - q * y) by omega)
      omega
    · have h1 := Int.mul_nonneg (show 0 ≤ -y by omega) m0
      rw [Int.neg_mul] at h1
      have h3 := Int.mul_le_mul_of_nonneg_left s1 g1
      omega
  refine ⟨⟨h.s0, m0, h.sy, ⟨k - q * l, by rw [er]; grind⟩, hsg.symm.elim (fun h => .inr ⟨h.1, h.2.1, h.2.2⟩) (fun h => .inl ⟨h.1, h.2.1, h.2.2⟩), hg, h.sm, by have := h.sm; omega, nb, h.yb⟩, rfl, q0, q1, ?_, ?_, ?_, ?_⟩
  · have := h.xb; omega
  · have := h.xb; omega
  · exact Int.mul_nonneg q0 h.s0
  · omega
theorem EucI.last {a m r x y : Int} (h : EucI a m r 0 x y) (hm : 1 ≤ m) : r = 1 ∧ IsInv a m (x % m) := by
  have hr : r = 1 := by
    have := h.g
    rw [Int.gcd_zero_right] at this
    have := h.r0; omega
  refine ⟨hr, Int.emod_nonneg x (by omega), Int.emod_lt_of_pos x (by omega), ?_⟩
  obtain ⟨k, hk⟩ := h.rx
  have := Int.emod_add_mul_ediv x m
  exact ⟨k - a * (x / m), by rw [hr] at hk; grind⟩
end Go.Proofs.Ytninagdclibmnaa
