/-
  Plain: the first point at which the value of a form has no common divisor with a number.
-/
import Derived.Test.YtninagdclibmnaaInvP
import Derived.Test.YtninagdclibmnaaChk
namespace Go.Proofs.Ytninagdclibmnaa
set_option linter.unusedVariables false
set_option linter.unusedSimpArgs false

/-- A point of a size at which the value has no common divisor with m. -/
def hitB (a b c m : Int) (k x y : Nat) : Bool := decide (max x y = k) && (igcd x y == 1 && igcd (valI a b c x y) m == 1)
structure IsFirst (a b c m : Int) (k x y : Nat) : Prop where
  hit : hitB a b c m k x y = true
  xk : x ≤ k
  yk : y ≤ k
  sizes : ∀ k', k' < k → ∀ x' y', x' ≤ k' → y' ≤ k' → hitB a b c m k' x' y' = false
  rows : ∀ x', x' < x → ∀ y', y' ≤ k → hitB a b c m k x' y' = false
  cols : ∀ y', y' < y → hitB a b c m k x y' = false
theorem IsFirst.same {a b c m : Int} {k x y k' x' y' : Nat} (h : IsFirst a b c m k x y) (h' : IsFirst a b c m k' x' y') : x = x' ∧ y = y' ∧ k = k' := by
  have hk : k = k' := by
    rcases Nat.lt_trichotomy k k' with q | q | q
    · have := h'.sizes k q x y h.xk h.yk; rw [h.hit] at this; cases this
    · exact q
    · have := h.sizes k' q x' y' h'.xk h'.yk; rw [h'.hit] at this; cases this
  subst hk
  have hx : x = x' := by
    rcases Nat.lt_trichotomy x x' with q | q | q
    · have := h'.rows x q y h.yk; rw [h.hit] at this; cases this
    · exact q
    · have := h.rows x' q y' h'.yk; rw [h'.hit] at this; cases this
  subst hx
  refine ⟨rfl, ?_, rfl⟩
  rcases Nat.lt_trichotomy y y' with q | q | q
  · have := h'.cols y q; rw [h.hit] at this; cases this
  · exact q
  · have := h.cols y' q; rw [h'.hit] at this; cases this
open Classical in
noncomputable def fpP (a b c m : Int) : Nat × Nat := if h : ∃ p : Nat × Nat × Nat, IsFirst a b c m p.1 p.2.1 p.2.2 then (h.choose.2.1, h.choose.2.2) else (0, 0)
noncomputable def fpX (a b c m : Int) : Int := ((fpP a b c m).1 : Int)
noncomputable def fpY (a b c m : Int) : Int := ((fpP a b c m).2 : Int)
theorem fp_of {a b c m : Int} {k x y : Nat} (h : IsFirst a b c m k x y) : fpX a b c m = x ∧ fpY a b c m = y := by
  have he : ∃ p : Nat × Nat × Nat, IsFirst a b c m p.1 p.2.1 p.2.2 := ⟨(k, x, y), h⟩
  have h2 := he.choose_spec.same h
  unfold fpX fpY fpP
  rw [dif_pos he]
  exact ⟨by rw [h2.1], by rw [h2.2.1]⟩

/-! A point of size at most 5 is always found. -/
theorem ptsL_ok : ∀ p ∈ ptsL, Nat.gcd p.1 p.2 = 1 ∧ p.1 ≤ 5 ∧ p.2 ≤ 5 := by decide
theorem exists_hit {a b c m : Int} (hm : 1 ≤ m) (hm2 : m ≤ 30) (hg : Int.gcd (Int.gcd (Int.gcd a b : Int) c : Int) m = 1) : ∃ x y : Nat, x ≤ 5 ∧ y ≤ 5 ∧ hitB a b c m (max x y) x y = true := by
  obtain ⟨n, rfl⟩ := Int.eq_ofNat_of_zero_le (show 0 ≤ m by omega)
  have hn : n < 31 := by omega
  have hn0 : (n : Int) ≠ 0 := by omega
  have h1 := chk_all
  rw [List.all_eq_true] at h1
  have h2 := h1 n (List.mem_range.2 hn)
  unfold chkM at h2
  have red : ∀ z : Int, ∃ k : Nat, (k : Int) = z % n ∧ k < n := fun z => ⟨(z % n).toNat, by have := Int.emod_nonneg z hn0; omega, by have := Int.emod_lt_of_pos z (show (0 : Int) < n by omega); have := Int.emod_nonneg z hn0; omega⟩
  obtain ⟨a', ea, la⟩ := red a
  obtain ⟨b', eb, lb⟩ := red b
  obtain ⟨c', ec, lc⟩ := red c
  rw [List.all_eq_true] at h2
  have h3 := h2 a' (List.mem_range.2 la)
  rw [List.all_eq_true] at h3
  have h4 := h3 b' (List.mem_range.2 lb)
  rw [List.all_eq_true] at h4
  have h5 := h4 c' (List.mem_range.2 lc)
  unfold chk1 at h5
  have hgn : Nat.gcd (Nat.gcd (Nat.gcd a' b') c') n = 1 := by
    generalize hD : Nat.gcd (Nat.gcd (Nat.gcd a' b') c') n = D
    have d1 : D ∣ Nat.gcd (Nat.gcd a' b') c' := by rw [← hD]; exact Nat.gcd_dvd_left _ _
    have dn : D ∣ n := by rw [← hD]; exact Nat.gcd_dvd_right _ _
    have d2 : D ∣ Nat.gcd a' b' := Nat.dvd_trans d1 (Nat.gcd_dvd_left _ _)
    have dc : D ∣ c' := Nat.dvd_trans d1 (Nat.gcd_dvd_right _ _)
    have da : D ∣ a' := Nat.dvd_trans d2 (Nat.gcd_dvd_left _ _)
    have db : D ∣ b' := Nat.dvd_trans d2 (Nat.gcd_dvd_right _ _)
    have up : ∀ (z : Int) (z' : Nat), (z' : Int) = z % n → D ∣ z' → (D : Int) ∣ z := fun z z' e h => by
      rw [← Int.emod_add_mul_ediv z n, ← e]
      exact Int.dvd_add (Int.natCast_dvd_natCast.2 h) (Int.dvd_mul_of_dvd_left (Int.natCast_dvd_natCast.2 dn))
    have h9 : (D : Int) ∣ (Int.gcd (Int.gcd (Int.gcd a b : Int) c : Int) (n : Int) : Int) :=
      Int.dvd_coe_gcd (Int.dvd_coe_gcd (Int.dvd_coe_gcd (up a a' ea da) (up b b' eb db)) (up c c' ec dc)) (Int.natCast_dvd_natCast.2 dn)
    rw [hg] at h9
    have := Int.natCast_dvd_natCast.1 h9
    exact Nat.dvd_one.1 this
  rw [hgn] at h5
  simp only [beq_self_eq_true, Bool.not_true, Bool.false_or, List.any_eq_true] at h5
  obtain ⟨p, hp, hv⟩ := h5
  obtain ⟨q1, q2, q3⟩ := ptsL_ok p hp
  refine ⟨p.1, p.2, q2, q3, ?_⟩
  unfold hitB
  have hval : igcd (valI a b c p.1 p.2) n = 1 := by
    unfold igcd
    have e : (valI a b c p.1 p.2) % n = ((a' * p.1 * p.1 + b' * p.1 * p.2 + c' * p.2 * p.2 : Nat) : Int) % n := by
      have ha : a = a' + n * (a / n) := by rw [ea]; exact (Int.emod_add_mul_ediv a n).symm
      have hb : b = b' + n * (b / n) := by rw [eb]; exact (Int.emod_add_mul_ediv b n).symm
      have hc : c = c' + n * (c / n) := by rw [ec]; exact (Int.emod_add_mul_ediv c n).symm
      have : valI a b c p.1 p.2 = ((a' * p.1 * p.1 + b' * p.1 * p.2 + c' * p.2 * p.2 : Nat) : Int) + n * (a / n * p.1 * p.1 + b / n * p.1 * p.2 + c / n * p.2 * p.2) := by
        unfold valI
        push_cast
        generalize a / (n : Int) = qa at *
        generalize b / (n : Int) = qb at *
        generalize c / (n : Int) = qc at *
        subst ha hb hc
        grind
      rw [this, Int.add_mul_emod_self_left]
    rw [← gcd_mod_left, e, gcd_mod_left]
    have : Int.gcd ((a' * p.1 * p.1 + b' * p.1 * p.2 + c' * p.2 * p.2 : Nat) : Int) n = Nat.gcd (a' * p.1 * p.1 + b' * p.1 * p.2 + c' * p.2 * p.2) n := rfl
    rw [this]
    simp at hv
    rw [hv]; rfl
  have hxy : igcd (p.1 : Int) (p.2 : Int) = 1 := by
    unfold igcd
    have : Int.gcd (p.1 : Int) (p.2 : Int) = Nat.gcd p.1 p.2 := rfl
    rw [this, q1]; rfl
  simp [hval, hxy]
end Go.Proofs.Ytninagdclibmnaa
