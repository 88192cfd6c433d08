/-
  Plain: both ways to list the automorphs give one list.
-/
import Derived.Test.YtjknkgmmgdfjiaaAul
namespace Go.Proofs.Ytjknkgmmgdfjiaa
open Go.RowKit
set_option linter.unusedVariables false
set_option linter.unusedSimpArgs false

/-- The number by which a form's automorphs are shifted. -/
def kapM (a b c p q r s : Int) : Int := a * p * q + b * q * r + c * r * s
theorem kap_b {a0 b0 c0 a b c p q r s : Int} (h : MadeM a0 b0 c0 a b c p q r s) : b = 2 * kapM a0 b0 c0 p q r s + b0 := by
  obtain ⟨h1, h2, h3, h4⟩ := h
  unfold kapM
  have : p * s = 1 + q * r := by omega
  rw [h3, this]
  grind
theorem disc_made {a0 b0 c0 a b c p q r s : Int} (h : MadeM a0 b0 c0 a b c p q r s) : discI a b c = discI a0 b0 c0 := by
  obtain ⟨h1, h2, h3, h4⟩ := h
  subst h2 h3 h4
  unfold discI
  have e : p * s = 1 + q * r := by omega
  have e2 : (p * s) * (p * s) = (1 + q * r) * (1 + q * r) := by rw [e]
  grind
/-- What is put in: the turns, conjugated. -/
theorem conj_turn {a0 b0 c0 a b c p q r s : Int} (h : MadeM a0 b0 c0 a b c p q r s) (h1 : a = c ∧ b = 0 → a = 1) (h2 : a = c ∧ b = a → a = 1) :
    (turnL a b c).map (fun n => mM (mM (p, q, r, s) n) (iM (p, q, r, s))) = ((turnX a b c).map (fun z => (z.1 + kapM a0 b0 c0 p q r s * z.2, z.2))).map (fun z => aM a0 b0 c0 z.1 z.2) := by
  rw [turn_aM h1 h2, List.map_map, List.map_map]
  refine List.map_congr_left fun z _ => ?_
  simp only [Function.comp]
  have := aut_conj (a := a0) (b := b0) (c := c0) (x := z.1) (u := z.2) h.det
  rw [← h.ea, ← h.eb, ← h.ec] at this
  exact this
theorem nodup_aM {a b c : Int} (ha : 0 < a) {L : List (Int × Int)} (h : L.Nodup) : (L.map (fun z => aM a b c z.1 z.2)).Nodup := by
  refine List.Pairwise.map _ (fun z w hzw e => hzw ?_) h
  obtain ⟨e1, e2⟩ := aM_inj ha e
  exact Prod.ext e1 e2
def spX (b d : Int) : List (Int × Int) :=
  if d = -4 then [(-1, 0), (b / 2, -1), (-b / 2, 1), (1, 0)]
  else if d = -3 then [(-1, 0), ((-1 + b) / 2, -1), ((-1 - b) / 2, 1), ((1 + b) / 2, -1), ((1 - b) / 2, 1), (1, 0)]
  else [(-1, 0), (1, 0)]
theorem sp_spX {a b c : Int} (h : discI a b c < 0) (hm : discI a b c % 4 = 0 ∨ discI a b c % 4 = 1) : spK a b c 15 = (spX b (discI a b c)).map (fun z => aM a b c z.1 z.2) := by
  unfold spX
  generalize hd : discI a b c = d at *
  by_cases q4 : d = -4
  · subst q4
    simp [spK, candT, candU, candM, hd]
  · by_cases q3 : d = -3
    · subst q3
      simp [spK, candT, candU, candM, hd, Int.sub_eq_add_neg]
    · have q5 : d < -4 := by omega
      rw [if_neg q4, if_neg q3]
      have n1 : ¬ (4 - d = 4) := by omega
      have n2 : ¬ (1 - d = 4) := by omega
      have n3 : ¬ (0 - d = 4) := by omega
      have n4 : ¬ (-d = 4) := by omega
      simp [spK, candT, candU, candM, hd, n1, n2, n3, n4]

theorem MadeM.backB {a0 b0 c0 a b c p q r s : Int} (h : MadeM a0 b0 c0 a b c p q r s) : b0 = b * (p * s + q * r) - 2 * a * q * s - 2 * c * p * r := by
  obtain ⟨h1, h2, h3, h4⟩ := h
  subst h2 h3 h4
  have e : p * s = 1 + q * r := by omega
  have e2 : (p * s) * (p * s) = (1 + q * r) * (1 + q * r) := by rw [e]
  grind
/-- What divides the reduced form divides the form. -/
theorem made_unit {a0 b0 c0 a b c p q r s : Int} (h : MadeM a0 b0 c0 a b c p q r s) (hp : contI a0 b0 c0 = 1) (ha : 0 < a) (hb : a ∣ b) (hc : a ∣ c) : a = 1 := by
  have d1 : a ∣ a0 := by
    rw [h.backA]
    obtain ⟨x, rfl⟩ := hb
    obtain ⟨y, rfl⟩ := hc
    exact ⟨s * s - x * s * r + y * r * r, by grind⟩
  have d2 : a ∣ b0 := by
    rw [h.backB]
    obtain ⟨x, rfl⟩ := hb
    obtain ⟨y, rfl⟩ := hc
    exact ⟨x * (p * s + q * r) - 2 * q * s - 2 * y * p * r, by grind⟩
  have d3 : a ∣ c0 := by
    rw [h.backC]
    obtain ⟨x, rfl⟩ := hb
    obtain ⟨y, rfl⟩ := hc
    exact ⟨q * q - x * q * p + y * p * p, by grind⟩
  have d4 : a ∣ contI a0 b0 c0 := Int.dvd_coe_gcd d1 (Int.dvd_coe_gcd d2 d3)
  rw [hp] at d4
  have := Int.le_of_dvd (by omega) d4
  omega
theorem turnX_nodup (a b c : Int) (k : Int) : ((turnX a b c).map (fun z => (z.1 + k * z.2, z.2))).Nodup := by
  unfold turnX
  split
  · simp <;> omega
  · split
    · simp <;> omega
    · simp
theorem spX_nodup (b d : Int) : (spX b d).Nodup := by
  unfold spX
  split
  · simp <;> omega
  · split
    · simp <;> omega
    · simp
/-- A reduced form's discriminant tells its turns. -/
theorem red_disc {a b c : Int} (ha : 0 < a) (hr : redB a b c = true) (hd : -4 ≤ discI a b c) (hn : discI a b c < 0) : a = 1 ∧ c = 1 ∧ (b = 0 ∨ b = 1) := by
  unfold redB at hr
  simp at hr
  obtain ⟨h1, h2⟩ := hr
  obtain ⟨h3, h4⟩ := norm_true h1
  have hc : a ≤ c := by omega
  have q1 := (sq_le_of (x := b) (A := a) ⟨by omega, h4⟩).2
  have q2 := Int.mul_le_mul_of_nonneg_left hc (show 0 ≤ a by omega)
  unfold discI at hd hn
  have e : 4 * a * c = 4 * (a * c) := Int.mul_assoc _ _ _
  have h5 : a * c ≤ 1 := by omega
  have h6 : a = 1 := by
    by_cases q : a = 1
    · exact q
    · have := Int.mul_le_mul (show 2 ≤ a by omega) (show 1 ≤ c by omega) (by omega) (by omega)
      omega
  subst h6
  rw [Int.one_mul] at h5
  refine ⟨rfl, by omega, ?_⟩
  omega
theorem aut_eq {a0 b0 c0 a b c p q r s : Int} (h : MadeM a0 b0 c0 a b c p q r s) (ha0 : 0 < a0) (ha : 0 < a) (hr : redB a b c = true) (hp : contI a0 b0 c0 = 1) (hn : discI a0 b0 c0 < 0) (hm : discI a0 b0 c0 % 4 = 0 ∨ discI a0 b0 c0 % 4 = 1) :
    putM [] ((turnL a b c).map (fun n => mM (mM (p, q, r, s) n) (iM (p, q, r, s)))) = putM [] (spK a0 b0 c0 15) := by
  have u1 : a = c ∧ b = 0 → a = 1 := fun ⟨e1, e2⟩ => made_unit h hp ha (by rw [e2]; exact Int.dvd_zero a) (by rw [← e1]; exact Int.dvd_refl a)
  have u2 : a = c ∧ b = a → a = 1 := fun ⟨e1, e2⟩ => made_unit h hp ha (by rw [e2]; exact Int.dvd_refl a) (by rw [← e1]; exact Int.dvd_refl a)
  rw [conj_turn h u1 u2, sp_spX hn hm]
  refine put_eq (nodup_aM ha0 (turnX_nodup _ _ _ _)) (nodup_aM ha0 (spX_nodup _ _)) fun m => ?_
  suffices H : ∀ z, z ∈ (turnX a b c).map (fun z => (z.1 + kapM a0 b0 c0 p q r s * z.2, z.2)) ↔ z ∈ spX b0 (discI a0 b0 c0) by
    rw [List.mem_map, List.mem_map]
    constructor
    · rintro ⟨z, hz, rfl⟩; exact ⟨z, (H z).1 hz, rfl⟩
    · rintro ⟨z, hz, rfl⟩; exact ⟨z, (H z).2 hz, rfl⟩
  have kb := kap_b h
  have hd := disc_made h
  generalize kapM a0 b0 c0 p q r s = k at *
  rintro ⟨x, u⟩
  unfold turnX spX
  by_cases q1 : a = c ∧ b = 0
  · have e1 := u1 q1
    have e2 : discI a0 b0 c0 = -4 := by rw [← hd]; obtain ⟨rfl, rfl⟩ := q1; subst e1; rfl
    rw [if_pos q1, if_pos e2]
    obtain ⟨rfl, rfl⟩ := q1
    simp
    omega
  · rw [if_neg q1]
    by_cases q2 : a = c ∧ b = a
    · have e1 := u2 q2
      have e2 : discI a0 b0 c0 = -3 := by rw [← hd]; obtain ⟨rfl, rfl⟩ := q2; subst e1; rfl
      rw [if_pos q2, e2]
      obtain ⟨rfl, rfl⟩ := q2
      subst e1
      have eb : b0 = 1 - 2 * k := by omega
      have f1 : (-1 + b0) / 2 = -k := by omega
      have f2 : (-1 - b0) / 2 = k - 1 := by omega
      have f3 : (1 + b0) / 2 = 1 - k := by omega
      have f4 : (1 - b0) / 2 = k := by omega
      rw [if_neg (show ¬ ((-3 : Int) = -4) by omega), if_pos rfl, f1, f2, f3, f4]
      simp only [List.map_cons, List.map_nil, List.mem_cons, List.not_mem_nil, or_false, Prod.mk.injEq, Int.mul_zero, Int.mul_one, Int.add_zero, Int.mul_neg]
      clear f1 f2 f3 f4 eb kb hd
      constructor <;> rintro (g | g | g | g | g | g) <;> obtain ⟨rfl, rfl⟩ := g <;> simp <;> omega
    · have h3 : ¬ (discI a0 b0 c0 = -4) := fun e => by
        obtain ⟨g1, g2, g3⟩ := red_disc ha hr (by omega) (by omega)
        omega
      have h4 : ¬ (discI a0 b0 c0 = -3) := fun e => by
        obtain ⟨g1, g2, g3⟩ := red_disc ha hr (by omega) (by omega)
        omega
      rw [if_neg q2, if_neg h3, if_neg h4]
      simp
      omega
end Go.Proofs.Ytjknkgmmgdfjiaa
