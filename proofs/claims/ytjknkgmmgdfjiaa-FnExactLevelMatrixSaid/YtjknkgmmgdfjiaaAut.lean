/-
  Plain: automorphs of a form and of its reduced form; lists of matrices put in by insertion.
-/
import Derived.Test.YtjknkgmmgdfjiaaRedF
namespace Go.Proofs.Ytjknkgmmgdfjiaa
set_option linter.unusedVariables false
set_option linter.unusedSimpArgs false

abbrev M4 := Int × Int × Int × Int
def mM (m n : M4) : M4 := (m.1 * n.1 + m.2.1 * n.2.2.1, m.1 * n.2.1 + m.2.1 * n.2.2.2, m.2.2.1 * n.1 + m.2.2.2 * n.2.2.1, m.2.2.1 * n.2.1 + m.2.2.2 * n.2.2.2)
def iM (m : M4) : M4 := (m.2.2.2, -m.2.1, -m.2.2.1, m.1)
/-- The automorph of a form with x = (t - b u) / 2. -/
def aM (a b c x u : Int) : M4 := (x, -(c * u), a * u, x + b * u)
/-- A reduced form's automorph, conjugated, is the form's. -/
theorem aut_conj {a b c p q r s x u : Int} (h : p * s - q * r = 1) :
    mM (mM (p, q, r, s) (aM (a * p * p + b * p * r + c * r * r) (2 * a * p * q + b * (p * s + q * r) + 2 * c * r * s) (a * q * q + b * q * s + c * s * s) x u)) (iM (p, q, r, s)) = aM a b c (x + (a * p * q + b * q * r + c * r * s) * u) u := by
  unfold mM aM iM
  simp only [Prod.mk.injEq]
  refine ⟨?_, ?_, ?_, ?_⟩ <;> grind
def ltM (m n : M4) : Bool := if m.1 = n.1 then (if m.2.1 = n.2.1 then (if m.2.2.1 = n.2.2.1 then decide (m.2.2.2 < n.2.2.2) else decide (m.2.2.1 < n.2.2.1)) else decide (m.2.1 < n.2.1)) else decide (m.1 < n.1)
theorem ltM_irr (m : M4) : ltM m m = false := by unfold ltM; simp
theorem ltM_iff {m n : M4} : ltM m n = true ↔ m.1 < n.1 ∨ (m.1 = n.1 ∧ (m.2.1 < n.2.1 ∨ (m.2.1 = n.2.1 ∧ (m.2.2.1 < n.2.2.1 ∨ (m.2.2.1 = n.2.2.1 ∧ m.2.2.2 < n.2.2.2))))) := by
  unfold ltM
  by_cases h1 : m.1 = n.1
  · rw [if_pos h1]
    by_cases h2 : m.2.1 = n.2.1
    · rw [if_pos h2]
      by_cases h3 : m.2.2.1 = n.2.2.1
      · rw [if_pos h3, decide_eq_true_eq]; omega
      · rw [if_neg h3, decide_eq_true_eq]; omega
    · rw [if_neg h2, decide_eq_true_eq]; omega
  · rw [if_neg h1, decide_eq_true_eq]; omega
theorem ltM_tri {m n : M4} (h : ltM m n = false) (hne : m ≠ n) : ltM n m = true := by
  have h1 : ¬ ltM m n = true := by rw [h]; simp
  rw [ltM_iff] at h1 ⊢
  have h2 : ¬ (m.1 = n.1 ∧ m.2.1 = n.2.1 ∧ m.2.2.1 = n.2.2.1 ∧ m.2.2.2 = n.2.2.2) := fun ⟨a, b, c, d⟩ => hne (Prod.ext a (Prod.ext b (Prod.ext c d)))
  omega
theorem ltM_trans {m n k : M4} (h : ltM m n = true) (h2 : ltM n k = true) : ltM m k = true := by
  rw [ltM_iff] at *
  omega
/-- Put in, behind all that are less or equal. -/
def insM (m : M4) : List M4 → List M4
  | [] => [m]
  | n :: L => if ltM m n then m :: n :: L else n :: insM m L
def SrtM : List M4 → Prop
  | [] => True
  | m :: L => (∀ n ∈ L, ltM m n = true) ∧ SrtM L
theorem insM_mem (m k : M4) : ∀ L, k ∈ insM m L ↔ k = m ∨ k ∈ L
  | [] => by simp [insM]
  | n :: L => by
    unfold insM
    split
    · simp
    · simp only [List.mem_cons, insM_mem m k L]
      constructor
      · rintro (h | h | h)
        · exact .inr (.inl h)
        · exact .inl h
        · exact .inr (.inr h)
      · rintro (h | h | h)
        · exact .inr (.inl h)
        · exact .inl h
        · exact .inr (.inr h)
theorem insM_srt {m : M4} : ∀ {L}, SrtM L → m ∉ L → SrtM (insM m L)
  | [], _, _ => ⟨fun n hn => (by cases hn), trivial⟩
  | n :: L, hs, hm => by
    unfold insM
    by_cases q : ltM m n = true
    · rw [if_pos q]
      refine ⟨fun k hk => ?_, hs⟩
      rw [List.mem_cons] at hk
      rcases hk with rfl | hk
      · exact q
      · exact ltM_trans q (hs.1 k hk)
    · rw [if_neg q]
      have hne : m ≠ n := fun e => hm (by rw [e]; exact List.mem_cons_self)
      refine ⟨fun k hk => ?_, insM_srt hs.2 (fun h => hm (List.mem_cons_of_mem _ h))⟩
      rw [insM_mem] at hk
      rcases hk with rfl | hk
      · exact ltM_tri (by simpa using q) hne
      · exact hs.1 k hk
/-- Sorted lists with the same members are one list. -/
theorem srt_eq : ∀ {L K : List M4}, SrtM L → SrtM K → (∀ m, m ∈ L ↔ m ∈ K) → L = K
  | [], [], _, _, _ => rfl
  | [], k :: K, _, _, h => absurd ((h k).2 List.mem_cons_self) (by simp)
  | l :: L, [], _, _, h => absurd ((h l).1 List.mem_cons_self) (by simp)
  | l :: L, k :: K, hL, hK, h => by
    have e : l = k := by
      have h1 := (h l).1 List.mem_cons_self
      have h2 := (h k).2 List.mem_cons_self
      rw [List.mem_cons] at h1 h2
      rcases h1 with h1 | h1
      · exact h1
      · rcases h2 with h2 | h2
        · exact h2.symm
        · have a := hK.1 l h1
          have b := hL.1 k h2
          have := ltM_trans a b
          rw [ltM_irr] at this; cases this
    subst e
    congr 1
    refine srt_eq hL.2 hK.2 fun m => ⟨fun hm => ?_, fun hm => ?_⟩
    · have := (h m).1 (List.mem_cons_of_mem _ hm)
      rw [List.mem_cons] at this
      rcases this with rfl | t
      · have := hL.1 m hm; rw [ltM_irr] at this; cases this
      · exact t
    · have := (h m).2 (List.mem_cons_of_mem _ hm)
      rw [List.mem_cons] at this
      rcases this with rfl | t
      · have := hK.1 m hm; rw [ltM_irr] at this; cases this
      · exact t
end Go.Proofs.Ytjknkgmmgdfjiaa
