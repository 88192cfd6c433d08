/-
  Plain: the automorphs of a class form, found from its reduced form and found by their traces, in one order.
-/
import Derived.Test.YtjknkgmmgdfjiaaAum
namespace Go.Proofs.Ytjknkgmmgdfjiaa
open Go.RowKit
set_option linter.unusedVariables false
set_option linter.unusedSimpArgs false

/-- Put in one after the other. -/
def putM : List M4 → List M4 → List M4
  | L, [] => L
  | L, m :: K => putM (insM m L) K
theorem putM_mem (k : M4) : ∀ (K L : List M4), k ∈ putM L K ↔ k ∈ K ∨ k ∈ L
  | [], L => by simp [putM]
  | m :: K, L => by
    rw [putM, putM_mem k K, insM_mem, List.mem_cons]
    constructor
    · rintro (h | h | h)
      · exact .inl (.inr h)
      · exact .inl (.inl h)
      · exact .inr h
    · rintro ((h | h) | h)
      · exact .inr (.inl h)
      · exact .inl h
      · exact .inr (.inr h)
/-- No element twice, none that is there. -/
def NewM : List M4 → List M4 → Prop
  | _, [] => True
  | L, m :: K => m ∉ L ∧ NewM (insM m L) K
theorem putM_srt : ∀ {K L : List M4}, SrtM L → NewM L K → SrtM (putM L K)
  | [], _, h, _ => h
  | m :: K, L, h, hn => putM_srt (K := K) (insM_srt h hn.1) hn.2
theorem new_of {K : List M4} : ∀ {L : List M4}, K.Nodup → (∀ m ∈ K, m ∉ L) → NewM L K := by
  induction K with
  | nil => intro L _ _; trivial
  | cons m K ih =>
    intro L hd hm
    rw [List.nodup_cons] at hd
    refine ⟨hm m List.mem_cons_self, ih hd.2 fun k hk hkl => ?_⟩
    rw [insM_mem] at hkl
    rcases hkl with rfl | h
    · exact hd.1 hk
    · exact hm k (List.mem_cons_of_mem _ hk) h
/-- Lists with the same members, put in: one list. -/
theorem put_eq {K K' : List M4} (h1 : K.Nodup) (h2 : K'.Nodup) (h : ∀ m, m ∈ K ↔ m ∈ K') : putM [] K = putM [] K' :=
  srt_eq (putM_srt trivial (new_of h1 (by simp))) (putM_srt trivial (new_of h2 (by simp))) fun m => by rw [putM_mem, putM_mem, h m]
theorem aM_inj {a b c x u y v : Int} (ha : 0 < a) (h : aM a b c x u = aM a b c y v) : x = y ∧ u = v := by
  unfold aM at h
  simp only [Prod.mk.injEq] at h
  have hu : u = v := by
    have h3 := h.2.2.1
    exact Int.eq_of_mul_eq_mul_left (by omega) h3
  exact ⟨h.1, hu⟩
theorem putM_snoc (m : M4) : ∀ (K L : List M4), putM L (K ++ [m]) = insM m (putM L K)
  | [], L => rfl
  | k :: K, L => by rw [List.cons_append, putM, putM, putM_snoc m K]
/-- The turns of a reduced form, as the program lists them. -/
def turnL (A B C : Int) : List M4 :=
  if A = C ∧ B = 0 then [(1, 0, 0, 1), (0, -1, 1, 0), (-1, 0, 0, -1), (0, 1, -1, 0)]
  else if A = C ∧ B = A then [(1, 0, 0, 1), (0, -1, 1, 1), (1, 1, -1, 0), (-1, 0, 0, -1), (0, 1, -1, -1), (-1, -1, 1, 0)]
  else [(1, 0, 0, 1), (-1, 0, 0, -1)]
def turnX (A B C : Int) : List (Int × Int) :=
  if A = C ∧ B = 0 then [(1, 0), (0, 1), (-1, 0), (0, -1)]
  else if A = C ∧ B = A then [(1, 0), (0, 1), (1, -1), (-1, 0), (0, -1), (-1, 1)]
  else [(1, 0), (-1, 0)]
theorem turn_aM {A B C : Int} (h1 : A = C ∧ B = 0 → A = 1) (h2 : A = C ∧ B = A → A = 1) : turnL A B C = (turnX A B C).map (fun z => aM A B C z.1 z.2) := by
  unfold turnL turnX
  by_cases q1 : A = C ∧ B = 0
  · rw [if_pos q1, if_pos q1]
    have := h1 q1
    obtain ⟨rfl, rfl⟩ := q1
    subst this
    rfl
  · rw [if_neg q1, if_neg q1]
    by_cases q2 : A = C ∧ B = A
    · rw [if_pos q2, if_pos q2]
      have := h2 q2
      obtain ⟨rfl, rfl⟩ := q2
      subst this
      rfl
    · rw [if_neg q2, if_neg q2]
      simp [aM]
/-- The traces and the small numbers that are tried. -/
def candT (i : Nat) : Int := (i / 3 : Nat) - 2
def candU (i : Nat) : Int := (i % 3 : Nat) - 1
def candM (a b c : Int) (i : Nat) : M4 := aM a b c ((candT i - b * candU i) / 2) (candU i)
def spK (a b c : Int) : Nat → List M4
  | 0 => []
  | n + 1 => if candT n * candT n - discI a b c * candU n * candU n = 4 then spK a b c n ++ [candM a b c n] else spK a b c n
end Go.Proofs.Ytjknkgmmgdfjiaa
