/-
  Lists of integers that a loop filters.
-/
import Derived.Test.YtfoofbcmaljmoaaDoorList
import Derived.Test.YtfoofbcmaljmoaaDoorWorld
namespace Go.Proofs.YtfoofbcmaljmoaaDoor
open Go.RowKit
set_option linter.unusedVariables false
set_option linter.unusedSimpArgs false
/-- What a loop has collected out of the first k places: e j for the j at which p holds. -/
def flN {α : Type} (p : Nat → Bool) (e : Nat → α) : Nat → List α
  | 0 => []
  | k + 1 => if p k then flN p e k ++ [e k] else flN p e k
theorem flN_yes {α : Type} {p : Nat → Bool} {e : Nat → α} {k : Nat} (h : p k = true) : flN p e (k + 1) = flN p e k ++ [e k] := by rw [flN, if_pos h]
theorem flN_no {α : Type} {p : Nat → Bool} {e : Nat → α} {k : Nat} (h : p k = false) : flN p e (k + 1) = flN p e k := by rw [flN, if_neg (by rw [h]; simp)]
theorem flN_len {α : Type} (p : Nat → Bool) (e : Nat → α) (k : Nat) : (flN p e k).length ≤ k := by
  induction k with
  | zero => exact Nat.le_refl _
  | succ k ih =>
    rw [flN]
    split
    · rw [List.length_append]; simp only [List.length_cons, List.length_nil]; omega
    · omega
theorem flN_mem {α : Type} {p : Nat → Bool} {e : Nat → α} {x : α} {k : Nat} (h : x ∈ flN p e k) : ∃ j, j < k ∧ p j = true ∧ x = e j := by
  induction k with
  | zero => cases h
  | succ k ih =>
    rw [flN] at h
    split at h
    · rename_i hp
      rw [List.mem_append] at h
      rcases h with h | h
      · obtain ⟨j, h1, h2, h3⟩ := ih h; exact ⟨j, by omega, h2, h3⟩
      · simp at h; exact ⟨k, by omega, hp, h⟩
    · obtain ⟨j, h1, h2, h3⟩ := ih h; exact ⟨j, by omega, h2, h3⟩
theorem IL.below {w w' : World} {lo : Nat} {v : Value} {zs : List Int} (h : IL w lo v zs) (hb : Below w.heap.size w w') : IL w' lo v zs :=
  h.kept (row := none) ⟨hb.os, hb.tape, hb.output, hb.size, fun k hk _ => hb.block k hk⟩ (by cases v.ownBlock <;> simp)
theorem IL.drewN {w : World} {lo : Nat} {v : Value} {zs : List Int} (h : IL w lo v zs) (n : Nat) : IL (w.drewN n) lo v zs :=
  h.below ⟨(Below.refl w.heap.size w).os, (Below.refl w.heap.size w).tape, (Below.refl w.heap.size w).output, (Below.refl w.heap.size w).size, (Below.refl w.heap.size w).block⟩
/-- A call that returns a list of its own. -/
def RetIL (w : World) (zs : List Int) (e : Ending) (w' : World) : Prop :=
  ∃ a c, e = .returned (.slice a zs.length c) ∧ IL w' w.heap.size (.slice a zs.length c) zs ∧ Below w.heap.size w w'
end Go.Proofs.YtfoofbcmaljmoaaDoor
