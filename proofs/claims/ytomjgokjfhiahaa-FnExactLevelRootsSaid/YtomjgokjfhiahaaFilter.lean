/-
  Lists of integers that a loop filters.
-/
import Derived.Test.YtomjgokjfhiahaaList
import Derived.Test.YtomjgokjfhiahaaWorld
namespace Go.Proofs.Ytomjgokjfhiahaa
open Go.RowKit
set_option linter.unusedVariables false
set_option linter.unusedSimpArgs false
/-- What a loop has collected out of the first k places: e j for the j at which p holds. -/
def flN (p : Nat → Bool) (e : Nat → Int) : Nat → List Int
  | 0 => []
  | k + 1 => if p k then flN p e k ++ [e k] else flN p e k
theorem flN_yes {p : Nat → Bool} {e : Nat → Int} {k : Nat} (h : p k = true) : flN p e (k + 1) = flN p e k ++ [e k] := by rw [flN, if_pos h]
theorem flN_no {p : Nat → Bool} {e : Nat → Int} {k : Nat} (h : p k = false) : flN p e (k + 1) = flN p e k := by rw [flN, if_neg (by rw [h]; simp)]
theorem flN_len (p : Nat → Bool) (e : Nat → Int) (k : Nat) : (flN p e k).length ≤ k := by
  induction k with
  | zero => exact Nat.le_refl _
  | succ k ih =>
    rw [flN]
    split
    · rw [List.length_append]; simp only [List.length_cons, List.length_nil]; omega
    · omega
theorem IL.below {w w' : World} {lo : Nat} {v : Value} {zs : List Int} (h : IL w lo v zs) (hb : Below w.heap.size w w') : IL w' lo v zs :=
  h.kept (row := none) ⟨hb.os, hb.tape, hb.output, hb.size, fun k hk _ => hb.block k hk⟩ (by cases v.ownBlock <;> simp)
theorem IL.drewN {w : World} {lo : Nat} {v : Value} {zs : List Int} (h : IL w lo v zs) (n : Nat) : IL (w.drewN n) lo v zs :=
  h.below ⟨(Below.refl w.heap.size w).os, (Below.refl w.heap.size w).tape, (Below.refl w.heap.size w).output, (Below.refl w.heap.size w).size, (Below.refl w.heap.size w).block⟩
/-- A call that returns a list of its own. -/
def RetIL (w : World) (zs : List Int) (e : Ending) (w' : World) : Prop :=
  ∃ a c, e = .returned (.slice a zs.length c) ∧ IL w' w.heap.size (.slice a zs.length c) zs ∧ Below w.heap.size w w'
end Go.Proofs.Ytomjgokjfhiahaa
