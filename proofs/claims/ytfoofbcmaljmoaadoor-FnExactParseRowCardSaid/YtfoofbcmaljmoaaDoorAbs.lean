/-
  impl.abs, and the tests that all integers of a slice lie in a range.
-/
import Derived.Test.YtfoofbcmaljmoaaDoorRoot
import Derived.Test.YtfoofbcmaljmoaaDoorInts
namespace Go.Proofs.YtfoofbcmaljmoaaDoor
open Go.RowKit
set_option linter.unusedVariables false
set_option linter.unusedSimpArgs false

/-- An int of 64 bits. -/
def I64 (n : Int) : Prop := -9223372036854775808 ≤ n ∧ n ≤ 9223372036854775807
def absI (n : Int) : Int := if 0 ≤ n then n else if n = -9223372036854775808 then 9223372036854775807 else -n

def allB (zs : List Int) (lo hi : Int) : Bool := zs.all (fun z => inB z lo hi)
theorem allB_no {zs : List Int} {lo hi : Int} {k : Nat} (hk : k < zs.length) (h : inB (zs.getD k 0) lo hi = false) : allB zs lo hi = false := by
  rw [List.getD_eq_getElem?_getD, List.getElem?_eq_getElem hk] at h
  unfold allB
  rw [List.all_eq_false]
  exact ⟨zs[k], List.getElem_mem hk, by simpa using h⟩
theorem allB_yes {zs : List Int} {lo hi : Int} (h : ∀ k, k < zs.length → inB (zs.getD k 0) lo hi = true) : allB zs lo hi = true := by
  unfold allB
  rw [List.all_eq_true]
  intro z hz
  obtain ⟨k, hk, rfl⟩ := List.mem_iff_getElem.1 hz
  have := h k hk
  rwa [List.getD_eq_getElem?_getD, List.getElem?_eq_getElem hk] at this
theorem absI_gt {z : Int} (h : I64 z) : (1000 < absI z) ↔ inB z (-1000) 1000 = false := by
  obtain ⟨h1, h2⟩ := h
  unfold absI inB
  simp only [Bool.and_eq_false_iff, decide_eq_false_iff_not]
  split <;> (try split) <;> omega
/-- The cells of a slice. -/
def Cells (w : World) (g : Nat) (zs : List Int) : Prop := ∀ i, i < zs.length → w.cell? ⟨g, i, none⟩ = some (.int .i64 (zs.getD i 0))
theorem Cells.keep {w w' : World} {g : Nat} {zs : List Int} (h : Cells w g zs) (e : w'.heap[g]? = w.heap[g]?) : Cells w' g zs := fun i hi => (World.cell?_of_block (a := ⟨g, i, none⟩) e).trans (h i hi)



end Go.Proofs.YtfoofbcmaljmoaaDoor
