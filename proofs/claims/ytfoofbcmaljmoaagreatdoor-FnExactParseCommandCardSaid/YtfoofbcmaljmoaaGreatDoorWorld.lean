/- Worlds that have grown, and sums that are less. -/
import Derived.Test.YtfoofbcmaljmoaaGreatDoorAbs
import Derived.Handy
import Derived.Outline
import Derived.Deep.DeepFit
namespace Go.Proofs.YtfoofbcmaljmoaaGreatDoor
open Go.RowKit
set_option linter.unusedVariables false
set_option linter.unusedSimpArgs false
theorem gr_alloc {w W : World} (h : Below w.heap.size w W) (o : Obj) : Below w.heap.size w (W.alloc o) := h.alloc h.size o
theorem gr_call {w W w2 : World} (h : Below w.heap.size w W) (h2 : Below W.heap.size W w2) : Below w.heap.size w w2 := h.trans (h2.mono h.size)
theorem below_drew {B : Nat} {a w : World} (h : Below B a w) : Below B a w.drew := ⟨h.os, h.tape, h.output, h.size, h.block⟩
theorem cell_call {W w' : World} {a : Addr} {v : Value} (hb : Below W.heap.size W w') (h : W.cell? a = some v) : w'.cell? a = some v := by
 rw [hb.cell (World.block_lt_of_cell? W a h)]; exact h
theorem frz_call {W w' : World} {a : Addr} (hb : Below W.heap.size W w') (hl : a.block < W.heap.size) (h : W.frozen? a = false) : w'.frozen? a = false := by
 rw [hb.frozen hl]; exact h
theorem lt_keep {W w' : World} (hb : Below W.heap.size W w') : ∀ k, k < W.heap.size → k < w'.heap.size := fun k h => Nat.lt_of_lt_of_le h hb.size
theorem q2 (n : Nat) : n < n + 1 + 1 := by omega
theorem q3 (n : Nat) : n < n + 1 + 1 + 1 := by omega
theorem q4 (n : Nat) : n < n + 1 + 1 + 1 + 1 := by omega
theorem q5 (n : Nat) : n < n + 1 + 1 + 1 + 1 + 1 := by omega
theorem q6 (n : Nat) : n < n + 1 + 1 + 1 + 1 + 1 + 1 := by omega
theorem q7 (n : Nat) : n < n + 1 + 1 + 1 + 1 + 1 + 1 + 1 := by omega
theorem q8 (n : Nat) : n < n + 1 + 1 + 1 + 1 + 1 + 1 + 1 + 1 := by omega
theorem q9 (n : Nat) : n < n + 1 + 1 + 1 + 1 + 1 + 1 + 1 + 1 + 1 := by omega
theorem q10 (n : Nat) : n < n + 1 + 1 + 1 + 1 + 1 + 1 + 1 + 1 + 1 + 1 := by omega
theorem q11 (n : Nat) : n < n + 1 + 1 + 1 + 1 + 1 + 1 + 1 + 1 + 1 + 1 + 1 := by omega
theorem q12 (n : Nat) : n < n + 1 + 1 + 1 + 1 + 1 + 1 + 1 + 1 + 1 + 1 + 1 + 1 := by omega
theorem cells_new (W : World) (cs : Array Value) (t : TypeId) (zs : List Int) (B : Nat) (h : cs.toList = zs.map (Value.int .i64)) (hB : B = W.heap.size) : Cells (W.alloc (.cells cs t)) B zs := by
 intro i hi
 subst hB
 have hn := heap_alloc_new W (.cells cs t)
 rw [cell_of_row _ _ i cs t (0, 0) hn]
 have : cs[i]? = cs.toList[i]? := by simp
 rw [this, h, List.getElem?_map, List.getElem?_eq_getElem hi, List.getD_eq_getElem?_getD, List.getElem?_eq_getElem hi]
 rfl
theorem i64_list {zs : List Int} (h : ∀ z ∈ zs, I64 z) : ∀ i, i < zs.length → I64 (zs.getD i 0) := fun i hi => by
 rw [List.getD_eq_getElem?_getD, List.getElem?_eq_getElem hi]; exact h _ (List.getElem_mem hi)
theorem allB_mem {zs : List Int} {lo hi : Int} (h : allB zs lo hi = true) : ∀ z ∈ zs, lo ≤ z ∧ z ≤ hi := by
 intro z hz
 unfold allB at h
 rw [List.all_eq_true] at h
 exact inB_true (h z hz)
end Go.Proofs.YtfoofbcmaljmoaaGreatDoor
