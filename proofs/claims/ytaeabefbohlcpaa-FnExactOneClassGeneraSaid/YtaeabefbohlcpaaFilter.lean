/- The walks of impl.root and spec.nuRoot, isSquare and nuSquare: both return the integer square root. impl.abs, and the tests that all integers of a slice lie in a range. Worlds that have grown, and sums that are less. Lists of integers that a loop filters. -/
import Derived.Test.YtaeabefbohlcpaaProg
import Derived.Test.YtaeabefbohlcpaaBase
import Derived.Test.YtaeabefbohlcpaaInts
import Derived.Handy
import Derived.Outline
import Derived.Deep.DeepFit
import Derived.Test.YtaeabefbohlcpaaList
namespace Go.Proofs.Ytaeabefbohlcpaa
open Go.RowKit
set_option linter.unusedVariables false
set_option linter.unusedSimpArgs false

set_option maxHeartbeats 400000 in
theorem l1In_any (n lo hi : Int) (w : World) :
  Calls Try.prog 31 #[.int .i64 n, .int .i64 lo, .int .i64 hi] w fun e w' => e = .returned (.bool (inB n lo hi)) ∧ w = w' := by
 go_enter Try.func31, Try.ntmps31
 go_wp2
 all_goals (go_ret; exact ⟨ret_bool (by simp [inB]; try omega), rfl⟩)

end Go.Proofs.Ytaeabefbohlcpaa
namespace Go.Proofs.Ytaeabefbohlcpaa
open Go.RowKit
set_option linter.unusedVariables false
set_option linter.unusedSimpArgs false

def allB (zs : List Int) (lo hi : Int) : Bool := zs.all (fun z => inB z lo hi)
def Cells (w : World) (g : Nat) (zs : List Int) : Prop := ∀ i, i < zs.length → w.cell? ⟨g, i, none⟩ = some (.int .i64 (zs.getD i 0))
theorem Cells.keep {w w' : World} {g : Nat} {zs : List Int} (h : Cells w g zs) (e : w'.heap[g]? = w.heap[g]?) : Cells w' g zs := fun i hi => (World.cell?_of_block (a := ⟨g, i, none⟩) e).trans (h i hi)



end Go.Proofs.Ytaeabefbohlcpaa
namespace Go.Proofs.Ytaeabefbohlcpaa
open Go.RowKit
set_option linter.unusedVariables false
set_option linter.unusedSimpArgs false
theorem gr_alloc {w W : World} (h : Below w.heap.size w W) (o : Obj) : Below w.heap.size w (W.alloc o) := h.alloc h.size o
theorem gr_call {w W w2 : World} (h : Below w.heap.size w W) (h2 : Below W.heap.size W w2) : Below w.heap.size w w2 := h.trans (h2.mono h.size)
theorem below_drew {B : Nat} {a w : World} (h : Below B a w) : Below B a w.drew := ⟨h.os, h.tape, h.output, h.size, h.block⟩
theorem cell_call {W w' : World} {a : Addr} {v : Value} (hb : Below W.heap.size W w') (h : W.cell? a = some v) : w'.cell? a = some v := by
 rw [hb.cell (World.block_lt_of_cell? W a h)]; exact h
theorem frz_call {W w' : World} {a : Addr} (hb : Below W.heap.size W w') (hl : a.block < W.heap.size) (h : W.frozen? a = false) : w'.frozen? a = false := by
 rw [hb.frozen hl]; exact h
theorem lt_keep {W w' : World} (hb : Below W.heap.size W w') : ∀ k, k < W.heap.size → k < w'.heap.size := fun k h => Nat.lt_of_lt_of_le h hb.size
theorem q2 (n : Nat) : n < n + 1 + 1 := by omega
theorem q3 (n : Nat) : n < n + 1 + 1 + 1 := by omega
theorem q4 (n : Nat) : n < n + 1 + 1 + 1 + 1 := by omega
theorem q5 (n : Nat) : n < n + 1 + 1 + 1 + 1 + 1 := by omega
theorem q6 (n : Nat) : n < n + 1 + 1 + 1 + 1 + 1 + 1 := by omega
theorem q7 (n : Nat) : n < n + 1 + 1 + 1 + 1 + 1 + 1 + 1 := by omega
theorem q8 (n : Nat) : n < n + 1 + 1 + 1 + 1 + 1 + 1 + 1 + 1 := by omega
theorem q9 (n : Nat) : n < n + 1 + 1 + 1 + 1 + 1 + 1 + 1 + 1 + 1 := by omega
theorem q10 (n : Nat) : n < n + 1 + 1 + 1 + 1 + 1 + 1 + 1 + 1 + 1 + 1 := by omega
theorem q11 (n : Nat) : n < n + 1 + 1 + 1 + 1 + 1 + 1 + 1 + 1 + 1 + 1 + 1 := by omega
theorem q12 (n : Nat) : n < n + 1 + 1 + 1 + 1 + 1 + 1 + 1 + 1 + 1 + 1 + 1 + 1 := by omega
theorem allB_mem {zs : List Int} {lo hi : Int} (h : allB zs lo hi = true) : ∀ z ∈ zs, lo ≤ z ∧ z ≤ hi := by
 intro z hz
 unfold allB at h
 rw [List.all_eq_true] at h
 exact inB_true (h z hz)
end Go.Proofs.Ytaeabefbohlcpaa
namespace Go.Proofs.Ytaeabefbohlcpaa
open Go.RowKit
set_option linter.unusedVariables false
set_option linter.unusedSimpArgs false
def flN {α : Type} (p : Nat → Bool) (e : Nat → α) : Nat → List α
 | 0 => []
 | k + 1 => if p k then flN p e k ++ [e k] else flN p e k
theorem flN_yes {α : Type} {p : Nat → Bool} {e : Nat → α} {k : Nat} (h : p k = true) : flN p e (k + 1) = flN p e k ++ [e k] := by rw [flN, if_pos h]
theorem flN_no {α : Type} {p : Nat → Bool} {e : Nat → α} {k : Nat} (h : p k = false) : flN p e (k + 1) = flN p e k := by rw [flN, if_neg (by rw [h]; simp)]
theorem flN_len {α : Type} (p : Nat → Bool) (e : Nat → α) (k : Nat) : (flN p e k).length ≤ k := by
 induction k with
 | zero => exact Nat.le_refl _
 | succ k ih =>
  rw [flN]
  split
  ·rw [List.length_append]; simp only [List.length_cons, List.length_nil]; omega
  ·omega
theorem flN_mem {α : Type} {p : Nat → Bool} {e : Nat → α} {x : α} {k : Nat} (h : x ∈ flN p e k) : ∃ j, j < k ∧ p j = true ∧ x = e j := by
 induction k with
 | zero => cases h
 | succ k ih =>
  rw [flN] at h
  split at h
  ·rename_i hp
   rw [List.mem_append] at h
   rcases h with h | h
   ·obtain ⟨j, h1, h2, h3⟩ := ih h; exact ⟨j, by omega, h2, h3⟩
   ·simp at h; exact ⟨k, by omega, hp, h⟩
  ·obtain ⟨j, h1, h2, h3⟩ := ih h; exact ⟨j, by omega, h2, h3⟩
theorem IL.below {w w' : World} {lo : Nat} {v : Value} {zs : List Int} (h : IL w lo v zs) (hb : Below w.heap.size w w') : IL w' lo v zs :=
 h.kept (row := none) ⟨hb.os, hb.tape, hb.output, hb.size, fun k hk _ => hb.block k hk⟩ (by cases v.ownBlock <;> simp)
theorem IL.drewN {w : World} {lo : Nat} {v : Value} {zs : List Int} (h : IL w lo v zs) (n : Nat) : IL (w.drewN n) lo v zs :=
 h.below ⟨(Below.refl w.heap.size w).os, (Below.refl w.heap.size w).tape, (Below.refl w.heap.size w).output, (Below.refl w.heap.size w).size, (Below.refl w.heap.size w).block⟩
def RetIL (w : World) (zs : List Int) (e : Ending) (w' : World) : Prop :=
 ∃ a c, e = .returned (.slice a zs.length c) ∧ IL w' w.heap.size (.slice a zs.length c) zs ∧ Below w.heap.size w w'
end Go.Proofs.Ytaeabefbohlcpaa
