/-
  Slices of numbers that come in: szIntS, toIntS.
-/
import Derived.Deep.OwnRows
import Derived.Test.YtfoofbcmaljmoaaDoorInts
import Derived.Test.YtfoofbcmaljmoaaDoorNum
import Derived.Test.YtfoofbcmaljmoaaDoorRule
import Derived.Test.YtfoofbcmaljmoaaDoorOwn
namespace Go.Proofs.YtfoofbcmaljmoaaDoor
open Go.RowKit
set_option linter.unusedVariables false
set_option linter.unusedSimpArgs false
attribute [local go_sem] q2 q3 q4 q5 q6 q7 q8 q9 q10 q11 q12

/-- A slice of n numbers that came in. -/
def ArgI (w : World) (v : Value) (n : Nat) (z : Nat → Int) : Prop :=
  (n = 0 ∧ ∃ a c, v = .slice a 0 c) ∨ ∃ b off c : Nat, v = .slice (some ⟨b, off, none⟩) n c ∧ b < w.heap.size ∧ ∀ i, i < n → w.cell? ⟨b, off + i, none⟩ = some (.int .i64 (z i))
theorem ArgI.below {w w' : World} {v : Value} {n : Nat} {z : Nat → Int} (h : ArgI w v n z) (hb : Below w.heap.size w w') : ArgI w' v n z := by
  rcases h with h | ⟨b, off, c, h1, h2, h3⟩
  · exact .inl h
  · exact .inr ⟨b, off, c, h1, Nat.lt_of_lt_of_le h2 hb.size, fun i hi => cell_call hb (h3 i hi)⟩
theorem ArgI.len {w : World} {v : Value} {n : Nat} {z : Nat → Int} (h : ArgI w v n z) : ∃ a c, v = .slice a n c := by
  rcases h with ⟨h, a, c, h2⟩ | ⟨b, off, c, h1, _⟩
  · exact ⟨a, c, by rw [h]; exact h2⟩
  · exact ⟨_, _, h1⟩
theorem ArgI.cells {w : World} {a : Option Addr} {n c : Nat} {z : Nat → Int} (h : ArgI w (.slice a n c) n z) (hn : 0 < n) : ∃ b off, a = some ⟨b, off, none⟩ ∧ ∀ i, i < n → w.cell? ⟨b, off + i, none⟩ = some (.int .i64 (z i)) := by
  rcases h with ⟨h, _⟩ | ⟨b, off, c', h1, _, h3⟩
  · omega
  · simp only [Value.slice.injEq] at h1
    exact ⟨b, off, h1.1, h3⟩
def RowI (w : World) (g n : Nat) (z : Nat → Int) : Prop := w.rowIs g 3 n (fun i => .int .i64 (z i))
theorem RowI.below {w w' : World} {g n : Nat} {z : Nat → Int} (h : RowI w g n z) (hb : Below w.heap.size w w') : RowI w' g n z := World.rowIs.of_block h (hb.block g (World.rowIs.lt h))
theorem RowI.arg {w : World} {g n : Nat} {z : Nat → Int} (h : RowI w g n z) : ArgI w (.slice (some ⟨g, 0, none⟩) n n) n z :=
  .inr ⟨g, 0, n, rfl, World.rowIs.lt h, fun i hi => by rw [Nat.zero_add]; exact World.rowIs.cell h hi⟩
theorem RowI.at {w : World} {g n lo : Nat} {z : Nat → Int} (h : RowI w g n z) (hl : lo ≤ g) : IntsAt w lo w.heap.size (some ⟨g, 0, none⟩) n z :=
  .inr ⟨g, n, _, rfl, hl, World.rowIs.lt h, Nat.le_refl _, h, fun i hi => rfl⟩

theorem Tryd.infoIntA : (Tryd.prog.info? 3).map (fun i => (i.zero, i.size, i.bytes)) = some (some (.int .i64 0), 1, 8) := by kernel_rfl
theorem make_intsA (n : Nat) (hn : n ≤ 2000000) (w : World) :
    (Instr.makeSlice 22 (.int .i64 (n : Int)) (.int .i64 (n : Int))).run Tryd.prog w = .ok (.slice (some ⟨w.heap.size, 0, none⟩) n n) (w.alloc (.cells (madeCells #[.int .i64 0] n) 3)) :=
  run_make_row' (P := Tryd.prog) 22 3 (.int .i64 0) 8 Tryd.underlying22 Tryd.infoIntA rfl .i64 .i64 n (by omega) (by omega) w
theorem made_intsA (w : World) (n : Nat) : (w.alloc (.cells (madeCells #[.int .i64 0] n) 3)).rowIs w.heap.size 3 n (fun _ => .int .i64 0) :=
  ⟨_, Go.Deep.blk_alloc_new _ _, by simp [size_madeCells], fun j hj => by simp [madeCells, hj, Nat.mod_one]⟩

end Go.Proofs.YtfoofbcmaljmoaaDoor
