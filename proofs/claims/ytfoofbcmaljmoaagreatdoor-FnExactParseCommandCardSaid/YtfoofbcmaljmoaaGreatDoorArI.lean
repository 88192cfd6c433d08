/- The marks as texts. Slices of numbers that come in: szIntS, toIntS. -/
import Derived.Laws.BytesArg
import Derived.Laws.Concat
import Derived.Test.YtfoofbcmaljmoaaGreatDoorNm
import Derived.Test.YtfoofbcmaljmoaaGreatDoorRule
import Derived.Test.YtfoofbcmaljmoaaGreatDoorOwn
import Derived.Deep.OwnRows
import Derived.Test.YtfoofbcmaljmoaaGreatDoorInts
import Derived.Test.YtfoofbcmaljmoaaGreatDoorNum
namespace Go.Proofs.YtfoofbcmaljmoaaGreatDoor
open Go.RowKit
set_option linter.unusedVariables false
set_option linter.unusedSimpArgs false
attribute [local go_sem] q2 q3 q4 q5 q6 q7 q8 q9 q10 q11 q12

theorem str_one (w : World) (x : Int) : (convert 63 9 (.slice (some ⟨w.heap.size, 0, none⟩) 1 1)).run Tryz.prog (w.alloc (.cells #[.int .u8 x] 5)) = .ok (.string (strOfNums [x])) (w.alloc (.cells #[.int .u8 x] 5)) := by
 refine run_convert_bytes_arg _ 63 5 Tryz.underlying63 Tryz.underlying5 w.heap.size 0 1 1 [x] rfl ?_ 9 Tryz.underlying9
 intro i hi
 obtain rfl : i = 0 := by omega
 simp
end Go.Proofs.YtfoofbcmaljmoaaGreatDoor
namespace Go.Proofs.YtfoofbcmaljmoaaGreatDoor
open Go.RowKit
set_option linter.unusedVariables false
set_option linter.unusedSimpArgs false
attribute [local go_sem] q2 q3 q4 q5 q6 q7 q8 q9 q10 q11 q12

def ArgI (w : World) (v : Value) (n : Nat) (z : Nat → Int) : Prop :=
 (n = 0 ∧ ∃ a c, v = .slice a 0 c) ∨ ∃ b off c : Nat, v = .slice (some ⟨b, off, none⟩) n c ∧ b < w.heap.size ∧ ∀ i, i < n → w.cell? ⟨b, off + i, none⟩ = some (.int .i64 (z i))
theorem ArgI.below {w w' : World} {v : Value} {n : Nat} {z : Nat → Int} (h : ArgI w v n z) (hb : Below w.heap.size w w') : ArgI w' v n z := by
 rcases h with h | ⟨b, off, c, h1, h2, h3⟩
 ·exact .inl h
 ·exact .inr ⟨b, off, c, h1, Nat.lt_of_lt_of_le h2 hb.size, fun i hi => cell_call hb (h3 i hi)⟩
theorem ArgI.len {w : World} {v : Value} {n : Nat} {z : Nat → Int} (h : ArgI w v n z) : ∃ a c, v = .slice a n c := by
 rcases h with ⟨h, a, c, h2⟩ | ⟨b, off, c, h1, _⟩
 ·exact ⟨a, c, by rw [h]; exact h2⟩
 ·exact ⟨_, _, h1⟩
theorem ArgI.cells {w : World} {a : Option Addr} {n c : Nat} {z : Nat → Int} (h : ArgI w (.slice a n c) n z) (hn : 0 < n) : ∃ b off, a = some ⟨b, off, none⟩ ∧ ∀ i, i < n → w.cell? ⟨b, off + i, none⟩ = some (.int .i64 (z i)) := by
 rcases h with ⟨h, _⟩ | ⟨b, off, c', h1, _, h3⟩
 ·omega
 ·simp only [Value.slice.injEq] at h1
  exact ⟨b, off, h1.1, h3⟩
def RowI (w : World) (g n : Nat) (z : Nat → Int) : Prop := w.rowIs g 3 n (fun i => .int .i64 (z i))
theorem RowI.below {w w' : World} {g n : Nat} {z : Nat → Int} (h : RowI w g n z) (hb : Below w.heap.size w w') : RowI w' g n z := World.rowIs.of_block h (hb.block g (World.rowIs.lt h))
end Go.Proofs.YtfoofbcmaljmoaaGreatDoor
