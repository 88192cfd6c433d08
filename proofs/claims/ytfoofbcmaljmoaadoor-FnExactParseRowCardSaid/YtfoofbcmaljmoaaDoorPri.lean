/-
  ParseRow, impl.
-/
import Derived.Test.YtfoofbcmaljmoaaDoorPrt
import Derived.Test.YtfoofbcmaljmoaaDoorIiT
import Derived.Test.YtfoofbcmaljmoaaDoorRwe
import Derived.Test.YtfoofbcmaljmoaaDoorRte
namespace Go.Proofs.YtfoofbcmaljmoaaDoor
open Go.RowKit
set_option linter.unusedVariables false
set_option linter.unusedSimpArgs false
attribute [local go_sem] q2 q3 q4 q5 q6 q7 q8 q9 q10 q11 q12

set_option maxRecDepth 100000 in
set_option maxHeartbeats 4000000 in
theorem implPr_1 (s : ByteArray) (n : Nat) (w : World) (h5 : ((n : Int) != 5) = true) (HS : Hid (∀ W, Below w.heap.size w W → Calls Tryd.prog 14 #[.string s, .string (tx [32])] W fun e w' => e = .returned (.slice (some ⟨W.heap.size, 0, none⟩) n n) ∧ Below W.heap.size W w' ∧ True)) :
    Calls Tryd.prog 5 #[.string s] w (RetRowB w ⟨0, 0, 0, 0⟩ 0 (fun _ => 0) false) := by
  go_enter Tryd.func5, Tryd.ntmps5
  go_wp2_with fail
  refine ((unhide HS) _ byGG).mono ?_
  rintro e w1 ⟨rfl, hb1, hc1⟩
  have hcs9 := cells_calls hb1 [⟨w.heap.size, 0, none⟩, ⟨w.heap.size, 1, none⟩, ⟨w.heap.size, 2, none⟩, ⟨w.heap.size, 3, none⟩, ⟨w.heap.size, 4, none⟩] [.int .i64 0, .int .i64 0, .slice none 0 0, .int .i64 0, .int .i64 0] (by refine ⟨?_, ?_, ?_, ?_, ?_, trivial⟩ <;> exact byCT)
  have hfs9 := frees_calls hb1 [⟨w.heap.size, 0, none⟩, ⟨w.heap.size, 1, none⟩, ⟨w.heap.size, 2, none⟩, ⟨w.heap.size, 3, none⟩, ⟨w.heap.size, 4, none⟩] (by refine ⟨?_, ?_, ?_, ?_, ?_, trivial⟩ <;> first | with_reducible assumption | omega | (simp; omega) | (simp; done)) (by refine ⟨?_, ?_, ?_, ?_, ?_, trivial⟩ <;> exact byFT)
  have hzs9 := blocks_calls hb1 [w.heap.size] (by refine ⟨?_, trivial⟩ <;> first | with_reducible assumption | omega | (simp; omega) | (simp; done))
  try clear c00 c01 c02 c03 c04 f00 f01 f02 f03 f04
  obtain ⟨c00, c01, c02, c03, c04, -⟩ := hcs9
  obtain ⟨f00, f01, f02, f03, f04, -⟩ := hfs9
  obtain ⟨z0, -⟩ := hzs9
  have s1 := hb1.size
  go_wp2
  refine bodyPost_ret (v := .tuple #[rwv ⟨0, 0, 0, 0⟩ (.slice none 0 0), .bool false]) (by simp [results, Tryd.results5, go_sem, *]) rfl ?_
  exact ⟨none, 0, rfl, .inl rfl, byGG⟩
end Go.Proofs.YtfoofbcmaljmoaaDoor
