/-
  ParseRow, impl.: the ends.
-/
import Derived.Test.YtfoofbcmaljmoaaDoorPri
import Derived.Deep.RegionHeld3
namespace Go.Proofs.YtfoofbcmaljmoaaDoor
open Go.RowKit
set_option linter.unusedVariables false
set_option linter.unusedSimpArgs false
attribute [local go_sem] q2 q3 q4 q5 q6 q7 q8 q9 q10 q11 q12

set_option maxRecDepth 100000 in
set_option maxHeartbeats 4000000 in
theorem implPr_2 (s x0 x1 x2 x3 x4 : ByteArray) (n : Nat) (w : World) (h4 : ((n : Int) != 4) = true) (b0 : x0.size ≤ 2000000) (b1 : x1.size ≤ 2000000) (b3 : x3.size ≤ 2000000) (b4 : x4.size ≤ 2000000) (HS : Hid (∀ W, Below w.heap.size w W → Calls Tryd.prog 14 #[.string s, .string (tx [32])] W fun e w' => e = .returned (.slice (some ⟨W.heap.size, 0, none⟩) 5 5) ∧ Below W.heap.size W w' ∧ SL w' W.heap.size (.slice (some ⟨W.heap.size, 0, none⟩) 5 5) [x0, x1, x2, x3, x4]))
    (HE : Hid (∀ W, Below w.heap.size w W → Calls Tryd.prog 15 #[.string (x0 ++ tx [32] ++ x1 ++ tx [32] ++ x3 ++ tx [32] ++ x4)] W fun e w' => ∃ a c, e = .returned (.slice a n c) ∧ Below W.heap.size W w')) :
    Calls Tryd.prog 5 #[.string s] w (RetRowB w ⟨0, 0, 0, 0⟩ 0 (fun _ => 0) false) := by
  have k0 : ¬ 9223372036854775807 < x0.size + 1 := by omega
  have k1 : ¬ 9223372036854775807 < x0.size + 1 + x1.size := by omega
  have k2 : ¬ 9223372036854775807 < x0.size + 1 + x1.size + 1 := by omega
  have k3 : ¬ 9223372036854775807 < x0.size + 1 + x1.size + 1 + x3.size := by omega
  have k4 : ¬ 9223372036854775807 < x0.size + 1 + x1.size + 1 + x3.size + 1 := by omega
  have k5 : ¬ 9223372036854775807 < x0.size + 1 + x1.size + 1 + x3.size + 1 + x4.size := by omega
  go_enter Tryd.func5, Tryd.ntmps5
  go_wp2_with fail
  refine ((unhide HS) _ byGG).mono ?_
  rintro e w1 ⟨rfl, hb1, hc1⟩
  have hcs9 := cells_calls hb1 [⟨w.heap.size, 0, none⟩, ⟨w.heap.size, 1, none⟩, ⟨w.heap.size, 2, none⟩, ⟨w.heap.size, 3, none⟩, ⟨w.heap.size, 4, none⟩] [.int .i64 0, .int .i64 0, .slice none 0 0, .int .i64 0, .int .i64 0] (by refine ⟨?_, ?_, ?_, ?_, ?_, trivial⟩ <;> exact byCT)
  have hfs9 := frees_calls hb1 [⟨w.heap.size, 0, none⟩, ⟨w.heap.size, 1, none⟩, ⟨w.heap.size, 2, none⟩, ⟨w.heap.size, 3, none⟩, ⟨w.heap.size, 4, none⟩] (by refine ⟨?_, ?_, ?_, ?_, ?_, trivial⟩ <;> first | with_reducible assumption | omega | (simp; omega) | (simp; done)) (by refine ⟨?_, ?_, ?_, ?_, ?_, trivial⟩ <;> exact byFT)
  have hzs9 := blocks_calls hb1 [w.heap.size] (by refine ⟨?_, trivial⟩ <;> first | with_reducible assumption | omega | (simp; omega) | (simp; done))
  try clear c00 c01 c02 c03 c04 f00 f01 f02 f03 f04
  obtain ⟨c00, c01, c02, c03, c04, -⟩ := hcs9
  obtain ⟨f00, f01, f02, f03, f04, -⟩ := hfs9
  obtain ⟨z0, -⟩ := hzs9
  have s1 := hb1.size
  have hcs := hc1.strs.2
  have sg : ∀ k, k < 5 → w1.cell? ⟨w.heap.size + 1, k, none⟩ = some (.string (([x0, x1, x2, x3, x4] : List ByteArray).getD k ⟨#[]⟩)) := by
    intro k hk
    obtain ⟨g, hg, _, hq⟩ := StrsAt.cell hcs (show k < [x0, x1, x2, x3, x4].length from hk)
    injection hg with hg
    injection hg with hg
    subst hg
    simpa using hq
  have d0 : w1.cell? ⟨w.heap.size + 1, 0, none⟩ = some (.string x0) := sg 0 (by decide)
  have d1 : w1.cell? ⟨w.heap.size + 1, 1, none⟩ = some (.string x1) := sg 1 (by decide)
  have d2 : w1.cell? ⟨w.heap.size + 1, 2, none⟩ = some (.string x2) := sg 2 (by decide)
  have d3 : w1.cell? ⟨w.heap.size + 1, 3, none⟩ = some (.string x3) := sg 3 (by decide)
  have d4 : w1.cell? ⟨w.heap.size + 1, 4, none⟩ = some (.string x4) := sg 4 (by decide)
  clear sg hcs hc1
  go_wp2_with fail
  go_region_held3 (fun W => W.cell? ⟨w.heap.size + 1, 0, none⟩ = some (.string x0) ∧ W.cell? ⟨w.heap.size + 1, 1, none⟩ = some (.string x1) ∧ W.cell? ⟨w.heap.size + 1, 3, none⟩ = some (.string x3) ∧ W.cell? ⟨w.heap.size + 1, 4, none⟩ = some (.string x4)) (first | exact ⟨d0, d1, d3, d4⟩ | go_keep) (first | (go_at_call 15; refine ((unhide HE) _ (by first | exact byGG)).mono ?_; rintro e w2 ⟨a2, c2, rfl, hb2⟩; have d0 := cell_call hb2 (a := ⟨w.heap.size + 1, 0, none⟩) (v := .string x0) (by first | assumption | go_simp); have d1 := cell_call hb2 (a := ⟨w.heap.size + 1, 1, none⟩) (v := .string x1) (by first | assumption | go_simp); have d3 := cell_call hb2 (a := ⟨w.heap.size + 1, 3, none⟩) (v := .string x3) (by first | assumption | go_simp); have d4 := cell_call hb2 (a := ⟨w.heap.size + 1, 4, none⟩) (v := .string x4) (by first | assumption | go_simp)))
  all_goals
    have hcs9 := cells_calls hb2 [⟨w.heap.size, 0, none⟩, ⟨w.heap.size, 1, none⟩, ⟨w.heap.size, 2, none⟩, ⟨w.heap.size, 3, none⟩, ⟨w.heap.size, 4, none⟩] [.int .i64 0, .int .i64 0, .slice none 0 0, .int .i64 0, .int .i64 0] (by refine ⟨?_, ?_, ?_, ?_, ?_, trivial⟩ <;> exact byCT)
    have hfs9 := frees_calls hb2 [⟨w.heap.size, 0, none⟩, ⟨w.heap.size, 1, none⟩, ⟨w.heap.size, 2, none⟩, ⟨w.heap.size, 3, none⟩, ⟨w.heap.size, 4, none⟩] (by refine ⟨?_, ?_, ?_, ?_, ?_, trivial⟩ <;> first | with_reducible assumption | omega | (simp; omega) | (simp; done)) (by refine ⟨?_, ?_, ?_, ?_, ?_, trivial⟩ <;> exact byFT)
    have hzs9 := blocks_calls hb2 [w.heap.size] (by refine ⟨?_, trivial⟩ <;> first | with_reducible assumption | omega | (simp; omega) | (simp; done))
    try clear c00 c01 c02 c03 c04 f00 f01 f02 f03 f04
    obtain ⟨c00, c01, c02, c03, c04, -⟩ := hcs9
    obtain ⟨f00, f01, f02, f03, f04, -⟩ := hfs9
    obtain ⟨z0, -⟩ := hzs9
    have s2 := hb2.size
    go_wp2
    refine bodyPost_ret (v := .tuple #[rwv ⟨0, 0, 0, 0⟩ (.slice none 0 0), .bool false]) (by simp [results, Tryd.results5, go_sem, *]) rfl ?_
    exact ⟨none, 0, rfl, .inl rfl, byGG⟩
end Go.Proofs.YtfoofbcmaljmoaaDoor
