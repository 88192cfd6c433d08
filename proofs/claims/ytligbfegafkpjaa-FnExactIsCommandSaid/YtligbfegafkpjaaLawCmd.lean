/-
  The law of IsCommand.
-/
import Derived.Test.YtligbfegafkpjaaToC
namespace Go.Proofs.Ytligbfegafkpjaa
open Go.RowKit
set_option linter.unusedVariables false
set_option linter.unusedSimpArgs false
attribute [local go_sem] q2 q3 q4 q5 q6 q7 q8 q9 q10 q11 q12

set_option maxRecDepth 100000 in
set_option maxHeartbeats 2000000 in
theorem lawIsCommand (c : Cmd) (w : World) (hc : CmdOk c) : Calls Try.prog 4 #[cmv c] w fun e w' => e = .returned (.bool true) ∧ Below w.heap.size w w' := by
  have HC := hide hc
  clear hc
  go_enter Try.func4, Try.ntmps4
  go_wp2_with fail
  refine (szCommand_a c _ _ (unhide HC) (by omega)).mono ?_
  rintro en w1 ⟨r, rfl, hb1⟩
  have hcs9 := cells_calls hb1 [⟨w.heap.size, 0, none⟩, ⟨w.heap.size, 1, none⟩, ⟨w.heap.size, 2, none⟩, ⟨w.heap.size, 3, none⟩, ⟨w.heap.size, 4, none⟩, ⟨w.heap.size, 5, none⟩, ⟨w.heap.size, 6, none⟩] [.int .i64 (c.k), .string c.n, .string c.a, .string c.b, .int .i64 c.f.1, .int .i64 c.f.2.1, .int .i64 c.f.2.2] (by refine ⟨?_, ?_, ?_, ?_, ?_, ?_, ?_, trivial⟩ <;> exact byCT)
  have hzs9 := blocks_calls hb1 [w.heap.size] (by refine ⟨?_, trivial⟩ <;> first | with_reducible assumption | omega | (simp; omega) | (simp; done))
  try clear c00 c01 c02 c03 c04 c05 c06
  obtain ⟨c00, c01, c02, c03, c04, c05, c06, -⟩ := hcs9
  obtain ⟨z0, -⟩ := hzs9
  have hs1 := hb1.size
  by_cases hr : r < 0
  · go_wp2
    go_ret
    exact ⟨rfl, byGG⟩
  · have hr2 : 0 ≤ r := by omega
    go_wp2_with fail
    refine (toCommand_a c _).mono ?_
    rintro en w2 ⟨rfl, hb2⟩
    have hcs9 := cells_calls hb2 [⟨w.heap.size, 0, none⟩, ⟨w.heap.size, 1, none⟩, ⟨w.heap.size, 2, none⟩, ⟨w.heap.size, 3, none⟩, ⟨w.heap.size, 4, none⟩, ⟨w.heap.size, 5, none⟩, ⟨w.heap.size, 6, none⟩] [.int .i64 (c.k), .string c.n, .string c.a, .string c.b, .int .i64 c.f.1, .int .i64 c.f.2.1, .int .i64 c.f.2.2] (by refine ⟨?_, ?_, ?_, ?_, ?_, ?_, ?_, trivial⟩ <;> exact byCT)
    have hzs9 := blocks_calls hb2 [w.heap.size] (by refine ⟨?_, trivial⟩ <;> first | with_reducible assumption | omega | (simp; omega) | (simp; done))
    try clear c00 c01 c02 c03 c04 c05 c06
    obtain ⟨c00, c01, c02, c03, c04, c05, c06, -⟩ := hcs9
    obtain ⟨z0, -⟩ := hzs9
    have hs2 := hb2.size
    have o20 := z0
    go_wp2_with fail
    refine (specIsCommand c _ (unhide HC)).mono ?_
    rintro en w3 ⟨rfl, hb3⟩
    have hcs9 := cells_calls hb3 [⟨w.heap.size, 0, none⟩, ⟨w.heap.size, 1, none⟩, ⟨w.heap.size, 2, none⟩, ⟨w.heap.size, 3, none⟩, ⟨w.heap.size, 4, none⟩, ⟨w.heap.size, 5, none⟩, ⟨w.heap.size, 6, none⟩] [.int .i64 (c.k), .string c.n, .string c.a, .string c.b, .int .i64 c.f.1, .int .i64 c.f.2.1, .int .i64 c.f.2.2] (by refine ⟨?_, ?_, ?_, ?_, ?_, ?_, ?_, trivial⟩ <;> exact byCT)
    have hzs9 := blocks_calls hb3 [w.heap.size] (by refine ⟨?_, trivial⟩ <;> first | with_reducible assumption | omega | (simp; omega) | (simp; done))
    try clear c00 c01 c02 c03 c04 c05 c06
    obtain ⟨c00, c01, c02, c03, c04, c05, c06, -⟩ := hcs9
    obtain ⟨z0, -⟩ := hzs9
    have hs3 := hb3.size
    have o30 := z0
    go_wp2_with fail
    refine (toCommand_a c _).mono ?_
    rintro en w4 ⟨rfl, hb4⟩
    have hcs9 := cells_calls hb4 [⟨w.heap.size, 0, none⟩, ⟨w.heap.size, 1, none⟩, ⟨w.heap.size, 2, none⟩, ⟨w.heap.size, 3, none⟩, ⟨w.heap.size, 4, none⟩, ⟨w.heap.size, 5, none⟩, ⟨w.heap.size, 6, none⟩] [.int .i64 (c.k), .string c.n, .string c.a, .string c.b, .int .i64 c.f.1, .int .i64 c.f.2.1, .int .i64 c.f.2.2] (by refine ⟨?_, ?_, ?_, ?_, ?_, ?_, ?_, trivial⟩ <;> exact byCT)
    have hzs9 := blocks_calls hb4 [w.heap.size] (by refine ⟨?_, trivial⟩ <;> first | with_reducible assumption | omega | (simp; omega) | (simp; done))
    try clear c00 c01 c02 c03 c04 c05 c06
    obtain ⟨c00, c01, c02, c03, c04, c05, c06, -⟩ := hcs9
    obtain ⟨z0, -⟩ := hzs9
    have hs4 := hb4.size
    have o40 := z0
    go_wp2_with fail
    refine (implIsCommand c _ (unhide HC)).mono ?_
    rintro en w5 ⟨rfl, hb5⟩
    have hcs9 := cells_calls hb5 [⟨w.heap.size, 0, none⟩, ⟨w.heap.size, 1, none⟩, ⟨w.heap.size, 2, none⟩, ⟨w.heap.size, 3, none⟩, ⟨w.heap.size, 4, none⟩, ⟨w.heap.size, 5, none⟩, ⟨w.heap.size, 6, none⟩] [.int .i64 (c.k), .string c.n, .string c.a, .string c.b, .int .i64 c.f.1, .int .i64 c.f.2.1, .int .i64 c.f.2.2] (by refine ⟨?_, ?_, ?_, ?_, ?_, ?_, ?_, trivial⟩ <;> exact byCT)
    have hzs9 := blocks_calls hb5 [w.heap.size] (by refine ⟨?_, trivial⟩ <;> first | with_reducible assumption | omega | (simp; omega) | (simp; done))
    try clear c00 c01 c02 c03 c04 c05 c06
    obtain ⟨c00, c01, c02, c03, c04, c05, c06, -⟩ := hcs9
    obtain ⟨z0, -⟩ := hzs9
    have hs5 := hb5.size
    have o50 := z0
    go_wp2
    go_ret
    exact ⟨rfl, byGG⟩
end Go.Proofs.Ytligbfegafkpjaa
