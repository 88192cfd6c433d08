/-
  The law of RecordText.
-/
import Derived.Test.YtdffleonelapfaaDoorCkn
import Derived.Test.YtdffleonelapfaaDoorToC
namespace Go.Proofs.YtdffleonelapfaaDoor
open Go.RowKit
set_option linter.unusedVariables false
set_option linter.unusedSimpArgs false
attribute [local go_sem] q2 q3 q4 q5 q6 q7 q8 q9 q10 q11 q12

set_option maxRecDepth 100000 in
set_option maxHeartbeats 2000000 in
theorem lawRecordText (c : Cmd) (b : Int) (w : World) (hc : CmdOk c) (hb64 : I64 b) (ht : Tab w) : Calls Tryd.prog 5 #[cmv c, .int .i64 b] w fun e w' => e = .returned (.bool true) ∧ Below w.heap.size w w' := by
  have HC := hide hc
  have HT := hide ht
  clear hc ht
  obtain ⟨X, hX⟩ : ∃ l, rcL c b = l := ⟨_, rfl⟩
  obtain ⟨K, hK⟩ : ∃ l, rcB c b = l := ⟨_, rfl⟩
  have HI : ∀ (w : World), Tab w → Calls Tryd.prog 17 #[cmv c, .int .i64 b] w fun e w' => e = .returned (.tuple #[.string (tx X), .bool K]) ∧ Below w.heap.size w w' := by
    subst hX hK; exact fun w h3 => implRecordText c b w (unhide HC) hb64 h3
  have HS : ∀ (w : World), Calls Tryd.prog 16 #[cmv c, .int .i64 b] w fun e w' => e = .returned (.tuple #[.string (tx X), .bool K]) ∧ Below w.heap.size w w' := by
    subst hX hK; exact fun w => specRecordText c b w (unhide HC) hb64
  have HI := hide HI
  have HS := hide HS
  clear hX hK
  go_enter Tryd.func5, Tryd.ntmps5
  go_wp2_with fail
  refine (szCommand_a c _ _ (unhide HC) (by omega)).mono ?_
  rintro en w1 ⟨r, rfl, hb1⟩
  have hcs9 := cells_calls hb1 [⟨w.heap.size, 0, none⟩, ⟨w.heap.size, 1, none⟩, ⟨w.heap.size, 2, none⟩, ⟨w.heap.size, 3, none⟩, ⟨w.heap.size, 4, none⟩, ⟨w.heap.size, 5, none⟩, ⟨w.heap.size, 6, none⟩] [.int .i64 (c.k), .string c.n, .string c.a, .string c.b, .int .i64 c.f.1, .int .i64 c.f.2.1, .int .i64 c.f.2.2] (by refine ⟨?_, ?_, ?_, ?_, ?_, ?_, ?_, trivial⟩ <;> exact byCT)
  have hzs9 := blocks_calls hb1 [w.heap.size] (by refine ⟨?_, trivial⟩ <;> first | with_reducible assumption | omega | (simp; omega) | (simp; done))
  try clear c00 c01 c02 c03 c04 c05 c06
  obtain ⟨c00, c01, c02, c03, c04, c05, c06, -⟩ := hcs9
  obtain ⟨z0, -⟩ := hzs9
  have hs1 := hb1.size
  by_cases hr : r < 0
  · go_wp2
    go_ret
    exact ⟨rfl, byGG⟩
  · have hr2 : 0 ≤ r := by omega
    go_wp2_with fail
    refine (toCommand_a c _).mono ?_
    rintro en w2 ⟨rfl, hb2⟩
    have hcs9 := cells_calls hb2 [⟨w.heap.size, 0, none⟩, ⟨w.heap.size, 1, none⟩, ⟨w.heap.size, 2, none⟩, ⟨w.heap.size, 3, none⟩, ⟨w.heap.size, 4, none⟩, ⟨w.heap.size, 5, none⟩, ⟨w.heap.size, 6, none⟩] [.int .i64 (c.k), .string c.n, .string c.a, .string c.b, .int .i64 c.f.1, .int .i64 c.f.2.1, .int .i64 c.f.2.2] (by refine ⟨?_, ?_, ?_, ?_, ?_, ?_, ?_, trivial⟩ <;> exact byCT)
    have hzs9 := blocks_calls hb2 [w.heap.size] (by refine ⟨?_, trivial⟩ <;> first | with_reducible assumption | omega | (simp; omega) | (simp; done))
    try clear c00 c01 c02 c03 c04 c05 c06
    obtain ⟨c00, c01, c02, c03, c04, c05, c06, -⟩ := hcs9
    obtain ⟨z0, -⟩ := hzs9
    have hs2 := hb2.size
    go_wp2_with fail
    refine ((unhide HS) _).mono ?_
    rintro en w3 ⟨rfl, hb3⟩
    have hcs9 := cells_calls hb3 [⟨w.heap.size, 0, none⟩, ⟨w.heap.size, 1, none⟩, ⟨w.heap.size, 2, none⟩, ⟨w.heap.size, 3, none⟩, ⟨w.heap.size, 4, none⟩, ⟨w.heap.size, 5, none⟩, ⟨w.heap.size, 6, none⟩] [.int .i64 (c.k), .string c.n, .string c.a, .string c.b, .int .i64 c.f.1, .int .i64 c.f.2.1, .int .i64 c.f.2.2] (by refine ⟨?_, ?_, ?_, ?_, ?_, ?_, ?_, trivial⟩ <;> exact byCT)
    have hzs9 := blocks_calls hb3 [w.heap.size] (by refine ⟨?_, trivial⟩ <;> first | with_reducible assumption | omega | (simp; omega) | (simp; done))
    try clear c00 c01 c02 c03 c04 c05 c06
    obtain ⟨c00, c01, c02, c03, c04, c05, c06, -⟩ := hcs9
    obtain ⟨z0, -⟩ := hzs9
    have hs3 := hb3.size
    go_wp2_with fail
    refine (toCommand_a c _).mono ?_
    rintro en w4 ⟨rfl, hb4⟩
    have hcs9 := cells_calls hb4 [⟨w.heap.size, 0, none⟩, ⟨w.heap.size, 1, none⟩, ⟨w.heap.size, 2, none⟩, ⟨w.heap.size, 3, none⟩, ⟨w.heap.size, 4, none⟩, ⟨w.heap.size, 5, none⟩, ⟨w.heap.size, 6, none⟩] [.int .i64 (c.k), .string c.n, .string c.a, .string c.b, .int .i64 c.f.1, .int .i64 c.f.2.1, .int .i64 c.f.2.2] (by refine ⟨?_, ?_, ?_, ?_, ?_, ?_, ?_, trivial⟩ <;> exact byCT)
    have hzs9 := blocks_calls hb4 [w.heap.size] (by refine ⟨?_, trivial⟩ <;> first | with_reducible assumption | omega | (simp; omega) | (simp; done))
    try clear c00 c01 c02 c03 c04 c05 c06
    obtain ⟨c00, c01, c02, c03, c04, c05, c06, -⟩ := hcs9
    obtain ⟨z0, -⟩ := hzs9
    have hs4 := hb4.size
    have hg4 : Below w.heap.size w w4 := byGG
    go_wp2_with fail
    refine ((unhide HI) _ ((unhide HT).below hg4)).mono ?_
    rintro en w5 ⟨rfl, hb5⟩
    have hcs9 := cells_calls hb5 [⟨w.heap.size, 0, none⟩, ⟨w.heap.size, 1, none⟩, ⟨w.heap.size, 2, none⟩, ⟨w.heap.size, 3, none⟩, ⟨w.heap.size, 4, none⟩, ⟨w.heap.size, 5, none⟩, ⟨w.heap.size, 6, none⟩] [.int .i64 (c.k), .string c.n, .string c.a, .string c.b, .int .i64 c.f.1, .int .i64 c.f.2.1, .int .i64 c.f.2.2] (by refine ⟨?_, ?_, ?_, ?_, ?_, ?_, ?_, trivial⟩ <;> exact byCT)
    have hzs9 := blocks_calls hb5 [w.heap.size] (by refine ⟨?_, trivial⟩ <;> first | with_reducible assumption | omega | (simp; omega) | (simp; done))
    try clear c00 c01 c02 c03 c04 c05 c06
    obtain ⟨c00, c01, c02, c03, c04, c05, c06, -⟩ := hcs9
    obtain ⟨z0, -⟩ := hzs9
    have hs5 := hb5.size
    go_wp2
    go_ret
    exact ⟨rfl, byGG⟩
end Go.Proofs.YtdffleonelapfaaDoor
