/-
  Commands that come in: szCommand, toCommand.
-/
import Derived.Test.YtdffleonelapfaaDoorCmd
namespace Go.Proofs.YtdffleonelapfaaDoor
open Go.RowKit
set_option linter.unusedVariables false
set_option linter.unusedSimpArgs false
attribute [local go_sem] q2 q3 q4 q5 q6 q7 q8 q9 q10 q11 q12

def SomeI (w : World) (e : Ending) (w' : World) : Prop := ∃ r : Int, e = .returned (.int .i64 r) ∧ Below w.heap.size w w'
set_option maxRecDepth 100000 in
set_option maxHeartbeats 1000000 in
theorem szCommand_a (c : Cmd) (l : Int) (w : World) (hc : CmdOk c) (hl : 0 ≤ l ∧ l ≤ 1000000000) : Calls Tryd.prog 12 #[cmv c, .int .i64 l] w (SomeI w) := by
  obtain ⟨k, n, a, b, f⟩ := c
  obtain ⟨ik, in_, ia, ib, i0, i1, i2⟩ := hc
  simp only [] at ik in_ ia ib i0 i1 i2
  go_enter Tryd.func12, Tryd.ntmps12
  go_wp2
  all_goals (go_ret; exact ⟨_, rfl, byGG⟩)
theorem toForm_q (x y z : Int) (w : World) : Calls Tryd.prog 32 #[.agg #[.int .i64 x, .int .i64 y, .int .i64 z]] w fun e w' => e = .returned (.agg #[.int .i64 x, .int .i64 y, .int .i64 z]) ∧ Below w.heap.size w w' := by
  go_enter Tryd.func32, Tryd.ntmps32
  go_wp2
  refine bodyPost_ret (v := .agg #[.int .i64 x, .int .i64 y, .int .i64 z]) (by simp [results, Tryd.results32, go_sem, *]) rfl ?_
  exact ⟨rfl, byGG⟩
set_option maxRecDepth 100000 in
set_option maxHeartbeats 1000000 in
theorem toCommand_a (c : Cmd) (w : World) : Calls Tryd.prog 14 #[cmv c] w fun e w' => e = .returned (cmv c) ∧ Below w.heap.size w w' := by
  obtain ⟨k, n, a, b, f⟩ := c
  go_enter Tryd.func14, Tryd.ntmps14
  go_wp2_with (go_at_call 32; refine (toForm_q _ _ _ _).mono ?_; rintro e w1 ⟨rfl, hb⟩; obtain ⟨hc, hf⟩ := bcell hb; have hl := lt_keep hb; have hs := hb.size)
  refine bodyPost_ret (v := .agg #[.int .i64 k, .string n, .string a, .string b, .int .i64 f.1, .int .i64 f.2.1, .int .i64 f.2.2]) (by simp [results, Tryd.results14, go_sem, *]) rfl ?_
  exact ⟨rfl, byGG⟩
end Go.Proofs.YtdffleonelapfaaDoor
