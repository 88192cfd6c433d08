/-
  An argument that is a command, opened: its number, its texts, its form.
-/
import Derived.Test.YtdffleonelapfaaDoorCmd
import Derived.Lib.SmallJoins
import Derived.Deep.Slices
import Derived.Carry
import Derived.ProofKit
namespace Go.Proofs.YtdffleonelapfaaDoor
open Go.RowKit Go.WideShapes Go.ChangeShapes Go.Deep Go.Joins
set_option linter.unusedVariables false
set_option linter.unusedSimpArgs false

theorem Tryd.cellsLFc : Tryd.prog.cellsOf 33 = 3 := by kernel_rfl
theorem Tryd.cellsLCc : Tryd.prog.cellsOf 35 = 7 := by kernel_rfl
theorem Tryd.cellsIc : Tryd.prog.cellsOf 3 = 1 := by kernel_rfl
theorem Tryd.cellsSc : Tryd.prog.cellsOf 9 = 1 := by kernel_rfl
section
variable {H : Type} {enc : TypeId × Value → H} {w : World} {base : Nat} {spare : Nat → Bool} {held : Bool}
set_option maxRecDepth 100000 in
theorem open_form3 {fuel : Nat} {cs : List Value} {x : DataW H × List MemPlace} (h : DataW.trod enc Tryd.prog w base spare held fuel 33 cs = some x) :
    ∃ X : Int × Int × Int, cs = [.int .i64 X.1, .int .i64 X.2.1, .int .i64 X.2.2] ∧ I64 X.1 ∧ I64 X.2.1 ∧ I64 X.2.2 := by
  obtain ⟨ys, n, _, _, hlen, hyl, hf⟩ := DataW.trod_struct Tryd.underlying33 h
  rw [Tryd.cellsLFc] at hlen
  match cs, hlen with
  | [c0, c1, c2], _ =>
    match ys, hyl with
    | [y0, y1, y2], _ =>
      obtain ⟨n0, e0, _, w0⟩ := DataW.trod_int Tryd.underlying3 (by simpa [Tryd.cellsIc] using hf 0 _ rfl : DataW.trod enc Tryd.prog w base spare held n 3 [c0] = some y0)
      obtain ⟨n1, e1, _, w1⟩ := DataW.trod_int Tryd.underlying3 (by simpa [Tryd.cellsIc] using hf 1 _ rfl : DataW.trod enc Tryd.prog w base spare held n 3 [c1] = some y1)
      obtain ⟨n2, e2, _, w2⟩ := DataW.trod_int Tryd.underlying3 (by simpa [Tryd.cellsIc] using hf 2 _ rfl : DataW.trod enc Tryd.prog w base spare held n 3 [c2] = some y2)
      cases e0; cases e1; cases e2
      exact ⟨(n0, n1, n2), rfl, i64_wf w0, i64_wf w1, i64_wf w2⟩
set_option maxRecDepth 100000 in
theorem open_cmds {fuel : Nat} {cs : List Value} {x : DataW H × List MemPlace} (h : DataW.trod enc Tryd.prog w base spare held fuel 35 cs = some x) :
    ∃ c : Cmd, cs = [.int .i64 c.k, .string c.n, .string c.a, .string c.b, .int .i64 c.f.1, .int .i64 c.f.2.1, .int .i64 c.f.2.2] ∧ CmdOk c := by
  obtain ⟨ys, n, _, _, hlen, hyl, hf⟩ := DataW.trod_struct Tryd.underlying35 h
  rw [Tryd.cellsLCc] at hlen
  match cs, hlen with
  | [c0, c1, c2, c3, c4, c5, c6], _ =>
    match ys, hyl with
    | [y0, y1, y2, y3, y4], _ =>
      obtain ⟨n0, e0, _, w0⟩ := DataW.trod_int Tryd.underlying3 (by simpa [Tryd.cellsIc] using hf 0 _ rfl : DataW.trod enc Tryd.prog w base spare held n 3 [c0] = some y0)
      obtain ⟨s1, e1, _, w1⟩ := DataW.trod_string Tryd.underlying9 (by simpa [Tryd.cellsSc] using hf 1 _ rfl : DataW.trod enc Tryd.prog w base spare held n 9 [c1] = some y1)
      obtain ⟨s2, e2, _, w2⟩ := DataW.trod_string Tryd.underlying9 (by simpa [Tryd.cellsSc] using hf 2 _ rfl : DataW.trod enc Tryd.prog w base spare held n 9 [c2] = some y2)
      obtain ⟨s3, e3, _, w3⟩ := DataW.trod_string Tryd.underlying9 (by simpa [Tryd.cellsSc] using hf 3 _ rfl : DataW.trod enc Tryd.prog w base spare held n 9 [c3] = some y3)
      obtain ⟨X, e4, i0, i1, i2⟩ := open_form3 (by simpa [Tryd.cellsLFc] using hf 4 _ rfl : DataW.trod enc Tryd.prog w base spare held n 33 [c4, c5, c6] = some y4)
      unfold maxLen at w1 w2 w3
      cases e0; cases e1; cases e2; cases e3; cases e4
      exact ⟨⟨n0, s1, s2, s3, X⟩, rfl, i64_wf w0, w1, w2, w3, i0, i1, i2⟩
set_option maxRecDepth 100000 in
theorem open_cmd {r : Reach} {b0 : Nat} {v : Value} {d : DataW H} {p : List MemPlace} (hv : Value.okWide Tryd.prog w r b0 35 v) (h : DataW.Trod enc Tryd.prog w base spare held 35 v d p) :
    ∃ c : Cmd, v = cmv c ∧ CmdOk c := by
  obtain ⟨cs, rfl, hsz⟩ := okWide_struct Tryd.underlying35 hv
  obtain ⟨fuel, hf⟩ := h
  obtain ⟨l⟩ := cs
  obtain ⟨c, hc, ok⟩ := open_cmds hf
  simp only [Value.cells] at hc
  exact ⟨c, by rw [hc], ok⟩
end
end Go.Proofs.YtdffleonelapfaaDoor
