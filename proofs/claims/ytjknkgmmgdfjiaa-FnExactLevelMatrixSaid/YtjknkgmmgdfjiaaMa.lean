/-
  Lists of matrices: append, what a call returns.
-/
import Derived.Test.YtjknkgmmgdfjiaaAui
namespace Go.Proofs.Ytjknkgmmgdfjiaa
open Go.RowKit
set_option linter.unusedVariables false
set_option linter.unusedSimpArgs false
attribute [local go_sem] q2 q3 q4 q5 q6 q7 q8 q9 q10 q11 q12

theorem ML.at {w : World} {lo : Nat} {a : Option Addr} {m c : Nat} {ms : List M4} (h : ML w lo (.slice a m c) ms) : m = ms.length := (MatrixL.at h).1
theorem ML.ptr {w : World} {lo : Nat} {a : Option Addr} {m c : Nat} {ms : List M4} (h : ML w lo (.slice a m c) ms) (h0 : 0 < ms.length) : ∃ g, a = some ⟨g, 0, none⟩ ∧ lo ≤ g ∧ g < w.heap.size ∧ ms.length ≤ c := by
  rcases h.2 with ⟨h1, h2⟩ | ⟨g, cap, cur, h1, h2, h3, h4, _⟩
  · omega
  · simp only [Value.slice.injEq] at h1
    obtain ⟨rfl, rfl, rfl⟩ := h1
    exact ⟨g, rfl, h2, (Array.getElem?_eq_some_iff.1 h3).1, h4⟩
theorem ML.one {w : World} {lo : Nat} (p q r s : Int) (h : lo ≤ w.heap.size) : ML (w.alloc (.cells #[.int .i64 p, .int .i64 q, .int .i64 r, .int .i64 s] 30)) lo (.slice (some ⟨w.heap.size, 0, none⟩) 1 1) [(p, q, r, s)] :=
  World.ownsRow_lit (size := 4) w #[.int .i64 p, .int .i64 q, .int .i64 r, .int .i64 s] 1 h (by decide) rfl
/-- A call that returns a list of matrices of its own. -/
def RetML (w : World) (ms : List M4) (e : Ending) (w' : World) : Prop :=
  ∃ a c, e = .returned (.slice a ms.length c) ∧ ML w' w.heap.size (.slice a ms.length c) ms ∧ Below w.heap.size w w'
/-- .. and a bool. -/
def RetMLok (w : World) (ms : List M4) (ok : Bool) (e : Ending) (w' : World) : Prop :=
  ∃ a c, e = .returned (.tuple #[.slice a ms.length c, .bool ok]) ∧ ML w' w.heap.size (.slice a ms.length c) ms ∧ Below w.heap.size w w'

/-- append(v, x..) of one matrix onto a list of the call's own. -/
theorem app_ML (w : World) {ops : Array Oper} {rest : List Oper} {o : Oper} {a : Act} {Q : Exit → Act → World → Prop} (hgd : o.guard = none) (s x : Operand)
    (ho : o.op = .call { callee := .builtin .append, args := #[s, x], argTypes := #[39, 39] })
    (lo : Nat) (v : Value) (ms : List M4) (x0 x1 x2 x3 : Int) (B : Nat) (hs : a.eval s = v) (hx : a.eval x = .slice (some ⟨B, 0, none⟩) 1 1)
    (hown : ML w lo v ms) (hB0 : w.cell? ⟨B, 0, none⟩ = some (.int .i64 x0)) (hB1 : w.cell? ⟨B, 1, none⟩ = some (.int .i64 x1)) (hB2 : w.cell? ⟨B, 2, none⟩ = some (.int .i64 x2)) (hB3 : w.cell? ⟨B, 3, none⟩ = some (.int .i64 x3)) (hlen : ms.length ≤ 100000000) (hlo : lo ≤ w.heap.size)
    (h : ∀ g cap w', ML w' lo (.slice (some ⟨g, 0, none⟩) (ms.length + 1) cap) (ms ++ [(x0, x1, x2, x3)]) → w.grownBy w' v.ownBlock → (v.ownBlock = some g ∨ g = w.heap.size) → g < w'.heap.size →
      wpList Try.prog ops Q rest (a.put o.dst (.slice (some ⟨g, 0, none⟩) (ms.length + 1) cap)) w') : wpList Try.prog ops Q (o :: rest) a w := by
  obtain ⟨i0, hi, hz0, hz1, hz2⟩ := info_parts Try.infoMatrix
  refine wpList_append_lies w hgd s x 39 ho lo 30 i0 (.agg #[.int .i64 0, .int .i64 0, .int .i64 0, .int .i64 0]) 4 32 Try.underlying39 hi hz0 hz1 hz2 rfl (by decide) v ms.length _ hs hown ⟨B, 0, none⟩ 1 1 ([x0, x1, x2, x3].map (Value.int .i64)) hx rfl ?_ (by simp [Value.oneCell']) (by decide) (by unfold maxLen; omega) (by omega) hlo _ rfl ?_
  · intro j u hu
    match j with
    | 0 => simp at hu; subst hu; simpa [Addr.add] using hB0
    | 1 => simp at hu; subst hu; simpa [Addr.add] using hB1
    | 2 => simp at hu; subst hu; simpa [Addr.add] using hB2
    | 3 => simp at hu; subst hu; simpa [Addr.add] using hB3
    | j + 4 => simp at hu
  · intro g cap w' h1 h2 h3 h4
    refine h g cap w' ?_ h2 h3 h4
    unfold ML MatrixL
    rw [List.length_append, fl4_app, List.map_append]
    exact h1

/-- append(v, x..) of two matrices onto a list of the call's own. -/
theorem app_ML2 (w : World) {ops : Array Oper} {rest : List Oper} {o : Oper} {a : Act} {Q : Exit → Act → World → Prop} (hgd : o.guard = none) (s x : Operand)
    (ho : o.op = .call { callee := .builtin .append, args := #[s, x], argTypes := #[39, 39] })
    (lo : Nat) (v : Value) (ms : List M4) (x0 x1 x2 x3 x4 x5 x6 x7 : Int) (B : Nat) (hs : a.eval s = v) (hx : a.eval x = .slice (some ⟨B, 0, none⟩) 2 2)
    (hown : ML w lo v ms) (hB0 : w.cell? ⟨B, 0, none⟩ = some (.int .i64 x0)) (hB1 : w.cell? ⟨B, 1, none⟩ = some (.int .i64 x1)) (hB2 : w.cell? ⟨B, 2, none⟩ = some (.int .i64 x2)) (hB3 : w.cell? ⟨B, 3, none⟩ = some (.int .i64 x3)) (hB4 : w.cell? ⟨B, 4, none⟩ = some (.int .i64 x4)) (hB5 : w.cell? ⟨B, 5, none⟩ = some (.int .i64 x5)) (hB6 : w.cell? ⟨B, 6, none⟩ = some (.int .i64 x6)) (hB7 : w.cell? ⟨B, 7, none⟩ = some (.int .i64 x7)) (hlen : ms.length ≤ 100000000) (hlo : lo ≤ w.heap.size)
    (h : ∀ g cap w', ML w' lo (.slice (some ⟨g, 0, none⟩) (ms.length + 2) cap) (ms ++ [(x0, x1, x2, x3), (x4, x5, x6, x7)]) → w.grownBy w' v.ownBlock → (v.ownBlock = some g ∨ g = w.heap.size) → g < w'.heap.size →
      wpList Try.prog ops Q rest (a.put o.dst (.slice (some ⟨g, 0, none⟩) (ms.length + 2) cap)) w') : wpList Try.prog ops Q (o :: rest) a w := by
  obtain ⟨i0, hi, hz0, hz1, hz2⟩ := info_parts Try.infoMatrix
  refine wpList_append_lies w hgd s x 39 ho lo 30 i0 (.agg #[.int .i64 0, .int .i64 0, .int .i64 0, .int .i64 0]) 4 32 Try.underlying39 hi hz0 hz1 hz2 rfl (by decide) v ms.length _ hs hown ⟨B, 0, none⟩ 2 2 ([x0, x1, x2, x3, x4, x5, x6, x7].map (Value.int .i64)) hx rfl ?_ (by simp [Value.oneCell']) (by decide) (by unfold maxLen; omega) (by omega) hlo _ rfl ?_
  · intro j u hu
    match j with
    | 0 => simp at hu; subst hu; simpa [Addr.add] using hB0
    | 1 => simp at hu; subst hu; simpa [Addr.add] using hB1
    | 2 => simp at hu; subst hu; simpa [Addr.add] using hB2
    | 3 => simp at hu; subst hu; simpa [Addr.add] using hB3
    | 4 => simp at hu; subst hu; simpa [Addr.add] using hB4
    | 5 => simp at hu; subst hu; simpa [Addr.add] using hB5
    | 6 => simp at hu; subst hu; simpa [Addr.add] using hB6
    | 7 => simp at hu; subst hu; simpa [Addr.add] using hB7
    | j + 8 => simp at hu
  · intro g cap w' h1 h2 h3 h4
    refine h g cap w' ?_ h2 h3 h4
    unfold ML MatrixL
    rw [List.length_append, fl4_app, List.map_append]
    exact h1
end Go.Proofs.Ytjknkgmmgdfjiaa
