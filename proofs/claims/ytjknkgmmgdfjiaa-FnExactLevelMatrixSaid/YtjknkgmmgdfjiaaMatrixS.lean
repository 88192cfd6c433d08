/-
  Slices of Matrixs in blocks of the call's own, and the laws' helpers over them.
-/
import Derived.Test.YtjknkgmmgdfjiaaWorld
import Derived.Deep.RegionHeld3
import Derived.Deep.DeepCutAuto
import Derived.Deep.AppendLies
namespace Go.Proofs.Ytjknkgmmgdfjiaa
open Go.RowKit
set_option linter.unusedVariables false
set_option linter.unusedSimpArgs false

/-- A slice of n Matrixs at the head of an own block in lo .. hi-1: its cells, one behind the other, are f 0, f 1, .. -/
def MatrixsAt (w : World) (lo hi : Nat) (a : Option Addr) (n : Nat) (f : Nat → Int) : Prop :=
  n = 0 ∨ ∃ g cap F, a = some ⟨g, 0, none⟩ ∧ lo ≤ g ∧ g < hi ∧ n ≤ cap ∧ w.rowIs g 30 (cap * 4) F ∧ ∀ i, i < n * 4 → F i = .int .i64 (f i)
theorem MatrixsAt.keep {w w' : World} {lo hi : Nat} {a : Option Addr} {n : Nat} {f : Nat → Int} (h : MatrixsAt w lo hi a n f) (hk : ∀ k, lo ≤ k → k < hi → w'.heap[k]? = w.heap[k]?) : MatrixsAt w' lo hi a n f := by
  rcases h with h | ⟨g, cap, F, ha, h1, h2, h3, h4, h5⟩
  · exact .inl h
  · exact .inr ⟨g, cap, F, ha, h1, h2, h3, h4.of_block (hk g h1 h2), h5⟩
theorem MatrixsAt.below {w w' : World} {lo hi B : Nat} {a : Option Addr} {n : Nat} {f : Nat → Int} (h : MatrixsAt w lo hi a n f) (hb : Below B w w') (hB : hi ≤ B) : MatrixsAt w' lo hi a n f :=
  h.keep fun k _ h2 => hb.block k (by omega)

set_option maxHeartbeats 1000000 in
theorem eqMatrix_same (x0 x1 x2 x3 : Int) (w : World) :
    Calls Try.prog 10 #[.agg #[.int .i64 (x0), .int .i64 (x1), .int .i64 (x2), .int .i64 (x3)], .agg #[.int .i64 (x0), .int .i64 (x1), .int .i64 (x2), .int .i64 (x3)]] w fun e w' => e = .returned (.bool true) ∧ Below w.heap.size w w' := by
  go_enter Try.func10, Try.ntmps10
  go_wp2
  go_ret
  exact ⟨rfl, by go_grown⟩

theorem Try.infoMatrix : (Try.prog.info? 30).map (fun i => (i.zero, i.size, i.bytes)) = some (some (.agg #[.int .i64 0, .int .i64 0, .int .i64 0, .int .i64 0]), 4, 32) := by kernel_rfl
/-- The slice v holds n Matrixs, their cells one behind the other zs; its block is an own one, from lo on. -/
def MatrixL (w : World) (lo : Nat) (v : Value) (n : Nat) (zs : List Int) : Prop := w.ownsRow lo 30 4 v n (zs.map (Value.int .i64))
theorem MatrixL.nil (w : World) (lo : Nat) : MatrixL w lo (.slice none 0 0) 0 [] := World.ownsRow_nil _ _ _ _
theorem MatrixL.made (w : World) (lo : Nat) (h : lo ≤ w.heap.size) : MatrixL (w.alloc (.cells #[] 30)) lo (.slice (some ⟨w.heap.size, 0, none⟩) 0 0) 0 [] :=
  World.ownsRow_made w #[] 0 h (by decide) rfl
theorem MatrixL.alloc {w : World} {lo : Nat} {v : Value} {n : Nat} {zs : List Int} (h : MatrixL w lo v n zs) (o : Obj) : MatrixL (w.alloc o) lo v n zs := World.ownsRow.alloc h o
theorem MatrixL.kept {w w' : World} {lo : Nat} {v : Value} {n : Nat} {zs : List Int} {row : Option Nat} (h : MatrixL w lo v n zs) (hg : w.grownBy w' row) (hne : v.ownBlock = none ∨ v.ownBlock ≠ row) : MatrixL w' lo v n zs := World.ownsRow.kept h hg hne
theorem MatrixL.lt {w : World} {lo : Nat} {v : Value} {n : Nat} {zs : List Int} (h : MatrixL w lo v n zs) : ∀ k, v.ownBlock = some k → lo ≤ k ∧ k < w.heap.size := World.ownsRow.lt h
theorem MatrixL.below {w w' : World} {lo : Nat} {v : Value} {n : Nat} {zs : List Int} (h : MatrixL w lo v n zs) (hb : Below w.heap.size w w') : MatrixL w' lo v n zs :=
  h.kept (row := none) ⟨hb.os, hb.tape, hb.output, hb.size, fun k hk _ => hb.block k hk⟩ (by cases v.ownBlock <;> simp)
theorem MatrixL.len {w : World} {lo : Nat} {v : Value} {n : Nat} {zs : List Int} (h : MatrixL w lo v n zs) : zs.length = n * 4 := by
  have := h.1
  simpa using this
theorem MatrixL.at {w : World} {lo : Nat} {a : Option Addr} {n m c : Nat} {zs : List Int} (h : MatrixL w lo (.slice a m c) n zs) : m = n ∧ MatrixsAt w lo w.heap.size a n (fun i => zs.getD i 0) := by
  have hl := h.len
  rcases h.2 with ⟨h1, h2⟩ | ⟨g, cap, cur, h1, h2, h3, h4, h5, h6, h7⟩
  · simp only [Value.slice.injEq] at h1
    exact ⟨by omega, .inl h2⟩
  · simp only [Value.slice.injEq] at h1
    obtain ⟨rfl, rfl, rfl⟩ := h1
    refine ⟨rfl, .inr ⟨g, c, fun i => cur.getD i undef, rfl, h2, (Array.getElem?_eq_some_iff.1 h3).1, h4, ⟨cur, h3, by omega, fun i hi => ?_⟩, fun i hi => ?_⟩⟩
    · rw [Array.getElem?_eq_getElem (by omega)]; simp [Array.getD, show i < cur.size from by omega]
    · have hi0 : i < zs.length := by omega
      have e : cur.toList[i]? = (zs.map (Value.int .i64))[i]? := by
        rw [← h7, List.getElem?_take, if_pos (by omega)]
      rw [List.getElem?_map, List.getElem?_eq_getElem hi0] at e
      simp only [Option.map_some] at e
      have hi2 : i < cur.size := by omega
      rw [Array.getElem?_toList, Array.getElem?_eq_getElem hi2] at e
      have e2 : cur[i] = Value.int .i64 zs[i] := by simpa using e
      have e3 : zs.getD i 0 = zs[i] := by rw [List.getD_eq_getElem?_getD, List.getElem?_eq_getElem hi0]; rfl
      show cur.getD i undef = .int .i64 (zs.getD i 0)
      rw [e3, ← e2]
      simp [Array.getD, hi2]
/-- append(v, x) of one Matrix onto a list of the call's own. -/
theorem app_Matrix (w : World) {ops : Array Oper} {rest : List Oper} {o : Oper} {a : Act} {Q : Exit → Act → World → Prop} (hgd : o.guard = none) (s x : Operand)
    (ho : o.op = .call { callee := .builtin .append, args := #[s, x], argTypes := #[39, 39] })
    (lo : Nat) (v : Value) (n : Nat) (zs : List Int) (x0 x1 x2 x3 : Int) (B : Nat) (hs : a.eval s = v) (hx : a.eval x = .slice (some ⟨B, 0, none⟩) 1 1)
    (hown : MatrixL w lo v n zs) (hB0 : w.cell? ⟨B, 0, none⟩ = some (.int .i64 x0)) (hB1 : w.cell? ⟨B, 1, none⟩ = some (.int .i64 x1)) (hB2 : w.cell? ⟨B, 2, none⟩ = some (.int .i64 x2)) (hB3 : w.cell? ⟨B, 3, none⟩ = some (.int .i64 x3)) (hlen : n ≤ 100000000) (hlo : lo ≤ w.heap.size)
    (h : ∀ g cap w', MatrixL w' lo (.slice (some ⟨g, 0, none⟩) (n + 1) cap) (n + 1) (zs ++ [x0, x1, x2, x3]) → w.grownBy w' v.ownBlock → (v.ownBlock = some g ∨ g = w.heap.size) → g < w'.heap.size →
      wpList Try.prog ops Q rest (a.put o.dst (.slice (some ⟨g, 0, none⟩) (n + 1) cap)) w') : wpList Try.prog ops Q (o :: rest) a w := by
  obtain ⟨i0, hi, hz0, hz1, hz2⟩ := info_parts Try.infoMatrix
  refine wpList_append_lies w hgd s x 39 ho lo 30 i0 (.agg #[.int .i64 0, .int .i64 0, .int .i64 0, .int .i64 0]) 4 32 Try.underlying39 hi hz0 hz1 hz2 rfl (by decide) v n _ hs hown ⟨B, 0, none⟩ 1 1 ([x0, x1, x2, x3].map (Value.int .i64)) hx rfl ?_ (by simp [Value.oneCell']) (by decide) (by unfold maxLen; omega) (by omega) hlo _ rfl ?_
  · intro j u hu
    match j with
    | 0 => simp at hu; subst hu; simpa [Addr.add] using hB0
    | 1 => simp at hu; subst hu; simpa [Addr.add] using hB1
    | 2 => simp at hu; subst hu; simpa [Addr.add] using hB2
    | 3 => simp at hu; subst hu; simpa [Addr.add] using hB3
    | j + 4 => simp at hu
  · intro g cap w' h1 h2 h3 h4
    refine h g cap w' ?_ h2 h3 h4
    unfold MatrixL
    rw [List.map_append]
    exact h1
/-- A pair of a slice of the call's own and a bool. -/
def RetMatrixs (w : World) (n : Nat) (f : Nat → Int) (ok : Bool) (e : Ending) (w' : World) : Prop :=
  ∃ a c, e = .returned (.tuple #[.slice a n c, .bool ok]) ∧ MatrixsAt w' w.heap.size w'.heap.size a n f ∧ Below w.heap.size w w'
end Go.Proofs.Ytjknkgmmgdfjiaa
