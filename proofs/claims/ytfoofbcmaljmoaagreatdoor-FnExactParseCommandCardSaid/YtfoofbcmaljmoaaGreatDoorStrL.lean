/- Lists of texts that a call builds by append, and the laws' helpers over them: equal, mark, held. -/
import Derived.Deep.AppendLies
import Derived.Deep.OwnRows
import Derived.Deep.Draws
import Derived.Deep.QuietTactic
import Derived.BigQuiet
import Derived.Test.YtfoofbcmaljmoaaGreatDoorArI
namespace Go.Proofs.YtfoofbcmaljmoaaGreatDoor
open Go.RowKit
set_option linter.unusedVariables false
set_option linter.unusedSimpArgs false
attribute [local go_sem] q2 q3 q4 q5 q6 q7 q8 q9 q10 q11 q12

theorem Tryz.infoStr' : (Tryz.prog.info? 9).map (fun i => (i.zero, i.size, i.bytes)) = some (some (.string ⟨#[]⟩), 1, 16) := by kernel_rfl

def SL (w : World) (lo : Nat) (v : Value) (zs : List ByteArray) : Prop := w.ownsRow lo 9 1 v zs.length (zs.map Value.string)
theorem SL.nil (w : World) (lo : Nat) : SL w lo (.slice none 0 0) [] := World.ownsRow_nil _ _ _ _
theorem SL.made (w : World) (lo : Nat) (h : lo ≤ w.heap.size) : SL (w.alloc (.cells #[] 9)) lo (.slice (some ⟨w.heap.size, 0, none⟩) 0 0) [] :=
 World.ownsRow_made w #[] 0 h (by decide) rfl
theorem SL.alloc {w : World} {lo : Nat} {v : Value} {zs : List ByteArray} (h : SL w lo v zs) (o : Obj) : SL (w.alloc o) lo v zs := World.ownsRow.alloc h o
theorem SL.kept {w w' : World} {lo : Nat} {v : Value} {zs : List ByteArray} {row : Option Nat} (h : SL w lo v zs) (hg : w.grownBy w' row) (hne : v.ownBlock = none ∨ v.ownBlock ≠ row) : SL w' lo v zs := World.ownsRow.kept h hg hne
theorem SL.lt {w : World} {lo : Nat} {v : Value} {zs : List ByteArray} (h : SL w lo v zs) : ∀ k, v.ownBlock = some k → lo ≤ k ∧ k < w.heap.size := World.ownsRow.lt h
theorem SL.below {w w' : World} {lo : Nat} {v : Value} {zs : List ByteArray} (h : SL w lo v zs) (hb : Below w.heap.size w w') : SL w' lo v zs :=
 h.kept (row := none) ⟨hb.os, hb.tape, hb.output, hb.size, fun k hk _ => hb.block k hk⟩ (by cases v.ownBlock <;> simp)
def StrsAt (w : World) (lo hi : Nat) (a : Option Addr) (n : Nat) (f : Nat → ByteArray) : Prop :=
 n = 0 ∨ ∃ g cap F, a = some ⟨g, 0, none⟩ ∧ lo ≤ g ∧ g < hi ∧ n ≤ cap ∧ w.rowIs g 9 cap F ∧ ∀ i, i < n → F i = .string (f i)
theorem StrsAt.keep {w w' : World} {lo hi : Nat} {a : Option Addr} {n : Nat} {f : Nat → ByteArray} (h : StrsAt w lo hi a n f) (hk : ∀ k, lo ≤ k → k < hi → w'.heap[k]? = w.heap[k]?) : StrsAt w' lo hi a n f := by
 rcases h with h | ⟨g, cap, F, ha, h1, h2, h3, h4, h5⟩
 ·exact .inl h
 ·exact .inr ⟨g, cap, F, ha, h1, h2, h3, h4.of_block (hk g h1 h2), h5⟩
theorem StrsAt.below {w w' : World} {lo hi B : Nat} {a : Option Addr} {n : Nat} {f : Nat → ByteArray} (h : StrsAt w lo hi a n f) (hb : Below B w w') (hB : hi ≤ B) : StrsAt w' lo hi a n f :=
 h.keep fun k _ h2 => hb.block k (by omega)
theorem SL.strs {w : World} {lo : Nat} {a : Option Addr} {n c : Nat} {zs : List ByteArray} (h : SL w lo (.slice a n c) zs) : n = zs.length ∧ StrsAt w lo w.heap.size a zs.length (fun i => zs.getD i ⟨#[]⟩) := by
 rcases h.2 with ⟨h1, h2⟩ | ⟨g, cap, cur, h1, h2, h3, h4, h5, h6, h7⟩
 ·simp only [Value.slice.injEq] at h1
  exact ⟨by omega, .inl h2⟩
 ·simp only [Value.slice.injEq] at h1
  obtain ⟨rfl, rfl, rfl⟩ := h1
  refine ⟨rfl, .inr ⟨g, c, fun i => cur.getD i undef, rfl, h2, (Array.getElem?_eq_some_iff.1 h3).1, h4, ⟨cur, h3, by omega, fun i hi => ?_⟩, fun i hi => ?_⟩⟩
  ·rw [Array.getElem?_eq_getElem (by omega)]; simp [Array.getD, show i < cur.size from by omega]
  ·have e : cur.toList[i]? = (zs.map Value.string)[i]? := by
    rw [← h7, List.getElem?_take, if_pos (by omega)]
   rw [List.getElem?_map, List.getElem?_eq_getElem hi] at e
   simp only [Option.map_some] at e
   have hi2 : i < cur.size := by omega
   rw [Array.getElem?_toList, Array.getElem?_eq_getElem hi2] at e
   have e2 : cur[i] = Value.string zs[i] := by simpa using e
   have e3 : zs.getD i ⟨#[]⟩ = zs[i] := by rw [List.getD_eq_getElem?_getD, List.getElem?_eq_getElem hi]; rfl
   show cur.getD i undef = .string (zs.getD i ⟨#[]⟩)
   rw [e3, ← e2]
   simp [Array.getD, hi2]

theorem app_str (w : World) {ops : Array Oper} {rest : List Oper} {o : Oper} {a : Act} {Q : Exit → Act → World → Prop} (hgd : o.guard = none) (s x : Operand)
  (ho : o.op = .call { callee := .builtin .append, args := #[s, x], argTypes := #[30, 30] })
  (lo : Nat) (v : Value) (zs : List ByteArray) (z : ByteArray) (B : Nat) (hs : a.eval s = v) (hx : a.eval x = .slice (some ⟨B, 0, none⟩) 1 1)
  (hown : SL w lo v zs) (hB : w.cell? ⟨B, 0, none⟩ = some (.string z)) (hlen : zs.length ≤ 1000000000) (hlo : lo ≤ w.heap.size)
  (h : ∀ g cap w', SL w' lo (.slice (some ⟨g, 0, none⟩) (zs.length + 1) cap) (zs ++ [z]) → w.grownBy w' v.ownBlock → (v.ownBlock = some g ∨ g = w.heap.size) → g < w'.heap.size →
   wpList Tryz.prog ops Q rest (a.put o.dst (.slice (some ⟨g, 0, none⟩) (zs.length + 1) cap)) w') : wpList Tryz.prog ops Q (o :: rest) a w := by
 obtain ⟨i0, hi, hz0, hz1, hz2⟩ := info_parts Tryz.infoStr'
 refine wpList_append_lies w hgd s x 30 ho lo 9 i0 (.string ⟨#[]⟩) 1 16 Tryz.underlying30 hi hz0 hz1 hz2 rfl (by decide) v zs.length _ hs hown ⟨B, 0, none⟩ 1 1 [.string z] hx rfl ?_ (by simp [Value.oneCell']) (by decide) (by unfold maxLen; omega) (by omega) hlo _ rfl ?_
 ·intro j u hu
  match j with
  | 0 => simp at hu; subst hu; simpa [Addr.add] using hB
  | j + 1 => simp at hu
 ·intro g cap w' h1 h2 h3 h4
  refine h g cap w' ?_ h2 h3 h4
  unfold SL
  rw [List.map_append, List.length_append]
  exact h1

end Go.Proofs.YtfoofbcmaljmoaaGreatDoor
