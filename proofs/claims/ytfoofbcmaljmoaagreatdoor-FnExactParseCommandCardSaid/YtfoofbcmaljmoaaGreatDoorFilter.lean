/- Lists of integers that a call builds by append, in blocks of its own. Lists of integers that a loop filters. -/
import Derived.Test.YtfoofbcmaljmoaaGreatDoorInts
import Derived.Deep.AppendLies
import Derived.Test.YtfoofbcmaljmoaaGreatDoorWorld
namespace Go.Proofs.YtfoofbcmaljmoaaGreatDoor
open Go.RowKit
set_option linter.unusedVariables false
set_option linter.unusedSimpArgs false

theorem Tryz.infoInt' : (Tryz.prog.info? 3).map (fun i => (i.zero, i.size, i.bytes)) = some (some (.int .i64 0), 1, 8) := by kernel_rfl

def IL (w : World) (lo : Nat) (v : Value) (zs : List Int) : Prop := w.ownsRow lo 3 1 v zs.length (zs.map (Value.int .i64))

theorem IL.nil (w : World) (lo : Nat) : IL w lo (.slice none 0 0) [] := World.ownsRow_nil _ _ _ _
theorem IL.made (w : World) (lo : Nat) (h : lo ≤ w.heap.size) : IL (w.alloc (.cells #[] 3)) lo (.slice (some ⟨w.heap.size, 0, none⟩) 0 0) [] :=
 World.ownsRow_made w #[] 0 h (by decide) rfl
theorem IL.alloc {w : World} {lo : Nat} {v : Value} {zs : List Int} (h : IL w lo v zs) (o : Obj) : IL (w.alloc o) lo v zs := World.ownsRow.alloc h o
theorem IL.kept {w w' : World} {lo : Nat} {v : Value} {zs : List Int} {row : Option Nat} (h : IL w lo v zs) (hg : w.grownBy w' row) (hne : v.ownBlock = none ∨ v.ownBlock ≠ row) : IL w' lo v zs := World.ownsRow.kept h hg hne
theorem IL.lt {w : World} {lo : Nat} {v : Value} {zs : List Int} (h : IL w lo v zs) : ∀ k, v.ownBlock = some k → lo ≤ k ∧ k < w.heap.size := World.ownsRow.lt h
theorem IL.ints {w : World} {lo : Nat} {a : Option Addr} {n c : Nat} {zs : List Int} (h : IL w lo (.slice a n c) zs) : n = zs.length ∧ IntsAt w lo w.heap.size a zs.length (fun i => zs.getD i 0) := by
 rcases h.2 with ⟨h1, h2⟩ | ⟨g, cap, cur, h1, h2, h3, h4, h5, h6, h7⟩
 ·simp only [Value.slice.injEq] at h1
  exact ⟨by omega, .inl h2⟩
 ·simp only [Value.slice.injEq] at h1
  obtain ⟨rfl, rfl, rfl⟩ := h1
  refine ⟨rfl, .inr ⟨g, c, fun i => cur.getD i undef, rfl, h2, (Array.getElem?_eq_some_iff.1 h3).1, h4, ⟨cur, h3, by omega, fun i hi => ?_⟩, fun i hi => ?_⟩⟩
  ·rw [Array.getElem?_eq_getElem (by omega)]; simp [Array.getD, show i < cur.size from by omega]
  ·have e : cur.toList[i]? = (zs.map (Value.int .i64))[i]? := by
    rw [← h7, List.getElem?_take, if_pos (by omega)]
   rw [List.getElem?_map, List.getElem?_eq_getElem hi] at e
   simp only [Option.map_some] at e
   have hi2 : i < cur.size := by omega
   rw [Array.getElem?_toList, Array.getElem?_eq_getElem hi2] at e
   have e2 : cur[i] = Value.int .i64 zs[i] := by simpa using e
   have e3 : zs.getD i 0 = zs[i] := by rw [List.getD_eq_getElem?_getD, List.getElem?_eq_getElem hi]; rfl
   show cur.getD i undef = .int .i64 (zs.getD i 0)
   rw [e3, ← e2]
   simp [Array.getD, hi2]

theorem app_int (w : World) {ops : Array Oper} {rest : List Oper} {o : Oper} {a : Act} {Q : Exit → Act → World → Prop} (hgd : o.guard = none) (s x : Operand)
  (ho : o.op = .call { callee := .builtin .append, args := #[s, x], argTypes := #[43, 43] })
  (lo : Nat) (v : Value) (zs : List Int) (z : Int) (B : Nat) (hs : a.eval s = v) (hx : a.eval x = .slice (some ⟨B, 0, none⟩) 1 1)
  (hown : IL w lo v zs) (hB : w.cell? ⟨B, 0, none⟩ = some (.int .i64 z)) (hlen : zs.length ≤ 1000000000) (hlo : lo ≤ w.heap.size)
  (h : ∀ g cap w', IL w' lo (.slice (some ⟨g, 0, none⟩) (zs.length + 1) cap) (zs ++ [z]) → w.grownBy w' v.ownBlock → (v.ownBlock = some g ∨ g = w.heap.size) → g < w'.heap.size →
   wpList Tryz.prog ops Q rest (a.put o.dst (.slice (some ⟨g, 0, none⟩) (zs.length + 1) cap)) w') : wpList Tryz.prog ops Q (o :: rest) a w := by
 obtain ⟨i0, hi, hz0, hz1, hz2⟩ := info_parts Tryz.infoInt'
 refine wpList_append_lies w hgd s x 43 ho lo 3 i0 (.int .i64 0) 1 8 Tryz.underlying43 hi hz0 hz1 hz2 rfl (by decide) v zs.length _ hs hown ⟨B, 0, none⟩ 1 1 [.int .i64 z] hx rfl ?_ (by simp [Value.oneCell']) (by decide) (by unfold maxLen; omega) (by omega) hlo _ rfl ?_
 ·intro j u hu
  match j with
  | 0 => simp at hu; subst hu; simpa [Addr.add] using hB
  | j + 1 => simp at hu
 ·intro g cap w' h1 h2 h3 h4
  refine h g cap w' ?_ h2 h3 h4
  unfold IL
  rw [List.map_append, List.length_append]
  exact h1
end Go.Proofs.YtfoofbcmaljmoaaGreatDoor
namespace Go.Proofs.YtfoofbcmaljmoaaGreatDoor
open Go.RowKit
set_option linter.unusedVariables false
set_option linter.unusedSimpArgs false
theorem IL.below {w w' : World} {lo : Nat} {v : Value} {zs : List Int} (h : IL w lo v zs) (hb : Below w.heap.size w w') : IL w' lo v zs :=
 h.kept (row := none) ⟨hb.os, hb.tape, hb.output, hb.size, fun k hk _ => hb.block k hk⟩ (by cases v.ownBlock <;> simp)
theorem IL.drewN {w : World} {lo : Nat} {v : Value} {zs : List Int} (h : IL w lo v zs) (n : Nat) : IL (w.drewN n) lo v zs :=
 h.below ⟨(Below.refl w.heap.size w).os, (Below.refl w.heap.size w).tape, (Below.refl w.heap.size w).output, (Below.refl w.heap.size w).size, (Below.refl w.heap.size w).block⟩
def RetIL (w : World) (zs : List Int) (e : Ending) (w' : World) : Prop :=
 ∃ a c, e = .returned (.slice a zs.length c) ∧ IL w' w.heap.size (.slice a zs.length c) zs ∧ Below w.heap.size w w'
end Go.Proofs.YtfoofbcmaljmoaaGreatDoor
