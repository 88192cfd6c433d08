/-
  ParseRow, spec.: helpers.
-/
import Derived.Test.YtfoofbcmaljmoaaDoorPrt
import Derived.Test.YtfoofbcmaljmoaaDoorIiT
import Derived.Test.YtfoofbcmaljmoaaDoorRwe
import Derived.Test.YtfoofbcmaljmoaaDoorRte
import Derived.Test.YtfoofbcmaljmoaaDoorFoi
import Derived.Deep.AppendLies
import Derived.Deep.RegionHeldLaw
namespace Go.Proofs.YtfoofbcmaljmoaaDoor
open Go.RowKit
set_option linter.unusedVariables false
set_option linter.unusedSimpArgs false
attribute [local go_sem] q2 q3 q4 q5 q6 q7 q8 q9 q10 q11 q12

theorem cell_heq {w w' : World} {b j : Nat} {v : Value} (e : w'.heap[b]? = w.heap[b]?) (h : w.cell? ⟨b, j, none⟩ = some v) : w'.cell? ⟨b, j, none⟩ = some v := by
  have : w'.cell? ⟨b, j, none⟩ = w.cell? ⟨b, j, none⟩ := by simp [World.cell?, e]
  rw [this]; exact h
theorem frz_heq {w w' : World} {b j : Nat} {v : Bool} (e : w'.heap[b]? = w.heap[b]?) (h : w.frozen? ⟨b, j, none⟩ = v) : w'.frozen? ⟨b, j, none⟩ = v := by
  have : w'.frozen? ⟨b, j, none⟩ = w.frozen? ⟨b, j, none⟩ := by simp [World.frozen?, e]
  rw [this]; exact h
theorem IntsAt.arg2 {w : World} {lo hi : Nat} {a : Option Addr} {n : Nat} {f : Nat → Int} (h : IntsAt w lo hi a n f) (hh : hi ≤ w.heap.size) {c : Nat} : ArgI w (.slice a n c) n f := by
  rcases h with rfl | ⟨g, cap, F, rfl, h1, h2, h3, h4, h5⟩
  · exact .inl ⟨rfl, _, _, rfl⟩
  · exact .inr ⟨g, 0, c, rfl, by omega, fun i hi => by rw [Nat.zero_add, h4.cell (by omega), h5 i hi]⟩
/-- append onto a list of integers, as one step of a region that draws. -/
theorem step_app_int {ops : Array Oper} {o : Oper} {a : Act} {w : World} {K : Act → World → Prop} {Q : Exit → Act → World → Prop} {E : Prop} (hgd : o.guard = none) (s x : Operand)
    (ho : o.op = .call { callee := .builtin .append, args := #[s, x], argTypes := #[22, 22] })
    (lo : Nat) (v : Value) (n : Nat) (zs : List Int) (z : Int) (B : Nat) (hn : Hid (n = zs.length)) (hs : a.eval s = v) (hx : a.eval x = .slice (some ⟨B, 0, none⟩) 1 1)
    (hown : IL w lo v zs) (hB : w.cell? ⟨B, 0, none⟩ = some (.int .i64 z)) (hlen : n ≤ 100000000) (hlo : lo ≤ w.heap.size)
    (hK : ∀ g cap w', IL w' lo (.slice (some ⟨g, 0, none⟩) (n + 1) cap) (zs ++ [z]) → w.grownBy w' v.ownBlock → (v.ownBlock = some g ∨ g = w.heap.size) → g < w'.heap.size →
      K (a.put o.dst (.slice (some ⟨g, 0, none⟩) (n + 1) cap)) w') :
    if Region.wanted o (yielded ops a.tmps) = true then Oper.wp Tryd.prog o a w K Q else E := by
  have hw : Region.wanted o (yielded ops a.tmps) = true := by simp [Region.wanted, hgd]
  have hn := unhide hn
  subst hn
  rw [if_pos hw]
  obtain ⟨i0, hi, hz0, hz1, hz2⟩ := info_parts Tryd.infoInt'
  refine wp_append_lies w s x 22 ho lo 3 i0 (.int .i64 0) 1 8 Tryd.underlying22 hi hz0 hz1 hz2 rfl (by decide) v zs.length _ hs hown ⟨B, 0, none⟩ 1 1 [.int .i64 z] hx rfl ?_ (by simp [Value.oneCell']) (by decide) (by unfold maxLen; omega) (by omega) hlo _ rfl ?_
  · intro j u hu
    match j with
    | 0 => simp at hu; subst hu; simpa [Addr.add] using hB
    | j + 1 => simp at hu
  · intro g cap w' h1 h2 h3 h4
    refine hK g cap w' ?_ h2 h3 h4
    unfold IL
    rw [List.map_append, List.length_append]
    exact h1
set_option maxRecDepth 100000 in
set_option maxHeartbeats 4000000 in
theorem specPr_1 (s : ByteArray) (n : Nat) (w : World) (h5 : ((n : Int) != 5) = true) (HS : Hid (∀ W, Below w.heap.size w W → Calls Tryd.prog 9 #[.string s, .int .u8 32] W fun e w' => ∃ a c, e = .returned (.slice a n c) ∧ Below W.heap.size W w')) :
    Calls Tryd.prog 4 #[.string s] w (RetRowB w ⟨0, 0, 0, 0⟩ 0 (fun _ => 0) false) := by
  go_enter Tryd.func4, Tryd.ntmps4
  go_wp2_with fail
  refine ((unhide HS) _ byGG).mono ?_
  rintro e w1 ⟨a1, c1, rfl, hb1⟩
  have hcs9 := cells_calls hb1 [⟨w.heap.size, 0, none⟩, ⟨w.heap.size, 1, none⟩, ⟨w.heap.size, 2, none⟩, ⟨w.heap.size, 3, none⟩, ⟨w.heap.size, 4, none⟩] [.int .i64 0, .int .i64 0, .slice none 0 0, .int .i64 0, .int .i64 0] (by refine ⟨?_, ?_, ?_, ?_, ?_, trivial⟩ <;> exact byCT)
  have hfs9 := frees_calls hb1 [⟨w.heap.size, 0, none⟩, ⟨w.heap.size, 1, none⟩, ⟨w.heap.size, 2, none⟩, ⟨w.heap.size, 3, none⟩, ⟨w.heap.size, 4, none⟩] (by refine ⟨?_, ?_, ?_, ?_, ?_, trivial⟩ <;> first | with_reducible assumption | omega | (simp; omega) | (simp; done)) (by refine ⟨?_, ?_, ?_, ?_, ?_, trivial⟩ <;> exact byFT)
  have hzs9 := blocks_calls hb1 [w.heap.size] (by refine ⟨?_, trivial⟩ <;> first | with_reducible assumption | omega | (simp; omega) | (simp; done))
  try clear c00 c01 c02 c03 c04 f00 f01 f02 f03 f04
  obtain ⟨c00, c01, c02, c03, c04, -⟩ := hcs9
  obtain ⟨f00, f01, f02, f03, f04, -⟩ := hfs9
  obtain ⟨z0, -⟩ := hzs9
  have s1 := hb1.size
  go_wp2
  refine bodyPost_ret (v := .tuple #[rwv ⟨0, 0, 0, 0⟩ (.slice none 0 0), .bool false]) (by simp [results, Tryd.results4, go_sem, *]) rfl ?_
  exact ⟨none, 0, rfl, .inl rfl, byGG⟩
end Go.Proofs.YtfoofbcmaljmoaaDoor
