/- Lists of forms, and of slices, beside a source that stays. -/
import Derived.Test.YtaeabefbohlcpaaSd
import Derived.Test.YtaeabefbohlcpaaPrim
namespace Go.Proofs.Ytaeabefbohlcpaa
open Go.RowKit
set_option linter.unusedVariables false
set_option linter.unusedSimpArgs false
attribute [local go_sem] q2 q3 q4 q5 q6 q7 q8 q9 q10 q11 q12

def srcF (LO HI : Nat) (a : Option Addr) (fs : List (Int × Int × Int)) (W : World) : Prop := FAt W LO HI a fs
theorem forms_kept {LO HI : Nat} {a : Option Addr} {fs : List (Int × Int × Int)} : Kept LO HI (srcF LO HI a fs) := fun w w' hk h => FormsAt.keep h hk
theorem FAt.low {w : World} {lo lo' hi : Nat} {a : Option Addr} {fs : List (Int × Int × Int)} (h : FAt w lo hi a fs) (h1 : lo' ≤ lo) : FAt w lo' hi a fs := by
 rcases h with h | ⟨g, cap, F, ha, g1, g2, r⟩
 ·exact .inl h
 ·exact .inr ⟨g, cap, F, ha, by omega, g2, r⟩
structure SF (w : World) (LO HI : Nat) (S : World → Prop) (wr : World) (a : Option Addr) (n c : Nat) (l : List (Int × Int × Int)) : Prop where
 len : Hid (n = l.length)
 sd : SD 46 3 w LO HI S wr (.slice a n c) n ((flat3 l).map (Value.int .i64))
theorem SF.fl {w wr : World} {LO HI n c : Nat} {S : World → Prop} {a : Option Addr} {l : List (Int × Int × Int)} (h : SF w LO HI S wr a n c l) : FL wr w.heap.size (.slice a n c) l := by
 have := h.sd.own
 have hn := unhide h.len
 unfold FL FormL; rw [← hn]; exact this
theorem SF.call {w wr w2 : World} {LO HI n c : Nat} {S : World → Prop} {a : Option Addr} {l : List (Int × Int × Int)} (h : SF w LO HI S wr a n c l) (hK : Kept LO HI S) (hb : Below wr.heap.size wr w2) : SF w LO HI S w2 a n c l := ⟨h.len, h.sd.call hK hb⟩
theorem SF.alloc {w wr : World} {LO HI n c : Nat} {S : World → Prop} {a : Option Addr} {l : List (Int × Int × Int)} (h : SF w LO HI S wr a n c l) (hK : Kept LO HI S) (o : Obj) : SF w LO HI S (wr.alloc o) a n c l := ⟨h.len, h.sd.alloc hK o⟩
theorem SF.app {w wr w2 : World} {LO HI n c g cap : Nat} {S : World → Prop} {a : Option Addr} {l : List (Int × Int × Int)} {z : Int × Int × Int} (h : SF w LO HI S wr a n c l) (hK : Kept LO HI S)
  (hown : FL w2 w.heap.size (.slice (some ⟨g, 0, none⟩) (l.length + 1) cap) (l ++ [z])) (hgrow : wr.grownBy w2 (Value.slice a n c).ownBlock) (hat : (Value.slice a n c).ownBlock = some g ∨ g = wr.heap.size) : SF w LO HI S w2 (some ⟨g, 0, none⟩) (l.length + 1) cap (l ++ [z]) := by
 refine ⟨hide (by simp), h.sd.app hK ?_ hgrow hat⟩
 have := hown
 unfold FL FormL at this
 rw [List.length_append] at this
 exact this
theorem SF.ret {w wr : World} {LO HI n c : Nat} {S : World → Prop} {a : Option Addr} {l : List (Int × Int × Int)} (h : SF w LO HI S wr a n c l) {zs : List (Int × Int × Int)} (e : l = zs) {en : Ending} (he : en = .returned (.slice a n c)) : RetFL w zs en wr := by
 subst e
 have hn := unhide h.len
 refine ⟨a, c, ?_, ?_, h.sd.bel⟩
 ·rw [he, ← hn]
 ·have := h.fl; rw [← hn]; exact this
theorem Try.infoFS : (Try.prog.info? 34).map (fun i => (i.zero, i.size, i.bytes)) = some (some (.slice none 0 0), 1, 24) := by kernel_rfl
theorem app_sl (w : World) {ops : Array Oper} {rest : List Oper} {o : Oper} {a : Act} {Q : Exit → Act → World → Prop} (hgd : o.guard = none) (s x : Operand)
  (ho : o.op = .call { callee := .builtin .append, args := #[s, x], argTypes := #[32, 32] })
  (lo : Nat) (v : Value) (n : Nat) (vs : List Value) (u : Value) (B : Nat) (hs : a.eval s = v) (hx : a.eval x = .slice (some ⟨B, 0, none⟩) 1 1)
  (hown : w.ownsRow lo 34 1 v n vs) (hB : w.cell? ⟨B, 0, none⟩ = some u) (hu : u.oneCell' = true) (hlen : n ≤ 1000000000) (hlo : lo ≤ w.heap.size)
  (h : ∀ g cap w', w'.ownsRow lo 34 1 (.slice (some ⟨g, 0, none⟩) (n + 1) cap) (n + 1) (vs ++ [u]) → w.grownBy w' v.ownBlock → (v.ownBlock = some g ∨ g = w.heap.size) → g < w'.heap.size →
   wpList Try.prog ops Q rest (a.put o.dst (.slice (some ⟨g, 0, none⟩) (n + 1) cap)) w') : wpList Try.prog ops Q (o :: rest) a w := by
 obtain ⟨i0, hi, hz0, hz1, hz2⟩ := info_parts Try.infoFS
 refine wpList_append_lies w hgd s x 32 ho lo 34 i0 (.slice none 0 0) 1 24 Try.underlying32 hi hz0 hz1 hz2 rfl (by decide) v n _ hs hown ⟨B, 0, none⟩ 1 1 [u] hx rfl ?_ (by simp [hu]) (by decide) (by unfold maxLen; omega) (by omega) hlo _ rfl ?_
 ·intro j u' hu'
  match j with
  | 0 => simp at hu'; subst hu'; simpa [Addr.add] using hB
  | j + 1 => simp at hu'
 ·intro g cap w' h1 h2 h3 h4
  exact h g cap w' h1 h2 h3 h4
end Go.Proofs.Ytaeabefbohlcpaa
