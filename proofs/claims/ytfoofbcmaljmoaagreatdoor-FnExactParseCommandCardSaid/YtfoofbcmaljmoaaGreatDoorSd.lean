/- A list that a loop builds beside a source that stays. -/
import Derived.Test.YtfoofbcmaljmoaaGreatDoorFilter
namespace Go.Proofs.YtfoofbcmaljmoaaGreatDoor
open Go.RowKit
set_option linter.unusedVariables false
set_option linter.unusedSimpArgs false
attribute [local go_sem] q2 q3 q4 q5 q6 q7 q8 q9 q10 q11 q12

theorem IL.some9 {w : World} {lo n c : Nat} {a : Option Addr} {zs : List Int} (h : IL w lo (.slice a n c) zs) (hz : 0 < zs.length) : ∃ g, a = some ⟨g, 0, none⟩ ∧ lo ≤ g := by
 rcases h.2 with ⟨h1, h2⟩ | ⟨g, cap, cur, h1, h2, _⟩
 ·omega
 ·simp only [Value.slice.injEq] at h1
  exact ⟨g, h1.1, h2⟩
theorem IL.cell9 {w : World} {lo g n c : Nat} {zs : List Int} (h : IL w lo (.slice (some ⟨g, 0, none⟩) n c) zs) {j : Nat} (hj : j < zs.length) : w.cell? ⟨g, j, none⟩ = some (.int .i64 (zs.getD j 0)) := by
 have hn : n = zs.length := h.ints.1
 subst hn
 rw [World.ownsRow.cellAt h j (by omega), List.getElem?_map, List.getElem?_eq_getElem hj, List.getD_eq_getElem?_getD, List.getElem?_eq_getElem hj]
 rfl
def Kept (LO HI : Nat) (S : World → Prop) : Prop := ∀ w w' : World, (∀ k, LO ≤ k → k < HI → w'.heap[k]? = w.heap[k]?) → S w → S w'
structure SD (T : TypeId) (sz : Nat) (w : World) (LO HI : Nat) (S : World → Prop) (wr : World) (v : Value) (n : Nat) (vs : List Value) : Prop where
 own : wr.ownsRow w.heap.size T sz v n vs
 far : ∀ b, v.ownBlock = some b → b < LO ∨ HI ≤ b
 bel : Below w.heap.size w wr
 src : S wr
 hi : HI ≤ wr.heap.size
theorem bel_grown {w w' : World} (hb : Below w.heap.size w w') : w.grownBy w' none := ⟨hb.os, hb.tape, hb.output, hb.size, fun k hk _ => hb.block k hk⟩
theorem SD.call {T : TypeId} {sz LO HI n : Nat} {w wr w2 : World} {S : World → Prop} {v : Value} {vs : List Value} (h : SD T sz w LO HI S wr v n vs) (hK : Kept LO HI S) (hb : Below wr.heap.size wr w2) : SD T sz w LO HI S w2 v n vs :=
 ⟨World.ownsRow.kept (row := none) h.own (bel_grown hb) (by cases v.ownBlock <;> simp), h.far, h.bel.trans (hb.mono h.bel.size), hK _ _ (fun k _ h2 => hb.block k (Nat.lt_of_lt_of_le h2 h.hi)) h.src, Nat.le_trans h.hi hb.size⟩
theorem SD.alloc {T : TypeId} {sz LO HI n : Nat} {w wr : World} {S : World → Prop} {v : Value} {vs : List Value} (h : SD T sz w LO HI S wr v n vs) (hK : Kept LO HI S) (o : Obj) : SD T sz w LO HI S (wr.alloc o) v n vs :=
 h.call hK ((Below.refl _ _).alloc (Nat.le_refl _) o)
theorem SD.app {T : TypeId} {sz LO HI n m g cap : Nat} {w wr w2 : World} {S : World → Prop} {v : Value} {vs vs' : List Value} (h : SD T sz w LO HI S wr v n vs) (hK : Kept LO HI S)
  (hown : w2.ownsRow w.heap.size T sz (.slice (some ⟨g, 0, none⟩) m cap) m vs') (hgrow : wr.grownBy w2 v.ownBlock) (hat : v.ownBlock = some g ∨ g = wr.heap.size) : SD T sz w LO HI S w2 (.slice (some ⟨g, 0, none⟩) m cap) m vs' := by
 refine ⟨hown, fun b hb => ?_, h.bel.grown hgrow h.bel.size (fun k hk => (World.ownsRow.lt h.own k hk).1), hK _ _ (fun k h1 h2 => hgrow.block k (Nat.lt_of_lt_of_le h2 h.hi) (fun e => ?_)) h.src, Nat.le_trans h.hi hgrow.size⟩
 ·have e9 : b = g := by simp [Value.ownBlock] at hb; omega
  subst e9
  rcases hat with q | q
  ·exact h.far b q
  ·right; rw [q]; exact h.hi
 ·have := h.far k e.symm; omega
theorem SD.put {T : TypeId} {sz LO HI n m g cap : Nat} {w wr w2 : World} {S : World → Prop} {v : Value} {vs vs' : List Value} (h : SD T sz w LO HI S wr v n vs) (hK : Kept LO HI S)
  (hown : w2.ownsRow wr.heap.size T sz (.slice (some ⟨g, 0, none⟩) m cap) m vs') (hb : Below wr.heap.size wr w2) : SD T sz w LO HI S w2 (.slice (some ⟨g, 0, none⟩) m cap) m vs' := by
 have h2 := h.call hK hb
 refine ⟨⟨hown.1, ?_⟩, fun b hb9 => ?_, h2.bel, h2.src, h2.hi⟩
 ·rcases hown.2 with q | ⟨g1, cap1, cur, r1, r2, r3⟩
  ·exact .inl q
  ·exact .inr ⟨g1, cap1, cur, r1, Nat.le_trans h.bel.size r2, r3⟩
 ·have := (World.ownsRow.lt hown b hb9).1
  have := h.hi
  right; omega
theorem SD.startN {T : TypeId} {sz : Nat} {w wA : World} {LO HI : Nat} {S : World → Prop} (hb : Below w.heap.size w wA) (hs : S wA) (hH : HI ≤ wA.heap.size) : SD T sz w LO HI S wA (.slice none 0 0) 0 [] :=
 ⟨World.ownsRow_nil _ _ _ _, fun b h => by simp [Value.ownBlock] at h, hb, hs, hH⟩
theorem SD.startM {T : TypeId} {sz : Nat} {w wA : World} {HI : Nat} {S : World → Prop} (hb : Below (w.alloc (.cells #[] T)).heap.size (w.alloc (.cells #[] T)) wA) (hs : S wA) (hH : HI ≤ wA.heap.size) : SD T sz w (w.heap.size + 1) HI S wA (.slice (some ⟨w.heap.size, 0, none⟩) 0 0) 0 [] := by
 have h0 : (w.alloc (.cells #[] T)).ownsRow w.heap.size T sz (.slice (some ⟨w.heap.size, 0, none⟩) 0 0) 0 [] := World.ownsRow_made w #[] 0 (Nat.le_refl _) (by decide) (by simp)
 refine ⟨World.ownsRow.kept (row := none) h0 (bel_grown hb) (.inr (by simp [Value.ownBlock])), fun b h => ?_, ((Below.refl w.heap.size w).alloc (Nat.le_refl _) _).trans (hb.mono (by simp)), hs, hH⟩
 simp [Value.ownBlock] at h; omega
theorem gdm {α : Type} {l : List α} {i : Nat} {d : α} (h : i < l.length) : l.getD i d ∈ l := by rw [List.getD_eq_getElem?_getD, List.getElem?_eq_getElem h]; exact List.getElem_mem h
structure SI (w : World) (LO HI : Nat) (S : World → Prop) (wr : World) (a : Option Addr) (n c : Nat) (l : List Int) : Prop where
 len : Hid (n = l.length)
 sd : SD 3 1 w LO HI S wr (.slice a n c) n (l.map (Value.int .i64))
theorem SI.il {w wr : World} {LO HI n c : Nat} {S : World → Prop} {a : Option Addr} {l : List Int} (h : SI w LO HI S wr a n c l) : IL wr w.heap.size (.slice a n c) l := by
 have := h.sd.own
 have hn := unhide h.len
 unfold IL; rw [← hn]; exact this
theorem SI.call {w wr w2 : World} {LO HI n c : Nat} {S : World → Prop} {a : Option Addr} {l : List Int} (h : SI w LO HI S wr a n c l) (hK : Kept LO HI S) (hb : Below wr.heap.size wr w2) : SI w LO HI S w2 a n c l := ⟨h.len, h.sd.call hK hb⟩
theorem SI.alloc {w wr : World} {LO HI n c : Nat} {S : World → Prop} {a : Option Addr} {l : List Int} (h : SI w LO HI S wr a n c l) (hK : Kept LO HI S) (o : Obj) : SI w LO HI S (wr.alloc o) a n c l := ⟨h.len, h.sd.alloc hK o⟩
theorem SI.app {w wr w2 : World} {LO HI n c g cap : Nat} {S : World → Prop} {a : Option Addr} {l : List Int} {z : Int} (h : SI w LO HI S wr a n c l) (hK : Kept LO HI S)
  (hown : IL w2 w.heap.size (.slice (some ⟨g, 0, none⟩) (l.length + 1) cap) (l ++ [z])) (hgrow : wr.grownBy w2 (Value.slice a n c).ownBlock) (hat : (Value.slice a n c).ownBlock = some g ∨ g = wr.heap.size) : SI w LO HI S w2 (some ⟨g, 0, none⟩) (l.length + 1) cap (l ++ [z]) := by
 refine ⟨hide (by simp), h.sd.app hK ?_ hgrow hat⟩
 have := hown
 unfold IL at this
 rw [List.length_append] at this
 exact this
theorem SI.ptr {w wr : World} {LO HI n c : Nat} {S : World → Prop} {a : Option Addr} {l : List Int} (h : SI w LO HI S wr a n c l) (hn : 0 < n) : ∃ g, a = some ⟨g, 0, none⟩ ∧ g < wr.heap.size ∧ ∀ j, j < n → wr.cell? ⟨g, j, none⟩ = some (.int .i64 (l.getD j 0)) := by
 have hl := unhide h.len
 obtain ⟨g, hg, hg2⟩ := h.il.some9 (by omega)
 subst hg
 refine ⟨g, rfl, (World.ownsRow.lt h.sd.own g rfl).2, fun j hj => IL.cell9 h.il (by omega)⟩
theorem SI.startN {w wA : World} {LO HI : Nat} {S : World → Prop} (hb : Below w.heap.size w wA) (hs : S wA) (hH : HI ≤ wA.heap.size) : SI w LO HI S wA none 0 0 [] := ⟨hide rfl, SD.startN hb hs hH⟩
theorem SI.startM {w wA : World} {HI : Nat} {S : World → Prop} (hb : Below (w.alloc (.cells #[] 3)).heap.size (w.alloc (.cells #[] 3)) wA) (hs : S wA) (hH : HI ≤ wA.heap.size) : SI w (w.heap.size + 1) HI S wA (some ⟨w.heap.size, 0, none⟩) 0 0 [] := ⟨hide rfl, SD.startM hb hs hH⟩
theorem SI.ret {w wr : World} {LO HI n c : Nat} {S : World → Prop} {a : Option Addr} {l : List Int} (h : SI w LO HI S wr a n c l) {zs : List Int} (e : l = zs) {en : Ending} (he : en = .returned (.slice a n c)) : RetIL w zs en wr := by
 subst e
 have hn := unhide h.len
 refine ⟨a, c, ?_, ?_, h.sd.bel⟩
 ·rw [he, ← hn]
 ·have := h.il; rw [← hn]; exact this
end Go.Proofs.YtfoofbcmaljmoaaGreatDoor
