/-
  What the operations of a drawn region leave behind, by kinds: a value, an own block, an own block that holds integers. Plain law over any program.
-/
import Derived.Test.YtgjbefchbjpjmaaRegion
import Derived.Below
import Derived.Handy
import Derived.Deep.RegionHeld3
import Derived.Deep.DeepCutAuto
namespace Go.Proofs.Ytgjbefchbjpjmaa
open Go.RowKit
set_option linter.unusedVariables false
set_option linter.unusedSimpArgs false

inductive Kind where
  | any
  | val (v : Value)
  | own (B k : Nat)
  | held (B : Nat) (vs : List Value)
def Kind.ok : Kind → World → Value → Prop
  | .any, _, _ => True
  | .val u, _, v => v = u
  | .own B k, w, v => ∃ g : Nat, v = .pointer (some ⟨g, 0, none⟩) ∧ B ≤ g ∧ g < w.heap.size ∧ ∀ j, j < k → (∃ u, w.cell? ⟨g, j, none⟩ = some u) ∧ w.frozen? ⟨g, j, none⟩ = false
  | .held B vs, w, v => ∃ g : Nat, v = .pointer (some ⟨g, 0, none⟩) ∧ B ≤ g ∧ g < w.heap.size ∧ ∀ j, j < vs.length → w.cell? ⟨g, j, none⟩ = some (vs.getD j undef)
def Kind.isHeld : Kind → Bool
  | .held _ _ => true
  | _ => false

theorem Kind.ok_below {k : Kind} {W w' : World} {v : Value} (hb : Below W.heap.size W w') (h : k.ok W v) : k.ok w' v := by
  cases k with
  | any => trivial
  | val u => exact h
  | own B n =>
    obtain ⟨g, h1, h2, h3, h4⟩ := h
    refine ⟨g, h1, h2, Nat.lt_of_lt_of_le h3 hb.size, fun j hj => ?_⟩
    obtain ⟨⟨u, hu⟩, hf⟩ := h4 j hj
    exact ⟨⟨u, by rw [hb.cell h3]; exact hu⟩, by rw [hb.frozen h3]; exact hf⟩
  | held B vs =>
    obtain ⟨g, h1, h2, h3, h4⟩ := h
    exact ⟨g, h1, h2, Nat.lt_of_lt_of_le h3 hb.size, fun j hj => by rw [hb.cell h3]; exact h4 j hj⟩
theorem below_alloc_self (W : World) (o : Obj) : Below W.heap.size W (W.alloc o) := (Below.refl (B := W.heap.size) (w := W)).alloc (Nat.le_refl _) o
theorem Kind.ok_set {k : Kind} {W : World} {v u : Value} {p : Addr} (hk : k.isHeld = false) (h : k.ok W v) : k.ok (W.setCell p u) v := by
  cases k with
  | any => trivial
  | val u => exact h
  | own B n =>
    obtain ⟨g, h1, h2, h3, h4⟩ := h
    refine ⟨g, h1, h2, by simpa using h3, fun j hj => ?_⟩
    obtain ⟨⟨x, hu⟩, hf⟩ := h4 j hj
    refine ⟨?_, by simpa using hf⟩
    by_cases c : p = ⟨g, j, none⟩
    · subst c; exact ⟨u, World.cell?_setCell_same _ _ _ hu⟩
    · exact ⟨x, by rw [World.cell?_setCell_other _ _ _ _ c]; exact hu⟩
  | held B vs => cases hk

/-- What a region keeps of the world: the cells named, of blocks below B; nothing below the call's own start has turned. -/
structure Sx (w : World) (B : Nat) (cs : List (Addr × Value)) (w' : World) : Prop where
  cells : ∀ c ∈ cs, w'.cell? c.1 = some c.2
  lt : ∀ c ∈ cs, c.1.block < B
  size : B ≤ w'.heap.size
  above : w.heap.size ≤ B
  below : Below w.heap.size w w'
theorem Sx.call {w : World} {B : Nat} {cs : List (Addr × Value)} {W w' : World} (hb : Below W.heap.size W w') (h : Sx w B cs W) : Sx w B cs w' :=
  ⟨fun c hc => by rw [hb.cell (Nat.lt_of_lt_of_le (h.lt c hc) h.size)]; exact h.cells c hc, h.lt, Nat.le_trans h.size hb.size, h.above, h.below.trans (hb.mono (Nat.le_trans h.above h.size))⟩
theorem Sx.set {w : World} {B : Nat} {cs : List (Addr × Value)} {W : World} {p : Addr} {u : Value} (hp : B ≤ p.block) (h : Sx w B cs W) : Sx w B cs (W.setCell p u) :=
  ⟨fun c hc => by rw [World.cell?_setCell_far _ _ _ _ (by have := h.lt c hc; omega)]; exact h.cells c hc, h.lt, by simpa using h.size, h.above, h.below.setCell (Nat.le_trans h.above hp) _⟩
theorem Sx.drew {w : World} {B : Nat} {cs : List (Addr × Value)} {W : World} (h : Sx w B cs W) : Sx w B cs W.drew :=
  ⟨h.cells, h.lt, h.size, h.above, ⟨h.below.os, h.below.tape, h.below.output, h.below.size, h.below.block⟩⟩
theorem Sx.mk_of {w : World} {B : Nat} {cs : List (Addr × Value)} {W : World} (hB : B = W.heap.size) (hc : ∀ c ∈ cs, W.cell? c.1 = some c.2) (hb : Below w.heap.size w W) : Sx w B cs W :=
  ⟨hc, fun c h => by rw [hB]; exact World.block_lt_of_cell? _ _ (hc c h), by omega, by rw [hB]; exact hb.size, hb⟩

theorem own_new {B k : Nat} {W : World} {o : Array Value} {t : TypeId} (hB : B ≤ W.heap.size) (hk : o.size = k) : (Kind.own B k).ok (W.alloc (.cells o t)) (.pointer (some ⟨W.heap.size, 0, none⟩)) := by
  refine ⟨_, rfl, hB, by simp, fun j hj => ?_⟩
  have hn := heap_alloc_new W (.cells o t)
  refine ⟨⟨o.getD j undef, ?_⟩, ?_⟩
  · rw [cell_of_row _ _ j o t (0, 0) hn]
    simp [Array.getD_eq_getD_getElem?, Array.getElem?_eq_getElem (show j < o.size by omega)]
  · exact frozen_of_row _ _ j o t hn
theorem arr_eq {t : Array Value} {n : Nat} (h : t.size = n) : t = ((List.range n).map (fun k => t.getD k undef)).toArray := by
  subst h
  apply Array.ext
  · simp
  · intro i h1 h2
    simp [Array.getD_eq_getD_getElem?, Array.getElem?_eq_getElem h1]
theorem ev_const (a : Act) : ∀ v, a.eval (.const v) = v := fun _ => rfl
theorem ev_func (a : Act) : ∀ f, a.eval (.func f) = .func (.func f) #[] #[] := fun _ => rfl
end Go.Proofs.Ytgjbefchbjpjmaa
