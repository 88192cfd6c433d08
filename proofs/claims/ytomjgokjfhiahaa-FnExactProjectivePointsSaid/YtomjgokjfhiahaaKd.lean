/-
  What the operations of a drawn region leave behind, by kinds: a value, a new block, a new block that holds values, cells of old blocks. Plain law over any program.
-/
import Derived.Test.YtomjgokjfhiahaaRegion
import Derived.Below
import Derived.Handy
import Derived.Deep.RegionHeld3
import Derived.Deep.DeepCutAuto
import Derived.Deep.Draws
namespace Go.Proofs.Ytomjgokjfhiahaa
open Go.RowKit
set_option linter.unusedVariables false
set_option linter.unusedSimpArgs false

inductive Kd where
  | any
  | val (v : Value)
  | own (B k : Nat)
  | held (B : Nat) (vs : List Value)
  | old (B : Nat) (cs : List (Addr × Value))
def Kd.ok : Kd → World → Value → Prop
  | .any, _, _ => True
  | .val u, _, v => v = u
  | .own B k, w, v => ∃ g : Nat, v = .pointer (some ⟨g, 0, none⟩) ∧ B ≤ g ∧ g < w.heap.size ∧ ∀ j, j < k → (∃ u, w.cell? ⟨g, j, none⟩ = some u) ∧ w.frozen? ⟨g, j, none⟩ = false
  | .held B vs, w, v => ∃ g : Nat, v = .pointer (some ⟨g, 0, none⟩) ∧ B ≤ g ∧ g < w.heap.size ∧ ∀ j, j < vs.length → w.cell? ⟨g, j, none⟩ = some (vs.getD j undef) ∧ w.frozen? ⟨g, j, none⟩ = false
  | .old B cs, w, _ => ∀ c ∈ cs, w.cell? c.1 = some c.2 ∧ c.1.block < B
def Kd.isHeld : Kd → Bool
  | .held _ _ => true
  | _ => false
/-- Is the address none of an old kind's cells? -/
def Kd.off (p : Addr) : Kd → Prop
  | .old _ cs => ∀ c ∈ cs, p ≠ c.1
  | _ => True
def Kd.at_ : Kd → Nat → Prop
  | .own B _, b => b < B
  | .held B _, b => b < B
  | _, _ => True

theorem Kd.ok_below {k : Kd} {W w' : World} {v : Value} (hb : Below W.heap.size W w') (h : k.ok W v) : k.ok w' v := by
  cases k with
  | any => trivial
  | val u => exact h
  | own B n =>
    obtain ⟨g, h1, h2, h3, h4⟩ := h
    refine ⟨g, h1, h2, Nat.lt_of_lt_of_le h3 hb.size, fun j hj => ?_⟩
    obtain ⟨⟨u, hu⟩, hf⟩ := h4 j hj
    exact ⟨⟨u, by rw [hb.cell h3]; exact hu⟩, by rw [hb.frozen h3]; exact hf⟩
  | held B vs =>
    obtain ⟨g, h1, h2, h3, h4⟩ := h
    exact ⟨g, h1, h2, Nat.lt_of_lt_of_le h3 hb.size, fun j hj => ⟨by rw [hb.cell h3]; exact (h4 j hj).1, by rw [hb.frozen h3]; exact (h4 j hj).2⟩⟩
  | old B cs =>
    intro c hc
    exact ⟨by rw [hb.cell (World.block_lt_of_cell? _ _ (h c hc).1)]; exact (h c hc).1, (h c hc).2⟩
theorem below_alloc_self (W : World) (o : Obj) : Below W.heap.size W (W.alloc o) := (Below.refl (B := W.heap.size) (w := W)).alloc (Nat.le_refl _) o
theorem below_refl_self (W : World) : Below W.heap.size W W := Below.refl _ _
theorem below_drewN_self (W : World) (n : Nat) : Below W.heap.size W (W.drewN n) := ⟨(Below.refl W.heap.size W).os, (Below.refl W.heap.size W).tape, (Below.refl W.heap.size W).output, (Below.refl W.heap.size W).size, (Below.refl W.heap.size W).block⟩
/-- A store into a new block keeps every kind but one that holds values in a new block. -/
theorem Kd.ok_set {k : Kd} {W : World} {v u : Value} {p : Addr} (hk : k.isHeld = false) (ho : Kd.off p k) (h : k.ok W v) : k.ok (W.setCell p u) v := by
  cases k with
  | any => trivial
  | val u => exact h
  | own B n =>
    obtain ⟨g, h1, h2, h3, h4⟩ := h
    refine ⟨g, h1, h2, by simpa using h3, fun j hj => ?_⟩
    obtain ⟨⟨x, hu⟩, hf⟩ := h4 j hj
    refine ⟨?_, by simpa using hf⟩
    by_cases c : p = ⟨g, j, none⟩
    · subst c; exact ⟨u, World.cell?_setCell_same _ _ _ hu⟩
    · exact ⟨x, by rw [World.cell?_setCell_other _ _ _ _ c]; exact hu⟩
  | held B vs => cases hk
  | old B cs =>
    intro c hc
    exact ⟨by rw [World.cell?_setCell_other _ _ _ _ (ho c hc)]; exact (h c hc).1, (h c hc).2⟩
/-- A store into an old block keeps every kind that does not speak of that cell. -/
theorem Kd.ok_set_old {k : Kd} {W : World} {v u : Value} {p : Addr} (hb : k.at_ p.block) (ho : Kd.off p k) (h : k.ok W v) : k.ok (W.setCell p u) v := by
  cases k with
  | any => trivial
  | val u => exact h
  | own B n =>
    obtain ⟨g, h1, h2, h3, h4⟩ := h
    refine ⟨g, h1, h2, by simpa using h3, fun j hj => ?_⟩
    have hne : p.block ≠ g := by
      have : p.block < B := hb
      omega
    exact ⟨by obtain ⟨⟨x, hu⟩, _⟩ := h4 j hj; exact ⟨x, by rw [World.cell?_setCell_far _ _ _ _ hne]; exact hu⟩, by simpa using (h4 j hj).2⟩
  | held B vs =>
    obtain ⟨g, h1, h2, h3, h4⟩ := h
    refine ⟨g, h1, h2, by simpa using h3, fun j hj => ?_⟩
    have hne : p.block ≠ g := by
      have : p.block < B := hb
      omega
    exact ⟨by rw [World.cell?_setCell_far _ _ _ _ hne]; exact (h4 j hj).1, by simpa using (h4 j hj).2⟩
  | old B cs =>
    intro c hc
    exact ⟨by rw [World.cell?_setCell_other _ _ _ _ (ho c hc)]; exact (h c hc).1, (h c hc).2⟩
theorem Kd.off_new {k : Kd} {B : Nat} {p : Addr} {W : World} {v : Value} (hp : B ≤ p.block) (h : k.ok W v) (hB : ∀ B' cs, k = .old B' cs → B' ≤ B) : Kd.off p k := by
  cases k with
  | old B' cs =>
    intro c hc e
    have h1 := (h c hc).2
    have h2 := hB _ _ rfl
    rw [← e] at h1
    omega
  | _ => trivial

/-- What a region keeps of the world: cells that nothing writes, cells that may be written, and all that lay below the call's start. -/
structure Sy (w : World) (B : Nat) (cs : List (Addr × Value)) (fs : List Addr) (W : World) : Prop where
  cells : ∀ c ∈ cs, W.cell? c.1 = some c.2
  free : ∀ p ∈ fs, (∃ u, W.cell? p = some u) ∧ W.frozen? p = false
  lt : ∀ c ∈ cs, c.1.block < B
  size : B ≤ W.heap.size
  above : w.heap.size ≤ B
  below : Below w.heap.size w W
theorem Sy.call {w : World} {B : Nat} {cs : List (Addr × Value)} {fs : List Addr} {W w' : World} (hb : Below W.heap.size W w') (h : Sy w B cs fs W) : Sy w B cs fs w' := by
  refine ⟨fun c hc => by rw [hb.cell (Nat.lt_of_lt_of_le (h.lt c hc) h.size)]; exact h.cells c hc, fun p hp => ?_, h.lt, Nat.le_trans h.size hb.size, h.above, h.below.trans (hb.mono (Nat.le_trans h.above h.size))⟩
  obtain ⟨⟨u, hu⟩, hf⟩ := h.free p hp
  have hl := World.block_lt_of_cell? _ _ hu
  exact ⟨⟨u, by rw [hb.cell hl]; exact hu⟩, by rw [hb.frozen hl]; exact hf⟩
theorem Sy.set {w : World} {B : Nat} {cs : List (Addr × Value)} {fs : List Addr} {W : World} {p : Addr} {u : Value} (hp : w.heap.size ≤ p.block) (hne : ∀ c ∈ cs, p ≠ c.1) (h : Sy w B cs fs W) : Sy w B cs fs (W.setCell p u) := by
  refine ⟨fun c hc => by rw [World.cell?_setCell_other _ _ _ _ (hne c hc)]; exact h.cells c hc, fun q hq => ?_, h.lt, by simpa using h.size, h.above, h.below.setCell hp _⟩
  obtain ⟨⟨x, hu⟩, hf⟩ := h.free q hq
  refine ⟨?_, by simpa using hf⟩
  by_cases c : p = q
  · subst c; exact ⟨u, World.cell?_setCell_same _ _ _ hu⟩
  · exact ⟨x, by rw [World.cell?_setCell_other _ _ _ _ c]; exact hu⟩
theorem Sy.set_new {w : World} {B : Nat} {cs : List (Addr × Value)} {fs : List Addr} {W : World} {p : Addr} {u : Value} (hp : B ≤ p.block) (h : Sy w B cs fs W) : Sy w B cs fs (W.setCell p u) :=
  h.set (Nat.le_trans h.above hp) (fun c hc e => by have := h.lt c hc; rw [← e] at this; omega)
theorem Sy.drew {w : World} {B : Nat} {cs : List (Addr × Value)} {fs : List Addr} {W : World} (h : Sy w B cs fs W) : Sy w B cs fs W.drew :=
  ⟨h.cells, h.free, h.lt, h.size, h.above, ⟨h.below.os, h.below.tape, h.below.output, h.below.size, h.below.block⟩⟩
theorem Sy.mk_of {w : World} {B : Nat} {cs : List (Addr × Value)} {fs : List Addr} {W : World} (hB : W.heap.size = B) (hc : ∀ c ∈ cs, W.cell? c.1 = some c.2) (hf : ∀ p ∈ fs, (∃ u, W.cell? p = some u) ∧ W.frozen? p = false) (hb : Below w.heap.size w W) : Sy w B cs fs W :=
  ⟨hc, hf, fun c h => by rw [← hB]; exact World.block_lt_of_cell? _ _ (hc c h), by omega, by rw [← hB]; exact hb.size, hb⟩

theorem kd_new {B k : Nat} {W : World} {o : Array Value} {t : TypeId} (hB : B ≤ W.heap.size) (hk : o.size = k) : (Kd.own B k).ok (W.alloc (.cells o t)) (.pointer (some ⟨W.heap.size, 0, none⟩)) := by
  refine ⟨_, rfl, hB, by simp, fun j hj => ?_⟩
  have hn := heap_alloc_new W (.cells o t)
  refine ⟨⟨o.getD j undef, ?_⟩, ?_⟩
  · rw [cell_of_row _ _ j o t (0, 0) hn]
    simp [Array.getD_eq_getD_getElem?, Array.getElem?_eq_getElem (show j < o.size by omega)]
  · exact frozen_of_row _ _ j o t hn
theorem arr_eq {t : Array Value} {n : Nat} (h : t.size = n) : t = ((List.range n).map (fun k => t.getD k undef)).toArray := by
  subst h
  apply Array.ext
  · simp
  · intro i h1 h2
    simp [Array.getD_eq_getD_getElem?, Array.getElem?_eq_getElem h1]
theorem ev_const (a : Act) : ∀ v, a.eval (.const v) = v := fun _ => rfl
theorem ev_func (a : Act) : ∀ f, a.eval (.func f) = .func (.func f) #[] #[] := fun _ => rfl
theorem quo_in {a n : Int} (h0 : 0 ≤ a) (h1 : a ≤ 9223372036854775807) (hn : 1 ≤ n) : IntKind.i64.wrap (a.tdiv n) = a / n := by
  rw [Int.tdiv_eq_ediv_of_nonneg h0]
  have := Int.ediv_nonneg h0 (show 0 ≤ n by omega)
  have := Int.ediv_le_self n h0
  exact IntWalk.i64_in _ (by omega)
theorem rem_in {a n : Int} (h0 : 0 ≤ a) (hn : 1 ≤ n) : a.tmod n = a % n := Int.tmod_eq_emod_of_nonneg h0
theorem int_in {n : Int} (h : -9223372036854775808 ≤ n ∧ n ≤ 9223372036854775807) : IntKind.i64.wrap n = n := IntWalk.i64_in _ h
end Go.Proofs.Ytomjgokjfhiahaa
