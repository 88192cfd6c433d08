/-
  What the operations of a drawn region leave behind, by kinds: a value, a new block, a new block that holds values, cells of old blocks. Plain law over any program.
-/
import Derived.Test.YtninagdclibmnaaRegion
import Derived.Below
import Derived.Handy
import Derived.Deep.RegionHeld3
import Derived.Deep.DeepCutAuto
import Derived.Deep.Draws
namespace Go.Proofs.Ytninagdclibmnaa
open Go.RowKit
set_option linter.unusedVariables false
set_option linter.unusedSimpArgs false

inductive Kd where
  | any
  | val (v : Value)
  | own (B k : Nat)
  | held (B : Nat) (vs : List Value)
  | old (B : Nat) (cs : List (Addr × Value))
def Kd.ok : Kd → World → Value → Prop
  | .any, _, _ => True
  | .val u, _, v => v = u
  | .own B k, w, v => ∃ g : Nat, v = .pointer (some ⟨g, 0, none⟩) ∧ B ≤ g ∧ g < w.heap.size ∧ ∀ j, j < k → (∃ u, w.cell? ⟨g, j, none⟩ = some u) ∧ w.frozen? ⟨g, j, none⟩ = false
  | .held B vs, w, v => ∃ g : Nat, v = .pointer (some ⟨g, 0, none⟩) ∧ B ≤ g ∧ g < w.heap.size ∧ ∀ j, j < vs.length → w.cell? ⟨g, j, none⟩ = some (vs.getD j undef) ∧ w.frozen? ⟨g, j, none⟩ = false
  | .old B cs, w, _ => ∀ c ∈ cs, w.cell? c.1 = some c.2 ∧ c.1.block < B
def Kd.isHeld : Kd → Bool
  | .held _ _ => true
  | _ => false
/-- Is the address none of an old kind's cells? -/
def Kd.off (p : Addr) : Kd → Prop
  | .old _ cs => ∀ c ∈ cs, p ≠ c.1
  | _ => True
def Kd.at_ : Kd → Nat → Prop
  | .own B _, b => b < B
  | .held B _, b => b < B
  | _, _ => True

theorem Kd.ok_below {k : Kd} {W w' : World} {v : Value} (hb : Below W.heap.size W w') (h : k.ok W v) : k.ok w' v := by
  cases k with
  | any => trivial
  | val u => exact h
  | own B n =>
    obtain ⟨g, h1, h2, h3, h4⟩ := h
    refine ⟨g, h1, h2, Nat.lt_of_lt_of_le h3 hb.size, fun j hj => ?_⟩
    obtain ⟨⟨u, hu⟩, hf⟩ := h4 j hj
    exact ⟨⟨u, by rw [hb.cell h3]; exact hu⟩, by rw [hb.frozen h3]; exact hf⟩
  | held B vs =>
    obtain ⟨g, h1, h2, h3, h4⟩ := h
    exact ⟨g, h1, h2, Nat.lt_of_lt_of_le h3 hb.size, fun j hj => ⟨by rw [hb.cell h3]; exact (h4 j hj).1, by rw [hb.frozen h3]; exact (h4 j hj).2⟩⟩
  | old B cs =>
    intro c hc
    exact ⟨by rw [hb.cell (World.block_lt_of_cell? _ _ (h c hc).1)]; exact (h c hc).1, (h c hc).2⟩
theorem below_alloc_self (W : World) (o : Obj) : Below W.heap.size W (W.alloc o) := (Below.refl (B := W.heap.size) (w := W)).alloc (Nat.le_refl _) o
theorem below_refl_self (W : World) : Below W.heap.size W W := Below.refl _ _
theorem below_drewN_self (W : World) (n : Nat) : Below W.heap.size W (W.drewN n) := ⟨(Below.refl W.heap.size W).os, (Below.refl W.heap.size W).tape, (Below.refl W.heap.size W).output, (Below.refl W.heap.size W).size, (Below.refl W.heap.size W).block⟩
/-- A store into a new block keeps every kind but one that holds values in a new block. -/
theorem Kd.ok_set {k : Kd} {W : World} {v u : Value} {p : Addr} (hk : k.isHeld = false) (ho : Kd.off p k) (h : k.ok W v) : k.ok (W.setCell p u) v := by
  cases k with
  | any => trivial
  | val u => exact h
  | own B n =>
    obtain ⟨g, h1, h2, h3, h4⟩ := h
    refine ⟨g, h1, h2, by simpa using h3, fun j hj => ?_⟩
    obtain ⟨⟨x, hu⟩, hf⟩ := h4 j hj
    refine ⟨?_, by simpa using hf⟩
    by_cases c : p = ⟨g, j, none⟩
    · subst c; exact ⟨u, World.cell?_setCell_same _ _ _ hu⟩
    · exact ⟨x, by rw [World.cell?_setCell_other _ _ _ _ c]; exact hu⟩
  | held B vs => cases hk
  | old B cs =>
    intro c hc
    exact ⟨by rw [World.cell?_setCell_other _ _ _ _ (ho c hc)]; exact (h c hc).1, (h c hc).2⟩
/-- A store into an old block keeps every kind that does not speak of that cell. -/
theorem Kd.ok_set_old {k : Kd} {W : World} {v u : Value} {p : Addr} (hb : k.at_ p.block) (ho : Kd.off p k) (h : k.ok W v) : k.ok (W.setCell p u) v := by
  cases k with
  | any => trivial
  | val u => exact h
  | own B n =>
    obtain ⟨g, h1, h2, h3, h4⟩ := h
    refine ⟨g, h1, h2, by simpa using h3, fun j hj => ?_⟩
    have hne : p.block ≠ g := by
      have : p.block < B := hb
      omega
    exact ⟨by obtain ⟨⟨x, hu⟩, _⟩ := h4 j hj; exact ⟨x, by rw [World.cell?_setCell_far _ _ _ _ hne]; exact hu⟩, by simpa using (h4 j hj).2⟩
  | held B vs =>
    obtain ⟨g, h1, h2, h3, h4⟩ := h
    refine ⟨g, h1, h2, by simpa using h3, fun j hj => ?_⟩
    have hne : p.block ≠ g := by
      have : p.block < B := hb
      omega
    exact ⟨by rw [World.cell?_setCell_far _ _ _ _ hne]; exact (h4 j hj).1, by simpa using (h4 j hj).2⟩
  | old B cs =>
    intro c hc
    exact ⟨by rw [World.cell?_setCell_other _ _ _ _ (ho c hc)]; exact (h c hc).1, (h c hc).2⟩
theorem Kd.off_new {k : Kd} {B : Nat} {p : Addr} {W : World} {v : Value} (hp : B ≤ p.block) (h : k.ok W v) (hB : ∀ B' cs, k = .old B' cs → B' ≤ B) : Kd.off p k := by
  cases k with
  | old B' cs =>
    intro c hc e
    have h1 := (h c hc).2
    have h2 := hB _ _ rfl
    rw [← e] at h1
    omega
  | _ => trivial

/-- What a region keeps of the world: cells that nothing writes, cells that may be written, and all that lay below the call's start. -/
structure Sy (w : World) (B : Nat) (cs : List (Addr × Value)) (fs : List Addr) (W : World) : Prop where
  cells : ∀ c ∈ cs, W.cell? c.1 = some c.2
  free : ∀ p ∈ fs, (∃ u, W.cell? p = some u) ∧ W.frozen? p = false
  lt : ∀ c ∈ cs, c.1.block < B
  size : B ≤ W.heap.size
  above : w.heap.size ≤ B
  below : Below w.heap.size w W
theorem Sy.call {w : World} {B : Nat} {cs : List (Addr × Value)} {fs : List Addr} {W w' : World} (hb : Below W.heap.size W w') (h : Sy w B cs fs W) : Sy w B cs fs w' := by
  refine ⟨fun c hc => by rw [hb.cell (Nat.lt_of_lt_of_le (h.lt c hc) h.size)]; exact h.cells c hc, fun p hp => ?_, h.lt, Nat.le_trans h.size hb.size, h.above, h.below.trans (hb.mono (Nat.le_trans h.above h.size))⟩
  obtain ⟨⟨u, hu⟩, hf⟩ := h.free p hp
  have hl := World.block_lt_of_cell? _ _ hu
  exact ⟨⟨u, by rw [hb.cell hl]; exact hu⟩, by rw [hb.frozen hl]; exact hf⟩
theorem Sy.set {w : World} {B : Nat} {cs : List (Addr × Value)} {fs : List Addr} {W : World} {p : Addr} {u : Value} (hp : w.heap.size ≤ p.block) (hne : ∀ c ∈ cs, p ≠ c.1) (h : Sy w B cs fs W) : Sy w B cs fs (W.setCell p u) := by
  refine ⟨fun c hc => by rw [World.cell?_setCell_other _ _ _ _ (hne c hc)]; exact h.cells c hc, fun q hq => ?_, h.lt, by simpa using h.size, h.above, h.below.setCell hp _⟩
  obtain ⟨⟨x, hu⟩, hf⟩ := h.free q hq
  refine ⟨?_, by simpa using hf⟩
  by_cases c : p = q
  · subst c; exact ⟨u, World.cell?_setCell_same _ _ _ hu⟩
  · exact ⟨x, by rw [World.cell?_setCell_other _ _ _ _ c]; exact hu⟩
theorem Sy.set_new {w : World} {B : Nat} {cs : List (Addr × Value)} {fs : List Addr} {W : World} {p : Addr} {u : Value} (hp : B ≤ p.block) (h : Sy w B cs fs W) : Sy w B cs fs (W.setCell p u) :=
  h.set (Nat.le_trans h.above hp) (fun c hc e => by have := h.lt c hc; rw [← e] at this; omega)
theorem Sy.drew {w : World} {B : Nat} {cs : List (Addr × Value)} {fs : List Addr} {W : World} (h : Sy w B cs fs W) : Sy w B cs fs W.drew :=
  ⟨h.cells, h.free, h.lt, h.size, h.above, ⟨h.below.os, h.below.tape, h.below.output, h.below.size, h.below.block⟩⟩
theorem Sy.mk_of {w : World} {B : Nat} {cs : List (Addr × Value)} {fs : List Addr} {W : World} (hB : W.heap.size = B) (hc : ∀ c ∈ cs, W.cell? c.1 = some c.2) (hf : ∀ p ∈ fs, (∃ u, W.cell? p = some u) ∧ W.frozen? p = false) (hb : Below w.heap.size w W) : Sy w B cs fs W :=
  ⟨hc, hf, fun c h => by rw [← hB]; exact World.block_lt_of_cell? _ _ (hc c h), by omega, by rw [← hB]; exact hb.size, hb⟩

theorem kd_new {B k : Nat} {W : World} {o : Array Value} {t : TypeId} (hB : B ≤ W.heap.size) (hk : o.size = k) : (Kd.own B k).ok (W.alloc (.cells o t)) (.pointer (some ⟨W.heap.size, 0, none⟩)) := by
  refine ⟨_, rfl, hB, by simp, fun j hj => ?_⟩
  have hn := heap_alloc_new W (.cells o t)
  refine ⟨⟨o.getD j undef, ?_⟩, ?_⟩
  · rw [cell_of_row _ _ j o t (0, 0) hn]
    simp [Array.getD_eq_getD_getElem?, Array.getElem?_eq_getElem (show j < o.size by omega)]
  · exact frozen_of_row _ _ j o t hn
theorem arr_eq {t : Array Value} {n : Nat} (h : t.size = n) : t = ((List.range n).map (fun k => t.getD k undef)).toArray := by
  subst h
  apply Array.ext
  · simp
  · intro i h1 h2
    simp [Array.getD_eq_getD_getElem?, Array.getElem?_eq_getElem h1]
theorem ev_const (a : Act) : ∀ v, a.eval (.const v) = v := fun _ => rfl
theorem ev_func (a : Act) : ∀ f, a.eval (.func f) = .func (.func f) #[] #[] := fun _ => rfl
theorem quo_in {a n : Int} (h0 : 0 ≤ a) (h1 : a ≤ 9223372036854775807) (hn : 1 ≤ n) : IntKind.i64.wrap (a.tdiv n) = a / n := by
  rw [Int.tdiv_eq_ediv_of_nonneg h0]
  have := Int.ediv_nonneg h0 (show 0 ≤ n by omega)
  have := Int.ediv_le_self n h0
  exact IntWalk.i64_in _ (by omega)
theorem rem_in {a n : Int} (h0 : 0 ≤ a) (hn : 1 ≤ n) : a.tmod n = a % n := Int.tmod_eq_emod_of_nonneg h0
theorem int_in {n : Int} (h : -9223372036854775808 ≤ n ∧ n ≤ 9223372036854775807) : IntKind.i64.wrap n = n := IntWalk.i64_in _ h
theorem cell_al {w : World} {a : Addr} {v : Value} (o : Obj) (h : w.cell? a = some v) : (w.alloc o).cell? a = some v := by
  rw [World.cell?_alloc_lt _ _ _ (World.block_lt_of_cell? w a h)]; exact h
theorem cell_eq {w : World} {a : Addr} (v : Value) (h : ∃ u, w.cell? a = some u) : (w.setCell a v).cell? a = some v := by
  obtain ⟨u, h⟩ := h; exact World.cell?_setCell_same _ _ _ h
theorem ex_set {w : World} {p a : Addr} (v : Value) (h : ∃ u, w.cell? a = some u) : ∃ u, (w.setCell p v).cell? a = some u := by
  by_cases c : p = a
  · subst c; exact ⟨v, cell_eq v h⟩
  · obtain ⟨u, h⟩ := h; exact ⟨u, by rw [World.cell?_setCell_other _ _ _ _ c]; exact h⟩
theorem ex_al {w : World} {a : Addr} (o : Obj) (h : ∃ u, w.cell? a = some u) : ∃ u, (w.alloc o).cell? a = some u := by
  obtain ⟨u, h⟩ := h; exact ⟨u, cell_al o h⟩
theorem cell_ne {w : World} {p a : Addr} {v : Value} (u : Value) (hp : p ≠ a) (h : w.cell? a = some v) : (w.setCell p u).cell? a = some v := by
  rw [World.cell?_setCell_other _ _ _ _ hp]; exact h
theorem frz_al {w : World} {a : Addr} (o : Obj) (hl : a.block < w.heap.size) (h : w.frozen? a = false) : (w.alloc o).frozen? a = false := by
  rw [(below_alloc_self w o).frozen hl]; exact h
theorem frz_set {w : World} {p a : Addr} (v : Value) (h : w.frozen? a = false) : (w.setCell p v).frozen? a = false := by simpa using h
theorem ne_off {b b' o o' : Nat} (h : o ≠ o') : (⟨b, o, none⟩ : Addr) ≠ ⟨b', o', none⟩ := fun e => by injection e with e1 e2; exact h e2
theorem ne_blk {b b' o o' : Nat} (h : ¬ b = b') : (⟨b, o, none⟩ : Addr) ≠ ⟨b', o', none⟩ := fun e => by injection e with e1 e2; exact h e1
theorem fa0 {α : Type} {p : α → Prop} : ∀ c ∈ ([] : List α), p c := fun c hc => by cases hc
theorem fa {α : Type} {p : α → Prop} {a : α} {l : List α} (h : p a) (t : ∀ c ∈ l, p c) : ∀ c ∈ a :: l, p c := fun c hc => by
  cases hc with
  | head => exact h
  | tail _ hc => exact t c hc
/-- Values stored one behind the other, as a struct's store does. -/
def setAll (g : Nat) : Nat → List Value → World → World
  | _, [], W => W
  | o, v :: vs, W => setAll g (o + 1) vs (W.setCell ⟨g, o, none⟩ v)
theorem setAll_size (g : Nat) : ∀ (vs : List Value) (o : Nat) (W : World), (setAll g o vs W).heap.size = W.heap.size := by
  intro vs
  induction vs with
  | nil => intro o W; rfl
  | cons v vs ih => intro o W; rw [setAll, ih]; simp
theorem setAll_frozen (g : Nat) (p : Addr) : ∀ (vs : List Value) (o : Nat) (W : World), (setAll g o vs W).frozen? p = W.frozen? p := by
  intro vs
  induction vs with
  | nil => intro o W; rfl
  | cons v vs ih => intro o W; rw [setAll, ih]; simp
theorem setAll_other (g : Nat) (p : Addr) : ∀ (vs : List Value) (o : Nat) (W : World), (p.block ≠ g ∨ p.off < o ∨ o + vs.length ≤ p.off) → (setAll g o vs W).cell? p = W.cell? p := by
  intro vs
  induction vs with
  | nil => intro o W _; rfl
  | cons v vs ih =>
    intro o W h
    have h2 : p.block ≠ g ∨ p.off < o + 1 ∨ o + 1 + vs.length ≤ p.off := by simp at h; omega
    rw [setAll, ih _ _ h2]
    refine World.cell?_setCell_other _ _ _ _ (fun e => ?_)
    subst e
    simp at h
    omega
theorem setAll_ex (g : Nat) (p : Addr) : ∀ (vs : List Value) (o : Nat) (W : World), (∃ u, W.cell? p = some u) → ∃ u, (setAll g o vs W).cell? p = some u := by
  intro vs
  induction vs with
  | nil => intro o W h; exact h
  | cons v vs ih => intro o W h; rw [setAll]; exact ih _ _ (ex_set v h)
theorem setAll_at (g : Nat) : ∀ (vs : List Value) (o : Nat) (W : World) (j : Nat), j < vs.length → (∃ u, W.cell? ⟨g, o + j, none⟩ = some u) → (setAll g o vs W).cell? ⟨g, o + j, none⟩ = some (vs.getD j undef) := by
  intro vs
  induction vs with
  | nil => intro o W j h; cases h
  | cons v vs ih =>
    intro o W j hj h
    rw [setAll]
    cases j with
    | zero =>
      rw [setAll_other]
      · exact cell_eq v h
      · exact .inr (.inl (Nat.lt_succ_self _))
    | succ j =>
      have e : o + (j + 1) = o + 1 + j := by omega
      rw [e] at h ⊢
      exact ih _ _ j (by simpa using hj) (ex_set v h)
theorem setAll_below (g : Nat) {B : Nat} {w : World} (hg : B ≤ g) : ∀ (vs : List Value) (o : Nat) (W : World), Below B w W → Below B w (setAll g o vs W) := by
  intro vs
  induction vs with
  | nil => intro o W h; exact h
  | cons v vs ih => intro o W h; rw [setAll]; exact ih _ _ (h.setCell hg _)
theorem Sy.setAll {w : World} {B : Nat} {cs : List (Addr × Value)} {fs : List Addr} {W : World} {g o : Nat} {vs : List Value} (hp : w.heap.size ≤ g) (hne : ∀ c ∈ cs, c.1.block ≠ g ∨ c.1.off < o ∨ o + vs.length ≤ c.1.off) (h : Sy w B cs fs W) : Sy w B cs fs (setAll g o vs W) := by
  refine ⟨fun c hc => by rw [setAll_other _ _ _ _ _ (hne c hc)]; exact h.cells c hc, fun q hq => ?_, h.lt, by rw [setAll_size]; exact h.size, h.above, setAll_below g hp vs o W h.below⟩
  obtain ⟨hu, hf⟩ := h.free q hq
  exact ⟨setAll_ex _ _ _ _ _ hu, by rw [setAll_frozen]; exact hf⟩
theorem Sy.setAll_new {w : World} {B : Nat} {cs : List (Addr × Value)} {fs : List Addr} {W : World} {g o : Nat} {vs : List Value} (hp : B ≤ g) (h : Sy w B cs fs W) : Sy w B cs fs (Go.Proofs.Ytninagdclibmnaa.setAll g o vs W) :=
  h.setAll (Nat.le_trans h.above hp) (fun c hc => .inl (fun e => by have := h.lt c hc; rw [e] at this; omega))
def Kd.offA (g o n : Nat) : Kd → Prop
  | .old _ cs => ∀ c ∈ cs, c.1.block ≠ g ∨ c.1.off < o ∨ o + n ≤ c.1.off
  | _ => True
theorem Kd.ok_setAll_new {k : Kd} {W : World} {v : Value} {g o : Nat} {vs : List Value} (hk : k.isHeld = false) (hB : ∀ B' cs, k = .old B' cs → B' ≤ g) (h : k.ok W v) : k.ok (setAll g o vs W) v := by
  cases k with
  | any => trivial
  | val u => exact h
  | own B n =>
    obtain ⟨b, h1, h2, h3, h4⟩ := h
    exact ⟨b, h1, h2, by rw [setAll_size]; exact h3, fun j hj => ⟨setAll_ex _ _ _ _ _ (h4 j hj).1, by rw [setAll_frozen]; exact (h4 j hj).2⟩⟩
  | held B vs => cases hk
  | old B cs =>
    intro c hc
    have h1 := hB _ _ rfl
    have h2 := (h c hc).2
    exact ⟨by rw [setAll_other _ _ _ _ _ (.inl (by omega))]; exact (h c hc).1, h2⟩
theorem Kd.ok_setAll_old {k : Kd} {W : World} {v : Value} {g o : Nat} {vs : List Value} (hb : k.at_ g) (ho : Kd.offA g o vs.length k) (h : k.ok W v) : k.ok (setAll g o vs W) v := by
  cases k with
  | any => trivial
  | val u => exact h
  | own B n =>
    obtain ⟨b, h1, h2, h3, h4⟩ := h
    exact ⟨b, h1, h2, by rw [setAll_size]; exact h3, fun j hj => ⟨setAll_ex _ _ _ _ _ (h4 j hj).1, by rw [setAll_frozen]; exact (h4 j hj).2⟩⟩
  | held B us =>
    obtain ⟨b, h1, h2, h3, h4⟩ := h
    have hg : g < B := hb
    exact ⟨b, h1, h2, by rw [setAll_size]; exact h3, fun j hj => ⟨by rw [setAll_other _ _ _ _ _ (.inl (show b ≠ g by omega))]; exact (h4 j hj).1, by rw [setAll_frozen]; exact (h4 j hj).2⟩⟩
  | old B cs =>
    intro c hc
    exact ⟨by rw [setAll_other _ _ _ _ _ (ho c hc)]; exact (h c hc).1, (h c hc).2⟩
theorem kd_held {B g : Nat} {W : World} {v : Value} {vs : List Value} (hB : B ≤ g) (hl : g < W.heap.size) (hv : v = .pointer (some ⟨g, 0, none⟩)) (h : ∀ j, j < vs.length → (∃ u, W.cell? ⟨g, j, none⟩ = some u) ∧ W.frozen? ⟨g, j, none⟩ = false) : (Kd.held B vs).ok (setAll g 0 vs W) v := by
  refine ⟨g, hv, hB, by rw [setAll_size]; exact hl, fun j hj => ⟨?_, by rw [setAll_frozen]; exact (h j hj).2⟩⟩
  have h1 := (h j hj).1
  have e : 0 + j = j := Nat.zero_add j
  have h2 := setAll_at g vs 0 W j hj (by rw [e]; exact h1)
  rw [e] at h2; exact h2
theorem far_blk {b g o o0 n : Nat} {v : Value} (h : ¬ b = g) : ((⟨b, o, none⟩ : Addr), v).1.block ≠ g ∨ ((⟨b, o, none⟩ : Addr), v).1.off < o0 ∨ o0 + n ≤ ((⟨b, o, none⟩ : Addr), v).1.off := .inl h
theorem far_off {b g o o0 n : Nat} {v : Value} (h : o < o0 ∨ o0 + n ≤ o) : ((⟨b, o, none⟩ : Addr), v).1.block ≠ g ∨ ((⟨b, o, none⟩ : Addr), v).1.off < o0 ∨ o0 + n ≤ ((⟨b, o, none⟩ : Addr), v).1.off := .inr h
end Go.Proofs.Ytninagdclibmnaa
