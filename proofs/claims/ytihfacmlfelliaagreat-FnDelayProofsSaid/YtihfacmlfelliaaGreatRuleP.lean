/- The invariant rule for a drawn region without guards that makes two blocks: that they are two. Plain law over any program. -/
import Derived.Test.YtihfacmlfelliaaGreatRule
namespace Go.Proofs.YtihfacmlfelliaaGreat
open Go.RowKit
set_option linter.unusedVariables false
set_option linter.unusedSimpArgs false

section
variable {P : Program} {ops : Array Oper} {Q : Exit → Act → World → Prop}
structure PairOk (p q : Nat) (a : Act) (w : World) : Prop where
 l : ∀ b o, tau a p = .pointer (some ⟨b, o, none⟩) → b < w.heap.size
 r : ∀ b o, tau a q = .pointer (some ⟨b, o, none⟩) → b < w.heap.size
 ne : ∀ b o b' o', tau a p = .pointer (some ⟨b, o, none⟩) → tau a q = .pointer (some ⟨b', o', none⟩) → b ≠ b'
 wp : p < a.tmps.size
 wq : q < a.tmps.size
theorem PairOk.put {p q : Nat} {a : Act} {w w' : World} {d : Option Nat} {v : Value} (h : PairOk p q a w) (hp : d ≠ some p) (hq : d ≠ some q) (hs : w.heap.size ≤ w'.heap.size) : PairOk p q (a.put d v) w' := by
 refine ⟨?_, ?_, ?_, by rw [put_width]; exact h.wp, by rw [put_width]; exact h.wq⟩
 ·intro b o e; rw [tau_put_ne hp] at e; have := h.l b o e; omega
 ·intro b o e; rw [tau_put_ne hq] at e; have := h.r b o e; omega
 ·intro b o b' o' e e'; rw [tau_put_ne hp] at e; rw [tau_put_ne hq] at e'; exact h.ne b o b' o' e e'
theorem PairOk.left {p q : Nat} {a : Act} {w w' : World} (h : PairOk p q a w) (hpq : p ≠ q) (hs : w.heap.size < w'.heap.size) : PairOk p q (a.put (some p) (.pointer (some ⟨w.heap.size, 0, none⟩))) w' := by
 have e1 := tau_put_eq (v := .pointer (some ⟨w.heap.size, 0, none⟩)) h.wp
 have e2 : tau (a.put (some p) (.pointer (some ⟨w.heap.size, 0, none⟩))) q = tau a q := tau_put_ne (fun e => hpq (by cases e; rfl))
 refine ⟨?_, ?_, ?_, by rw [put_width]; exact h.wp, by rw [put_width]; exact h.wq⟩
 ·intro b o e; rw [e1] at e; cases e; exact hs
 ·intro b o e; rw [e2] at e; have := h.r b o e; omega
 ·intro b o b' o' e e'; rw [e1] at e; rw [e2] at e'; cases e; have := h.r b' o' e'; omega
theorem PairOk.right {p q : Nat} {a : Act} {w w' : World} (h : PairOk p q a w) (hpq : p ≠ q) (hs : w.heap.size < w'.heap.size) : PairOk p q (a.put (some q) (.pointer (some ⟨w.heap.size, 0, none⟩))) w' := by
 have e1 := tau_put_eq (v := .pointer (some ⟨w.heap.size, 0, none⟩)) h.wq
 have e2 : tau (a.put (some q) (.pointer (some ⟨w.heap.size, 0, none⟩))) p = tau a p := tau_put_ne (fun e => hpq (by cases e; rfl))
 refine ⟨?_, ?_, ?_, by rw [put_width]; exact h.wp, by rw [put_width]; exact h.wq⟩
 ·intro b o e; rw [e2] at e; have := h.l b o e; omega
 ·intro b o e; rw [e1] at e; cases e; exact hs
 ·intro b o b' o' e e'; rw [e2] at e; rw [e1] at e'; cases e'; have := h.l b o e; omega
theorem PairOk.start {p q : Nat} {a : Act} {w : World} (h1 : tau a p = undef) (h2 : tau a q = undef) (wp : p < a.tmps.size) (wq : q < a.tmps.size) : PairOk p q a w :=
 ⟨fun b o e => (by rw [h1] at e; cases e), fun b o e => (by rw [h2] at e; cases e), fun b o b' o' e => (by rw [h1] at e; cases e), wp, wq⟩
theorem held_far {B gn o : Nat} {vs ws : List Value} {W : World} {v : Value} (h : (Kd.held B vs).ok W v) (hne : ∀ b, v = .pointer (some ⟨b, 0, none⟩) → gn ≠ b) : (Kd.held B vs).ok (setAll gn o ws W) v := by
 obtain ⟨b, h1, h2, h3, h4⟩ := h
 have hb := hne b h1
 exact ⟨b, h1, h2, by rw [setAll_size]; exact h3, fun j hj => ⟨by rw [setAll_other _ _ _ _ _ (.inl (fun e => hb e.symm))]; exact (h4 j hj).1, by rw [setAll_frozen]; exact (h4 j hj).2⟩⟩
def OwesP (P : Program) (ops : Array Oper) (Q : Exit → Act → World → Prop) (a0 : Act) (slot : Nat → Nat) (g : Nat → World → Value → Prop) (S : World → Prop) (R : Act → World → Prop) (i : Nat) (o : Oper) : Prop :=
 ∀ (a : Act) (w : World) (K : Act → World → Prop), (∀ t, (∀ i, i < ops.size → dstOf ops i ≠ some t) → tau a t = tau a0 t) → S w → R a w → (∀ j ∈ depsOf ops i, g j w (tau a (slot j))) →
  (∀ v w', S w' → g i w' (if o.dst = some (slot i) then v else tau a (slot i)) → (∀ j u, j ≠ i → u = tau a (slot j) → g j w u → g j w' u) → R (a.put o.dst v) w' → K (a.put o.dst v) w') → o.wp P a w K Q
theorem inv_stepP {a0 : Act} {slot : Nat → Nat} {g : Nat → World → Value → Prop} {S : World → Prop} (hok : regionOk ops slot = true) (hslot : ∀ j, j < ops.size → slot j < a0.tmps.size)
  {l : Array Bool} {a : Act} {w w' : World} {i : Nat} {o : Oper} {v : Value} (hI : Inv ops a0 slot g S l a w) (ho : ops[i]? = some o) (h1 : i < ops.size) (h2' : l.getD i false = false) (h3 : ∀ e ∈ depsOf ops i, l.getD e false = true)
  (hS : S w') (hgi : g i w' (if o.dst = some (slot i) then v else tau a (slot i))) (hst : ∀ j u, j ≠ i → u = tau a (slot j) → g j w u → g j w' u) :
  Inv ops a0 slot g S (l.setIfInBounds i true) (a.put o.dst v) w' := by
 obtain ⟨_, hd, hw⟩ := ok_dep hok h1
 have hls : i < l.size := by rw [hI.size]; exact h1
 have hdst : dstOf ops i = o.dst := by unfold dstOf; rw [ho]; rfl
 refine ⟨?_, ?_, ?_, ?_, hS, ?_, ?_⟩
 ·simpa using hI.size
 ·rw [put_defers]; exact hI.defers
 ·rw [put_width]; exact hI.width
 ·intro t ht
  rw [tau_put_ne (by rw [← hdst]; exact ht i h1)]
  exact hI.fixed t ht
 ·intro j hj
  rw [getD_set hls] at hj
  by_cases c : j = i
  ·subst c
   by_cases e : o.dst = some (slot j)
   ·rw [if_pos e] at hgi
    rw [e, tau_put_eq (by rw [hI.width]; exact hslot j h1)]
    exact hgi
   ·rw [if_neg e] at hgi
    rw [tau_put_ne e]
    exact hgi
  ·rw [if_neg c] at hj
   have hj9 : j < ops.size := by
    by_cases q : j < l.size
    ·rw [← hI.size]; exact q
    ·simp [Array.getD_eq_getD_getElem?, Array.getElem?_eq_none (by omega : l.size ≤ j)] at hj
   have hne : o.dst ≠ some (slot j) := fun e => by
    rcases hw j hj9 (by rw [hdst]; exact e) with q | q
    ·exact c q.symm
    ·have := hI.closed j hj i q
     rw [h2'] at this; cases this
   rw [tau_put_ne hne]
   exact hst j _ c rfl (hI.good j hj)
 ·intro j hj e he
  rw [getD_set hls] at hj ⊢
  by_cases q : e = i
  ·rw [if_pos q]
  ·rw [if_neg q]
   by_cases c : j = i
   ·subst c; exact h3 e he
   ·rw [if_neg c] at hj; exact hI.closed j hj e he

theorem any_invP {a0 : Act} {slot : Nat → Nat} {g : Nat → World → Value → Prop} {S : World → Prop} {R : Act → World → Prop} (hok : regionOk ops slot = true) (hslot : ∀ j, j < ops.size → slot j < a0.tmps.size)
  (hrun : ∀ (i : Nat) (o : Oper), ops[i]? = some o → ∀ (a : Act) (w : World), Region.wanted o (yielded ops a.tmps) = true)
  (ob : ∀ (i : Nat) (o : Oper), ops[i]? = some o → OwesP P ops Q a0 slot g S R i o)
  (done : ∀ a w, a.defers = a0.defers → a.tmps.size = a0.tmps.size → (∀ t, (∀ i, i < ops.size → dstOf ops i ≠ some t) → tau a t = tau a0 t) → S w → R a w → (∀ j, j < ops.size → g j w (tau a (slot j))) → Q .normal a w) :
  ∀ fuel l a w, Inv ops a0 slot g S l a w → R a w → cntR l ops.size + fuel = ops.size → wpAny P .any ops Q fuel l a w := by
 intro fuel
 induction fuel with
 | zero =>
  intro l a w hI hR hc
  have hall := cnt_full (l := l) (n := ops.size) (by omega)
  refine ⟨?_, done a w hI.defers hI.width hI.fixed hI.keeps hR (fun j hj => hI.good j (hall j hj))⟩
  cases hr : Region.ready .any ops l with
  | nil => rfl
  | cons i is =>
   exfalso
   obtain ⟨h1, h2, _⟩ := ready_mem (l := l) (i := i) (by rw [hr]; exact List.mem_cons_self)
   have h3 := hall i h1
   simp only [Array.getD_eq_getD_getElem?] at h2 h3
   rw [Array.getElem?_eq_getElem (by rw [hI.size]; exact h1)] at h2 h3
   simp at h2 h3
   rw [h2] at h3; cases h3
 | succ fuel ih =>
  intro l a w hI hR hc
  refine ⟨fun hr => ?_, fun i hi => ?_⟩
  ·have hall := all_listed hok hI.size hr ops.size (Nat.le_refl _)
   exact done a w hI.defers hI.width hI.fixed hI.keeps hR (fun j hj => hI.good j (hall j hj))
  ·obtain ⟨h1, h2, h3⟩ := ready_mem hi
   obtain ⟨⟨o, ho⟩, hd, hw⟩ := ok_dep hok h1
   have hls : i < l.size := by rw [hI.size]; exact h1
   have h2' : l.getD i false = false := by
    simp only [Array.getD_eq_getD_getElem?] at h2 ⊢
    rw [Array.getElem?_eq_getElem hls] at h2 ⊢
    simpa using h2
   have hwant := hrun i o ho a w
   have hcnt : cntR (l.setIfInBounds i true) ops.size + fuel = ops.size := by rw [cnt_set hls h2', if_pos h1]; omega
   unfold wpOp
   rw [ho]
   simp only [hwant, if_true]
   left
   refine ob i o ho a w _ hI.fixed hI.keeps hR (fun j hj => hI.good j (h3 j hj)) ?_
   intro v w' hS hgi hst hR'
   exact ih _ _ _ (inv_stepP hok hslot hI ho h1 h2' h3 hS hgi hst) hR' hcnt
def OwesNP (P : Program) (ops : Array Oper) (Q : Exit → Act → World → Prop) (a0 : Act) (slot : Nat → Nat) (g : Nat → World → Value → Prop) (S : World → Prop) (R : Act → World → Prop) (i : Nat) (o : Oper) : Prop :=
 ∀ (a : Act) (w : World) (K : Act → World → Prop), (∀ t, (h : fixB ops t = true := by decide +kernel) → tau a t = tau a0 t) → S w → R a w → (∀ j, (h : (depsOf ops i).contains j = true := by decide +kernel) → g j w (tau a (slot j))) → (∀ v, a.eval (.const v) = v) → (∀ f, a.eval (.func f) = .func (.func f) #[] #[]) →
  (∀ v w', S w' → g i w' (if o.dst = some (slot i) then v else tau a (slot i)) → (∀ j u, j ≠ i → u = tau a (slot j) → g j w u → g j w' u) → R (a.put o.dst v) w' → K (a.put o.dst v) w') → o.wp P a w K Q
def OwesLP (P : Program) (ops : Array Oper) (Q : Exit → Act → World → Prop) (a0 : Act) (slot : Nat → Nat) (g : Nat → World → Value → Prop) (S : World → Prop) (R : Act → World → Prop) : List Oper → Nat → Prop
 | [], _ => True
 | o :: l, i => (true = true → OwesNP P ops Q a0 slot g S R i o) ∧ OwesLP P ops Q a0 slot g S R l (i + 1)
theorem owesLP_at {a0 : Act} {slot : Nat → Nat} {g : Nat → World → Value → Prop} {S : World → Prop} {R : Act → World → Prop} : ∀ (l : List Oper) (k : Nat), OwesLP P ops Q a0 slot g S R l k → ∀ i o, l[i]? = some o → OwesNP P ops Q a0 slot g S R (k + i) o := by
 intro l
 induction l with
 | nil => intro k h i o ho; simp at ho
 | cons o l ih =>
  intro k h i o' ho
  cases i with
  | zero =>
   have e : o = o' := by simpa using ho
   subst e
   exact h.1 rfl
  | succ i =>
   have e : k + (i + 1) = k + 1 + i := by omega
   rw [e]
   exact ih (k + 1) h.2 i o' (by simpa using ho)
theorem region_p0 {id : Nat} {a0 : Act} {w0 : World} (hm : P.follows .mixedOrders = true) (slot : Nat → Nat) (g : Nat → World → Value → Prop) (S : World → Prop) (p q : Nat) (hg : (ops.all fun o => o.guard.isNone) = true) (hok : regionOk ops slot = true) (hP : PairOk p q a0 w0.drew) (hslot : ∀ j, j < ops.size → slot j < a0.tmps.size)
  (hS : S w0.drew) (ob : OwesLP P ops Q a0 slot g S (PairOk p q) ops.toList 0)
  (done : ∀ a w, PairOk p q a w → a.defers = a0.defers → a.tmps.size = a0.tmps.size → (∀ t, (h : fixB ops t = true := by decide +kernel) → tau a t = tau a0 t) → S w → (∀ j, j < ops.size → g j w (tau a (slot j))) → Q .normal a w) :
  (Code.region id ops true).wp P Q a0 w0 := by
 refine wp_region_any hm ?_
 have hz : ∀ j, (Array.replicate ops.size false).getD j false = false := fun j => by
  simp only [Array.getD_eq_getD_getElem?, Array.getElem?_replicate]
  split <;> rfl
 refine any_invP hok hslot (fun i o ho a w => wanted_free (by
  rw [Array.all_eq_true'] at hg
  exact Option.isNone_iff_eq_none.1 (hg o (by rw [Array.mem_iff_getElem?]; exact ⟨i, ho⟩)))) (R := PairOk p q) ?_ (fun a w h1 h2 h3 h4 h5 h6 => done a w h5 h1 h2 (fun t ht => h3 t (fix_of ht)) h4 h6) ops.size _ a0 _ ⟨by simp, rfl, rfl, fun _ _ => rfl, hS, fun j hj => ?_, fun j hj => ?_⟩ hP ?_
 ·intro i o ho a w K hf hs hr hd hk
  have h := owesLP_at ops.toList 0 ob i o (by simpa using ho)
  rw [Nat.zero_add] at h
  exact h a w K (fun t ht => hf t (fix_of ht)) hs hr (fun j hj => hd j (dep_of hj)) (ev_const a) (ev_func a) hk
 ·rw [hz] at hj; cases hj
 ·rw [hz] at hj; cases hj
 ·have : cntR (Array.replicate ops.size false) ops.size = 0 := by
   unfold cntR
   rw [List.countP_eq_zero]
   intro j _
   rw [hz]; simp
  omega
end
end Go.Proofs.YtihfacmlfelliaaGreat
