/-
  A drawn region by an invariant, where an operation may lean on what holds as long as another one that waits for it is still to come. Plain law over any program.
-/
import Derived.Test.YtninagdclibmnaaRegion
namespace Go.Proofs.Ytninagdclibmnaa
open Go.RowKit
set_option linter.unusedVariables false
set_option linter.unusedSimpArgs false

section
variable {P : Program} {ops : Array Oper} {Q : Exit → Act → World → Prop}

/-! The same, where an operation may lean on what holds as long as another one that waits for it is still to come. -/
structure Inv3 (ops : Array Oper) (a0 : Act) (slot : Nat → Nat) (g : Nat → World → Value → Prop) (S : World → Prop) (pre : Nat → World → Prop) (l : Array Bool) (a : Act) (w : World) : Prop where
  size : l.size = ops.size
  defers : a.defers = a0.defers
  width : a.tmps.size = a0.tmps.size
  fixed : ∀ t, (∀ i, i < ops.size → dstOf ops i ≠ some t) → tau a t = tau a0 t
  keeps : S w
  good : ∀ j, l.getD j false = true → g j w (tau a (slot j))
  early : ∀ j, j < ops.size → l.getD j false = false → pre j w
  closed : ∀ j, l.getD j false = true → ∀ e ∈ depsOf ops j, l.getD e false = true

/-- What one operation owes. -/
def Owes3 (P : Program) (ops : Array Oper) (Q : Exit → Act → World → Prop) (a0 : Act) (slot : Nat → Nat) (g : Nat → World → Value → Prop) (S : World → Prop) (pre : Nat → World → Prop) (i : Nat) (o : Oper) : Prop :=
  ∀ (a : Act) (w : World) (K : Act → World → Prop), (∀ t, (∀ i, i < ops.size → dstOf ops i ≠ some t) → tau a t = tau a0 t) → S w → (∀ j ∈ depsOf ops i, g j w (tau a (slot j))) → a.tmps.size = a0.tmps.size → pre i w → (∀ j, j < ops.size → i ∈ depsOf ops j → pre j w) →
    (∀ v w', S w' → g i w' (if o.dst = some (slot i) then v else tau a (slot i)) → (∀ j u, j ≠ i → g j w u → g j w' u) → (∀ j, j ≠ i → pre j w → pre j w') → K (a.put o.dst v) w') → o.wp P a w K Q

theorem inv_step3 {a0 : Act} {slot : Nat → Nat} {g : Nat → World → Value → Prop} {S : World → Prop} {pre : Nat → World → Prop} (hok : regionOk ops slot = true) (hslot : ∀ j, j < ops.size → slot j < a0.tmps.size)
    {l : Array Bool} {a : Act} {w w' : World} {i : Nat} {o : Oper} {v : Value} (hI : Inv3 ops a0 slot g S pre l a w) (ho : ops[i]? = some o) (h1 : i < ops.size) (h2' : l.getD i false = false) (h3 : ∀ e ∈ depsOf ops i, l.getD e false = true)
    (hS : S w') (hgi : g i w' (if o.dst = some (slot i) then v else tau a (slot i))) (hst : ∀ j u, j ≠ i → g j w u → g j w' u) (hpr : ∀ j, j ≠ i → pre j w → pre j w') :
    Inv3 ops a0 slot g S pre (l.setIfInBounds i true) (a.put o.dst v) w' := by
  obtain ⟨_, hd, hw⟩ := ok_dep hok h1
  have hls : i < l.size := by rw [hI.size]; exact h1
  have hdst : dstOf ops i = o.dst := by unfold dstOf; rw [ho]; rfl
  refine ⟨?_, ?_, ?_, ?_, hS, ?_, ?_, ?_⟩
  · simpa using hI.size
  · rw [put_defers]; exact hI.defers
  · rw [put_width]; exact hI.width
  · intro t ht
    rw [tau_put_ne (by rw [← hdst]; exact ht i h1)]
    exact hI.fixed t ht
  · intro j hj
    rw [getD_set hls] at hj
    by_cases c : j = i
    · subst c
      by_cases e : o.dst = some (slot j)
      · rw [if_pos e] at hgi
        rw [e, tau_put_eq (by rw [hI.width]; exact hslot j h1)]
        exact hgi
      · rw [if_neg e] at hgi
        rw [tau_put_ne e]
        exact hgi
    · rw [if_neg c] at hj
      have hj9 : j < ops.size := by
        by_cases q : j < l.size
        · rw [← hI.size]; exact q
        · simp [Array.getD_eq_getD_getElem?, Array.getElem?_eq_none (by omega : l.size ≤ j)] at hj
      have hne : o.dst ≠ some (slot j) := fun e => by
        rcases hw j hj9 (by rw [hdst]; exact e) with q | q
        · exact c q.symm
        · have := hI.closed j hj i q
          rw [h2'] at this; cases this
      rw [tau_put_ne hne]
      exact hst j _ c (hI.good j hj)
  · intro j hj hl
    rw [getD_set hls] at hl
    by_cases c : j = i
    · rw [if_pos c] at hl; cases hl
    · rw [if_neg c] at hl; exact hpr j c (hI.early j hj hl)
  · intro j hj e he
    rw [getD_set hls] at hj ⊢
    by_cases q : e = i
    · rw [if_pos q]
    · rw [if_neg q]
      by_cases c : j = i
      · subst c; exact h3 e he
      · rw [if_neg c] at hj; exact hI.closed j hj e he

theorem any_inv3 {a0 : Act} {slot : Nat → Nat} {g : Nat → World → Value → Prop} {S : World → Prop} {pre : Nat → World → Prop} (run : Nat → Bool) (hok : regionOk ops slot = true) (hslot : ∀ j, j < ops.size → slot j < a0.tmps.size)
    (hrun : ∀ i o, ops[i]? = some o → ∀ (a : Act) (w : World), (∀ j ∈ depsOf ops i, g j w (tau a (slot j))) → Region.wanted o (yielded ops a.tmps) = run i)
    (ob : ∀ i o, ops[i]? = some o → run i = true → Owes3 P ops Q a0 slot g S pre i o)
    (skip : ∀ i o, ops[i]? = some o → run i = false → o.dst = some (slot i) ∧ ∀ w, S w → g i w undef)
    (done : ∀ a w, a.defers = a0.defers → a.tmps.size = a0.tmps.size → (∀ t, (∀ i, i < ops.size → dstOf ops i ≠ some t) → tau a t = tau a0 t) → S w → (∀ j, j < ops.size → g j w (tau a (slot j))) → Q .normal a w) :
    ∀ fuel l a w, Inv3 ops a0 slot g S pre l a w → cnt l ops.size + fuel = ops.size → wpAny P .any ops Q fuel l a w := by
  intro fuel
  induction fuel with
  | zero =>
    intro l a w hI hc
    have hall := cnt_full (l := l) (n := ops.size) (by omega)
    refine ⟨?_, done a w hI.defers hI.width hI.fixed hI.keeps (fun j hj => hI.good j (hall j hj))⟩
    cases hr : Region.ready .any ops l with
    | nil => rfl
    | cons i is =>
      exfalso
      obtain ⟨h1, h2, _⟩ := ready_mem (l := l) (i := i) (by rw [hr]; exact List.mem_cons_self)
      have h3 := hall i h1
      simp only [Array.getD_eq_getD_getElem?] at h2 h3
      rw [Array.getElem?_eq_getElem (by rw [hI.size]; exact h1)] at h2 h3
      simp at h2 h3
      rw [h2] at h3; cases h3
  | succ fuel ih =>
    intro l a w hI hc
    refine ⟨fun hr => ?_, fun i hi => ?_⟩
    · have hall := all_listed hok hI.size hr ops.size (Nat.le_refl _)
      exact done a w hI.defers hI.width hI.fixed hI.keeps (fun j hj => hI.good j (hall j hj))
    · obtain ⟨h1, h2, h3⟩ := ready_mem hi
      obtain ⟨⟨o, ho⟩, hd, hw⟩ := ok_dep hok h1
      have hls : i < l.size := by rw [hI.size]; exact h1
      have h2' : l.getD i false = false := by
        simp only [Array.getD_eq_getD_getElem?] at h2 ⊢
        rw [Array.getElem?_eq_getElem hls] at h2 ⊢
        simpa using h2
      have hwant := hrun i o ho a w (fun j hj => hI.good j (h3 j hj))
      have hcnt : cnt (l.setIfInBounds i true) ops.size + fuel = ops.size := by rw [cnt_set hls h2', if_pos h1]; omega
      unfold wpOp
      rw [ho]
      cases hr : run i
      · rw [hr] at hwant
        simp only [hwant, Bool.false_eq_true, if_false]
        obtain ⟨hd1, hd2⟩ := skip i o ho hr
        refine ih _ _ _ (inv_step3 hok hslot hI ho h1 h2' h3 hI.keeps ?_ (fun j u _ h => h) (fun j _ h => h)) hcnt
        rw [if_pos hd1]
        exact hd2 w hI.keeps
      · rw [hr] at hwant
        simp only [hwant, if_true]
        left
        refine ob i o ho hr a w _ hI.fixed hI.keeps (fun j hj => hI.good j (h3 j hj)) hI.width (hI.early i h1 h2') (fun j hj hd2 => hI.early j hj (by
          cases q : l.getD j false
          · rfl
          · have := hI.closed j q i hd2
            rw [h2'] at this; cases this)) ?_
        intro v w' hS hgi hst hpr
        exact ih _ _ _ (inv_step3 hok hslot hI ho h1 h2' h3 hS hgi hst hpr) hcnt

/-- A drawn region, by an invariant, with what holds ahead of each operation. -/
theorem region_inv3 {id : Nat} {a0 : Act} {w0 : World} (hm : P.follows .mixedOrders = true) (slot : Nat → Nat) (g : Nat → World → Value → Prop) (S : World → Prop) (pre : Nat → World → Prop) (run : Nat → Bool) (hok : regionOk ops slot = true) (hslot : ∀ j, j < ops.size → slot j < a0.tmps.size)
    (hrun : ∀ i o, ops[i]? = some o → ∀ (a : Act) (w : World), (∀ j ∈ depsOf ops i, g j w (tau a (slot j))) → Region.wanted o (yielded ops a.tmps) = run i)
    (hS : S w0.drew) (hpre : ∀ j, j < ops.size → pre j w0.drew) (ob : ∀ i o, ops[i]? = some o → run i = true → Owes3 P ops Q a0 slot g S pre i o)
    (skip : ∀ i o, ops[i]? = some o → run i = false → o.dst = some (slot i) ∧ ∀ w, S w → g i w undef)
    (done : ∀ a w, a.defers = a0.defers → a.tmps.size = a0.tmps.size → (∀ t, (∀ i, i < ops.size → dstOf ops i ≠ some t) → tau a t = tau a0 t) → S w → (∀ j, j < ops.size → g j w (tau a (slot j))) → Q .normal a w) :
    (Code.region id ops true).wp P Q a0 w0 := by
  refine wp_region_any hm ?_
  have hz : ∀ j, (Array.replicate ops.size false).getD j false = false := fun j => by
    simp only [Array.getD_eq_getD_getElem?, Array.getElem?_replicate]
    split <;> rfl
  refine any_inv3 run hok hslot hrun ob skip done ops.size _ a0 _ ⟨by simp, rfl, rfl, fun _ _ => rfl, hS, fun j hj => ?_, fun j hj _ => hpre j hj, fun j hj => ?_⟩ ?_
  · rw [hz] at hj; cases hj
  · rw [hz] at hj; cases hj
  · have : cnt (Array.replicate ops.size false) ops.size = 0 := by
      unfold cnt
      rw [List.countP_eq_zero]
      intro j _
      rw [hz]; simp
    omega
end
end Go.Proofs.Ytninagdclibmnaa
