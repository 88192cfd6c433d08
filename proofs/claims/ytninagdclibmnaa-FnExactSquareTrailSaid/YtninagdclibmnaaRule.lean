/-
  The invariant rule for a drawn region, its operations one behind the other. Plain law over any program.
-/
import Derived.Test.YtninagdclibmnaaRegion3
import Derived.Test.YtninagdclibmnaaKd
namespace Go.Proofs.Ytninagdclibmnaa
open Go.RowKit
set_option linter.unusedVariables false
set_option linter.unusedSimpArgs false

section
variable {P : Program} {ops : Array Oper} {Q : Exit → Act → World → Prop}
/-- Does no operation write the slot? -/
def fixB (ops : Array Oper) (t : Nat) : Bool := (List.range ops.size).all fun i => !(dstOf ops i == some t)
theorem fix_of {t : Nat} (h : fixB ops t = true) : ∀ i, i < ops.size → dstOf ops i ≠ some t := by
  intro i hi e
  unfold fixB at h
  rw [List.all_eq_true] at h
  have := h i (List.mem_range.2 hi)
  rw [e] at this
  simp at this
theorem dep_of {i j : Nat} (h : (depsOf ops i).contains j = true) : j ∈ depsOf ops i := by simpa using h
def OwesN (P : Program) (ops : Array Oper) (Q : Exit → Act → World → Prop) (a0 : Act) (slot : Nat → Nat) (g : Nat → World → Value → Prop) (S : World → Prop) (i : Nat) (o : Oper) : Prop :=
  ∀ (a : Act) (w : World) (K : Act → World → Prop), (∀ t, (h : fixB ops t = true := by decide +kernel) → tau a t = tau a0 t) → S w → (∀ j, (h : (depsOf ops i).contains j = true := by decide +kernel) → g j w (tau a (slot j))) → (∀ v, a.eval (.const v) = v) → (∀ f, a.eval (.func f) = .func (.func f) #[] #[]) →
    (∀ v w', S w' → g i w' (if o.dst = some (slot i) then v else tau a (slot i)) → (∀ j u, j ≠ i → g j w u → g j w' u) → K (a.put o.dst v) w') → o.wp P a w K Q
def OwesL (P : Program) (ops : Array Oper) (Q : Exit → Act → World → Prop) (a0 : Act) (slot : Nat → Nat) (g : Nat → World → Value → Prop) (S : World → Prop) (run : Nat → Bool) : List Oper → Nat → Prop
  | [], _ => True
  | o :: l, i => (run i = true → OwesN P ops Q a0 slot g S i o) ∧ OwesL P ops Q a0 slot g S run l (i + 1)
theorem owesL_at {a0 : Act} {slot : Nat → Nat} {g : Nat → World → Value → Prop} {S : World → Prop} {run : Nat → Bool} : ∀ (l : List Oper) (k : Nat), OwesL P ops Q a0 slot g S run l k → ∀ i o, l[i]? = some o → run (k + i) = true → OwesN P ops Q a0 slot g S (k + i) o := by
  intro l
  induction l with
  | nil => intro k h i o ho; simp at ho
  | cons o l ih =>
    intro k h i o' ho hr
    cases i with
    | zero =>
      have e : o = o' := by simpa using ho
      subst e
      exact h.1 hr
    | succ i =>
      have e : k + (i + 1) = k + 1 + i := by omega
      rw [e] at hr ⊢
      exact ih (k + 1) h.2 i o' (by simpa using ho) hr
theorem region_n {id : Nat} {a0 : Act} {w0 : World} (hm : P.follows .mixedOrders = true) (slot : Nat → Nat) (g : Nat → World → Value → Prop) (S : World → Prop) (run : Nat → Bool) (hok : regionOk ops slot = true) (hslot : ∀ j, j < ops.size → slot j < a0.tmps.size)
    (hrun : ∀ i o, ops[i]? = some o → ∀ (a : Act) (w : World), (∀ j ∈ depsOf ops i, g j w (tau a (slot j))) → Region.wanted o (yielded ops a.tmps) = run i)
    (skip : ∀ i o, ops[i]? = some o → run i = false → o.dst = some (slot i) ∧ ∀ w, S w → g i w undef)
    (hS : S w0.drew) (ob : OwesL P ops Q a0 slot g S run ops.toList 0)
    (done : ∀ a w, a.defers = a0.defers → a.tmps.size = a0.tmps.size → (∀ t, (h : fixB ops t = true := by decide +kernel) → tau a t = tau a0 t) → S w → (∀ j, j < ops.size → g j w (tau a (slot j))) → Q .normal a w) :
    (Code.region id ops true).wp P Q a0 w0 :=
  region_inv2 hm slot g S run hok hslot hrun hS (fun i o ho hr a w K hf hs hd _ hk => by
      have h := owesL_at ops.toList 0 ob i o (by simpa using ho) (by rw [Nat.zero_add]; exact hr)
      rw [Nat.zero_add] at h
      exact h a w K (fun t ht => hf t (fix_of ht)) hs (fun j hj => hd j (dep_of hj)) (ev_const a) (ev_func a) hk) skip
    (fun a w h1 h2 h3 h4 h5 => done a w h1 h2 (fun t ht => h3 t (fix_of ht)) h4 h5)
theorem hrun_none {slot : Nat → Nat} {g : Nat → World → Value → Prop} (hg : (ops.all fun o => o.guard.isNone) = true) : ∀ i o, ops[i]? = some o → ∀ (a : Act) (w : World), (∀ j ∈ depsOf ops i, g j w (tau a (slot j))) → Region.wanted o (yielded ops a.tmps) = true :=
  fun i o ho a w _ => wanted_free (by
    rw [Array.all_eq_true'] at hg
    exact Option.isNone_iff_eq_none.1 (hg o (by rw [Array.mem_iff_getElem?]; exact ⟨i, ho⟩)))
/-- No guards. -/
theorem region_n0 {id : Nat} {a0 : Act} {w0 : World} (hm : P.follows .mixedOrders = true) (slot : Nat → Nat) (g : Nat → World → Value → Prop) (S : World → Prop) (hg : (ops.all fun o => o.guard.isNone) = true) (hok : regionOk ops slot = true) (hslot : ∀ j, j < ops.size → slot j < a0.tmps.size)
    (hS : S w0.drew) (ob : OwesL P ops Q a0 slot g S (fun _ => true) ops.toList 0)
    (done : ∀ a w, a.defers = a0.defers → a.tmps.size = a0.tmps.size → (∀ t, (h : fixB ops t = true := by decide +kernel) → tau a t = tau a0 t) → S w → (∀ j, j < ops.size → g j w (tau a (slot j))) → Q .normal a w) :
    (Code.region id ops true).wp P Q a0 w0 :=
  region_n hm slot g S (fun _ => true) hok hslot (hrun_none hg) (fun i o ho h => by cases h) hS ob done
/- The same where an operation reads what another one will write: pre. -/
def OwesN3 (P : Program) (ops : Array Oper) (Q : Exit → Act → World → Prop) (a0 : Act) (slot : Nat → Nat) (g : Nat → World → Value → Prop) (S : World → Prop) (pre : Nat → World → Prop) (i : Nat) (o : Oper) : Prop :=
  ∀ (a : Act) (w : World) (K : Act → World → Prop), (∀ t, (h : fixB ops t = true := by decide +kernel) → tau a t = tau a0 t) → S w → (∀ j, (h : (depsOf ops i).contains j = true := by decide +kernel) → g j w (tau a (slot j))) → (∀ v, a.eval (.const v) = v) → (∀ f, a.eval (.func f) = .func (.func f) #[] #[]) → pre i w → (∀ j, (h : (decide (j < ops.size) && (depsOf ops j).contains i) = true := by decide +kernel) → pre j w) →
    (∀ v w', S w' → g i w' (if o.dst = some (slot i) then v else tau a (slot i)) → (∀ j u, j ≠ i → g j w u → g j w' u) → (∀ j, j ≠ i → pre j w → pre j w') → K (a.put o.dst v) w') → o.wp P a w K Q
def OwesL3 (P : Program) (ops : Array Oper) (Q : Exit → Act → World → Prop) (a0 : Act) (slot : Nat → Nat) (g : Nat → World → Value → Prop) (S : World → Prop) (pre : Nat → World → Prop) (run : Nat → Bool) : List Oper → Nat → Prop
  | [], _ => True
  | o :: l, i => (run i = true → OwesN3 P ops Q a0 slot g S pre i o) ∧ OwesL3 P ops Q a0 slot g S pre run l (i + 1)
theorem owesL3_at {a0 : Act} {slot : Nat → Nat} {g : Nat → World → Value → Prop} {S : World → Prop} {pre : Nat → World → Prop} {run : Nat → Bool} : ∀ (l : List Oper) (k : Nat), OwesL3 P ops Q a0 slot g S pre run l k → ∀ i o, l[i]? = some o → run (k + i) = true → OwesN3 P ops Q a0 slot g S pre (k + i) o := by
  intro l
  induction l with
  | nil => intro k h i o ho; simp at ho
  | cons o l ih =>
    intro k h i o' ho hr
    cases i with
    | zero =>
      have e : o = o' := by simpa using ho
      subst e
      exact h.1 hr
    | succ i =>
      have e : k + (i + 1) = k + 1 + i := by omega
      rw [e] at hr ⊢
      exact ih (k + 1) h.2 i o' (by simpa using ho) hr
theorem region_n3 {id : Nat} {a0 : Act} {w0 : World} (hm : P.follows .mixedOrders = true) (slot : Nat → Nat) (g : Nat → World → Value → Prop) (S : World → Prop) (pre : Nat → World → Prop) (run : Nat → Bool) (hok : regionOk ops slot = true) (hslot : ∀ j, j < ops.size → slot j < a0.tmps.size)
    (hrun : ∀ i o, ops[i]? = some o → ∀ (a : Act) (w : World), (∀ j ∈ depsOf ops i, g j w (tau a (slot j))) → Region.wanted o (yielded ops a.tmps) = run i)
    (skip : ∀ i o, ops[i]? = some o → run i = false → o.dst = some (slot i) ∧ ∀ w, S w → g i w undef)
    (hS : S w0.drew) (hpre : ∀ j, j < ops.size → pre j w0.drew) (ob : OwesL3 P ops Q a0 slot g S pre run ops.toList 0)
    (done : ∀ a w, a.defers = a0.defers → a.tmps.size = a0.tmps.size → (∀ t, (h : fixB ops t = true := by decide +kernel) → tau a t = tau a0 t) → S w → (∀ j, j < ops.size → g j w (tau a (slot j))) → Q .normal a w) :
    (Code.region id ops true).wp P Q a0 w0 :=
  region_inv3 hm slot g S pre run hok hslot hrun hS hpre (fun i o ho hr a w K hf hs hd _ hp hpj hk => by
      have h := owesL3_at ops.toList 0 ob i o (by simpa using ho) (by rw [Nat.zero_add]; exact hr)
      rw [Nat.zero_add] at h
      exact h a w K (fun t ht => hf t (fix_of ht)) hs (fun j hj => hd j (dep_of hj)) (ev_const a) (ev_func a) hp (fun j hj => by
        rw [Bool.and_eq_true] at hj
        exact hpj j (of_decide_eq_true hj.1) (dep_of hj.2)) hk) skip
    (fun a w h1 h2 h3 h4 h5 => done a w h1 h2 (fun t ht => h3 t (fix_of ht)) h4 h5)
end
end Go.Proofs.Ytninagdclibmnaa
