/-
  Delays: the plain values.
-/
import Derived.Test.YtninagdclibmnaaDcB
namespace Go.Proofs.Ytninagdclibmnaa
open Go.RowKit
set_option linter.unusedVariables false
set_option linter.unusedSimpArgs false
attribute [local go_sem] q2 q3 q4 q5 q6 q7 q8 q9 q10 q11 q12

def eqT (X Y : T3) : Bool := decide (X.1 = Y.1) && (decide (X.2.1 = Y.2.1) && decide (X.2.2 = Y.2.2))
theorem eqT_iff {X Y : T3} : eqT X Y = true ↔ X = Y := by
  obtain ⟨a, b, c⟩ := X
  obtain ⟨d, e, f⟩ := Y
  simp [eqT]
def srB (F : T3) (t : Int) : Bool := clB F && tmB t
noncomputable def srV (F : T3) (t : Int) : T3 := if srB F t then sqN (rdT F) t.toNat else (0, 0, 0)
noncomputable def dpL (F G : T3) (t : Int) : Int := chI (dT F) (keyT F) (keyT G) t
noncomputable def dpV (F : T3) (t : Int) : T3 := if srB F t then quD (dT F) F t (dpL F (srV F t) t) else (0, 0, 0)
def vdB (F G : T3) (t : Int) (P : T3) : Bool := trB F G P && tmB t
noncomputable def vdV (F G : T3) (t : Int) (P : T3) : Bool := if vdB F G t P then eqT (cmp (pwD (dT F) P (dpL F G t)) (pwD (dT F) F (pmI 2 t (dpL F G t)))) (rdT G) else false
theorem dpL_bd (F G : T3) (t : Int) : 2 ≤ dpL F G t ∧ dpL F G t ≤ 59 := chI_bd _ _ _ _
theorem isClass_p (F : T3) (w : World) (i : I64T F) : Calls Try.prog 63 #[frm F] w fun e w' => e = .returned (.bool (clB F)) ∧ Below w.heap.size w w' := isClassForm_a _ _ _ w i.1 i.2.1 i.2.2
theorem coGood_p (F : T3) (w : World) : Calls Try.prog 61 #[frm F] w fun e w' => e = .returned (.bool (clB F)) ∧ Below w.heap.size w w' := coGood_a _ _ _ w

/-- A pair whose first part is x. -/
def TupE (x : Value) (w : World) (v : Value) : Prop := ∃ r : Int, v = .tuple #[x, .int .i64 r]
theorem TupE.st {x : Value} : StB (TupE x) := fun _ _ _ _ h => h
theorem ch_rwi (F G : T3) (t : Int) (w : World) (h0 : Frm (dT F) F) (h1 : Frm (dT F) G) (h2 : 0 ≤ t) (h3 : t ≤ 1000000) :
    Calls Try.prog 55 #[frm F, frm G, .int .i64 t] w fun e w' => e = .returned (.int .i64 (dpL F G t)) ∧ Below w.heap.size w w' := challenge_D F G t w h0 h1 h2 h3
theorem ch_rws (F G : T3) (t : Int) (w : World) (h0 : Frm (dT F) F) (h1 : Frm (dT F) G) (h2 : 0 ≤ t) (h3 : t ≤ 1000000) :
    Calls Try.prog 52 #[frm F, frm G, .int .i64 t] w fun e w' => e = .returned (.int .i64 (dpL F G t)) ∧ Below w.heap.size w w' := dlChallenge_D F G t w h0 h1 h2 h3

end Go.Proofs.Ytninagdclibmnaa
