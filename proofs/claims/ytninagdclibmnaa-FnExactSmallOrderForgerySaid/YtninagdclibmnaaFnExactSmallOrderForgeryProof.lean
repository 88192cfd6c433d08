/-
  The law FnExactSmallOrderForgery: for every input the call returns true and the input reads as it did. No condition.
-/
import Derived.Test.YtninagdclibmnaaRows
import Derived.Test.YtninagdclibmnaaLawSof
import Derived.WalkKit
import Derived.ProofKit
import Derived.OpenShut
import Derived.Lib.SmallJoins
import Derived.Test.YtninagdclibmnaaPost
namespace Go.Proofs.Ytninagdclibmnaa.fnExactSmallOrderForgery
open Go.ChangeShapes Go.WideShapes Go.ChangeAt Go.RowKit Go.Joins
set_option linter.unusedVariables false

theorem own : ownKnob Try.prog.godebug = none := by kernel_rfl
theorem walk (Fa : Int) (wFa : (Lit.int .i64 Fa).wf = true) (Fb : Int) (wFb : (Lit.int .i64 Fb).wf = true) (Fc : Int) (wFc : (Lit.int .i64 Fc).wf = true) (t : Int) (wt : (Lit.int .i64 t).wf = true) (Wa : Int) (wWa : (Lit.int .i64 Wa).wf = true) (Wb : Int) (wWb : (Lit.int .i64 Wb).wf = true) (Wc : Int) (wWc : (Lit.int .i64 Wc).wf = true) (W : World) :
    Calls Try.prog 11 #[.agg #[.int .i64 Fa, .int .i64 Fb, .int .i64 Fc], .int .i64 t, .agg #[.int .i64 Wa, .int .i64 Wb, .int .i64 Wc]] W fun e w' => e = .returned (.bool true) ∧ Below W.heap.size W w' :=
  lawSmallOrderForgery (Fa, Fb, Fc) t (Wa, Wb, Wc) W ⟨(i64_wf wFa), (i64_wf wFb), (i64_wf wFc)⟩ ⟨(i64_wf wWa), (i64_wf wWb), (i64_wf wWc)⟩

set_option maxRecDepth 100000 in
theorem lifted (os : Os) (started : os.Started) (H : Type) (enc : TypeId × Value → H) :
    ReturnsInHanded {} Try.checked os 11 .any (Rows.fnExactSmallOrderForgerySpec.pre6 enc Try.prog Try.f11 Rows.fnExactSmallOrderForgeryRow.domain false) (Rows.fnExactSmallOrderForgerySpec.post enc Try.prog Try.f11 false true false false) := by
  refine returnsInHanded_of_change (C := Try.checked) own started (by kernel_rfl) Try.func11
    (ChangeSpec.witness6 (enc := enc) (C := Try.checked) false ⟨#[], #[.agg #[.int .i64 0, .int .i64 0, .int .i64 0], .int .i64 0, .agg #[.int .i64 0, .int .i64 0, .int .i64 0]], []⟩ 8 (by kernel_rfl) (by kernel_rfl) (by kernel_rfl) (by kernel_rfl)) ?_
  intro W base args ds gs before hval0 hW hcnd _
  have hval : ∀ (j : Nat) t v, Try.f11.params[j]? = some t → args[j]? = some v → Value.okWide Try.prog W .any base t v := hval0
  have hW' := hW
  obtain ⟨p, q, hA0, hV, rfl, hfz, hnd⟩ := hW
  have hA : DataW.TrodAll enc Try.prog W 0 (fun _ => true) true Try.f11.params.toList args.toList ds p := hA0
  rw [Try.params11] at hA hval
  obtain ⟨v0, vs0, d0, ds0, p0, q0, hargs, rfl, rfl, h0, r0⟩ := trodAll_cons hA
  obtain ⟨v1, vs1, d1, ds1, p1, q1, hargs1, rfl, rfl, h1, r1⟩ := trodAll_cons r0
  obtain ⟨v2, vs2, d2, ds2, p2, q2, hargs2, rfl, rfl, h2, r2⟩ := trodAll_cons r1
  obtain ⟨rfl, rfl, rfl⟩ := trodAll_nil r2
  obtain rfl : args = #[v0, v1, v2] := by cases args; simp_all
  obtain ⟨rfl, rfl⟩ := trodVars_none hV
  obtain ⟨c00, c01, c02, y00, y01, y02, m0, rfl, rfl, rfl, hy00, hy01, hy02⟩ := open_agg3 Try.underlying23 (by kernel_rfl) (by kernel_rfl) (hval 0 23 v0 rfl rfl) h0
  obtain ⟨Fa, e00, rfl, wFa⟩ := DataW.trod_int Try.underlying3 hy00
  obtain ⟨Fb, e01, rfl, wFb⟩ := DataW.trod_int Try.underlying3 hy01
  obtain ⟨Fc, e02, rfl, wFc⟩ := DataW.trod_int Try.underlying3 hy02
  simp at e00 e01 e02
  subst e00 e01 e02
  obtain ⟨t, rfl, rfl, rfl, wt⟩ := open_int Try.underlying3 (hval 1 3 v1 rfl rfl) h1
  obtain ⟨c20, c21, c22, y20, y21, y22, m2, rfl, rfl, rfl, hy20, hy21, hy22⟩ := open_agg3 Try.underlying23 (by kernel_rfl) (by kernel_rfl) (hval 2 23 v2 rfl rfl) h2
  obtain ⟨Wa, e20, rfl, wWa⟩ := DataW.trod_int Try.underlying3 hy20
  obtain ⟨Wb, e21, rfl, wWb⟩ := DataW.trod_int Try.underlying3 hy21
  obtain ⟨Wc, e22, rfl, wWc⟩ := DataW.trod_int Try.underlying3 hy22
  simp at e20 e21 e22
  subst e20 e21 e22
  clear hA0 hval0
  simp only [List.append_nil] at hW'
  refine (walk Fa wFa Fb wFb Fc wFc t wt Wa wWa Wb wWb Wc wWc W).mono fun e W' ⟨he, hg⟩ => ?_
  subst he
  exact ⟨_, rfl, post_of_below (pa := []) (pv := []) hW' (fun _ _ _ => (trodAll_cons_mk (shut_bool Try.underlying4 _) trodAll_mk0)) (fun sp _ => (trodAll_cons_mk (shut_agg3 (y0 := (.lit (.int .i64 Fa), [])) (y1 := (.lit (.int .i64 Fb), [])) (y2 := (.lit (.int .i64 Fc), [])) Try.underlying23 (by kernel_rfl) (by kernel_rfl) ⟨1, by simp [DataW.trod, Try.underlying3, wFa]⟩ ⟨1, by simp [DataW.trod, Try.underlying3, wFb]⟩ ⟨1, by simp [DataW.trod, Try.underlying3, wFc]⟩) (trodAll_cons_mk (shut_int Try.underlying3 wt) (trodAll_cons_mk (shut_agg3 (y0 := (.lit (.int .i64 Wa), [])) (y1 := (.lit (.int .i64 Wb), [])) (y2 := (.lit (.int .i64 Wc), [])) Try.underlying23 (by kernel_rfl) (by kernel_rfl) ⟨1, by simp [DataW.trod, Try.underlying3, wWa]⟩ ⟨1, by simp [DataW.trod, Try.underlying3, wWb]⟩ ⟨1, by simp [DataW.trod, Try.underlying3, wWc]⟩) trodAll_mk0)))) (fun _ _ => rfl) rfl
    hg (ok_one (by kernel_rfl) rfl (okWide_bool_mk Try.underlying4 _))⟩

theorem enter : Try.pinned.checked.prog.mayEnter = true := by kernel_rfl
theorem lifts : (Rows.fnExactSmallOrderForgeryRow.lifted == Try.pinned.checked.prog.liftsFinal) = true := by kernel_rfl
theorem make : (Try.pinned.checked.prog.make == some Rows.fnExactSmallOrderForgeryRow.make) = true := by kernel_rfl
theorem closed : joinedFacts Try.pinned.checked.prog 11 Try.f11 Rows.fnExactSmallOrderForgerySpec Rows.fnExactSmallOrderForgeryRow = true := by
  unfold joinedFacts
  rw [enter, lifts, make]
  kernel_rfl
theorem inst : (Try.f11).isInstance Try.pinned.checked.prog Rows.fnExactSmallOrderForgeryRow.origin Rows.fnExactSmallOrderForgeryRow.targs := of_decide_eq_true (by kernel_rfl)
theorem wrap : (Try.f11).isWrapper Try.pinned.checked.prog Rows.fnExactSmallOrderForgeryRow.wrapper Rows.fnExactSmallOrderForgeryRow.mainSum := by
  unfold Func.isWrapper; first | (rw [if_pos (by decide +kernel)]; kernel_rfl) | (rw [if_neg (by decide +kernel)]; exact ⟨rfl, rfl⟩)
theorem over : Rows.fnExactSmallOrderForgeryRow.holds Try.pinned (OpenSpec.ofChange Rows.fnExactSmallOrderForgerySpec) :=
  OpenClaim.holds_of_wide 11 Try.f11 rfl rfl rfl rfl rfl rfl rfl ⟨rfl, rfl, rfl, rfl, rfl⟩ rfl rfl rfl rfl rfl (by kernel_rfl) Try.func11 closed inst wrap
    (fun os started H enc _ => lifted os started H enc)

theorem proved : Rows.FnExactSmallOrderForgerySaid :=
  over
#print axioms proved
end Go.Proofs.Ytninagdclibmnaa.fnExactSmallOrderForgery
