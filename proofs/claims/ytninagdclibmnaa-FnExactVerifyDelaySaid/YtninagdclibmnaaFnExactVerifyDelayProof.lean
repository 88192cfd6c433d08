/- The law FnExactVerifyDelay: for every input the call returns true and the input reads as it did. No condition. -/
import Derived.Test.YtninagdclibmnaaRows
import Derived.Test.YtninagdclibmnaaLawVd
import Derived.WalkKit
import Derived.ProofKit
import Derived.OpenShut
import Derived.Lib.SmallJoins
import Derived.Test.YtninagdclibmnaaPost
namespace Go.Proofs.Ytninagdclibmnaa.fnExactVerifyDelay
open Go.ChangeShapes Go.WideShapes Go.ChangeAt Go.RowKit Go.Joins
set_option linter.unusedVariables false

theorem own : ownKnob Try.prog.godebug = none := by kernel_rfl
theorem walk (Fa : Int) (wFa : (Lit.int .i64 Fa).wf = true) (Fb : Int) (wFb : (Lit.int .i64 Fb).wf = true) (Fc : Int) (wFc : (Lit.int .i64 Fc).wf = true) (Ga : Int) (wGa : (Lit.int .i64 Ga).wf = true) (Gb : Int) (wGb : (Lit.int .i64 Gb).wf = true) (Gc : Int) (wGc : (Lit.int .i64 Gc).wf = true) (t : Int) (wt : (Lit.int .i64 t).wf = true) (Pa : Int) (wPa : (Lit.int .i64 Pa).wf = true) (Pb : Int) (wPb : (Lit.int .i64 Pb).wf = true) (Pc : Int) (wPc : (Lit.int .i64 Pc).wf = true) (W : World) :
    Calls Try.prog 8 #[.agg #[.int .i64 Fa, .int .i64 Fb, .int .i64 Fc], .agg #[.int .i64 Ga, .int .i64 Gb, .int .i64 Gc], .int .i64 t, .agg #[.int .i64 Pa, .int .i64 Pb, .int .i64 Pc]] W fun e w' => e = .returned (.bool true) ∧ Below W.heap.size W w' :=
  lawVerifyDelay (Fa, Fb, Fc) (Ga, Gb, Gc) (Pa, Pb, Pc) t W ⟨(i64_wf wFa), (i64_wf wFb), (i64_wf wFc)⟩ ⟨(i64_wf wGa), (i64_wf wGb), (i64_wf wGc)⟩ ⟨(i64_wf wPa), (i64_wf wPb), (i64_wf wPc)⟩

set_option maxRecDepth 100000 in
theorem lifted (os : Os) (started : os.Started) (H : Type) (enc : TypeId × Value → H) :
    ReturnsInHanded {} Try.checked os 8 .any (Rows.fnExactVerifyDelaySpec.pre6 enc Try.prog Try.f8 Rows.fnExactVerifyDelayRow.domain false) (Rows.fnExactVerifyDelaySpec.post enc Try.prog Try.f8 false true false false) := by
  refine returnsInHanded_of_change (C := Try.checked) own started (by kernel_rfl) Try.func8
    (ChangeSpec.witness6 (enc := enc) (C := Try.checked) false ⟨#[], #[.agg #[.int .i64 0, .int .i64 0, .int .i64 0], .agg #[.int .i64 0, .int .i64 0, .int .i64 0], .int .i64 0, .agg #[.int .i64 0, .int .i64 0, .int .i64 0]], []⟩ 8 (by kernel_rfl) (by kernel_rfl) (by kernel_rfl) (by kernel_rfl)) ?_
  intro W base args ds gs before hval0 hW hcnd _
  have hval : ∀ (j : Nat) t v, Try.f8.params[j]? = some t → args[j]? = some v → Value.okWide Try.prog W .any base t v := hval0
  have hW' := hW
  obtain ⟨p, q, hA0, hV, rfl, hfz, hnd⟩ := hW
  have hA : DataW.TrodAll enc Try.prog W 0 (fun _ => true) true Try.f8.params.toList args.toList ds p := hA0
  rw [Try.params8] at hA hval
  obtain ⟨v0, vs0, d0, ds0, p0, q0, hargs, rfl, rfl, h0, r0⟩ := trodAll_cons hA
  obtain ⟨v1, vs1, d1, ds1, p1, q1, hargs1, rfl, rfl, h1, r1⟩ := trodAll_cons r0
  obtain ⟨v2, vs2, d2, ds2, p2, q2, hargs2, rfl, rfl, h2, r2⟩ := trodAll_cons r1
  obtain ⟨v3, vs3, d3, ds3, p3, q3, hargs3, rfl, rfl, h3, r3⟩ := trodAll_cons r2
  obtain ⟨rfl, rfl, rfl⟩ := trodAll_nil r3
  obtain rfl : args = #[v0, v1, v2, v3] := by cases args; simp_all
  obtain ⟨rfl, rfl⟩ := trodVars_none hV
  obtain ⟨c00, c01, c02, y00, y01, y02, m0, rfl, rfl, rfl, hy00, hy01, hy02⟩ := open_agg3 Try.underlying23 (by kernel_rfl) (by kernel_rfl) (hval 0 23 v0 rfl rfl) h0
  obtain ⟨Fa, e00, rfl, wFa⟩ := DataW.trod_int Try.underlying3 hy00
  obtain ⟨Fb, e01, rfl, wFb⟩ := DataW.trod_int Try.underlying3 hy01
  obtain ⟨Fc, e02, rfl, wFc⟩ := DataW.trod_int Try.underlying3 hy02
  simp at e00 e01 e02
  subst e00 e01 e02
  obtain ⟨c10, c11, c12, y10, y11, y12, m1, rfl, rfl, rfl, hy10, hy11, hy12⟩ := open_agg3 Try.underlying23 (by kernel_rfl) (by kernel_rfl) (hval 1 23 v1 rfl rfl) h1
  obtain ⟨Ga, e10, rfl, wGa⟩ := DataW.trod_int Try.underlying3 hy10
  obtain ⟨Gb, e11, rfl, wGb⟩ := DataW.trod_int Try.underlying3 hy11
  obtain ⟨Gc, e12, rfl, wGc⟩ := DataW.trod_int Try.underlying3 hy12
  simp at e10 e11 e12
  subst e10 e11 e12
  obtain ⟨t, rfl, rfl, rfl, wt⟩ := open_int Try.underlying3 (hval 2 3 v2 rfl rfl) h2
  obtain ⟨c30, c31, c32, y30, y31, y32, m3, rfl, rfl, rfl, hy30, hy31, hy32⟩ := open_agg3 Try.underlying23 (by kernel_rfl) (by kernel_rfl) (hval 3 23 v3 rfl rfl) h3
  obtain ⟨Pa, e30, rfl, wPa⟩ := DataW.trod_int Try.underlying3 hy30
  obtain ⟨Pb, e31, rfl, wPb⟩ := DataW.trod_int Try.underlying3 hy31
  obtain ⟨Pc, e32, rfl, wPc⟩ := DataW.trod_int Try.underlying3 hy32
  simp at e30 e31 e32
  subst e30 e31 e32
  clear hA0 hval0
  simp only [List.append_nil] at hW'
  refine (walk Fa wFa Fb wFb Fc wFc Ga wGa Gb wGb Gc wGc t wt Pa wPa Pb wPb Pc wPc W).mono fun e W' ⟨he, hg⟩ => ?_
  subst he
  exact ⟨_, rfl, post_of_below (pa := []) (pv := []) hW' (fun _ _ _ => (trodAll_cons_mk (shut_bool Try.underlying4 _) trodAll_mk0)) (fun sp _ => (trodAll_cons_mk (shut_agg3 (y0 := (.lit (.int .i64 Fa), [])) (y1 := (.lit (.int .i64 Fb), [])) (y2 := (.lit (.int .i64 Fc), [])) Try.underlying23 (by kernel_rfl) (by kernel_rfl) ⟨1, by simp [DataW.trod, Try.underlying3, wFa]⟩ ⟨1, by simp [DataW.trod, Try.underlying3, wFb]⟩ ⟨1, by simp [DataW.trod, Try.underlying3, wFc]⟩) (trodAll_cons_mk (shut_agg3 (y0 := (.lit (.int .i64 Ga), [])) (y1 := (.lit (.int .i64 Gb), [])) (y2 := (.lit (.int .i64 Gc), [])) Try.underlying23 (by kernel_rfl) (by kernel_rfl) ⟨1, by simp [DataW.trod, Try.underlying3, wGa]⟩ ⟨1, by simp [DataW.trod, Try.underlying3, wGb]⟩ ⟨1, by simp [DataW.trod, Try.underlying3, wGc]⟩) (trodAll_cons_mk (shut_int Try.underlying3 wt) (trodAll_cons_mk (shut_agg3 (y0 := (.lit (.int .i64 Pa), [])) (y1 := (.lit (.int .i64 Pb), [])) (y2 := (.lit (.int .i64 Pc), [])) Try.underlying23 (by kernel_rfl) (by kernel_rfl) ⟨1, by simp [DataW.trod, Try.underlying3, wPa]⟩ ⟨1, by simp [DataW.trod, Try.underlying3, wPb]⟩ ⟨1, by simp [DataW.trod, Try.underlying3, wPc]⟩) trodAll_mk0))))) (fun _ _ => rfl) rfl
    hg (ok_one (by kernel_rfl) rfl (okWide_bool_mk Try.underlying4 _))⟩

theorem enter : Try.pinned.checked.prog.mayEnter = true := by kernel_rfl
theorem lifts : (Rows.fnExactVerifyDelayRow.lifted == Try.pinned.checked.prog.liftsFinal) = true := by kernel_rfl
theorem make : (Try.pinned.checked.prog.make == some Rows.fnExactVerifyDelayRow.make) = true := by kernel_rfl
theorem closed : joinedFacts Try.pinned.checked.prog 8 Try.f8 Rows.fnExactVerifyDelaySpec Rows.fnExactVerifyDelayRow = true := by
  unfold joinedFacts
  rw [enter, lifts, make]
  kernel_rfl
theorem inst : (Try.f8).isInstance Try.pinned.checked.prog Rows.fnExactVerifyDelayRow.origin Rows.fnExactVerifyDelayRow.targs := of_decide_eq_true (by kernel_rfl)
theorem wrap : (Try.f8).isWrapper Try.pinned.checked.prog Rows.fnExactVerifyDelayRow.wrapper Rows.fnExactVerifyDelayRow.mainSum := by
  unfold Func.isWrapper; first | (rw [if_pos (by decide +kernel)]; kernel_rfl) | (rw [if_neg (by decide +kernel)]; exact ⟨rfl, rfl⟩)
theorem over : Rows.fnExactVerifyDelayRow.holds Try.pinned (OpenSpec.ofChange Rows.fnExactVerifyDelaySpec) :=
  OpenClaim.holds_of_wide 8 Try.f8 rfl rfl rfl rfl rfl rfl rfl ⟨rfl, rfl, rfl, rfl, rfl⟩ rfl rfl rfl rfl rfl (by kernel_rfl) Try.func8 closed inst wrap
    (fun os started H enc _ => lifted os started H enc)

theorem proved : Rows.FnExactVerifyDelaySaid :=
  over
#print axioms proved
end Go.Proofs.Ytninagdclibmnaa.fnExactVerifyDelay
