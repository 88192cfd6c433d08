/-
  The law FnExactHalvingProof: for every input the call returns true and the input reads as it did. No condition.
-/
import Derived.Test.YtninagdclibmnaaRows
import Derived.Test.YtninagdclibmnaaLawHp
import Derived.WalkKit
import Derived.ProofKit
import Derived.OpenShut
import Derived.Lib.SmallJoins
import Derived.Test.YtninagdclibmnaaPost
namespace Go.Proofs.Ytninagdclibmnaa.fnExactHalvingProof
open Go.ChangeShapes Go.WideShapes Go.ChangeAt Go.RowKit Go.Joins
set_option linter.unusedVariables false

theorem own : ownKnob Try.prog.godebug = none := by kernel_rfl
theorem walk (Fa : Int) (wFa : (Lit.int .i64 Fa).wf = true) (Fb : Int) (wFb : (Lit.int .i64 Fb).wf = true) (Fc : Int) (wFc : (Lit.int .i64 Fc).wf = true) (k : Int) (wk : (Lit.int .i64 k).wf = true) (W : World) :
    Calls Try.prog 9 #[.agg #[.int .i64 Fa, .int .i64 Fb, .int .i64 Fc], .int .i64 k] W fun e w' => e = .returned (.bool true) ∧ Below W.heap.size W w' :=
  lawHalvingProof (Fa, Fb, Fc) k W ⟨(i64_wf wFa), (i64_wf wFb), (i64_wf wFc)⟩

set_option maxRecDepth 100000 in
theorem lifted (os : Os) (started : os.Started) (H : Type) (enc : TypeId × Value → H) :
    ReturnsInHanded {} Try.checked os 9 .any (Rows.fnExactHalvingProofSpec.pre6 enc Try.prog Try.f9 Rows.fnExactHalvingProofRow.domain false) (Rows.fnExactHalvingProofSpec.post enc Try.prog Try.f9 false true false false) := by
  refine returnsInHanded_of_change (C := Try.checked) own started (by kernel_rfl) Try.func9
    (ChangeSpec.witness6 (enc := enc) (C := Try.checked) false ⟨#[], #[.agg #[.int .i64 0, .int .i64 0, .int .i64 0], .int .i64 0], []⟩ 8 (by kernel_rfl) (by kernel_rfl) (by kernel_rfl) (by kernel_rfl)) ?_
  intro W base args ds gs before hval0 hW hcnd _
  have hval : ∀ (j : Nat) t v, Try.f9.params[j]? = some t → args[j]? = some v → Value.okWide Try.prog W .any base t v := hval0
  have hW' := hW
  obtain ⟨p, q, hA0, hV, rfl, hfz, hnd⟩ := hW
  have hA : DataW.TrodAll enc Try.prog W 0 (fun _ => true) true Try.f9.params.toList args.toList ds p := hA0
  rw [Try.params9] at hA hval
  obtain ⟨v0, vs0, d0, ds0, p0, q0, hargs, rfl, rfl, h0, r0⟩ := trodAll_cons hA
  obtain ⟨v1, vs1, d1, ds1, p1, q1, hargs1, rfl, rfl, h1, r1⟩ := trodAll_cons r0
  obtain ⟨rfl, rfl, rfl⟩ := trodAll_nil r1
  obtain rfl : args = #[v0, v1] := by cases args; simp_all
  obtain ⟨rfl, rfl⟩ := trodVars_none hV
  obtain ⟨c00, c01, c02, y00, y01, y02, m0, rfl, rfl, rfl, hy00, hy01, hy02⟩ := open_agg3 Try.underlying23 (by kernel_rfl) (by kernel_rfl) (hval 0 23 v0 rfl rfl) h0
  obtain ⟨Fa, e00, rfl, wFa⟩ := DataW.trod_int Try.underlying3 hy00
  obtain ⟨Fb, e01, rfl, wFb⟩ := DataW.trod_int Try.underlying3 hy01
  obtain ⟨Fc, e02, rfl, wFc⟩ := DataW.trod_int Try.underlying3 hy02
  simp at e00 e01 e02
  subst e00 e01 e02
  obtain ⟨k, rfl, rfl, rfl, wk⟩ := open_int Try.underlying3 (hval 1 3 v1 rfl rfl) h1
  clear hA0 hval0
  simp only [List.append_nil] at hW'
  refine (walk Fa wFa Fb wFb Fc wFc k wk W).mono fun e W' ⟨he, hg⟩ => ?_
  subst he
  exact ⟨_, rfl, post_of_below (pa := []) (pv := []) hW' (fun _ _ _ => (trodAll_cons_mk (shut_bool Try.underlying4 _) trodAll_mk0)) (fun sp _ => (trodAll_cons_mk (shut_agg3 (y0 := (.lit (.int .i64 Fa), [])) (y1 := (.lit (.int .i64 Fb), [])) (y2 := (.lit (.int .i64 Fc), [])) Try.underlying23 (by kernel_rfl) (by kernel_rfl) ⟨1, by simp [DataW.trod, Try.underlying3, wFa]⟩ ⟨1, by simp [DataW.trod, Try.underlying3, wFb]⟩ ⟨1, by simp [DataW.trod, Try.underlying3, wFc]⟩) (trodAll_cons_mk (shut_int Try.underlying3 wk) trodAll_mk0))) (fun _ _ => rfl) rfl
    hg (ok_one (by kernel_rfl) rfl (okWide_bool_mk Try.underlying4 _))⟩

theorem enter : Try.pinned.checked.prog.mayEnter = true := by kernel_rfl
theorem lifts : (Rows.fnExactHalvingProofRow.lifted == Try.pinned.checked.prog.liftsFinal) = true := by kernel_rfl
theorem make : (Try.pinned.checked.prog.make == some Rows.fnExactHalvingProofRow.make) = true := by kernel_rfl
theorem closed : joinedFacts Try.pinned.checked.prog 9 Try.f9 Rows.fnExactHalvingProofSpec Rows.fnExactHalvingProofRow = true := by
  unfold joinedFacts
  rw [enter, lifts, make]
  kernel_rfl
theorem inst : (Try.f9).isInstance Try.pinned.checked.prog Rows.fnExactHalvingProofRow.origin Rows.fnExactHalvingProofRow.targs := of_decide_eq_true (by kernel_rfl)
theorem wrap : (Try.f9).isWrapper Try.pinned.checked.prog Rows.fnExactHalvingProofRow.wrapper Rows.fnExactHalvingProofRow.mainSum := by
  unfold Func.isWrapper; first | (rw [if_pos (by decide +kernel)]; kernel_rfl) | (rw [if_neg (by decide +kernel)]; exact ⟨rfl, rfl⟩)
theorem over : Rows.fnExactHalvingProofRow.holds Try.pinned (OpenSpec.ofChange Rows.fnExactHalvingProofSpec) :=
  OpenClaim.holds_of_wide 9 Try.f9 rfl rfl rfl rfl rfl rfl rfl ⟨rfl, rfl, rfl, rfl, rfl⟩ rfl rfl rfl rfl rfl (by kernel_rfl) Try.func9 closed inst wrap
    (fun os started H enc _ => lifted os started H enc)

theorem proved : Rows.FnExactHalvingProofSaid :=
  over
#print axioms proved
end Go.Proofs.Ytninagdclibmnaa.fnExactHalvingProof
