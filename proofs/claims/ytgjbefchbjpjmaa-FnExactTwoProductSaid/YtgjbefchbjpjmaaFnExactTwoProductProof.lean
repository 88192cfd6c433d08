/- The law FnExactTwoProduct: for every input the call returns true and the input reads as it did. No condition. -/
import Derived.Test.YtgjbefchbjpjmaaRows
import Derived.Test.YtgjbefchbjpjmaaLawTwo
import Derived.WalkKit
import Derived.ProofKit
import Derived.OpenShut
import Derived.Lib.SmallJoins
import Derived.Test.YtgjbefchbjpjmaaPost
namespace Go.Proofs.Ytgjbefchbjpjmaa.fnExactTwoProduct
open Go.ChangeShapes Go.WideShapes Go.ChangeAt Go.RowKit Go.Joins
set_option linter.unusedVariables false

theorem own : ownKnob Try.prog.godebug = none := by kernel_rfl
theorem walk (x1 : Int) (wx1 : (Lit.int .i64 x1).wf = true) (y1 : Int) (wy1 : (Lit.int .i64 y1).wf = true) (x2 : Int) (wx2 : (Lit.int .i64 x2).wf = true) (y2 : Int) (wy2 : (Lit.int .i64 y2).wf = true) (W : World) :
    Calls Try.prog 4 #[.agg #[.int .i64 x1, .int .i64 y1], .agg #[.int .i64 x2, .int .i64 y2]] W fun e w' => e = .returned (.bool true) ∧ Below W.heap.size W w' :=
  lawTwoProduct x1 y1 x2 y2 W (i64_wf wx1) (i64_wf wy1) (i64_wf wx2) (i64_wf wy2)

set_option maxRecDepth 100000 in
theorem lifted (os : Os) (started : os.Started) (H : Type) (enc : TypeId × Value → H) :
    ReturnsInHanded {} Try.checked os 4 .any (Rows.fnExactTwoProductSpec.pre6 enc Try.prog Try.f4 Rows.fnExactTwoProductRow.domain false) (Rows.fnExactTwoProductSpec.post enc Try.prog Try.f4 false true false false) := by
  refine returnsInHanded_of_change (C := Try.checked) own started (by kernel_rfl) Try.func4
    (ChangeSpec.witness6 (enc := enc) (C := Try.checked) false ⟨#[], #[.agg #[.int .i64 0, .int .i64 0], .agg #[.int .i64 0, .int .i64 0]], []⟩ 8 (by kernel_rfl) (by kernel_rfl) (by kernel_rfl) (by kernel_rfl)) ?_
  intro W base args ds gs before hval0 hW hcnd _
  have hval : ∀ (j : Nat) t v, Try.f4.params[j]? = some t → args[j]? = some v → Value.okWide Try.prog W .any base t v := hval0
  have hW' := hW
  obtain ⟨p, q, hA0, hV, rfl, hfz, hnd⟩ := hW
  have hA : DataW.TrodAll enc Try.prog W 0 (fun _ => true) true Try.f4.params.toList args.toList ds p := hA0
  rw [Try.params4] at hA hval
  obtain ⟨v0, vs0, d0, ds0, p0, q0, hargs, rfl, rfl, h0, r0⟩ := trodAll_cons hA
  obtain ⟨v1, vs1, d1, ds1, p1, q1, hargs1, rfl, rfl, h1, r1⟩ := trodAll_cons r0
  obtain ⟨rfl, rfl, rfl⟩ := trodAll_nil r1
  obtain rfl : args = #[v0, v1] := by cases args; simp_all
  obtain ⟨rfl, rfl⟩ := trodVars_none hV
  obtain ⟨c00, c01, y00, y01, m0, rfl, rfl, rfl, hy00, hy01⟩ := open_agg2 Try.underlying26 (by kernel_rfl) (by kernel_rfl) (hval 0 26 v0 rfl rfl) h0
  obtain ⟨x1, e00, rfl, wx1⟩ := DataW.trod_int Try.underlying3 hy00
  obtain ⟨y1, e01, rfl, wy1⟩ := DataW.trod_int Try.underlying3 hy01
  simp at e00 e01
  subst e00 e01
  obtain ⟨c10, c11, y10, y11, m1, rfl, rfl, rfl, hy10, hy11⟩ := open_agg2 Try.underlying26 (by kernel_rfl) (by kernel_rfl) (hval 1 26 v1 rfl rfl) h1
  obtain ⟨x2, e10, rfl, wx2⟩ := DataW.trod_int Try.underlying3 hy10
  obtain ⟨y2, e11, rfl, wy2⟩ := DataW.trod_int Try.underlying3 hy11
  simp at e10 e11
  subst e10 e11
  clear hA0 hval0
  simp only [List.append_nil] at hW'
  refine (walk x1 wx1 y1 wy1 x2 wx2 y2 wy2 W).mono fun e W' ⟨he, hg⟩ => ?_
  subst he
  exact ⟨_, rfl, post_of_below (pa := []) (pv := []) hW' (fun _ _ _ => (trodAll_cons_mk (shut_bool Try.underlying4 _) trodAll_mk0)) (fun sp _ => (trodAll_cons_mk (shut_agg2 (y0 := (.lit (.int .i64 x1), [])) (y1 := (.lit (.int .i64 y1), [])) Try.underlying26 (by kernel_rfl) (by kernel_rfl) ⟨1, by simp [DataW.trod, Try.underlying3, wx1]⟩ ⟨1, by simp [DataW.trod, Try.underlying3, wy1]⟩) (trodAll_cons_mk (shut_agg2 (y0 := (.lit (.int .i64 x2), [])) (y1 := (.lit (.int .i64 y2), [])) Try.underlying26 (by kernel_rfl) (by kernel_rfl) ⟨1, by simp [DataW.trod, Try.underlying3, wx2]⟩ ⟨1, by simp [DataW.trod, Try.underlying3, wy2]⟩) trodAll_mk0))) (fun _ _ => rfl) rfl
    hg (ok_one (by kernel_rfl) rfl (okWide_bool_mk Try.underlying4 _))⟩

theorem over : Rows.fnExactTwoProductRow.holds Try.pinned (OpenSpec.ofChange Rows.fnExactTwoProductSpec) :=
  OpenClaim.holds_of_wide 4 Try.f4 rfl rfl rfl rfl rfl rfl rfl ⟨rfl, rfl, rfl, rfl, rfl⟩ rfl rfl rfl rfl rfl (by kernel_rfl) Try.func4 (by kernel_rfl)
    (of_decide_eq_true (by kernel_rfl)) (by unfold Func.isWrapper; first | (rw [if_pos (by decide +kernel)]; kernel_rfl) | (rw [if_neg (by decide +kernel)]; exact ⟨rfl, rfl⟩))
    (fun os started H enc _ => lifted os started H enc)

theorem proved : Rows.FnExactTwoProductSaid :=
  over
#print axioms proved
end Go.Proofs.Ytgjbefchbjpjmaa.fnExactTwoProduct
