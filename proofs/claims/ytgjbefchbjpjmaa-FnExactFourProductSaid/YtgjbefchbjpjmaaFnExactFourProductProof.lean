/- The law FnExactFourProduct: for every input the call returns true and the input reads as it did. No condition. -/
import Derived.Test.YtgjbefchbjpjmaaRows
import Derived.Test.YtgjbefchbjpjmaaLawFour
import Derived.WalkKit
import Derived.ProofKit
import Derived.OpenShut
import Derived.Lib.SmallJoins
import Derived.Test.YtgjbefchbjpjmaaPost
namespace Go.Proofs.Ytgjbefchbjpjmaa.fnExactFourProduct
open Go.ChangeShapes Go.WideShapes Go.ChangeAt Go.RowKit Go.Joins
set_option linter.unusedVariables false

theorem own : ownKnob Try.prog.godebug = none := by kernel_rfl
theorem walk (x1 : Int) (wx1 : (Lit.int .i64 x1).wf = true) (y1 : Int) (wy1 : (Lit.int .i64 y1).wf = true) (z1 : Int) (wz1 : (Lit.int .i64 z1).wf = true) (u1 : Int) (wu1 : (Lit.int .i64 u1).wf = true) (x2 : Int) (wx2 : (Lit.int .i64 x2).wf = true) (y2 : Int) (wy2 : (Lit.int .i64 y2).wf = true) (z2 : Int) (wz2 : (Lit.int .i64 z2).wf = true) (u2 : Int) (wu2 : (Lit.int .i64 u2).wf = true) (W : World) :
    Calls Try.prog 7 #[.agg #[.int .i64 x1, .int .i64 y1, .int .i64 z1, .int .i64 u1], .agg #[.int .i64 x2, .int .i64 y2, .int .i64 z2, .int .i64 u2]] W fun e w' => e = .returned (.bool true) ∧ Below W.heap.size W w' :=
  lawFourProduct x1 y1 z1 u1 x2 y2 z2 u2 W (i64_wf wx1) (i64_wf wy1) (i64_wf wz1) (i64_wf wu1) (i64_wf wx2) (i64_wf wy2) (i64_wf wz2) (i64_wf wu2)

set_option maxRecDepth 100000 in
theorem lifted (os : Os) (started : os.Started) (H : Type) (enc : TypeId × Value → H) :
    ReturnsInHanded {} Try.checked os 7 .any (Rows.fnExactFourProductSpec.pre6 enc Try.prog Try.f7 Rows.fnExactFourProductRow.domain false) (Rows.fnExactFourProductSpec.post enc Try.prog Try.f7 false true false false) := by
  refine returnsInHanded_of_change (C := Try.checked) own started (by kernel_rfl) Try.func7
    (ChangeSpec.witness6 (enc := enc) (C := Try.checked) false ⟨#[], #[.agg #[.int .i64 0, .int .i64 0, .int .i64 0, .int .i64 0], .agg #[.int .i64 0, .int .i64 0, .int .i64 0, .int .i64 0]], []⟩ 8 (by kernel_rfl) (by kernel_rfl) (by kernel_rfl) (by kernel_rfl)) ?_
  intro W base args ds gs before hval0 hW hcnd _
  have hval : ∀ (j : Nat) t v, Try.f7.params[j]? = some t → args[j]? = some v → Value.okWide Try.prog W .any base t v := hval0
  have hW' := hW
  obtain ⟨p, q, hA0, hV, rfl, hfz, hnd⟩ := hW
  have hA : DataW.TrodAll enc Try.prog W 0 (fun _ => true) true Try.f7.params.toList args.toList ds p := hA0
  rw [Try.params7] at hA hval
  obtain ⟨v0, vs0, d0, ds0, p0, q0, hargs, rfl, rfl, h0, r0⟩ := trodAll_cons hA
  obtain ⟨v1, vs1, d1, ds1, p1, q1, hargs1, rfl, rfl, h1, r1⟩ := trodAll_cons r0
  obtain ⟨rfl, rfl, rfl⟩ := trodAll_nil r1
  obtain rfl : args = #[v0, v1] := by cases args; simp_all
  obtain ⟨rfl, rfl⟩ := trodVars_none hV
  obtain ⟨c00, c01, c02, c03, y00, y01, y02, y03, m0, rfl, rfl, rfl, hy00, hy01, hy02, hy03⟩ := open_agg4 Try.underlying38 (by kernel_rfl) (by kernel_rfl) (hval 0 38 v0 rfl rfl) h0
  obtain ⟨x1, e00, rfl, wx1⟩ := DataW.trod_int Try.underlying3 hy00
  obtain ⟨y1, e01, rfl, wy1⟩ := DataW.trod_int Try.underlying3 hy01
  obtain ⟨z1, e02, rfl, wz1⟩ := DataW.trod_int Try.underlying3 hy02
  obtain ⟨u1, e03, rfl, wu1⟩ := DataW.trod_int Try.underlying3 hy03
  simp at e00 e01 e02 e03
  subst e00 e01 e02 e03
  obtain ⟨c10, c11, c12, c13, y10, y11, y12, y13, m1, rfl, rfl, rfl, hy10, hy11, hy12, hy13⟩ := open_agg4 Try.underlying38 (by kernel_rfl) (by kernel_rfl) (hval 1 38 v1 rfl rfl) h1
  obtain ⟨x2, e10, rfl, wx2⟩ := DataW.trod_int Try.underlying3 hy10
  obtain ⟨y2, e11, rfl, wy2⟩ := DataW.trod_int Try.underlying3 hy11
  obtain ⟨z2, e12, rfl, wz2⟩ := DataW.trod_int Try.underlying3 hy12
  obtain ⟨u2, e13, rfl, wu2⟩ := DataW.trod_int Try.underlying3 hy13
  simp at e10 e11 e12 e13
  subst e10 e11 e12 e13
  clear hA0 hval0
  simp only [List.append_nil] at hW'
  refine (walk x1 wx1 y1 wy1 z1 wz1 u1 wu1 x2 wx2 y2 wy2 z2 wz2 u2 wu2 W).mono fun e W' ⟨he, hg⟩ => ?_
  subst he
  exact ⟨_, rfl, post_of_below (pa := []) (pv := []) hW' (fun _ _ _ => (trodAll_cons_mk (shut_bool Try.underlying4 _) trodAll_mk0)) (fun sp _ => (trodAll_cons_mk (shut_agg4 (y0 := (.lit (.int .i64 x1), [])) (y1 := (.lit (.int .i64 y1), [])) (y2 := (.lit (.int .i64 z1), [])) (y3 := (.lit (.int .i64 u1), [])) Try.underlying38 (by kernel_rfl) (by kernel_rfl) ⟨1, by simp [DataW.trod, Try.underlying3, wx1]⟩ ⟨1, by simp [DataW.trod, Try.underlying3, wy1]⟩ ⟨1, by simp [DataW.trod, Try.underlying3, wz1]⟩ ⟨1, by simp [DataW.trod, Try.underlying3, wu1]⟩) (trodAll_cons_mk (shut_agg4 (y0 := (.lit (.int .i64 x2), [])) (y1 := (.lit (.int .i64 y2), [])) (y2 := (.lit (.int .i64 z2), [])) (y3 := (.lit (.int .i64 u2), [])) Try.underlying38 (by kernel_rfl) (by kernel_rfl) ⟨1, by simp [DataW.trod, Try.underlying3, wx2]⟩ ⟨1, by simp [DataW.trod, Try.underlying3, wy2]⟩ ⟨1, by simp [DataW.trod, Try.underlying3, wz2]⟩ ⟨1, by simp [DataW.trod, Try.underlying3, wu2]⟩) trodAll_mk0))) (fun _ _ => rfl) rfl
    hg (ok_one (by kernel_rfl) rfl (okWide_bool_mk Try.underlying4 _))⟩

theorem over : Rows.fnExactFourProductRow.holds Try.pinned (OpenSpec.ofChange Rows.fnExactFourProductSpec) :=
  OpenClaim.holds_of_wide 7 Try.f7 rfl rfl rfl rfl rfl rfl rfl ⟨rfl, rfl, rfl, rfl, rfl⟩ rfl rfl rfl rfl rfl (by kernel_rfl) Try.func7 (by kernel_rfl)
    (of_decide_eq_true (by kernel_rfl)) (by unfold Func.isWrapper; first | (rw [if_pos (by decide +kernel)]; kernel_rfl) | (rw [if_neg (by decide +kernel)]; exact ⟨rfl, rfl⟩))
    (fun os started H enc _ => lifted os started H enc)

theorem proved : Rows.FnExactFourProductSaid :=
  over
#print axioms proved
end Go.Proofs.Ytgjbefchbjpjmaa.fnExactFourProduct
