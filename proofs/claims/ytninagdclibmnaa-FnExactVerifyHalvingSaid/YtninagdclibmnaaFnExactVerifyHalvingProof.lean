/-
  The law FnExactVerifyHalving: for every input the call returns true and the input reads as it did. No condition.
-/
import Derived.Test.YtninagdclibmnaaRows
import Derived.Test.YtninagdclibmnaaLawVh
import Derived.WalkKit
import Derived.ProofKit
import Derived.OpenShut
import Derived.Carry
import Derived.Lib.SmallJoins
import Derived.Test.YtninagdclibmnaaPost
import Derived.Test.YtninagdclibmnaaOpF
namespace Go.Proofs.Ytninagdclibmnaa.fnExactVerifyHalving
open Go.ChangeShapes Go.WideShapes Go.ChangeAt Go.RowKit Go.Joins
set_option linter.unusedVariables false

theorem own : ownKnob Try.prog.godebug = none := by kernel_rfl
theorem laidOut : laidOutB Try.prog = true := by kernel_rfl
theorem walk (fa : Int) (wfa : (Lit.int .i64 fa).wf = true) (fb : Int) (wfb : (Lit.int .i64 fb).wf = true) (fc : Int) (wfc : (Lit.int .i64 fc).wf = true) (ga : Int) (wga : (Lit.int .i64 ga).wf = true) (gb : Int) (wgb : (Lit.int .i64 gb).wf = true) (gc : Int) (wgc : (Lit.int .i64 gc).wf = true) (k : Int) (wk : (Lit.int .i64 k).wf = true) (v : Value) (n : Nat) (P : Nat → T3) (W : World) (hAr : ArgF W v n P) (hI : ∀ i, i < n → I64T (P i)) (hrr : n ≤ 9223372036854775807) :
    Calls Try.prog 10 #[.agg #[.int .i64 fa, .int .i64 fb, .int .i64 fc], .agg #[.int .i64 ga, .int .i64 gb, .int .i64 gc], .int .i64 k, v] W fun e w' => e = .returned (.bool true) ∧ Below W.heap.size W w' :=
  lawVerifyHalving (fa, fb, fc) (ga, gb, gc) k v n P W ⟨(i64_wf wfa), (i64_wf wfb), (i64_wf wfc)⟩ ⟨(i64_wf wga), (i64_wf wgb), (i64_wf wgc)⟩ hI hAr hrr

set_option maxRecDepth 100000 in
set_option maxHeartbeats 2000000 in
theorem lifted (os : Os) (started : os.Started) (H : Type) (enc : TypeId × Value → H) :
    ReturnsInHanded {} Try.checked os 10 .any (Rows.fnExactVerifyHalvingSpec.pre6 enc Try.prog Try.f10 Rows.fnExactVerifyHalvingRow.domain false) (Rows.fnExactVerifyHalvingSpec.post enc Try.prog Try.f10 false true false false) := by
  refine returnsInHanded_of_change (C := Try.checked) own started (by kernel_rfl) Try.func10
    (ChangeSpec.witness6 (enc := enc) (C := Try.checked) false ⟨#[], #[.agg #[.int .i64 0, .int .i64 0, .int .i64 0], .agg #[.int .i64 0, .int .i64 0, .int .i64 0], .int .i64 0, .slice none 0 0], []⟩ 8 (by kernel_rfl) (by kernel_rfl) (by kernel_rfl) (by kernel_rfl)) ?_
  intro W base args ds gs before hval0 hW hcnd _
  have hval : ∀ (j : Nat) t v, Try.f10.params[j]? = some t → args[j]? = some v → Value.okWide Try.prog W .any base t v := hval0
  have hW' := hW
  obtain ⟨p, q, hA0, hV, rfl, hfz, hnd⟩ := hW
  have hA : DataW.TrodAll enc Try.prog W 0 (fun _ => true) true Try.f10.params.toList args.toList ds p := hA0
  rw [Try.params10] at hA hval
  obtain ⟨v0, vs0, d0, ds0, p0, q0, hargs, rfl, rfl, h0, r0⟩ := trodAll_cons hA
  obtain ⟨v1, vs1, d1, ds1, p1, q1, hargs1, rfl, rfl, h1, r1⟩ := trodAll_cons r0
  obtain ⟨v2, vs2, d2, ds2, p2, q2, hargs2, rfl, rfl, h2, r2⟩ := trodAll_cons r1
  obtain ⟨v3, vs3, d3, ds3, p3, q3, hargs3, rfl, rfl, h3, r3⟩ := trodAll_cons r2
  obtain ⟨rfl, rfl, rfl⟩ := trodAll_nil r3
  obtain rfl : args = #[v0, v1, v2, v3] := by cases args; simp_all
  obtain ⟨rfl, rfl⟩ := trodVars_none hV
  have k0 := h0
  have k1 := h1
  have k2 := h2
  have k3 := h3
  obtain ⟨c00, c01, c02, y00, y01, y02, m0, rfl, e0d, e0p, hy00, hy01, hy02⟩ := open_agg3 Try.underlying23 (by kernel_rfl) (by kernel_rfl) (hval 0 23 v0 rfl rfl) h0
  obtain ⟨fa, e00, _, wfa⟩ := DataW.trod_int Try.underlying3 hy00
  obtain ⟨fb, e01, _, wfb⟩ := DataW.trod_int Try.underlying3 hy01
  obtain ⟨fc, e02, _, wfc⟩ := DataW.trod_int Try.underlying3 hy02
  simp at e00 e01 e02
  subst e00 e01 e02
  obtain ⟨c10, c11, c12, y10, y11, y12, m1, rfl, e1d, e1p, hy10, hy11, hy12⟩ := open_agg3 Try.underlying23 (by kernel_rfl) (by kernel_rfl) (hval 1 23 v1 rfl rfl) h1
  obtain ⟨ga, e10, _, wga⟩ := DataW.trod_int Try.underlying3 hy10
  obtain ⟨gb, e11, _, wgb⟩ := DataW.trod_int Try.underlying3 hy11
  obtain ⟨gc, e12, _, wgc⟩ := DataW.trod_int Try.underlying3 hy12
  simp at e10 e11 e12
  subst e10 e11 e12
  obtain ⟨k, rfl, e2d, e2p, wk⟩ := open_int Try.underlying3 (hval 2 3 v2 rfl rfl) h2
  obtain ⟨u3, f3⟩ := h3
  obtain ⟨x8, n, P, hcs8, hAr, hI, hm⟩ := open_forms f3
  obtain ⟨sa8, sl8, sc8, rfl⟩ := okWide_slice Try.underlying47 (hval 3 47 v3 rfl rfl)
  simp [Value.cells] at hcs8
  subst hcs8
  have hrr : n ≤ 9223372036854775807 := by unfold maxLen at hm; exact hm
  clear hA0 hval0
  simp only [List.append_nil] at hW'
  have hlt := fun x hx => hW'.lt x hx
  refine (walk fa wfa fb wfb fc wfc ga wga gb wgb gc wgc k wk _ n P W hAr hI hrr).mono fun e W' ⟨he, hg⟩ => ?_
  subst he
  exact ⟨_, rfl, post_of_below (pv := []) hW' (fun _ _ _ => (trodAll_cons_mk (shut_bool Try.underlying4 _) trodAll_mk0)) (fun sp hsp => (trodAll_cons_mk (WideElems.Trod_stays laidOut (by kernel_rfl) (of_decide_eq_true (by kernel_rfl)) k0 (fun x hx => hg.same (hlt x (by simp [hx]))) (fun x hx => hsp x (by simp [hx]))) (trodAll_cons_mk (WideElems.Trod_stays laidOut (by kernel_rfl) (of_decide_eq_true (by kernel_rfl)) k1 (fun x hx => hg.same (hlt x (by simp [hx]))) (fun x hx => hsp x (by simp [hx]))) (trodAll_cons_mk (WideElems.Trod_stays laidOut (by kernel_rfl) (of_decide_eq_true (by kernel_rfl)) k2 (fun x hx => hg.same (hlt x (by simp [hx]))) (fun x hx => hsp x (by simp [hx]))) (trodAll_cons_mk (WideElems.Trod_stays laidOut (by kernel_rfl) (of_decide_eq_true (by kernel_rfl)) k3 (fun x hx => hg.same (hlt x (by simp [hx]))) (fun x hx => hsp x (by simp [hx]))) trodAll_mk0))))) (fun _ _ => rfl) (by simp)
    hg (ok_one (by kernel_rfl) rfl (okWide_bool_mk Try.underlying4 _))⟩

theorem enter : Try.pinned.checked.prog.mayEnter = true := by kernel_rfl
theorem lifts : (Rows.fnExactVerifyHalvingRow.lifted == Try.pinned.checked.prog.liftsFinal) = true := by kernel_rfl
theorem make : (Try.pinned.checked.prog.make == some Rows.fnExactVerifyHalvingRow.make) = true := by kernel_rfl
theorem closed : joinedFacts Try.pinned.checked.prog 10 Try.f10 Rows.fnExactVerifyHalvingSpec Rows.fnExactVerifyHalvingRow = true := by
  unfold joinedFacts
  rw [enter, lifts, make]
  kernel_rfl
theorem inst : (Try.f10).isInstance Try.pinned.checked.prog Rows.fnExactVerifyHalvingRow.origin Rows.fnExactVerifyHalvingRow.targs := of_decide_eq_true (by kernel_rfl)
theorem wrap : (Try.f10).isWrapper Try.pinned.checked.prog Rows.fnExactVerifyHalvingRow.wrapper Rows.fnExactVerifyHalvingRow.mainSum := by
  unfold Func.isWrapper; first | (rw [if_pos (by decide +kernel)]; kernel_rfl) | (rw [if_neg (by decide +kernel)]; exact ⟨rfl, rfl⟩)
theorem over : Rows.fnExactVerifyHalvingRow.holds Try.pinned (OpenSpec.ofChange Rows.fnExactVerifyHalvingSpec) :=
  OpenClaim.holds_of_wide 10 Try.f10 rfl rfl rfl rfl rfl rfl rfl ⟨rfl, rfl, rfl, rfl, rfl⟩ rfl rfl rfl rfl rfl (by kernel_rfl) Try.func10 closed inst wrap
    (fun os started H enc _ => lifted os started H enc)

theorem proved : Rows.FnExactVerifyHalvingSaid :=
  over
#print axioms proved
end Go.Proofs.Ytninagdclibmnaa.fnExactVerifyHalving
