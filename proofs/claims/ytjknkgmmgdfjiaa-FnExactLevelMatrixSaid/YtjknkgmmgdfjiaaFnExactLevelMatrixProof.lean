/-
  The law FnExactLevelMatrix: for every input the call returns true and the input reads as it did. No condition.
-/
import Derived.Test.YtjknkgmmgdfjiaaRows
import Derived.Test.YtjknkgmmgdfjiaaLawLe
import Derived.WalkKit
import Derived.ProofKit
import Derived.OpenShut
import Derived.Lib.SmallJoins
import Derived.Test.YtjknkgmmgdfjiaaPost
namespace Go.Proofs.Ytjknkgmmgdfjiaa.fnExactLevelMatrix
open Go.ChangeShapes Go.WideShapes Go.ChangeAt Go.RowKit Go.Joins
set_option linter.unusedVariables false

theorem own : ownKnob Try.prog.godebug = none := by kernel_rfl
theorem walk (a : Int) (wa : (Lit.int .i64 a).wf = true) (b : Int) (wb : (Lit.int .i64 b).wf = true) (c : Int) (wc : (Lit.int .i64 c).wf = true) (p : Int) (wp : (Lit.int .i64 p).wf = true) (q : Int) (wq : (Lit.int .i64 q).wf = true) (r : Int) (wr : (Lit.int .i64 r).wf = true) (n : Int) (wn : (Lit.int .i64 n).wf = true) (W : World) :
    Calls Try.prog 4 #[.agg #[.int .i64 a, .int .i64 b, .int .i64 c], .agg #[.int .i64 p, .int .i64 q, .int .i64 r], .int .i64 n] W fun e w' => e = .returned (.bool true) ∧ Below W.heap.size W w' :=
  lawLevelMatrix a b c p q r n W (i64_wf wa) (i64_wf wb) (i64_wf wc) (i64_wf wp) (i64_wf wq) (i64_wf wr)

set_option maxRecDepth 100000 in
theorem lifted (os : Os) (started : os.Started) (H : Type) (enc : TypeId × Value → H) :
    ReturnsInHanded {} Try.checked os 4 .any (Rows.fnExactLevelMatrixSpec.pre6 enc Try.prog Try.f4 Rows.fnExactLevelMatrixRow.domain false) (Rows.fnExactLevelMatrixSpec.post enc Try.prog Try.f4 false true false false) := by
  refine returnsInHanded_of_change (C := Try.checked) own started (by kernel_rfl) Try.func4
    (ChangeSpec.witness6 (enc := enc) (C := Try.checked) false ⟨#[], #[.agg #[.int .i64 0, .int .i64 0, .int .i64 0], .agg #[.int .i64 0, .int .i64 0, .int .i64 0], .int .i64 0], []⟩ 8 (by kernel_rfl) (by kernel_rfl) (by kernel_rfl) (by kernel_rfl)) ?_
  intro W base args ds gs before hval0 hW hcnd _
  have hval : ∀ (j : Nat) t v, Try.f4.params[j]? = some t → args[j]? = some v → Value.okWide Try.prog W .any base t v := hval0
  have hW' := hW
  obtain ⟨p, q, hA0, hV, rfl, hfz, hnd⟩ := hW
  have hA : DataW.TrodAll enc Try.prog W 0 (fun _ => true) true Try.f4.params.toList args.toList ds p := hA0
  rw [Try.params4] at hA hval
  obtain ⟨v0, vs0, d0, ds0, p0, q0, hargs, rfl, rfl, h0, r0⟩ := trodAll_cons hA
  obtain ⟨v1, vs1, d1, ds1, p1, q1, hargs1, rfl, rfl, h1, r1⟩ := trodAll_cons r0
  obtain ⟨v2, vs2, d2, ds2, p2, q2, hargs2, rfl, rfl, h2, r2⟩ := trodAll_cons r1
  obtain ⟨rfl, rfl, rfl⟩ := trodAll_nil r2
  obtain rfl : args = #[v0, v1, v2] := by cases args; simp_all
  obtain ⟨rfl, rfl⟩ := trodVars_none hV
  obtain ⟨c00, c01, c02, y00, y01, y02, m0, rfl, rfl, rfl, hy00, hy01, hy02⟩ := open_agg3 Try.underlying23 (by kernel_rfl) (by kernel_rfl) (hval 0 23 v0 rfl rfl) h0
  obtain ⟨a, e00, rfl, wa⟩ := DataW.trod_int Try.underlying3 hy00
  obtain ⟨b, e01, rfl, wb⟩ := DataW.trod_int Try.underlying3 hy01
  obtain ⟨c, e02, rfl, wc⟩ := DataW.trod_int Try.underlying3 hy02
  simp at e00 e01 e02
  subst e00 e01 e02
  obtain ⟨c10, c11, c12, y10, y11, y12, m1, rfl, rfl, rfl, hy10, hy11, hy12⟩ := open_agg3 Try.underlying23 (by kernel_rfl) (by kernel_rfl) (hval 1 23 v1 rfl rfl) h1
  obtain ⟨p, e10, rfl, wp⟩ := DataW.trod_int Try.underlying3 hy10
  obtain ⟨q, e11, rfl, wq⟩ := DataW.trod_int Try.underlying3 hy11
  obtain ⟨r, e12, rfl, wr⟩ := DataW.trod_int Try.underlying3 hy12
  simp at e10 e11 e12
  subst e10 e11 e12
  obtain ⟨n, rfl, rfl, rfl, wn⟩ := open_int Try.underlying3 (hval 2 3 v2 rfl rfl) h2
  clear hA0 hval0
  simp only [List.append_nil] at hW'
  refine (walk a wa b wb c wc p wp q wq r wr n wn W).mono fun e W' ⟨he, hg⟩ => ?_
  subst he
  exact ⟨_, rfl, post_of_below (pa := []) (pv := []) hW' (fun _ _ _ => (trodAll_cons_mk (shut_bool Try.underlying4 _) trodAll_mk0)) (fun sp _ => (trodAll_cons_mk (shut_agg3 (y0 := (.lit (.int .i64 a), [])) (y1 := (.lit (.int .i64 b), [])) (y2 := (.lit (.int .i64 c), [])) Try.underlying23 (by kernel_rfl) (by kernel_rfl) ⟨1, by simp [DataW.trod, Try.underlying3, wa]⟩ ⟨1, by simp [DataW.trod, Try.underlying3, wb]⟩ ⟨1, by simp [DataW.trod, Try.underlying3, wc]⟩) (trodAll_cons_mk (shut_agg3 (y0 := (.lit (.int .i64 p), [])) (y1 := (.lit (.int .i64 q), [])) (y2 := (.lit (.int .i64 r), [])) Try.underlying23 (by kernel_rfl) (by kernel_rfl) ⟨1, by simp [DataW.trod, Try.underlying3, wp]⟩ ⟨1, by simp [DataW.trod, Try.underlying3, wq]⟩ ⟨1, by simp [DataW.trod, Try.underlying3, wr]⟩) (trodAll_cons_mk (shut_int Try.underlying3 wn) trodAll_mk0)))) (fun _ _ => rfl) rfl
    hg (ok_one (by kernel_rfl) rfl (okWide_bool_mk Try.underlying4 _))⟩

theorem enter : Try.pinned.checked.prog.mayEnter = true := by kernel_rfl
theorem lifts : (Rows.fnExactLevelMatrixRow.lifted == Try.pinned.checked.prog.liftsFinal) = true := by kernel_rfl
theorem make : (Try.pinned.checked.prog.make == some Rows.fnExactLevelMatrixRow.make) = true := by kernel_rfl
theorem closed : joinedFacts Try.pinned.checked.prog 4 Try.f4 Rows.fnExactLevelMatrixSpec Rows.fnExactLevelMatrixRow = true := by
  unfold joinedFacts
  rw [enter, lifts, make]
  kernel_rfl
theorem inst : (Try.f4).isInstance Try.pinned.checked.prog Rows.fnExactLevelMatrixRow.origin Rows.fnExactLevelMatrixRow.targs := of_decide_eq_true (by kernel_rfl)
theorem wrap : (Try.f4).isWrapper Try.pinned.checked.prog Rows.fnExactLevelMatrixRow.wrapper Rows.fnExactLevelMatrixRow.mainSum := by
  unfold Func.isWrapper; first | (rw [if_pos (by decide +kernel)]; kernel_rfl) | (rw [if_neg (by decide +kernel)]; exact ⟨rfl, rfl⟩)
theorem over : Rows.fnExactLevelMatrixRow.holds Try.pinned (OpenSpec.ofChange Rows.fnExactLevelMatrixSpec) :=
  OpenClaim.holds_of_wide 4 Try.f4 rfl rfl rfl rfl rfl rfl rfl ⟨rfl, rfl, rfl, rfl, rfl⟩ rfl rfl rfl rfl rfl (by kernel_rfl) Try.func4 closed inst wrap
    (fun os started H enc _ => lifted os started H enc)

theorem proved : Rows.FnExactLevelMatrixSaid :=
  over
#print axioms proved
end Go.Proofs.Ytjknkgmmgdfjiaa.fnExactLevelMatrix
