/- The law FnExactProjectivePoint: for every input the call returns true and the input reads as it did. No condition. -/
import Derived.Test.YtomjgokjfhiahaaRows
import Derived.Test.YtomjgokjfhiahaaLevel3
import Derived.WalkKit
import Derived.ProofKit
import Derived.OpenShut
import Derived.Lib.SmallJoins
import Derived.Test.YtomjgokjfhiahaaPost
namespace Go.Proofs.Ytomjgokjfhiahaa.fnExactProjectivePoint
open Go.ChangeShapes Go.WideShapes Go.ChangeAt Go.RowKit Go.Joins
set_option linter.unusedVariables false

theorem own : ownKnob Try.prog.godebug = none := by kernel_rfl
theorem walk (p : Int) (wp : (Lit.int .i64 p).wf = true) (q : Int) (wq : (Lit.int .i64 q).wf = true) (r : Int) (wr : (Lit.int .i64 r).wf = true) (s : Int) (ws : (Lit.int .i64 s).wf = true) (n : Int) (wn : (Lit.int .i64 n).wf = true) (W : World) :
    Calls Try.prog 8 #[.agg #[.int .i64 p, .int .i64 q, .int .i64 r, .int .i64 s], .int .i64 n] W fun e w' => e = .returned (.bool true) ∧ Below W.heap.size W w' :=
  lawProjectivePoint p q r s n W (i64_wf wp) (i64_wf wq) (i64_wf wr) (i64_wf ws) (i64_wf wn)

set_option maxRecDepth 100000 in
theorem lifted (os : Os) (started : os.Started) (H : Type) (enc : TypeId × Value → H) :
    ReturnsInHanded {} Try.checked os 8 .any (Rows.fnExactProjectivePointSpec.pre6 enc Try.prog Try.f8 Rows.fnExactProjectivePointRow.domain false) (Rows.fnExactProjectivePointSpec.post enc Try.prog Try.f8 false true false false) := by
  refine returnsInHanded_of_change (C := Try.checked) own started (by kernel_rfl) Try.func8
    (ChangeSpec.witness6 (enc := enc) (C := Try.checked) false ⟨#[], #[.agg #[.int .i64 0, .int .i64 0, .int .i64 0, .int .i64 0], .int .i64 0], []⟩ 8 (by kernel_rfl) (by kernel_rfl) (by kernel_rfl) (by kernel_rfl)) ?_
  intro W base args ds gs before hval0 hW hcnd _
  have hval : ∀ (j : Nat) t v, Try.f8.params[j]? = some t → args[j]? = some v → Value.okWide Try.prog W .any base t v := hval0
  have hW' := hW
  obtain ⟨p, q, hA0, hV, rfl, hfz, hnd⟩ := hW
  have hA : DataW.TrodAll enc Try.prog W 0 (fun _ => true) true Try.f8.params.toList args.toList ds p := hA0
  rw [Try.params8] at hA hval
  obtain ⟨v0, vs0, d0, ds0, p0, q0, hargs, rfl, rfl, h0, r0⟩ := trodAll_cons hA
  obtain ⟨v1, vs1, d1, ds1, p1, q1, hargs1, rfl, rfl, h1, r1⟩ := trodAll_cons r0
  obtain ⟨rfl, rfl, rfl⟩ := trodAll_nil r1
  obtain rfl : args = #[v0, v1] := by cases args; simp_all
  obtain ⟨rfl, rfl⟩ := trodVars_none hV
  obtain ⟨c00, c01, c02, c03, y00, y01, y02, y03, m0, rfl, rfl, rfl, hy00, hy01, hy02, hy03⟩ := open_agg4 Try.underlying23 (by kernel_rfl) (by kernel_rfl) (hval 0 23 v0 rfl rfl) h0
  obtain ⟨p, e00, rfl, wp⟩ := DataW.trod_int Try.underlying3 hy00
  obtain ⟨q, e01, rfl, wq⟩ := DataW.trod_int Try.underlying3 hy01
  obtain ⟨r, e02, rfl, wr⟩ := DataW.trod_int Try.underlying3 hy02
  obtain ⟨s, e03, rfl, ws⟩ := DataW.trod_int Try.underlying3 hy03
  simp at e00 e01 e02 e03
  subst e00 e01 e02 e03
  obtain ⟨n, rfl, rfl, rfl, wn⟩ := open_int Try.underlying3 (hval 1 3 v1 rfl rfl) h1
  clear hA0 hval0
  simp only [List.append_nil] at hW'
  refine (walk p wp q wq r wr s ws n wn W).mono fun e W' ⟨he, hg⟩ => ?_
  subst he
  exact ⟨_, rfl, post_of_below (pa := []) (pv := []) hW' (fun _ _ _ => (trodAll_cons_mk (shut_bool Try.underlying4 _) trodAll_mk0)) (fun sp _ => (trodAll_cons_mk (shut_agg4 (y0 := (.lit (.int .i64 p), [])) (y1 := (.lit (.int .i64 q), [])) (y2 := (.lit (.int .i64 r), [])) (y3 := (.lit (.int .i64 s), [])) Try.underlying23 (by kernel_rfl) (by kernel_rfl) ⟨1, by simp [DataW.trod, Try.underlying3, wp]⟩ ⟨1, by simp [DataW.trod, Try.underlying3, wq]⟩ ⟨1, by simp [DataW.trod, Try.underlying3, wr]⟩ ⟨1, by simp [DataW.trod, Try.underlying3, ws]⟩) (trodAll_cons_mk (shut_int Try.underlying3 wn) trodAll_mk0))) (fun _ _ => rfl) rfl
    hg (ok_one (by kernel_rfl) rfl (okWide_bool_mk Try.underlying4 _))⟩

theorem over : Rows.fnExactProjectivePointRow.holds Try.pinned (OpenSpec.ofChange Rows.fnExactProjectivePointSpec) :=
  OpenClaim.holds_of_wide 8 Try.f8 rfl rfl rfl rfl rfl rfl rfl ⟨rfl, rfl, rfl, rfl, rfl⟩ rfl rfl rfl rfl rfl (by kernel_rfl) Try.func8 (by kernel_rfl)
    (of_decide_eq_true (by kernel_rfl)) (by unfold Func.isWrapper; first | (rw [if_pos (by decide +kernel)]; kernel_rfl) | (rw [if_neg (by decide +kernel)]; exact ⟨rfl, rfl⟩))
    (fun os started H enc _ => lifted os started H enc)

theorem proved : Rows.FnExactProjectivePointSaid :=
  over
#print axioms proved
end Go.Proofs.Ytomjgokjfhiahaa.fnExactProjectivePoint
