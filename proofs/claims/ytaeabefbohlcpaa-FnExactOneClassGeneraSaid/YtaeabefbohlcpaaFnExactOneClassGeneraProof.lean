/- The law FnExactOneClassGenera: for every input the call returns true and the input reads as it did. No condition. -/
import Derived.Test.YtaeabefbohlcpaaRows
import Derived.Test.YtaeabefbohlcpaaOcg
import Derived.WalkKit
import Derived.ProofKit
import Derived.OpenShut
import Derived.Lib.SmallJoins
import Derived.Test.YtaeabefbohlcpaaPost
namespace Go.Proofs.Ytaeabefbohlcpaa.fnExactOneClassGenera
open Go.ChangeShapes Go.WideShapes Go.ChangeAt Go.RowKit Go.Joins
set_option linter.unusedVariables false

theorem own : ownKnob Try.prog.godebug = none := by kernel_rfl
theorem walk (lo : Int) (wlo : (Lit.int .i64 lo).wf = true) (hi : Int) (whi : (Lit.int .i64 hi).wf = true) (W : World) :
  Calls Try.prog 3 #[.int .i64 lo, .int .i64 hi] W fun e w' => e = .returned (.bool true) ∧ Below W.heap.size W w' :=
 lawOneClassGenera lo hi W

set_option maxRecDepth 100000 in
theorem lifted (os : Os) (started : os.Started) (H : Type) (enc : TypeId × Value → H) :
  ReturnsInHanded {} Try.checked os 3 .any (Rows.fnExactOneClassGeneraSpec.pre6 enc Try.prog Try.f3 Rows.fnExactOneClassGeneraRow.domain false) (Rows.fnExactOneClassGeneraSpec.post enc Try.prog Try.f3 false true false false) := by
 refine returnsInHanded_of_change (C := Try.checked) own started (by kernel_rfl) Try.func3
  (ChangeSpec.witness6 (enc := enc) (C := Try.checked) false ⟨#[], #[.int .i64 0, .int .i64 0], []⟩ 8 (by kernel_rfl) (by kernel_rfl) (by kernel_rfl) (by kernel_rfl)) ?_
 intro W base args ds gs before hval0 hW hcnd _
 have hval : ∀ (j : Nat) t v, Try.f3.params[j]? = some t → args[j]? = some v → Value.okWide Try.prog W .any base t v := hval0
 have hW' := hW
 obtain ⟨p, q, hA0, hV, rfl, hfz, hnd⟩ := hW
 have hA : DataW.TrodAll enc Try.prog W 0 (fun _ => true) true Try.f3.params.toList args.toList ds p := hA0
 rw [Try.params3] at hA hval
 obtain ⟨v0, vs0, d0, ds0, p0, q0, hargs, rfl, rfl, h0, r0⟩ := trodAll_cons hA
 obtain ⟨v1, vs1, d1, ds1, p1, q1, hargs1, rfl, rfl, h1, r1⟩ := trodAll_cons r0
 obtain ⟨rfl, rfl, rfl⟩ := trodAll_nil r1
 obtain rfl : args = #[v0, v1] := by cases args; simp_all
 obtain ⟨rfl, rfl⟩ := trodVars_none hV
 obtain ⟨lo, rfl, rfl, rfl, wlo⟩ := open_int Try.underlying3 (hval 0 3 v0 rfl rfl) h0
 obtain ⟨hi, rfl, rfl, rfl, whi⟩ := open_int Try.underlying3 (hval 1 3 v1 rfl rfl) h1
 clear hA0 hval0
 simp only [List.append_nil] at hW'
 refine (walk lo wlo hi whi W).mono fun e W' ⟨he, hg⟩ => ?_
 subst he
 exact ⟨_, rfl, post_of_below (pa := []) (pv := []) hW' (fun _ _ _ => (trodAll_cons_mk (shut_bool Try.underlying4 _) trodAll_mk0)) (fun sp _ => (trodAll_cons_mk (shut_int Try.underlying3 wlo) (trodAll_cons_mk (shut_int Try.underlying3 whi) trodAll_mk0))) (fun _ _ => rfl) rfl
  hg (ok_one (by kernel_rfl) rfl (okWide_bool_mk Try.underlying4 _))⟩

theorem enter : Try.pinned.checked.prog.mayEnter = true := by kernel_rfl
theorem lifts : (Rows.fnExactOneClassGeneraRow.lifted == Try.pinned.checked.prog.liftsFinal) = true := by kernel_rfl
theorem make : (Try.pinned.checked.prog.make == some Rows.fnExactOneClassGeneraRow.make) = true := by kernel_rfl
theorem closed : joinedFacts Try.pinned.checked.prog 3 Try.f3 Rows.fnExactOneClassGeneraSpec Rows.fnExactOneClassGeneraRow = true := by
 unfold joinedFacts
 rw [enter, lifts, make]
 kernel_rfl
theorem inst : (Try.f3).isInstance Try.pinned.checked.prog Rows.fnExactOneClassGeneraRow.origin Rows.fnExactOneClassGeneraRow.targs := of_decide_eq_true (by kernel_rfl)
theorem wrap : (Try.f3).isWrapper Try.pinned.checked.prog Rows.fnExactOneClassGeneraRow.wrapper Rows.fnExactOneClassGeneraRow.mainSum := by
 unfold Func.isWrapper; first | (rw [if_pos (by decide +kernel)]; kernel_rfl) | (rw [if_neg (by decide +kernel)]; exact ⟨rfl, rfl⟩)
theorem over : Rows.fnExactOneClassGeneraRow.holds Try.pinned (OpenSpec.ofChange Rows.fnExactOneClassGeneraSpec) :=
 OpenClaim.holds_of_wide 3 Try.f3 rfl rfl rfl rfl rfl rfl rfl ⟨rfl, rfl, rfl, rfl, rfl⟩ rfl rfl rfl rfl rfl (by kernel_rfl) Try.func3 closed inst wrap
  (fun os started H enc _ => lifted os started H enc)

theorem proved : Rows.FnExactOneClassGeneraSaid :=
 over
#print axioms proved
end Go.Proofs.Ytaeabefbohlcpaa.fnExactOneClassGenera
