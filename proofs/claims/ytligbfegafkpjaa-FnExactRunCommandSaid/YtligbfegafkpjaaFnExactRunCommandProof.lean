/-
  The law FnExactRunCommand: for every input the call returns true and the input reads as it did. No condition.
-/
import Derived.Test.YtligbfegafkpjaaRows
import Derived.Test.YtligbfegafkpjaaLawRun
import Derived.WalkKit
import Derived.ProofKit
import Derived.OpenShut
import Derived.Carry
import Derived.Lib.SmallJoins
import Derived.Test.YtligbfegafkpjaaPost
import Derived.Test.YtligbfegafkpjaaOpE
import Derived.Test.YtligbfegafkpjaaOpC
namespace Go.Proofs.Ytligbfegafkpjaa.fnExactRunCommand
open Go.ChangeShapes Go.WideShapes Go.ChangeAt Go.RowKit Go.Joins
set_option linter.unusedVariables false

theorem own : ownKnob Try.prog.godebug = none := by kernel_rfl
theorem laidOut : laidOutB Try.prog = true := by kernel_rfl
theorem walk (v : Value) (n : Nat) (E : Nat → Ent) (c : Cmd) (hok : CmdOk c) (W : World) (hAr : ArgE W v n E) (hO : ∀ i, i < n → EntOk (E i)) (hm : n ≤ 9223372036854775807) :
    Calls Try.prog 7 #[v, cmv c] W fun e w' => e = .returned (.bool true) ∧ Below W.heap.size W w' :=
  lawRunCommand v n E c W hAr hm hO hok

set_option maxRecDepth 100000 in
set_option maxHeartbeats 2000000 in
theorem lifted (os : Os) (started : os.Started) (H : Type) (enc : TypeId × Value → H) :
    ReturnsInHanded {} Try.checked os 7 .any (Rows.fnExactRunCommandSpec.pre6 enc Try.prog Try.f7 Rows.fnExactRunCommandRow.domain false) (Rows.fnExactRunCommandSpec.post enc Try.prog Try.f7 false true false false) := by
  refine returnsInHanded_of_change (C := Try.checked) own started (by kernel_rfl) Try.func7
    (ChangeSpec.witness6 (enc := enc) (C := Try.checked) false ⟨#[], #[.slice none 0 0, .agg #[.int .i64 0, .string ⟨#[]⟩, .string ⟨#[]⟩, .string ⟨#[]⟩, .int .i64 0, .int .i64 0, .int .i64 0]], []⟩ 8 (by kernel_rfl) (by kernel_rfl) (by kernel_rfl) (by kernel_rfl)) ?_
  intro W base args ds gs before hval0 hW hcnd _
  have hval : ∀ (j : Nat) t v, Try.f7.params[j]? = some t → args[j]? = some v → Value.okWide Try.prog W .any base t v := hval0
  have hW' := hW
  obtain ⟨p, q, hA0, hV, rfl, hfz, hnd⟩ := hW
  have hA : DataW.TrodAll enc Try.prog W 0 (fun _ => true) true Try.f7.params.toList args.toList ds p := hA0
  rw [Try.params7] at hA hval
  obtain ⟨v0, vs0, d0, ds0, p0, q0, hargs, rfl, rfl, h0, r0⟩ := trodAll_cons hA
  obtain ⟨v1, vs1, d1, ds1, p1, q1, hargs1, rfl, rfl, h1, r1⟩ := trodAll_cons r0
  obtain ⟨rfl, rfl, rfl⟩ := trodAll_nil r1
  obtain rfl : args = #[v0, v1] := by cases args; simp_all
  obtain ⟨rfl, rfl⟩ := trodVars_none hV
  have k0 := h0
  have k1 := h1
  obtain ⟨u0, f0⟩ := h0
  obtain ⟨x8, n, E, hcs8, hAr, hO, hm⟩ := open_entries f0
  obtain ⟨sa8, sl8, sc8, rfl⟩ := okWide_slice Try.underlying42 (hval 0 42 v0 rfl rfl)
  simp [Value.cells] at hcs8
  subst hcs8
  obtain ⟨c, rfl, hok⟩ := open_cmd (hval 1 34 v1 rfl rfl) h1
  clear hA0 hval0
  simp only [List.append_nil] at hW'
  have hlt := fun x hx => hW'.lt x hx
  refine (walk _ n E c hok W hAr hO hm).mono fun e W' ⟨he, hg⟩ => ?_
  subst he
  exact ⟨_, rfl, post_of_below (pv := []) hW' (fun _ _ _ => (trodAll_cons_mk (shut_bool Try.underlying4 _) trodAll_mk0)) (fun sp hsp => (trodAll_cons_mk (WideElems.Trod_stays laidOut (by kernel_rfl) (of_decide_eq_true (by kernel_rfl)) k0 (fun x hx => hg.same (hlt x (by simp [hx]))) (fun x hx => hsp x (by simp [hx]))) (trodAll_cons_mk (WideElems.Trod_stays laidOut (by kernel_rfl) (of_decide_eq_true (by kernel_rfl)) k1 (fun x hx => hg.same (hlt x (by simp [hx]))) (fun x hx => hsp x (by simp [hx]))) trodAll_mk0))) (fun _ _ => rfl) (by simp)
    hg (ok_one (by kernel_rfl) rfl (okWide_bool_mk Try.underlying4 _))⟩

theorem enter : Try.pinned.checked.prog.mayEnter = true := by kernel_rfl
theorem lifts : (Rows.fnExactRunCommandRow.lifted == Try.pinned.checked.prog.liftsFinal) = true := by kernel_rfl
theorem make : (Try.pinned.checked.prog.make == some Rows.fnExactRunCommandRow.make) = true := by kernel_rfl
theorem closed : joinedFacts Try.pinned.checked.prog 7 Try.f7 Rows.fnExactRunCommandSpec Rows.fnExactRunCommandRow = true := by
  unfold joinedFacts
  rw [enter, lifts, make]
  kernel_rfl
theorem inst : (Try.f7).isInstance Try.pinned.checked.prog Rows.fnExactRunCommandRow.origin Rows.fnExactRunCommandRow.targs := of_decide_eq_true (by kernel_rfl)
theorem wrap : (Try.f7).isWrapper Try.pinned.checked.prog Rows.fnExactRunCommandRow.wrapper Rows.fnExactRunCommandRow.mainSum := by
  unfold Func.isWrapper; first | (rw [if_pos (by decide +kernel)]; kernel_rfl) | (rw [if_neg (by decide +kernel)]; exact ⟨rfl, rfl⟩)
theorem over : Rows.fnExactRunCommandRow.holds Try.pinned (OpenSpec.ofChange Rows.fnExactRunCommandSpec) :=
  OpenClaim.holds_of_wide 7 Try.f7 rfl rfl rfl rfl rfl rfl rfl ⟨rfl, rfl, rfl, rfl, rfl⟩ rfl rfl rfl rfl rfl (by kernel_rfl) Try.func7 closed inst wrap
    (fun os started H enc _ => lifted os started H enc)

theorem proved : Rows.FnExactRunCommandSaid :=
  over
#print axioms proved
end Go.Proofs.Ytligbfegafkpjaa.fnExactRunCommand
