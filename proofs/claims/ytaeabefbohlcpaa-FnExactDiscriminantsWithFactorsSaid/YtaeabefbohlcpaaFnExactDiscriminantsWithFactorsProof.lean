/- The law FnExactDiscriminantsWithFactors: for every input the call returns true and the input reads as it did. No condition. -/
import Derived.Test.YtaeabefbohlcpaaRows
import Derived.Test.YtaeabefbohlcpaaOpI
import Derived.WalkKit
import Derived.ProofKit
import Derived.OpenShut
import Derived.Carry
import Derived.Lib.SmallJoins
namespace Go.Proofs.Ytaeabefbohlcpaa.fnExactDiscriminantsWithFactors
open Go.ChangeShapes Go.WideShapes Go.ChangeAt Go.RowKit Go.Joins
set_option linter.unusedVariables false

theorem own : ownKnob Try.prog.godebug = none := by kernel_rfl
theorem laidOut : laidOutB Try.prog = true := by kernel_rfl
theorem walk (v : Value) (n : Nat) (z : Nat → Int) (W : World) (hAr : ArgI W v n z) (hm : n ≤ maxLen) :
  Calls Try.prog 4 #[v] W fun e w' => e = .returned (.bool true) ∧ Below W.heap.size W w' :=
 lawDf v n z W hAr (by have h9 := hm; unfold maxLen at h9; exact h9)

set_option maxRecDepth 100000 in
set_option maxHeartbeats 2000000 in
theorem lifted (os : Os) (started : os.Started) (H : Type) (enc : TypeId × Value → H) :
  ReturnsInHanded {} Try.checked os 4 .any (Rows.fnExactDiscriminantsWithFactorsSpec.pre6 enc Try.prog Try.f4 Rows.fnExactDiscriminantsWithFactorsRow.domain false) (Rows.fnExactDiscriminantsWithFactorsSpec.post enc Try.prog Try.f4 false true false false) := by
 refine returnsInHanded_of_change (C := Try.checked) own started (by kernel_rfl) Try.func4
  (ChangeSpec.witness6 (enc := enc) (C := Try.checked) false ⟨#[], #[.slice none 0 0], []⟩ 8 (by kernel_rfl) (by kernel_rfl) (by kernel_rfl) (by kernel_rfl)) ?_
 intro W base args ds gs before hval0 hW hcnd _
 have hval : ∀ (j : Nat) t v, Try.f4.params[j]? = some t → args[j]? = some v → Value.okWide Try.prog W .any base t v := hval0
 have hW' := hW
 obtain ⟨p, q, hA0, hV, rfl, hfz, hnd⟩ := hW
 have hA : DataW.TrodAll enc Try.prog W 0 (fun _ => true) true Try.f4.params.toList args.toList ds p := hA0
 rw [Try.params4] at hA hval
 obtain ⟨v0, vs0, d0, ds0, p0, q0, hargs, rfl, rfl, h0, r0⟩ := trodAll_cons hA
 obtain ⟨rfl, rfl, rfl⟩ := trodAll_nil r0
 obtain rfl : args = #[v0] := by cases args; simp_all
 obtain ⟨rfl, rfl⟩ := trodVars_none hV
 have k0 := h0
 obtain ⟨u0, f0⟩ := h0
 obtain ⟨x8, n, z, hcs8, hAr, hm⟩ := open_intsA f0
 obtain ⟨sa8, sl8, sc8, rfl⟩ := okWide_slice Try.underlying22 (hval 0 22 v0 rfl rfl)
 simp [Value.cells] at hcs8
 subst hcs8
 clear hA0 hval0
 simp only [List.append_nil] at hW'
 have hlt := fun x hx => hW'.lt x hx
 refine (walk _ n z W hAr hm).mono fun e W' ⟨he, hg⟩ => ?_
 subst he
 exact ⟨_, rfl, post_of_below (pv := []) hW' (fun _ _ _ => (trodAll_cons_mk (shut_bool Try.underlying4 _) trodAll_mk0)) (fun sp hsp => (trodAll_cons_mk (WideElems.Trod_stays laidOut (by kernel_rfl) (of_decide_eq_true (by kernel_rfl)) k0 (fun x hx => hg.same (hlt x (by simp [hx]))) (fun x hx => hsp x (by simp [hx]))) trodAll_mk0)) (fun _ _ => rfl) (by simp)
  hg (ok_one (by kernel_rfl) rfl (okWide_bool_mk Try.underlying4 _))⟩

theorem enter : Try.pinned.checked.prog.mayEnter = true := by kernel_rfl
theorem lifts : (Rows.fnExactDiscriminantsWithFactorsRow.lifted == Try.pinned.checked.prog.liftsFinal) = true := by kernel_rfl
theorem make : (Try.pinned.checked.prog.make == some Rows.fnExactDiscriminantsWithFactorsRow.make) = true := by kernel_rfl
theorem closed : joinedFacts Try.pinned.checked.prog 4 Try.f4 Rows.fnExactDiscriminantsWithFactorsSpec Rows.fnExactDiscriminantsWithFactorsRow = true := by
 unfold joinedFacts
 rw [enter, lifts, make]
 kernel_rfl
theorem inst : (Try.f4).isInstance Try.pinned.checked.prog Rows.fnExactDiscriminantsWithFactorsRow.origin Rows.fnExactDiscriminantsWithFactorsRow.targs := of_decide_eq_true (by kernel_rfl)
theorem wrap : (Try.f4).isWrapper Try.pinned.checked.prog Rows.fnExactDiscriminantsWithFactorsRow.wrapper Rows.fnExactDiscriminantsWithFactorsRow.mainSum := by
 unfold Func.isWrapper; first | (rw [if_pos (by decide +kernel)]; kernel_rfl) | (rw [if_neg (by decide +kernel)]; exact ⟨rfl, rfl⟩)
theorem over : Rows.fnExactDiscriminantsWithFactorsRow.holds Try.pinned (OpenSpec.ofChange Rows.fnExactDiscriminantsWithFactorsSpec) :=
 OpenClaim.holds_of_wide 4 Try.f4 rfl rfl rfl rfl rfl rfl rfl ⟨rfl, rfl, rfl, rfl, rfl⟩ rfl rfl rfl rfl rfl (by kernel_rfl) Try.func4 closed inst wrap
  (fun os started H enc _ => lifted os started H enc)

theorem proved : Rows.FnExactDiscriminantsWithFactorsSaid :=
 over
#print axioms proved
end Go.Proofs.Ytaeabefbohlcpaa.fnExactDiscriminantsWithFactors
