/- The law FnLevelMatrices: for every input the call returns true and the input reads as it did. No condition. -/
import Derived.Test.YtobkcnmlmmhpoaaGreatRows
import Derived.Test.YtobkcnmlmmhpoaaGreatLawLx
import Derived.WalkKit
import Derived.ProofKit
import Derived.OpenShut
import Derived.Carry
import Derived.Lib.SmallJoins
import Derived.Test.YtobkcnmlmmhpoaaGreatOpB
namespace Go.Proofs.YtobkcnmlmmhpoaaGreat.fnLevelMatrices
open Go.ChangeShapes Go.WideShapes Go.ChangeAt Go.RowKit Go.Joins
set_option linter.unusedVariables false

theorem own : ownKnob Tryz.prog.godebug = none := by kernel_rfl
theorem laidOut : laidOutB Tryz.prog = true := by kernel_rfl
theorem walk (x0 : Value) (n0 : Nat) (x1 : Value) (n1 : Nat) (W : World) (hAr0 : ArgB W x0 n0) (hrr0 : n0 ≤ 9223372036854775807) (hAr1 : ArgB W x1 n1) (hrr1 : n1 ≤ 9223372036854775807) :
  Calls Tryz.prog 3 #[x0, x1] W fun e w' => e = .returned (.bool true) ∧ Below W.heap.size W w' :=
 lawLevelMatrices x0 x1 n0 n1 W hAr0 hAr1 hrr0 hrr1

set_option maxRecDepth 100000 in
set_option maxHeartbeats 2000000 in
theorem lifted (os : Os) (started : os.Started) (H : Type) (enc : TypeId × Value → H) :
  ReturnsInHanded {} Tryz.checked os 3 .any (Rows.fnLevelMatricesSpec.pre6 enc Tryz.prog Tryz.f3 Rows.fnLevelMatricesRow.domain false) (Rows.fnLevelMatricesSpec.post enc Tryz.prog Tryz.f3 false true false false) := by
 refine returnsInHanded_of_change (C := Tryz.checked) own started (by kernel_rfl) Tryz.func3
  (ChangeSpec.witness6 (enc := enc) (C := Tryz.checked) false ⟨#[], #[.slice none 0 0, .slice none 0 0], []⟩ 8 (by kernel_rfl) (by kernel_rfl) (by kernel_rfl) (by kernel_rfl)) ?_
 intro W base args ds gs before hval0 hW hcnd _
 have hval : ∀ (j : Nat) t v, Tryz.f3.params[j]? = some t → args[j]? = some v → Value.okWide Tryz.prog W .any base t v := hval0
 have hW' := hW
 obtain ⟨p, q, hA0, hV, rfl, hfz, hnd⟩ := hW
 have hA : DataW.TrodAll enc Tryz.prog W 0 (fun _ => true) true Tryz.f3.params.toList args.toList ds p := hA0
 rw [Tryz.params3] at hA hval
 obtain ⟨v0, vs0, d0, ds0, p0, q0, hargs, rfl, rfl, h0, r0⟩ := trodAll_cons hA
 obtain ⟨v1, vs1, d1, ds1, p1, q1, hargs1, rfl, rfl, h1, r1⟩ := trodAll_cons r0
 obtain ⟨rfl, rfl, rfl⟩ := trodAll_nil r1
 obtain rfl : args = #[v0, v1] := by cases args; simp_all
 obtain ⟨rfl, rfl⟩ := trodVars_none hV
 have k0 := h0
 have k1 := h1
 obtain ⟨u0, f0⟩ := h0
 obtain ⟨x0, n0, hcs0, hAr0, hm0⟩ := open_bytes f0
 obtain ⟨sa0, sl0, sc0, rfl⟩ := okWide_slice Tryz.underlying22 (hval 0 22 v0 rfl rfl)
 simp [Value.cells] at hcs0
 subst hcs0
 have hrr0 : n0 ≤ 9223372036854775807 := by unfold maxLen at hm0; exact hm0
 obtain ⟨u1, f1⟩ := h1
 obtain ⟨x1, n1, hcs1, hAr1, hm1⟩ := open_bytes f1
 obtain ⟨sa1, sl1, sc1, rfl⟩ := okWide_slice Tryz.underlying22 (hval 1 22 v1 rfl rfl)
 simp [Value.cells] at hcs1
 subst hcs1
 have hrr1 : n1 ≤ 9223372036854775807 := by unfold maxLen at hm1; exact hm1
 clear hA0 hval0
 simp only [List.append_nil] at hW'
 have hlt := fun x hx => hW'.lt x hx
 refine (walk _ n0 _ n1 W hAr0 hrr0 hAr1 hrr1).mono fun e W' ⟨he, hg⟩ => ?_
 subst he
 exact ⟨_, rfl, post_of_below (pv := []) hW' (fun _ _ _ => (trodAll_cons_mk (shut_bool Tryz.underlying4 _) trodAll_mk0)) (fun sp hsp => (trodAll_cons_mk (WideElems.Trod_stays laidOut (by kernel_rfl) (of_decide_eq_true (by kernel_rfl)) k0 (fun x hx => hg.same (hlt x (by simp [hx]))) (fun x hx => hsp x (by simp [hx]))) (trodAll_cons_mk (WideElems.Trod_stays laidOut (by kernel_rfl) (of_decide_eq_true (by kernel_rfl)) k1 (fun x hx => hg.same (hlt x (by simp [hx]))) (fun x hx => hsp x (by simp [hx]))) trodAll_mk0))) (fun _ _ => rfl) (by simp)
  hg (ok_one (by kernel_rfl) rfl (okWide_bool_mk Tryz.underlying4 _))⟩

theorem enter : Tryz.pinned.checked.prog.mayEnter = true := by kernel_rfl
theorem lifts : (Rows.fnLevelMatricesRow.lifted == Tryz.pinned.checked.prog.liftsFinal) = true := by kernel_rfl
theorem make : (Tryz.pinned.checked.prog.make == some Rows.fnLevelMatricesRow.make) = true := by kernel_rfl
theorem closed : joinedFacts Tryz.pinned.checked.prog 3 Tryz.f3 Rows.fnLevelMatricesSpec Rows.fnLevelMatricesRow = true := by
 unfold joinedFacts
 rw [enter, lifts, make]
 kernel_rfl
theorem inst : (Tryz.f3).isInstance Tryz.pinned.checked.prog Rows.fnLevelMatricesRow.origin Rows.fnLevelMatricesRow.targs := of_decide_eq_true (by kernel_rfl)
theorem wrap : (Tryz.f3).isWrapper Tryz.pinned.checked.prog Rows.fnLevelMatricesRow.wrapper Rows.fnLevelMatricesRow.mainSum := by
 unfold Func.isWrapper; first | (rw [if_pos (by decide +kernel)]; kernel_rfl) | (rw [if_neg (by decide +kernel)]; exact ⟨rfl, rfl⟩)
theorem over : Rows.fnLevelMatricesRow.holds Tryz.pinned (OpenSpec.ofChange Rows.fnLevelMatricesSpec) :=
 OpenClaim.holds_of_wide 3 Tryz.f3 rfl rfl rfl rfl rfl rfl rfl ⟨rfl, rfl, rfl, rfl, rfl⟩ rfl rfl rfl rfl rfl (by kernel_rfl) Tryz.func3 closed inst wrap
  (fun os started H enc _ => lifted os started H enc)

theorem proved : Rows.FnLevelMatricesSaid :=
 over
#print axioms proved
end Go.Proofs.YtobkcnmlmmhpoaaGreat.fnLevelMatrices
