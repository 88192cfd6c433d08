/- The law FnExactTableBetween: for every input the call returns true and the input reads as it did. No condition. -/
import Derived.Test.YtaeabefbohlcpaaGreatNum
import Derived.Test.YtaeabefbohlcpaaGreatLevel
import Derived.Test.YtaeabefbohlcpaaGreatConv
import Derived.Test.YtaeabefbohlcpaaGreatRed
import Derived.Test.YtaeabefbohlcpaaGreatDrp
import Derived.Test.YtaeabefbohlcpaaGreatPt
import Derived.Test.YtaeabefbohlcpaaGreatRule
import Derived.Test.YtaeabefbohlcpaaGreatOwn
import Derived.Test.YtaeabefbohlcpaaGreatSub
import Derived.Test.YtaeabefbohlcpaaGreatCmp
import Derived.Test.YtaeabefbohlcpaaGreatStep
import Derived.Test.YtaeabefbohlcpaaGreatReduceI
import Derived.Test.YtaeabefbohlcpaaGreatReduceS
import Derived.Test.YtaeabefbohlcpaaGreatRd
import Derived.Test.YtaeabefbohlcpaaGreatFp
import Derived.Test.YtaeabefbohlcpaaGreatInv
import Derived.Test.YtaeabefbohlcpaaGreatCpl
import Derived.Test.YtaeabefbohlcpaaGreatCpw
import Derived.Test.YtaeabefbohlcpaaGreatCps
import Derived.Test.YtaeabefbohlcpaaGreatGp
import Derived.Test.YtaeabefbohlcpaaGreatGi
import Derived.Test.YtaeabefbohlcpaaGreatGrp
import Derived.Test.YtaeabefbohlcpaaGreatRfl
import Derived.Test.YtaeabefbohlcpaaGreatFac
import Derived.Test.YtaeabefbohlcpaaGreatOs
import Derived.Test.YtaeabefbohlcpaaGreatUnw
import Derived.Test.YtaeabefbohlcpaaGreatCmpI
import Derived.Test.YtaeabefbohlcpaaGreatCou
import Derived.Test.YtaeabefbohlcpaaGreatSd
import Derived.Test.YtaeabefbohlcpaaGreatFaw
import Derived.Test.YtaeabefbohlcpaaGreatFap
import Derived.Test.YtaeabefbohlcpaaGreatFan
import Derived.Test.YtaeabefbohlcpaaGreatJac
import Derived.Test.YtaeabefbohlcpaaGreatJas
import Derived.Test.YtaeabefbohlcpaaGreatChv
import Derived.Test.YtaeabefbohlcpaaGreatChi
import Derived.Test.YtaeabefbohlcpaaGreatChs
import Derived.Test.YtaeabefbohlcpaaGreatPtg
import Derived.Test.YtaeabefbohlcpaaGreatFpg
import Derived.Test.YtaeabefbohlcpaaGreatGnv
import Derived.Test.YtaeabefbohlcpaaGreatGrq
import Derived.Test.YtaeabefbohlcpaaGreatGrt
import Derived.Test.YtaeabefbohlcpaaGreatIvp
import Derived.Test.YtaeabefbohlcpaaGreatIvi
import Derived.Test.YtaeabefbohlcpaaGreatIvs
import Derived.Test.YtaeabefbohlcpaaGreatGix
import Derived.Test.YtaeabefbohlcpaaGreatGtt
import Derived.Test.YtaeabefbohlcpaaGreatGx
import Derived.Test.YtaeabefbohlcpaaGreatGng
import Derived.Test.YtaeabefbohlcpaaGreatGns
import Derived.Test.YtaeabefbohlcpaaGreatRwo
import Derived.Test.YtaeabefbohlcpaaGreatRwt
import Derived.Test.YtaeabefbohlcpaaGreatPost
import Derived.Test.YtaeabefbohlcpaaGreatTableBetweenP0
import Derived.Test.YtaeabefbohlcpaaGreatTableBetweenP1
import Derived.Test.YtaeabefbohlcpaaGreatRows
import Derived.WalkKit
import Derived.ProofKit
import Derived.OpenShut
import Derived.Lib.SmallJoins
namespace Go.Proofs.YtaeabefbohlcpaaGreat.fnExactTableBetween
open Go.ChangeShapes Go.WideShapes Go.ChangeAt Go.RowKit Go.Joins
set_option linter.unusedVariables false

theorem own : ownKnob Tryz.prog.godebug = none := by kernel_rfl
theorem walk (lo : Int) (wlo : (Lit.int .i64 lo).wf = true) (hi : Int) (whi : (Lit.int .i64 hi).wf = true) (W : World) :
    Calls Tryz.prog 4 #[.int .i64 lo, .int .i64 hi] W fun e w' => e = .returned (.bool true) ∧ Below W.heap.size W w' :=
  lawTableBetween lo hi W

set_option maxRecDepth 100000 in
theorem lifted (os : Os) (started : os.Started) (H : Type) (enc : TypeId × Value → H) :
    ReturnsInHanded {} Tryz.checked os 4 .any (Rows.fnExactTableBetweenSpec.pre6 enc Tryz.prog Tryz.f4 Rows.fnExactTableBetweenRow.domain false) (Rows.fnExactTableBetweenSpec.post enc Tryz.prog Tryz.f4 false true false false) := by
  refine returnsInHanded_of_change (C := Tryz.checked) own started (by kernel_rfl) Tryz.func4
    (ChangeSpec.witness6 (enc := enc) (C := Tryz.checked) false ⟨#[], #[.int .i64 0, .int .i64 0], []⟩ 8 (by kernel_rfl) (by kernel_rfl) (by kernel_rfl) (by kernel_rfl)) ?_
  intro W base args ds gs before hval0 hW hcnd _
  have hval : ∀ (j : Nat) t v, Tryz.f4.params[j]? = some t → args[j]? = some v → Value.okWide Tryz.prog W .any base t v := hval0
  have hW' := hW
  obtain ⟨p, q, hA0, hV, rfl, hfz, hnd⟩ := hW
  have hA : DataW.TrodAll enc Tryz.prog W 0 (fun _ => true) true Tryz.f4.params.toList args.toList ds p := hA0
  rw [Tryz.params4] at hA hval
  obtain ⟨v0, vs0, d0, ds0, p0, q0, hargs, rfl, rfl, h0, r0⟩ := trodAll_cons hA
  obtain ⟨v1, vs1, d1, ds1, p1, q1, hargs1, rfl, rfl, h1, r1⟩ := trodAll_cons r0
  obtain ⟨rfl, rfl, rfl⟩ := trodAll_nil r1
  obtain rfl : args = #[v0, v1] := by cases args; simp_all
  obtain ⟨rfl, rfl⟩ := trodVars_none hV
  obtain ⟨lo, rfl, rfl, rfl, wlo⟩ := open_int Tryz.underlying3 (hval 0 3 v0 rfl rfl) h0
  obtain ⟨hi, rfl, rfl, rfl, whi⟩ := open_int Tryz.underlying3 (hval 1 3 v1 rfl rfl) h1
  clear hA0 hval0
  simp only [List.append_nil] at hW'
  refine (walk lo wlo hi whi W).mono fun e W' ⟨he, hg⟩ => ?_
  subst he
  exact ⟨_, rfl, post_of_below (pa := []) (pv := []) hW' (fun _ _ _ => (trodAll_cons_mk (shut_bool Tryz.underlying4 _) trodAll_mk0)) (fun sp _ => (trodAll_cons_mk (shut_int Tryz.underlying3 wlo) (trodAll_cons_mk (shut_int Tryz.underlying3 whi) trodAll_mk0))) (fun _ _ => rfl) rfl
    hg (ok_one (by kernel_rfl) rfl (okWide_bool_mk Tryz.underlying4 _))⟩

theorem enter : Tryz.pinned.checked.prog.mayEnter = true := by kernel_rfl
theorem lifts : (Rows.fnExactTableBetweenRow.lifted == Tryz.pinned.checked.prog.liftsFinal) = true := by kernel_rfl
theorem make : (Tryz.pinned.checked.prog.make == some Rows.fnExactTableBetweenRow.make) = true := by kernel_rfl
theorem closed : joinedFacts Tryz.pinned.checked.prog 4 Tryz.f4 Rows.fnExactTableBetweenSpec Rows.fnExactTableBetweenRow = true := by
  unfold joinedFacts
  rw [enter, lifts, make]
  kernel_rfl
theorem inst : (Tryz.f4).isInstance Tryz.pinned.checked.prog Rows.fnExactTableBetweenRow.origin Rows.fnExactTableBetweenRow.targs := of_decide_eq_true (by kernel_rfl)
theorem wrap : (Tryz.f4).isWrapper Tryz.pinned.checked.prog Rows.fnExactTableBetweenRow.wrapper Rows.fnExactTableBetweenRow.mainSum := by
  unfold Func.isWrapper; first | (rw [if_pos (by decide +kernel)]; kernel_rfl) | (rw [if_neg (by decide +kernel)]; exact ⟨rfl, rfl⟩)
theorem over : Rows.fnExactTableBetweenRow.holds Tryz.pinned (OpenSpec.ofChange Rows.fnExactTableBetweenSpec) :=
  OpenClaim.holds_of_wide 4 Tryz.f4 rfl rfl rfl rfl rfl rfl rfl ⟨rfl, rfl, rfl, rfl, rfl⟩ rfl rfl rfl rfl rfl (by kernel_rfl) Tryz.func4 closed inst wrap
    (fun os started H enc _ => lifted os started H enc)

theorem proved : Rows.FnExactTableBetweenSaid :=
  over
#print axioms proved
end Go.Proofs.YtaeabefbohlcpaaGreat.fnExactTableBetween
