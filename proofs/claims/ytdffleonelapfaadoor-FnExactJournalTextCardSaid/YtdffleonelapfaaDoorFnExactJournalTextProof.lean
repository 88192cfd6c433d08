/-
  The law FnExactJournalText: for every input the call returns true and the input reads as it did. No condition.
-/
import Derived.Test.YtdffleonelapfaaDoorRows
import Derived.Test.YtdffleonelapfaaDoorLawJrn
import Derived.WalkKit
import Derived.ProofKit
import Derived.OpenShut
import Derived.Carry
import Derived.LaidMore
import Derived.Stop.LaidErr
import Derived.Lib.LaidTab
import Derived.SevenTiedAt
import Derived.Test.YtdffleonelapfaaDoorCards
import Derived.Test.YtdffleonelapfaaDoorTie
import Derived.Lib.SmallJoins
import Derived.Test.YtdffleonelapfaaDoorPost
import Derived.Test.YtdffleonelapfaaDoorOpS
namespace Go.Proofs.YtdffleonelapfaaDoor.fnExactJournalText
open Go.ChangeShapes Go.WideShapes Go.ChangeAt Go.RowKit Go.Joins
set_option linter.unusedVariables false

theorem own : ownKnob Tryd.prog.godebug = none := by kernel_rfl
theorem laidOut : laidOutB Tryd.prog = true := by kernel_rfl
theorem walk (v : Value) (n : Nat) (E : Nat → Cmd) (W : World) (hAr : ArgC W v n E) (hI : ∀ i, i < n → CmdOk (E i)) (hm : n ≤ 9223372036854775807) (ht : Tab W) :
    Calls Tryd.prog 6 #[v] W fun e w' => e = .returned (.bool true) ∧ Below W.heap.size W w' :=
  lawJournalText v n E W hAr hm hI ht

theorem gPow : Tryd.prog.globalNamed powName = some 0 := by kernel_rfl
theorem tPow : (Tryd.prog.globals[0]?).map (·.type) = some 104 := by kernel_rfl
theorem cPow : Tryd.prog.cellsOf 104 = 20 := by kernel_rfl
theorem cU64 : Tryd.prog.cellsOf 96 = 1 := by kernel_rfl
theorem laidIs : Rows.fnExactJournalTextRow.laid = [(Rows.fnExactJournalTextRow.laid.map (·.1)).headD powName |> fun s => (s, (Rows.fnExactJournalTextRow.laid.map (·.2)).headD .nil)] ++ [((Rows.fnExactJournalTextRow.laid.map (·.1)).getD 1 powName, (Rows.fnExactJournalTextRow.laid.map (·.2)).getD 1 .nil)] ++ [(powName, Lib.tabData .u64 Lib.pow10Tab)] := by kernel_rfl
theorem tab_of {W : World} (h : laidMetH Tryd.prog Rows.fnExactJournalTextRow.laid W) : Tab W := by
  rw [MakeChecks.laidMetH_plain _ _ _ (by kernel_rfl), laidIs] at h
  exact Lib.tabIs_of_head gPow tPow Tryd.underlying104 Tryd.underlying96 cU64 cPow (laidMet.tail (laidMet.tail h))

/-- The door's own heap meets the condition. -/
theorem door_met (os : Os) (args : Array Value) : laidMetH Tryd.prog Rows.fnExactJournalTextRow.laid ((World.doorLaid Tryd.prog 24 os).forCall (fun _ _ => 0) ⟨#[], args, []⟩).memory :=
  laidMetH_of_parts3 (fuel := 8) (laidMet_of_run' 8 (by kernel_rfl) (by kernel_rfl)) (by kernel_rfl) (by kernel_rfl)

set_option maxRecDepth 100000 in
set_option maxHeartbeats 2000000 in
theorem lifted (os : Os) (started : os.Started) (H : Type) (enc : TypeId × Value → H) :
    ReturnsInHanded {} Tryd.checked os 6 .any (fun w args => (Rows.fnExactJournalTextSpec.pre enc Tryd.prog Tryd.f6 [] false w args ∧ laidMetH Tryd.prog Rows.fnExactJournalTextRow.laid w) ∧ sizedMet enc Tryd.prog Tryd.f6 (OpenSpec.ofChange Rows.fnExactJournalTextSpec) false w args)
      (Rows.fnExactJournalTextSpec.post enc Tryd.prog Tryd.f6 false true false false) := by
  refine returnsInHanded_of_change_and (C := Tryd.checked) (X := fun w _ => laidMetH Tryd.prog Rows.fnExactJournalTextRow.laid w) (fun _ _ _ hh h => h.of_heap hh) own started (by kernel_rfl) Tryd.func6
    (ChangeSpec.witness_shaped (enc := enc) (C := Tryd.checked) (os := os) (X := fun w _ => laidMetH Tryd.prog Rows.fnExactJournalTextRow.laid w) false (World.doorLaid Tryd.prog 24 os) #[.slice none 0 0] 8 rfl (World.shaped_of_RefB (by kernel_rfl) (by kernel_rfl)) (by kernel_rfl) (by kernel_rfl) (by kernel_rfl) (door_met os _)) ?_
  intro W base args ds gs before hval0 hW _ _ hL _
  have htab := tab_of hL
  have hval : ∀ (j : Nat) t v, Tryd.f6.params[j]? = some t → args[j]? = some v → Value.okWide Tryd.prog W .any base t v := hval0
  have hW' := hW
  obtain ⟨p, q, hA0, hV, rfl, hfz, hnd⟩ := hW
  have hA : DataW.TrodAll enc Tryd.prog W 0 (fun _ => true) true Tryd.f6.params.toList args.toList ds p := hA0
  rw [Tryd.params6] at hA hval
  obtain ⟨v0, vs0, d0, ds0, p0, q0, hargs, rfl, rfl, h0, r0⟩ := trodAll_cons hA
  obtain ⟨rfl, rfl, rfl⟩ := trodAll_nil r0
  obtain rfl : args = #[v0] := by cases args; simp_all
  obtain ⟨rfl, rfl⟩ := trodVars_none hV
  have k0 := h0
  obtain ⟨u0, f0⟩ := h0
  obtain ⟨x8, n, E, hcs8, hAr, hI, hm⟩ := open_cmdL f0
  obtain ⟨sa8, sl8, sc8, rfl⟩ := okWide_slice Tryd.underlying45 (hval 0 45 v0 rfl rfl)
  simp [Value.cells] at hcs8
  subst hcs8
  clear hA0 hval0
  simp only [List.append_nil] at hW'
  have hlt := fun x hx => hW'.lt x hx
  refine (walk _ n E W hAr hI hm htab).mono fun e W' ⟨he, hg⟩ => ?_
  subst he
  exact ⟨_, rfl, post_of_below (pv := []) hW' (fun _ _ _ => (trodAll_cons_mk (shut_bool Tryd.underlying4 _) trodAll_mk0)) (fun sp hsp => (trodAll_cons_mk (WideElems.Trod_stays laidOut (by kernel_rfl) (of_decide_eq_true (by kernel_rfl)) k0 (fun x hx => hg.same (hlt x (by simp [hx]))) (fun x hx => hsp x (by simp [hx]))) trodAll_mk0)) (fun _ _ => rfl) (by simp)
    hg (ok_one (by kernel_rfl) rfl (okWide_bool_mk Tryd.underlying4 _))⟩

theorem enter : Tryd.pinned.checked.prog.mayEnter = true := by kernel_rfl
theorem lifts : (Rows.fnExactJournalTextRow.lifted == Tryd.pinned.checked.prog.liftsFinal) = true := by kernel_rfl
theorem make : (Tryd.pinned.checked.prog.make == some Rows.fnExactJournalTextRow.make) = true := by kernel_rfl
theorem closed : joinedFacts Tryd.pinned.checked.prog 6 Tryd.f6 Rows.fnExactJournalTextSpec Rows.fnExactJournalTextRow = true := by
  unfold joinedFacts
  rw [enter, lifts, make]
  kernel_rfl
theorem inst : (Tryd.f6).isInstance Tryd.pinned.checked.prog Rows.fnExactJournalTextRow.origin Rows.fnExactJournalTextRow.targs := of_decide_eq_true (by kernel_rfl)
theorem wrap : (Tryd.f6).isWrapper Tryd.pinned.checked.prog Rows.fnExactJournalTextRow.wrapper Rows.fnExactJournalTextRow.mainSum := by
  unfold Func.isWrapper; first | (rw [if_pos (by decide +kernel)]; kernel_rfl) | (rw [if_neg (by decide +kernel)]; exact ⟨rfl, rfl⟩)
theorem over : Rows.fnExactJournalTextRow.holds Tryd.pinned (OpenSpec.ofChange Rows.fnExactJournalTextSpec) :=
  OpenClaim.holds_of_wide 6 Tryd.f6 rfl rfl rfl rfl rfl rfl rfl ⟨rfl, rfl, rfl, rfl, rfl⟩ rfl rfl rfl rfl rfl (by kernel_rfl) Tryd.func6 closed inst wrap
    (fun os started H enc _ => lifted os started H enc)

theorem proved : Rows.FnExactJournalTextCardSaid :=
  Claim7.holds_tied_plain_at .later [] [.data, .data, .data] true (true, "59622d18de7b29c8ef72f30ec4d54f66f89254904ff0519388a0bb4dd2fe009a") false
    over (fun _ h => by cases h) (by kernel_rfl) (fun _ h => by cases h) fnExactJournalText_row_tie rfl ⟨rfl, rfl⟩ (by kernel_rfl) rfl
    (fun f fn hf hfn => by
      obtain rfl : f = 6 := Option.some.inj ((show Tryd.prog.funcNamed Rows.fnExactJournalTextRow.func = some 6 by kernel_rfl).symm.trans hf) |>.symm
      obtain rfl : fn = Tryd.f6 := (Option.some.inj (Tryd.func6.symm.trans hfn)).symm
      exact ⟨by kernel_rfl, fun j t ht => by
        rw [Tryd.params6] at ht
        have := List.all_eq_true.1 (show (Tryd.f6.params.toList.all fun t => !Tryd.prog.wantsStandIn t) = true by kernel_rfl) t (by rw [Tryd.params6]; exact Array.mem_toList_iff.2 (Array.mem_of_getElem? ht))
        show Tryd.prog.wantsStandIn t = false
        simpa using this⟩)
    (by kernel_rfl)
#print axioms proved
end Go.Proofs.YtdffleonelapfaaDoor.fnExactJournalText
