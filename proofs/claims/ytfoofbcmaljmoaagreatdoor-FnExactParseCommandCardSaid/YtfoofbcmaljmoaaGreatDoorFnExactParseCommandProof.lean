/- The law FnExactParseCommand: for every input the call returns true and the input reads as it did. No condition. -/
import Derived.Test.YtfoofbcmaljmoaaGreatDoorRows
import Derived.Test.YtfoofbcmaljmoaaGreatDoorLawPc
import Derived.WalkKit
import Derived.ProofKit
import Derived.OpenShut
import Derived.Carry
import Derived.LaidMore
import Derived.Lay
import Derived.LaidLaws
import Derived.Shelf.Vars
import Derived.Stop.LaidErr
import Derived.Lib.LaidTab
import Derived.SevenTiedAt
import Derived.Test.YtfoofbcmaljmoaaGreatDoorCards
import Derived.Test.YtfoofbcmaljmoaaGreatDoorTie
import Derived.Lib.SmallJoins
import Derived.Test.YtfoofbcmaljmoaaGreatDoorShp
namespace Go.Proofs.YtfoofbcmaljmoaaGreatDoor.fnExactParseCommand
open Go.ChangeShapes Go.WideShapes Go.ChangeAt Go.RowKit Go.Joins
set_option linter.unusedVariables false

theorem own : ownKnob Tryz.prog.godebug = none := by kernel_rfl
theorem laidOut : laidOutB Tryz.prog = true := by kernel_rfl
theorem walk (s : ByteArray) (W : World) (hE : Env W) :
  Calls Tryz.prog 3 #[.string s] W fun e w' => e = .returned (.bool true) ∧ Below W.heap.size W w' :=
 lawParseCommand s W hE

theorem gPow : Tryz.prog.globalNamed powName = some 5 := by kernel_rfl
theorem tPow : (Tryz.prog.globals[5]?).map (·.type) = some 117 := by kernel_rfl
theorem cPow : Tryz.prog.cellsOf 117 = 20 := by kernel_rfl
theorem cU64 : Tryz.prog.cellsOf 100 = 1 := by kernel_rfl
theorem gSyn : Tryz.prog.globalNamed "strconv.ErrSyntax" = some 3 := by kernel_rfl
theorem tSyn : (Tryz.prog.globals[3]?).map (·.type) = some 56 := by kernel_rfl
theorem gRng : Tryz.prog.globalNamed "strconv.ErrRange" = some 4 := by kernel_rfl
theorem tRng : (Tryz.prog.globals[4]?).map (·.type) = some 56 := by kernel_rfl
theorem cErr : Tryz.prog.cellsOf 115 = 1 := by kernel_rfl
theorem cStr : Tryz.prog.cellsOf 9 = 1 := by kernel_rfl
theorem star : "*" ++ "errors.errorString" = "*errors.errorString" := by decide
theorem rowE (u : TypeId) (h : Tryz.prog.typeName? 3 u = some "*errors.errorString") : u = 113 :=
 typeName_ptr_named (nm := "errors.errorString") (by rw [star]; kernel_rfl) (by kernel_rfl) (by decide) u (by rw [star]; exact h)
theorem laidIs : Rows.fnExactParseCommandRow.laid = ("math/bits.deBruijn32tab", Rows.laid_math_bits_deBruijn32tab) :: ("math/bits.deBruijn64tab", Rows.laid_math_bits_deBruijn64tab) :: (powName, Lib.tabData .u64 Lib.pow10Tab) :: ("unicode/utf8.acceptRanges", Rows.laid_unicode_utf8_acceptRanges) :: ("strconv.ErrRange", .iface "*errors.errorString" (.ptr (.agg [.lit (.string [118, 97, 108, 117, 101, 32, 111, 117, 116, 32, 111, 102, 32, 114, 97, 110, 103, 101])]))) :: ("strconv.ErrSyntax", .iface "*errors.errorString" (.ptr (.agg [.lit (.string [105, 110, 118, 97, 108, 105, 100, 32, 115, 121, 110, 116, 97, 120])]))) :: Rows.fnExactParseCommandRow.laid.drop 6 := by kernel_rfl
theorem env_of {W : World} (h : laidMetH Tryz.prog Rows.fnExactParseCommandRow.laid W) (hs : W.ShapedOpen Tryz.prog) : Env W := by
 rw [MakeChecks.laidMetH_plain _ _ _ (by kernel_rfl), laidIs] at h
 have h2 := laidMet.tail (laidMet.tail h)
 have h4 := laidMet.tail (laidMet.tail h2)
 obtain ⟨a0, s0, hv0, -, -, -⟩ := laid_sentinel h4 gRng tRng Tryz.underlying56 rowE Tryz.underlying113 Tryz.underlying115 rfl rfl Tryz.underlying9 cErr cStr
 obtain ⟨a1, s1, hv1, -, -, -⟩ := laid_sentinel (laidMet.tail h4) gSyn tSyn Tryz.underlying56 rowE Tryz.underlying113 Tryz.underlying115 rfl rfl Tryz.underlying9 cErr cStr
 refine ⟨Lib.tabIs_of_head gPow tPow Tryz.underlying117 Tryz.underlying100 cU64 cPow h2, ?_, ?_, ?_⟩
 ·exact cell_of_shapedOpen_int (g := 0) (t := 3) (zero := #[.int .i64 0]) (k := .i64) hs (of_decide_eq_true (by kernel_rfl)) (by kernel_rfl) rfl (by kernel_rfl) (by kernel_rfl) Tryz.underlying3
 ·exact ⟨_, by have h0 := World.var?_cell gSyn hv1 0; simpa using h0, .inr ⟨_, _, rfl⟩⟩
 ·exact ⟨_, by have h0 := World.var?_cell gRng hv0 0; simpa using h0, .inr ⟨_, _, rfl⟩⟩

/-- A heap that is laid meets the condition. -/
theorem door_met (os : Os) (args : Array Value) : laidMetH Tryz.prog Rows.fnExactParseCommandRow.laid ((World.laidAll Tryz.prog os Rows.fnExactParseCommandRow.laid).forCall (fun _ _ => 0) ⟨#[], args, []⟩).memory := by
 rw [MakeChecks.laidMetH_plain _ _ _ (by kernel_rfl)]
 exact laidMet_laidAll _ (by kernel_rfl) (by kernel_rfl)

set_option maxRecDepth 100000 in
set_option maxHeartbeats 2000000 in
theorem lifted (os : Os) (started : os.Started) (H : Type) (enc : TypeId × Value → H) :
  ReturnsInHanded {} Tryz.checked os 3 .any (fun w args => (Rows.fnExactParseCommandSpec.pre enc Tryz.prog Tryz.f3 [] false w args ∧ laidMetH Tryz.prog Rows.fnExactParseCommandRow.laid w) ∧ sizedMet enc Tryz.prog Tryz.f3 (OpenSpec.ofChange Rows.fnExactParseCommandSpec) false w args)
   (Rows.fnExactParseCommandSpec.post enc Tryz.prog Tryz.f3 false true false false) := by
 refine rih_shaped (C := Tryz.checked) (X := fun w _ => laidMetH Tryz.prog Rows.fnExactParseCommandRow.laid w) (fun _ _ _ hh h => h.of_heap hh) own started (by kernel_rfl) Tryz.func3
  (ChangeSpec.witness_shaped (enc := enc) (C := Tryz.checked) (os := os) (X := fun w _ => laidMetH Tryz.prog Rows.fnExactParseCommandRow.laid w) false (World.laidAll Tryz.prog os Rows.fnExactParseCommandRow.laid) #[.string ⟨#[]⟩] 8 (World.laidAll_os _ _ _) (World.shaped_of_ZipB (by kernel_rfl) (by kernel_rfl)) (by kernel_rfl) (by kernel_rfl) (by kernel_rfl) (door_met os _)) ?_
 intro W base args ds gs before hval0 hW hL hshp
 have htab := env_of hL hshp
 have hval : ∀ (j : Nat) t v, Tryz.f3.params[j]? = some t → args[j]? = some v → Value.okWide Tryz.prog W .any base t v := hval0
 have hW' := hW
 obtain ⟨p, q, hA0, hV, rfl, hfz, hnd⟩ := hW
 have hA : DataW.TrodAll enc Tryz.prog W 0 (fun _ => true) true Tryz.f3.params.toList args.toList ds p := hA0
 rw [Tryz.params3] at hA hval
 obtain ⟨v0, vs0, d0, ds0, p0, q0, hargs, rfl, rfl, h0, r0⟩ := trodAll_cons hA
 obtain ⟨rfl, rfl, rfl⟩ := trodAll_nil r0
 obtain rfl : args = #[v0] := by cases args; simp_all
 obtain ⟨rfl, rfl⟩ := trodVars_none hV
 have k0 := h0
 obtain ⟨s, rfl, e0d, e0p, hsz⟩ := Go.ChangeMaps.open_string Tryz.underlying9 (hval 0 9 v0 rfl rfl) h0
 clear hA0 hval0
 simp only [List.append_nil] at hW'
 have hlt := fun x hx => hW'.lt x hx
 refine (walk s W htab).mono fun e W' ⟨he, hg⟩ => ?_
 subst he
 exact ⟨_, rfl, post_of_below (pv := []) hW' (fun _ _ _ => (trodAll_cons_mk (shut_bool Tryz.underlying4 _) trodAll_mk0)) (fun sp hsp => (trodAll_cons_mk (WideElems.Trod_stays laidOut (by kernel_rfl) (of_decide_eq_true (by kernel_rfl)) k0 (fun x hx => hg.same (hlt x (by simp [hx]))) (fun x hx => hsp x (by simp [hx]))) trodAll_mk0)) (fun _ _ => rfl) (by simp)
  hg (ok_one (by kernel_rfl) rfl (okWide_bool_mk Tryz.underlying4 _))⟩

theorem enter : Tryz.pinned.checked.prog.mayEnter = true := by kernel_rfl
theorem lifts : (Rows.fnExactParseCommandRow.lifted == Tryz.pinned.checked.prog.liftsFinal) = true := by kernel_rfl
theorem make : (Tryz.pinned.checked.prog.make == some Rows.fnExactParseCommandRow.make) = true := by kernel_rfl
theorem closed : joinedFacts Tryz.pinned.checked.prog 3 Tryz.f3 Rows.fnExactParseCommandSpec Rows.fnExactParseCommandRow = true := by
 unfold joinedFacts
 rw [enter, lifts, make]
 kernel_rfl
theorem inst : (Tryz.f3).isInstance Tryz.pinned.checked.prog Rows.fnExactParseCommandRow.origin Rows.fnExactParseCommandRow.targs := of_decide_eq_true (by kernel_rfl)
theorem wrap : (Tryz.f3).isWrapper Tryz.pinned.checked.prog Rows.fnExactParseCommandRow.wrapper Rows.fnExactParseCommandRow.mainSum := by
 unfold Func.isWrapper; first | (rw [if_pos (by decide +kernel)]; kernel_rfl) | (rw [if_neg (by decide +kernel)]; exact ⟨rfl, rfl⟩)
theorem over : Rows.fnExactParseCommandRow.holds Tryz.pinned (OpenSpec.ofChange Rows.fnExactParseCommandSpec) :=
 OpenClaim.holds_of_wide 3 Tryz.f3 rfl rfl rfl rfl rfl rfl rfl ⟨rfl, rfl, rfl, rfl, rfl⟩ rfl rfl rfl rfl rfl (by kernel_rfl) Tryz.func3 closed inst wrap
  (fun os started H enc _ => lifted os started H enc)

theorem proved : Rows.FnExactParseCommandCardSaid :=
 Claim7.holds_tied_plain_at .later [] [.data, .data, .data, .data, .sentinel, .sentinel, .pinned] true (true, "4e326dcac13eccde53a56e74122fa13e650064aad878fac6a818588085122e2b") true
  over (fun _ h => by cases h) (by kernel_rfl) (fun _ h => by cases h) fnExactParseCommand_row_tie rfl ⟨rfl, rfl⟩ (by kernel_rfl) rfl
  (fun f fn hf hfn => by
   obtain rfl : f = 3 := Option.some.inj ((show Tryz.prog.funcNamed Rows.fnExactParseCommandRow.func = some 3 by kernel_rfl).symm.trans hf) |>.symm
   obtain rfl : fn = Tryz.f3 := (Option.some.inj (Tryz.func3.symm.trans hfn)).symm
   exact ⟨by kernel_rfl, fun j t ht => by
    rw [Tryz.params3] at ht
    have := List.all_eq_true.1 (show (Tryz.f3.params.toList.all fun t => !Tryz.prog.wantsStandIn t) = true by kernel_rfl) t (by rw [Tryz.params3]; exact Array.mem_toList_iff.2 (Array.mem_of_getElem? ht))
    show Tryz.prog.wantsStandIn t = false
    simpa using this⟩)
  (by kernel_rfl)
#print axioms proved
end Go.Proofs.YtfoofbcmaljmoaaGreatDoor.fnExactParseCommand
