/-
  The law FnExactParseRow: for every input the call returns true and the input reads as it did. No condition.
-/
import Derived.Test.YtfoofbcmaljmoaaDoorRows
import Derived.Test.YtfoofbcmaljmoaaDoorLawPr
import Derived.WalkKit
import Derived.ProofKit
import Derived.OpenShut
import Derived.Carry
import Derived.LaidMore
import Derived.Lay
import Derived.LaidLaws
import Derived.Shelf.Vars
import Derived.Stop.LaidErr
import Derived.Lib.LaidTab
import Derived.SevenTiedAt
import Derived.Test.YtfoofbcmaljmoaaDoorCards
import Derived.Test.YtfoofbcmaljmoaaDoorTie
import Derived.Lib.SmallJoins
import Derived.Test.YtfoofbcmaljmoaaDoorPost
import Derived.Test.YtfoofbcmaljmoaaDoorShp
namespace Go.Proofs.YtfoofbcmaljmoaaDoor.fnExactParseRow
open Go.ChangeShapes Go.WideShapes Go.ChangeAt Go.RowKit Go.Joins
set_option linter.unusedVariables false

theorem own : ownKnob Tryd.prog.godebug = none := by kernel_rfl
theorem laidOut : laidOutB Tryd.prog = true := by kernel_rfl
theorem walk (s : ByteArray) (W : World) (hE : Env W) :
    Calls Tryd.prog 3 #[.string s] W fun e w' => e = .returned (.bool true) ∧ Below W.heap.size W w' :=
  lawParseRow s W hE

theorem gPow : Tryd.prog.globalNamed powName = some 5 := by kernel_rfl
theorem tPow : (Tryd.prog.globals[5]?).map (·.type) = some 106 := by kernel_rfl
theorem cPow : Tryd.prog.cellsOf 106 = 20 := by kernel_rfl
theorem cU64 : Tryd.prog.cellsOf 79 = 1 := by kernel_rfl
theorem gSyn : Tryd.prog.globalNamed "strconv.ErrSyntax" = some 1 := by kernel_rfl
theorem tSyn : (Tryd.prog.globals[1]?).map (·.type) = some 49 := by kernel_rfl
theorem gRng : Tryd.prog.globalNamed "strconv.ErrRange" = some 2 := by kernel_rfl
theorem tRng : (Tryd.prog.globals[2]?).map (·.type) = some 49 := by kernel_rfl
theorem cErr : Tryd.prog.cellsOf 104 = 1 := by kernel_rfl
theorem cStr : Tryd.prog.cellsOf 9 = 1 := by kernel_rfl
theorem star : "*" ++ "errors.errorString" = "*errors.errorString" := by decide
theorem rowE (u : TypeId) (h : Tryd.prog.typeName? 3 u = some "*errors.errorString") : u = 102 :=
  typeName_ptr_named (nm := "errors.errorString") (by rw [star]; kernel_rfl) (by kernel_rfl) (by decide) u (by rw [star]; exact h)
theorem laidIs : Rows.fnExactParseRowRow.laid = ("math/bits.deBruijn32tab", Rows.laid_math_bits_deBruijn32tab) :: ("math/bits.deBruijn64tab", Rows.laid_math_bits_deBruijn64tab) :: (powName, Lib.tabData .u64 Lib.pow10Tab) :: ("unicode/utf8.acceptRanges", Rows.laid_unicode_utf8_acceptRanges) :: ("strconv.ErrRange", .iface "*errors.errorString" (.ptr (.agg [.lit (.string [118, 97, 108, 117, 101, 32, 111, 117, 116, 32, 111, 102, 32, 114, 97, 110, 103, 101])]))) :: ("strconv.ErrSyntax", .iface "*errors.errorString" (.ptr (.agg [.lit (.string [105, 110, 118, 97, 108, 105, 100, 32, 115, 121, 110, 116, 97, 120])]))) :: Rows.fnExactParseRowRow.laid.drop 6 := by kernel_rfl
theorem env_of {W : World} (h : laidMetH Tryd.prog Rows.fnExactParseRowRow.laid W) (hs : W.ShapedOpen Tryd.prog) : Env W := by
  rw [MakeChecks.laidMetH_plain _ _ _ (by kernel_rfl), laidIs] at h
  have h2 := laidMet.tail (laidMet.tail h)
  have h4 := laidMet.tail (laidMet.tail h2)
  obtain ⟨a0, s0, hv0, -, -, -⟩ := laid_sentinel h4 gRng tRng Tryd.underlying49 rowE Tryd.underlying102 Tryd.underlying104 rfl rfl Tryd.underlying9 cErr cStr
  obtain ⟨a1, s1, hv1, -, -, -⟩ := laid_sentinel (laidMet.tail h4) gSyn tSyn Tryd.underlying49 rowE Tryd.underlying102 Tryd.underlying104 rfl rfl Tryd.underlying9 cErr cStr
  refine ⟨Lib.tabIs_of_head gPow tPow Tryd.underlying106 Tryd.underlying79 cU64 cPow h2, ?_, ?_, ?_⟩
  · exact cell_of_shapedOpen_int (g := 0) (t := 3) (zero := #[.int .i64 0]) (k := .i64) hs (of_decide_eq_true (by kernel_rfl)) (by kernel_rfl) rfl (by kernel_rfl) (by kernel_rfl) Tryd.underlying3
  · exact ⟨_, by have h0 := World.var?_cell gSyn hv1 0; simpa using h0, .inr ⟨_, _, rfl⟩⟩
  · exact ⟨_, by have h0 := World.var?_cell gRng hv0 0; simpa using h0, .inr ⟨_, _, rfl⟩⟩

/-- A heap that is laid meets the condition. -/
theorem door_met (os : Os) (args : Array Value) : laidMetH Tryd.prog Rows.fnExactParseRowRow.laid ((World.laidAll Tryd.prog os Rows.fnExactParseRowRow.laid).forCall (fun _ _ => 0) ⟨#[], args, []⟩).memory := by
  rw [MakeChecks.laidMetH_plain _ _ _ (by kernel_rfl)]
  exact laidMet_laidAll _ (by kernel_rfl) (by kernel_rfl)

set_option maxRecDepth 100000 in
set_option maxHeartbeats 2000000 in
theorem lifted (os : Os) (started : os.Started) (H : Type) (enc : TypeId × Value → H) :
    ReturnsInHanded {} Tryd.checked os 3 .any (fun w args => (Rows.fnExactParseRowSpec.pre enc Tryd.prog Tryd.f3 [] false w args ∧ laidMetH Tryd.prog Rows.fnExactParseRowRow.laid w) ∧ sizedMet enc Tryd.prog Tryd.f3 (OpenSpec.ofChange Rows.fnExactParseRowSpec) false w args)
      (Rows.fnExactParseRowSpec.post enc Tryd.prog Tryd.f3 false true false false) := by
  refine rih_shaped (C := Tryd.checked) (X := fun w _ => laidMetH Tryd.prog Rows.fnExactParseRowRow.laid w) (fun _ _ _ hh h => h.of_heap hh) own started (by kernel_rfl) Tryd.func3
    (ChangeSpec.witness_shaped (enc := enc) (C := Tryd.checked) (os := os) (X := fun w _ => laidMetH Tryd.prog Rows.fnExactParseRowRow.laid w) false (World.laidAll Tryd.prog os Rows.fnExactParseRowRow.laid) #[.string ⟨#[]⟩] 8 (World.laidAll_os _ _ _) (World.shaped_of_ZipB (by kernel_rfl) (by kernel_rfl)) (by kernel_rfl) (by kernel_rfl) (by kernel_rfl) (door_met os _)) ?_
  intro W base args ds gs before hval0 hW hL hshp
  have htab := env_of hL hshp
  have hval : ∀ (j : Nat) t v, Tryd.f3.params[j]? = some t → args[j]? = some v → Value.okWide Tryd.prog W .any base t v := hval0
  have hW' := hW
  obtain ⟨p, q, hA0, hV, rfl, hfz, hnd⟩ := hW
  have hA : DataW.TrodAll enc Tryd.prog W 0 (fun _ => true) true Tryd.f3.params.toList args.toList ds p := hA0
  rw [Tryd.params3] at hA hval
  obtain ⟨v0, vs0, d0, ds0, p0, q0, hargs, rfl, rfl, h0, r0⟩ := trodAll_cons hA
  obtain ⟨rfl, rfl, rfl⟩ := trodAll_nil r0
  obtain rfl : args = #[v0] := by cases args; simp_all
  obtain ⟨rfl, rfl⟩ := trodVars_none hV
  have k0 := h0
  obtain ⟨s, rfl, e0d, e0p, hsz⟩ := Go.ChangeMaps.open_string Tryd.underlying9 (hval 0 9 v0 rfl rfl) h0
  clear hA0 hval0
  simp only [List.append_nil] at hW'
  have hlt := fun x hx => hW'.lt x hx
  refine (walk s W htab).mono fun e W' ⟨he, hg⟩ => ?_
  subst he
  exact ⟨_, rfl, post_of_below (pv := []) hW' (fun _ _ _ => (trodAll_cons_mk (shut_bool Tryd.underlying4 _) trodAll_mk0)) (fun sp hsp => (trodAll_cons_mk (WideElems.Trod_stays laidOut (by kernel_rfl) (of_decide_eq_true (by kernel_rfl)) k0 (fun x hx => hg.same (hlt x (by simp [hx]))) (fun x hx => hsp x (by simp [hx]))) trodAll_mk0)) (fun _ _ => rfl) (by simp)
    hg (ok_one (by kernel_rfl) rfl (okWide_bool_mk Tryd.underlying4 _))⟩

theorem enter : Tryd.pinned.checked.prog.mayEnter = true := by kernel_rfl
theorem lifts : (Rows.fnExactParseRowRow.lifted == Tryd.pinned.checked.prog.liftsFinal) = true := by kernel_rfl
theorem make : (Tryd.pinned.checked.prog.make == some Rows.fnExactParseRowRow.make) = true := by kernel_rfl
theorem closed : joinedFacts Tryd.pinned.checked.prog 3 Tryd.f3 Rows.fnExactParseRowSpec Rows.fnExactParseRowRow = true := by
  unfold joinedFacts
  rw [enter, lifts, make]
  kernel_rfl
theorem inst : (Tryd.f3).isInstance Tryd.pinned.checked.prog Rows.fnExactParseRowRow.origin Rows.fnExactParseRowRow.targs := of_decide_eq_true (by kernel_rfl)
theorem wrap : (Tryd.f3).isWrapper Tryd.pinned.checked.prog Rows.fnExactParseRowRow.wrapper Rows.fnExactParseRowRow.mainSum := by
  unfold Func.isWrapper; first | (rw [if_pos (by decide +kernel)]; kernel_rfl) | (rw [if_neg (by decide +kernel)]; exact ⟨rfl, rfl⟩)
theorem over : Rows.fnExactParseRowRow.holds Tryd.pinned (OpenSpec.ofChange Rows.fnExactParseRowSpec) :=
  OpenClaim.holds_of_wide 3 Tryd.f3 rfl rfl rfl rfl rfl rfl rfl ⟨rfl, rfl, rfl, rfl, rfl⟩ rfl rfl rfl rfl rfl (by kernel_rfl) Tryd.func3 closed inst wrap
    (fun os started H enc _ => lifted os started H enc)

theorem proved : Rows.FnExactParseRowCardSaid :=
  Claim7.holds_tied_plain_at .later [] [.data, .data, .data, .data, .sentinel, .sentinel, .pinned] true (true, "933364ef5020c3c960f93317831ac645a891ed49015dab9906d8ebb7c7f811ef") true
    over (fun _ h => by cases h) (by kernel_rfl) (fun _ h => by cases h) fnExactParseRow_row_tie rfl ⟨rfl, rfl⟩ (by kernel_rfl) rfl
    (fun f fn hf hfn => by
      obtain rfl : f = 3 := Option.some.inj ((show Tryd.prog.funcNamed Rows.fnExactParseRowRow.func = some 3 by kernel_rfl).symm.trans hf) |>.symm
      obtain rfl : fn = Tryd.f3 := (Option.some.inj (Tryd.func3.symm.trans hfn)).symm
      exact ⟨by kernel_rfl, fun j t ht => by
        rw [Tryd.params3] at ht
        have := List.all_eq_true.1 (show (Tryd.f3.params.toList.all fun t => !Tryd.prog.wantsStandIn t) = true by kernel_rfl) t (by rw [Tryd.params3]; exact Array.mem_toList_iff.2 (Array.mem_of_getElem? ht))
        show Tryd.prog.wantsStandIn t = false
        simpa using this⟩)
    (by kernel_rfl)
#print axioms proved
end Go.Proofs.YtfoofbcmaljmoaaDoor.fnExactParseRow
