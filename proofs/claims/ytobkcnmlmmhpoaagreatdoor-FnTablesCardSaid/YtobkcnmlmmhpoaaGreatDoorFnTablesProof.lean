/- The law FnTables: for every input the call returns true and the input reads as it did. No condition. -/
import Derived.Test.YtobkcnmlmmhpoaaGreatDoorRows
import Derived.Test.YtobkcnmlmmhpoaaGreatDoorShp
import Derived.WalkKit
import Derived.ProofKit
import Derived.OpenShut
import Derived.Carry
import Derived.LaidMore
import Derived.Lay
import Derived.LaidLaws
import Derived.Shelf.Vars
import Derived.Stop.LaidErr
import Derived.Lib.LaidTab
import Derived.SevenTiedAt
import Derived.Test.YtobkcnmlmmhpoaaGreatDoorCards
import Derived.Test.YtobkcnmlmmhpoaaGreatDoorTie
import Derived.Lib.SmallJoins
namespace Go.Proofs.YtobkcnmlmmhpoaaGreatDoor.fnTables
open Go.ChangeShapes Go.WideShapes Go.ChangeAt Go.RowKit Go.Joins
set_option linter.unusedVariables false

theorem own : ownKnob Tryz.prog.godebug = none := by kernel_rfl
theorem laidOut : laidOutB Tryz.prog = true := by kernel_rfl
theorem walk (x0 : Value) (n0 : Nat) (x1 : Value) (n1 : Nat) (W : World) (hAr0 : ArgB W x0 n0) (hrr0 : n0 ≤ 9223372036854775807) (hAr1 : ArgB W x1 n1) (hrr1 : n1 ≤ 9223372036854775807) (hE : Env W) :
  Calls Tryz.prog 3 #[x0, x1] W fun e w' => e = .returned (.bool true) ∧ Below W.heap.size W w' :=
 lawTables x0 x1 n0 n1 W hAr0 hAr1 hrr0 hrr1 hE

theorem gPow : Tryz.prog.globalNamed powName = some 3 := by kernel_rfl
theorem tPow : (Tryz.prog.globals[3]?).map (·.type) = some 174 := by kernel_rfl
theorem cPow : Tryz.prog.cellsOf 174 = 20 := by kernel_rfl
theorem cU64 : Tryz.prog.cellsOf 47 = 1 := by kernel_rfl
theorem gSyn : Tryz.prog.globalNamed "strconv.ErrSyntax" = some 1 := by kernel_rfl
theorem tSyn : (Tryz.prog.globals[1]?).map (·.type) = some 89 := by kernel_rfl
theorem gRng : Tryz.prog.globalNamed "strconv.ErrRange" = some 2 := by kernel_rfl
theorem tRng : (Tryz.prog.globals[2]?).map (·.type) = some 89 := by kernel_rfl
theorem cErr : Tryz.prog.cellsOf 188 = 1 := by kernel_rfl
theorem cStr : Tryz.prog.cellsOf 9 = 1 := by kernel_rfl
theorem star : "*" ++ "errors.errorString" = "*errors.errorString" := by decide
theorem rowE (u : TypeId) (h : Tryz.prog.typeName? 3 u = some "*errors.errorString") : u = 186 :=
 typeName_ptr_named (nm := "errors.errorString") (by rw [star]; kernel_rfl) (by kernel_rfl) (by decide) u (by rw [star]; exact h)
theorem laidIs : Rows.fnTablesRow.laid = ("math/bits.deBruijn32tab", Rows.laid_math_bits_deBruijn32tab) :: ("math/bits.deBruijn64tab", Rows.laid_math_bits_deBruijn64tab) :: (powName, Lib.tabData .u64 Lib.pow10Tab) :: ("unicode/utf8.acceptRanges", Rows.laid_unicode_utf8_acceptRanges) :: ("strconv.ErrRange", .iface "*errors.errorString" (.ptr (.agg [.lit (.string [118, 97, 108, 117, 101, 32, 111, 117, 116, 32, 111, 102, 32, 114, 97, 110, 103, 101])]))) :: ("strconv.ErrSyntax", .iface "*errors.errorString" (.ptr (.agg [.lit (.string [105, 110, 118, 97, 108, 105, 100, 32, 115, 121, 110, 116, 97, 120])]))) :: Rows.fnTablesRow.laid.drop 6 := by kernel_rfl
theorem env_of {W : World} (h : laidMetH Tryz.prog Rows.fnTablesRow.laid W) (hs : W.ShapedOpen Tryz.prog) : Env W := by
 rw [MakeChecks.laidMetH_plain _ _ _ (by kernel_rfl), laidIs] at h
 have h2 := laidMet.tail (laidMet.tail h)
 have h4 := laidMet.tail (laidMet.tail h2)
 obtain ⟨a0, s0, hv0, -, -, -⟩ := laid_sentinel h4 gRng tRng Tryz.underlying89 rowE Tryz.underlying186 Tryz.underlying188 rfl rfl Tryz.underlying9 cErr cStr
 obtain ⟨a1, s1, hv1, -, -, -⟩ := laid_sentinel (laidMet.tail h4) gSyn tSyn Tryz.underlying89 rowE Tryz.underlying186 Tryz.underlying188 rfl rfl Tryz.underlying9 cErr cStr
 refine ⟨Lib.tabIs_of_head gPow tPow Tryz.underlying174 Tryz.underlying47 cU64 cPow h2, ?_, ?_, ?_⟩
 ·exact cell_of_shapedOpen_int (g := 0) (t := 3) (zero := #[.int .i64 0]) (k := .i64) hs (of_decide_eq_true (by kernel_rfl)) (by kernel_rfl) rfl (by kernel_rfl) (by kernel_rfl) Tryz.underlying3
 ·exact ⟨_, by have h0 := World.var?_cell gSyn hv1 0; simpa using h0, .inr ⟨_, _, rfl⟩⟩
 ·exact ⟨_, by have h0 := World.var?_cell gRng hv0 0; simpa using h0, .inr ⟨_, _, rfl⟩⟩

/-- A heap that is laid meets the condition. -/
theorem door_met (os : Os) (args : Array Value) : laidMetH Tryz.prog Rows.fnTablesRow.laid ((World.laidAll Tryz.prog os Rows.fnTablesRow.laid).forCall (fun _ _ => 0) ⟨#[], args, []⟩).memory := by
 rw [MakeChecks.laidMetH_plain _ _ _ (by kernel_rfl)]
 exact laidMet_laidAll _ (by kernel_rfl) (by kernel_rfl)

set_option maxRecDepth 100000 in
set_option maxHeartbeats 2000000 in
theorem lifted (os : Os) (started : os.Started) (H : Type) (enc : TypeId × Value → H) :
  ReturnsInHanded {} Tryz.checked os 3 .any (fun w args => (Rows.fnTablesSpec.pre enc Tryz.prog Tryz.f3 [] false w args ∧ laidMetH Tryz.prog Rows.fnTablesRow.laid w) ∧ sizedMet enc Tryz.prog Tryz.f3 (OpenSpec.ofChange Rows.fnTablesSpec) false w args)
   (Rows.fnTablesSpec.post enc Tryz.prog Tryz.f3 false true false false) := by
 refine rih_shaped (C := Tryz.checked) (X := fun w _ => laidMetH Tryz.prog Rows.fnTablesRow.laid w) (fun _ _ _ hh h => h.of_heap hh) own started (by kernel_rfl) Tryz.func3
  (ChangeSpec.witness_shaped (enc := enc) (C := Tryz.checked) (os := os) (X := fun w _ => laidMetH Tryz.prog Rows.fnTablesRow.laid w) false (World.laidAll Tryz.prog os Rows.fnTablesRow.laid) #[.slice none 0 0, .slice none 0 0] 8 (World.laidAll_os _ _ _) (World.shaped_of_ZipB (by kernel_rfl) (by kernel_rfl)) (by kernel_rfl) (by kernel_rfl) (by kernel_rfl) (door_met os _)) ?_
 intro W base args ds gs before hval0 hW hL hshp
 have htab := env_of hL hshp
 have hval : ∀ (j : Nat) t v, Tryz.f3.params[j]? = some t → args[j]? = some v → Value.okWide Tryz.prog W .any base t v := hval0
 have hW' := hW
 obtain ⟨p, q, hA0, hV, rfl, hfz, hnd⟩ := hW
 have hA : DataW.TrodAll enc Tryz.prog W 0 (fun _ => true) true Tryz.f3.params.toList args.toList ds p := hA0
 rw [Tryz.params3] at hA hval
 obtain ⟨v0, vs0, d0, ds0, p0, q0, hargs, rfl, rfl, h0, r0⟩ := trodAll_cons hA
 obtain ⟨v1, vs1, d1, ds1, p1, q1, hargs1, rfl, rfl, h1, r1⟩ := trodAll_cons r0
 obtain ⟨rfl, rfl, rfl⟩ := trodAll_nil r1
 obtain rfl : args = #[v0, v1] := by cases args; simp_all
 obtain ⟨rfl, rfl⟩ := trodVars_none hV
 have k0 := h0
 have k1 := h1
 obtain ⟨u0, f0⟩ := h0
 obtain ⟨x0, n0, hcs0, hAr0, hm0⟩ := open_bytes f0
 obtain ⟨sa0, sl0, sc0, rfl⟩ := okWide_slice Tryz.underlying22 (hval 0 22 v0 rfl rfl)
 simp [Value.cells] at hcs0
 subst hcs0
 have hrr0 : n0 ≤ 9223372036854775807 := by unfold maxLen at hm0; exact hm0
 obtain ⟨u1, f1⟩ := h1
 obtain ⟨x1, n1, hcs1, hAr1, hm1⟩ := open_bytes f1
 obtain ⟨sa1, sl1, sc1, rfl⟩ := okWide_slice Tryz.underlying22 (hval 1 22 v1 rfl rfl)
 simp [Value.cells] at hcs1
 subst hcs1
 have hrr1 : n1 ≤ 9223372036854775807 := by unfold maxLen at hm1; exact hm1
 clear hA0 hval0
 simp only [List.append_nil] at hW'
 have hlt := fun x hx => hW'.lt x hx
 refine (walk _ n0 _ n1 W hAr0 hrr0 hAr1 hrr1 htab).mono fun e W' ⟨he, hg⟩ => ?_
 subst he
 exact ⟨_, rfl, post_of_below (pv := []) hW' (fun _ _ _ => (trodAll_cons_mk (shut_bool Tryz.underlying4 _) trodAll_mk0)) (fun sp hsp => (trodAll_cons_mk (WideElems.Trod_stays laidOut (by kernel_rfl) (of_decide_eq_true (by kernel_rfl)) k0 (fun x hx => hg.same (hlt x (by simp [hx]))) (fun x hx => hsp x (by simp [hx]))) (trodAll_cons_mk (WideElems.Trod_stays laidOut (by kernel_rfl) (of_decide_eq_true (by kernel_rfl)) k1 (fun x hx => hg.same (hlt x (by simp [hx]))) (fun x hx => hsp x (by simp [hx]))) trodAll_mk0))) (fun _ _ => rfl) (by simp)
  hg (ok_one (by kernel_rfl) rfl (okWide_bool_mk Tryz.underlying4 _))⟩

theorem enter : Tryz.pinned.checked.prog.mayEnter = true := by kernel_rfl
theorem lifts : (Rows.fnTablesRow.lifted == Tryz.pinned.checked.prog.liftsFinal) = true := by kernel_rfl
theorem make : (Tryz.pinned.checked.prog.make == some Rows.fnTablesRow.make) = true := by kernel_rfl
theorem closed : joinedFacts Tryz.pinned.checked.prog 3 Tryz.f3 Rows.fnTablesSpec Rows.fnTablesRow = true := by
 unfold joinedFacts
 rw [enter, lifts, make]
 kernel_rfl
theorem inst : (Tryz.f3).isInstance Tryz.pinned.checked.prog Rows.fnTablesRow.origin Rows.fnTablesRow.targs := of_decide_eq_true (by kernel_rfl)
theorem wrap : (Tryz.f3).isWrapper Tryz.pinned.checked.prog Rows.fnTablesRow.wrapper Rows.fnTablesRow.mainSum := by
 unfold Func.isWrapper; first | (rw [if_pos (by decide +kernel)]; kernel_rfl) | (rw [if_neg (by decide +kernel)]; exact ⟨rfl, rfl⟩)
theorem over : Rows.fnTablesRow.holds Tryz.pinned (OpenSpec.ofChange Rows.fnTablesSpec) :=
 OpenClaim.holds_of_wide 3 Tryz.f3 rfl rfl rfl rfl rfl rfl rfl ⟨rfl, rfl, rfl, rfl, rfl⟩ rfl rfl rfl rfl rfl (by kernel_rfl) Tryz.func3 closed inst wrap
  (fun os started H enc _ => lifted os started H enc)

theorem proved : Rows.FnTablesCardSaid :=
 Claim7.holds_tied_plain_at .later [] [.data, .data, .data, .data, .sentinel, .sentinel, .pinned] true (true, "9b9896be07a78954c33d49e3eef857a4eee33bb3def13d4e8383feec86364862") true
  over (fun _ h => by cases h) (by kernel_rfl) (fun _ h => by cases h) fnTables_row_tie rfl ⟨rfl, rfl⟩ (by kernel_rfl) rfl
  (fun f fn hf hfn => by
   obtain rfl : f = 3 := Option.some.inj ((show Tryz.prog.funcNamed Rows.fnTablesRow.func = some 3 by kernel_rfl).symm.trans hf) |>.symm
   obtain rfl : fn = Tryz.f3 := (Option.some.inj (Tryz.func3.symm.trans hfn)).symm
   exact ⟨by kernel_rfl, fun j t ht => by
    rw [Tryz.params3] at ht
    have := List.all_eq_true.1 (show (Tryz.f3.params.toList.all fun t => !Tryz.prog.wantsStandIn t) = true by kernel_rfl) t (by rw [Tryz.params3]; exact Array.mem_toList_iff.2 (Array.mem_of_getElem? ht))
    show Tryz.prog.wantsStandIn t = false
    simpa using this⟩)
  (by kernel_rfl)
#print axioms proved
end Go.Proofs.YtobkcnmlmmhpoaaGreatDoor.fnTables
