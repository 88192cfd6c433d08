/- The law FnExactDiscriminantsWithFactors. The last step of a law whose walk ends in a world in which nothing that was there has turned. A slice of integers that comes in, opened. -/
import Derived.Test.YtaeabefbohlcpaaDws
import Derived.Below
import Derived.ChangeSame
import Derived.ProofKit
import Derived.Lib.SmallJoins
import Derived.Deep.Slices
import Derived.Carry
import Derived.Test.YtaeabefbohlcpaaArI
namespace Go.Proofs.Ytaeabefbohlcpaa
open Go.RowKit
set_option linter.unusedVariables false
set_option linter.unusedSimpArgs false
attribute [local go_sem] q2 q3 q4 q5 q6 q7 q8 q9 q10 q11 q12

theorem RowI.keep {w w' : World} {g n : Nat} {z : Nat → Int} (h : RowI w g n z) (he : w'.heap[g]? = w.heap[g]?) : RowI w' g n z := World.rowIs.of_block h he
set_option maxHeartbeats 4000000 in
theorem lawDf_y (n : Nat) (z : Nat → Int) (v : Value) (w : World) (M : Nat) (f : Nat → Int) (ok : Bool) (hM : M ≤ 1000000000) (h : ArgI w v n z) (hn : n ≤ 9223372036854775807)
  (HI : n ≤ 2000000 → ∀ g W, RowI W g n z → Calls Try.prog 12 #[.slice (some ⟨g, 0, none⟩) n n] W (RetInts W M f ok))
  (HS : n ≤ 2000000 → ∀ g W, RowI W g n z → Calls Try.prog 10 #[.slice (some ⟨g, 0, none⟩) n n] W (RetInts W M f ok)) :
  Calls Try.prog 4 #[v] w fun e w' => e = .returned (.bool true) ∧ Below w.heap.size w w' := by
 obtain ⟨va, vc, rfl⟩ := h.len
 have HA := hide h
 clear h
 by_cases hq : n ≤ 1048576
 ·have hn2 : n ≤ 2000000 := by omega
  have hqi : ¬ (1048576 : Int) < (n : Int) := by omega
  have HT : Hid (∀ W, Below w.heap.size w W → Calls Try.prog 11 #[.slice va n vc] W fun e w' => e = .returned (.slice (some ⟨W.heap.size, 0, none⟩) n n) ∧ RowI w' W.heap.size n z ∧ Below W.heap.size W w') := hide fun W hb => toIntS_a _ n z W (((unhide HA)).below hb) hn2
  have HI := hide (HI hn2)
  have HS := hide (HS hn2)
  clear HA
  go_enter Try.func4, Try.ntmps4
  go_wp2_with fail
  refine ((unhide HT) _ (Below.refl _ _)).mono ?_
  rintro e w2 ⟨rfl, r2, b2⟩
  have s2 := b2.size
  go_wp2_with fail
  refine ((unhide HS) _ w2 r2).mono ?_
  rintro e w3 ⟨a3, c3, rfl, i3, b3⟩
  have s3 := b3.size
  have g3 : Below w.heap.size w w3 := b2.trans (b3.mono s2)
  clear r2
  go_wp2_with fail
  refine ((unhide HT) _ g3).mono ?_
  rintro e w4 ⟨rfl, r4, b4⟩
  have s4 := b4.size
  have g4 : Below w.heap.size w w4 := g3.trans (b4.mono g3.size)
  have j4 := i3.below b4 (Nat.le_refl _)
  go_wp2_with fail
  refine ((unhide HI) _ w4 r4).mono ?_
  rintro e w5 ⟨a5, c5, rfl, i5, b5⟩
  have s5 := b5.size
  have g5 : Below w.heap.size w w5 := g4.trans (b5.mono g4.size)
  have j5 := j4.below b5 s4
  have hlt4 : w3.heap.size < w4.heap.size := World.rowIs.lt r4
  have r5 := r4.below b5
  clear i3 j4 r4
  go_wp2_with fail
  refine (eqIntS_any a5 a3 _ _ _ _ M c5 c3 f w5 hM i5 j5).mono ?_
  rintro e w6 ⟨rfl, k6, rfl⟩
  have d6 : Below w5.heap.size w5 (w5.drewN k6) := below_drewN (Below.refl _ _) k6
  have g6 : Below w.heap.size w (w5.drewN k6) := g5.trans (d6.mono g5.size)
  have I5 := hide (i5.below d6 (Nat.le_refl _))
  have J5 := hide (j5.below d6 (by omega))
  have R5 := hide (r5.below d6)
  clear i5 j5 r5
  obtain ⟨w6, h6⟩ : ∃ w6, w5.drewN k6 = w6 := ⟨_, rfl⟩
  have s6 : w6.heap.size = w5.heap.size := by rw [← h6]; rfl
  rw [h6] at d6 g6 I5 J5 R5
  rw [h6]
  clear h6
  have s6' : w5.heap.size ≤ w6.heap.size := by omega
  clear s6
  go_wp2_with fail
  refine ((unhide HT) _ g6).mono ?_
  rintro e w7 ⟨rfl, r7, b7⟩
  have s7 := b7.size
  have g7 : Below w.heap.size w w7 := g6.trans (b7.mono g6.size)
  have R7 := (unhide R5).below b7
  have I7 := (unhide I5).below b7 (by omega)
  have J7 := (unhide J5).below b7 (by omega)
  clear I5 J5 R5
  go_wp2_with fail
  refine (eqIntS_any _ _ w3.heap.size w7.heap.size w6.heap.size w7.heap.size n n n z w7 (by omega) ((R7.at (Nat.le_refl _)) ) (r7.at (Nat.le_refl _))).mono ?_
  rintro e w8 ⟨rfl, k8, rfl⟩
  have d8 : Below w7.heap.size w7 (w7.drewN k8) := below_drewN (Below.refl _ _) k8
  have g8 : Below w.heap.size w (w7.drewN k8) := g7.trans (d8.mono g7.size)
  have I8 := hide (I7.below d8 (by omega))
  have J8 := hide (J7.below d8 (by omega))
  have R8 := hide (R7.below d8)
  clear R7 r7 I7 J7
  obtain ⟨w8, h8⟩ : ∃ w8, w7.drewN k8 = w8 := ⟨_, rfl⟩
  have s8 : w7.heap.size ≤ w8.heap.size := by rw [← h8]; exact Nat.le_refl _
  rw [h8] at d8 g8 I8 J8 R8
  rw [h8]
  clear h8
  go_wp2_with fail
  refine (markIntS_row w3.heap.size n n n 1 _ w8 (by omega) (by omega) (Nat.le_refl _) (unhide R8)).mono ?_
  rintro e w9 ⟨rfl, r9, h9, s9⟩
  have g9 : Below w.heap.size w w9 := ⟨h9.os.trans g8.os, h9.tape.trans g8.tape, h9.output.trans g8.output, Nat.le_trans g8.size h9.size, fun k hk => (h9.block k (by have := g8.size; omega) (fun e => by cases e; have := g3.size; omega)).trans (g8.block k hk)⟩
  have I9 := (unhide I8).keep (w' := w9) (fun k k1 k2 => h9.block k (by omega) (fun e => by cases e; omega))
  have J9 := (unhide J8).keep (w' := w9) (fun k k1 k2 => h9.block k (by omega) (fun e => by cases e; omega))
  have s9' : w8.heap.size ≤ w9.heap.size := by omega
  clear s9 h9 I8 J8 R8 r9
  obtain ⟨kk, hkk⟩ : ∃ kk : Int, ((1 : Nat) : Int) + n = kk := ⟨_, rfl⟩
  have hk0 : ¬ kk < 0 := by omega
  rw [hkk]
  clear hkk
  go_wp2_with fail
  refine (eqIntS_any a5 a3 _ _ _ _ M c5 c3 f w9 hM I9 J9).mono ?_
  rintro e w10 ⟨rfl, k10, rfl⟩
  have d10 : Below w9.heap.size w9 (w9.drewN k10) := below_drewN (Below.refl _ _) k10
  have g10 : Below w.heap.size w (w9.drewN k10) := g9.trans (d10.mono g9.size)
  have I10 := I9.below d10 (by omega)
  have J10 := J9.below d10 (by omega)
  have s10 : w9.heap.size ≤ (w9.drewN k10).heap.size := Nat.le_refl _
  clear I9 J9
  obtain ⟨w10, h10⟩ : ∃ w10, w9.drewN k10 = w10 := ⟨_, rfl⟩
  rw [h10] at d10 g10 I10 J10 s10
  rw [h10]
  clear h10
  go_wp2_with fail
  refine (markIntS_any a5 w4.heap.size w5.heap.size M c5 1 f w10 hM (by omega) I10).mono ?_
  rintro e w11 ⟨rfl, i11, h11, s11, b11⟩
  have g11 : Below w.heap.size w w11 := g10.trans (b11.mono (by omega))
  have J11 := J10.keep (w' := w11) (fun k k1 k2 => h11 k (by omega))
  have s11' : w10.heap.size ≤ w11.heap.size := by omega
  clear s11 h11 J10 I10
  go_wp2_with fail
  refine (heldIntS_any a5 w4.heap.size w5.heap.size M c5 1 w11 hM (by omega) i11).mono ?_
  rintro e w11' ⟨rfl, rfl⟩
  go_wp2_with fail
  refine ((unhide HT) _ g11).mono ?_
  rintro e w12 ⟨rfl, r12, b12⟩
  have s12 := b12.size
  have g12 : Below w.heap.size w w12 := g11.trans (b12.mono g11.size)
  go_wp2_with fail
  refine ((unhide HI) _ w12 r12).mono ?_
  rintro e w13 ⟨a13, c13, rfl, i13, b13⟩
  have s13 := b13.size
  have g13 : Below w.heap.size w w13 := g12.trans (b13.mono g12.size)
  have I13 := (i11.below b12 (by omega)).below b13 (by omega)
  have J13 := (J11.below b12 (by omega)).below b13 (by omega)
  clear i11 J11 r12
  go_wp2_with fail
  refine (eqIntS_any a13 a3 _ _ _ _ M c13 c3 f w13 hM i13 J13).mono ?_
  rintro e w14 ⟨rfl, k14, rfl⟩
  have d14 : Below w13.heap.size w13 (w13.drewN k14) := below_drewN (Below.refl _ _) k14
  have I14 := I13.below d14 (by omega)
  clear I13 J13 i13
  go_wp2_with fail
  refine (heldIntS_any a5 w4.heap.size w5.heap.size M c5 1 (w13.drewN k14) hM (by omega) I14).mono ?_
  rintro e w15 ⟨rfl, rfl⟩
  go_wp2
  go_ret
  exact ⟨rfl, below_drewN g13 k14⟩
 ·have hqi : (1048576 : Int) < (n : Int) := by omega
  clear HI HS HA
  go_enter Try.func4, Try.ntmps4
  go_wp2
  go_ret
  exact ⟨rfl, byGG⟩
theorem lawDf (v : Value) (n : Nat) (z : Nat → Int) (w : World) (h : ArgI w v n z) (hn : n ≤ 9223372036854775807) :
  Calls Try.prog 4 #[v] w fun e w' => e = .returned (.bool true) ∧ Below w.heap.size w w' :=
 lawDf_y n z v w _ _ _ (dfR_len n z) h hn (fun h1 g W hR => implDwf_a g n z W h1 hR) (fun h1 g W hR => specDwf_a g n z W h1 hR)
end Go.Proofs.Ytaeabefbohlcpaa
namespace Go.Proofs.Ytaeabefbohlcpaa
open Go.RowKit Go.WideShapes Go.ChangeShapes
set_option linter.unusedVariables false

theorem post_of_below {H : Type} {enc : TypeId × Value → H} {P : Program} {f : Func} {s : ChangeSpec} {apart fresh handsOn again : Bool} {W W' : World} {args : Array Value} {v : Value} {ds gs : List (DataW H)} {before pa pv : List MemPlace}
  (hW : DataW.Whole enc P f.params.toList s.vars apart W args.toList ds gs before)
  (hres : ∀ (b : Nat) (sp : Nat → Bool) (hd : Bool), DataW.TrodAll enc P W' b sp hd f.resultTypes.toList (v.resultList f.resultTypes.size) (s.fn H (ds ++ gs)).results [])
  (hargs : ∀ sp : Nat → Bool, (∀ p ∈ before, sp p.block = true) → DataW.TrodAll enc P W' 0 sp true f.params.toList args.toList (s.fn H (ds ++ gs)).args pa)
  (hvars : ∀ sp : Nat → Bool, (∀ p ∈ before, sp p.block = true) → DataW.TrodVars enc P W' sp s.vars (s.fn H (ds ++ gs)).vars pv)
  (hps : before = pa ++ pv) (hb : Below W.heap.size W W')
  (hok : ∀ (j : Nat) (t : TypeId) (r : Value), f.resultTypes[j]? = some t → (v.resultList f.resultTypes.size)[j]? = some r → Value.okWide P W' .any 0 t r) :
  s.post enc P f apart fresh handsOn again W args v W' := by
 have hlt : ∀ p ∈ before, p.block < W.heap.size := fun p hp => hW.lt p hp
 have hold : ∀ p ∈ before, (fun b => decide (b < W.heap.size)) p.block = true := fun p hp => by simpa using hlt p hp
 refine ⟨ds, gs, before, [], pa, pv, hW, hres _ _ _, hargs _ hold, hvars _ hold, World.keptBut_mono (fun p hp => ⟨hp, ?_⟩) (hb.frame (· ∈ before)), fun _ => ?_⟩
 ·rw [hps, List.mem_append] at hp
  exact Or.inr hp
 ·obtain ⟨_, _, _, _, _, hz, hn⟩ := hW
  refine ⟨hok, _, _, ([] ++ pa) ++ pv, ⟨[] ++ pa, pv, trodAll_append (hargs _ (fun _ _ => rfl)) (hres _ _ _), hvars _ (fun _ _ => rfl), rfl, ?_, ?_⟩, ?_⟩
  ·intro b off hp
   have hin : MemPlace.cell b off ∈ before := by rw [hps]; simpa using hp
   rw [hb.frozen (hlt _ hin)]
   exact hz b off hin
  ·intro ha
   have := hn ha
   rw [hps] at this
   simpa using this
  ·intro p hp _
   rw [hps]
   simpa using hp
end Go.Proofs.Ytaeabefbohlcpaa
namespace Go.Proofs.Ytaeabefbohlcpaa
open Go.RowKit
set_option linter.unusedVariables false
set_option linter.unusedSimpArgs false
open Go.RowKit Go.WideShapes Go.ChangeShapes Go.Deep Go.Joins
set_option linter.unusedVariables false
set_option linter.unusedSimpArgs false

theorem Try.cellsIr : Try.prog.cellsOf 3 = 1 := by kernel_rfl
theorem addr_addI {b off k : Nat} : (⟨b, off, none⟩ : Addr).add k = ⟨b, off + k, none⟩ := by unfold Addr.add; split <;> simp_all
theorem cell_spotI {w : World} {a : Addr} {v : Value} (h : w.cell? a = some v) : a.spot = none := by
 unfold World.cell? at h
 split at h
 ·split at h
  ·cases h
  ·rename_i hs; cases hx : a.spot with
   | none => rfl
   | some _ => rw [hx] at hs; simp at hs
 ·cases h
section
variable {H : Type} {enc : TypeId × Value → H} {w : World} {base : Nat} {spare : Nat → Bool} {held : Bool}
theorem open_intsA {fuel : Nat} {cs : List Value} {x : DataW H × List MemPlace} (h : DataW.trod enc Try.prog w base spare held fuel 22 cs = some x) :
  ∃ (v : Value) (n : Nat) (z : Nat → Int), cs = [v] ∧ ArgI w v n z ∧ n ≤ maxLen := by
 rcases open_slice Try.underlying22 h with ⟨hcs, _⟩ | ⟨a, len, cap, m, n, D, Pl, hcs, hb, hl, hm, hmm, hx, hi⟩
 ·exact ⟨_, 0, fun _ => 0, hcs, .inl ⟨rfl, none, 0, rfl⟩, Nat.zero_le _⟩
 ·have hlm : len ≤ m := by rw [hmm]; split <;> omega
  have one : ∀ i, ∃ x : Int, i < len → w.cell? (a.add i) = some (.int .i64 x) := by
   intro i
   by_cases q : i < len
   ·obtain ⟨cs', hc, ht⟩ := hi i (by omega)
    rw [Try.cellsIr, Nat.mul_one] at hc
    obtain ⟨_, _, hat⟩ := World.cells?_some hc
    obtain ⟨x, rfl, _, _⟩ := DataW.trod_int Try.underlying3 ht
    have a0 := hat 0 (by omega)
    rw [Go.Deep.add_add] at a0
    exact ⟨x, fun _ => a0⟩
   ·exact ⟨0, fun h => absurd h q⟩
  obtain ⟨z, hz⟩ : ∃ z : Nat → Int, ∀ i, i < len → w.cell? (a.add i) = some (.int .i64 (z i)) := ⟨fun i => (one i).choose, fun i => (one i).choose_spec⟩
  refine ⟨_, len, z, hcs, ?_, Nat.le_trans hl hm⟩
  by_cases q : len = 0
  ·exact .inl ⟨q, some a, cap, by rw [q]⟩
  ·have h0 := hz 0 (by omega)
   have hs : a.spot = none := cell_spotI (a := a) (by simpa [Addr.add] using h0)
   obtain ⟨b, off, sp⟩ := a
   have hs2 : sp = none := hs
   subst hs2
   exact .inr ⟨b, off, cap, rfl, World.block_lt_of_cell? _ _ h0, fun i hi => by have := hz i hi; rwa [addr_addI] at this⟩
end
end Go.Proofs.Ytaeabefbohlcpaa
