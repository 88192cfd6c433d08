/- SquareRepeatedly on both sides. Delays and halvings, plainly: what the law of delay proofs says. The cursor that draws choices from bytes. Levels on both sides. -/
import Derived.Test.YtihfacmlfelliaaGreatDpB
import Derived.Test.YtihfacmlfelliaaGreatGsq
import Derived.Test.YtihfacmlfelliaaGreatDvf
import Derived.Test.YtihfacmlfelliaaGreatVd
import Derived.Test.YtihfacmlfelliaaGreatSt
import Derived.Test.YtihfacmlfelliaaGreatHp
import Derived.Test.YtihfacmlfelliaaGreatVh
import Derived.Test.YtihfacmlfelliaaGreatOwn
import Derived.Test.YtihfacmlfelliaaGreatNum
import Derived.Deep.AppendLies
import Derived.Laws.BitsLemmas
import Derived.Laws.Bits64
import Derived.Test.YtihfacmlfelliaaGreatForm
import Derived.Deep.RegionWith
namespace Go.Proofs.YtihfacmlfelliaaGreat
open Go.RowKit
set_option linter.unusedVariables false
set_option linter.unusedSimpArgs false
attribute [local go_sem] q2 q3 q4 q5 q6 q7 q8 q9 q10 q11 q12

set_option maxRecDepth 100000 in
set_option maxHeartbeats 4000000 in
theorem implSquareRepeatedly (F : T3) (t : Int) (w : World) (i0 : I64T F) : Calls Tryz.prog 10 #[frm F, .int .i64 t] w fun e w' => e = .returned (.tuple #[frm (srV F t), .bool (srB F t)]) ∧ Below w.heap.size w w' := by
 cases k0 : clB F
 ·have HV : Hid ((.tuple #[frm (srV F t), .bool (srB F t)] : Value) = .tuple #[.agg #[.int .i64 0, .int .i64 0, .int .i64 0], .bool false]) := hide (by simp [srV, srB, *])
  go_enter Tryz.func10, Tryz.ntmps10
  go_wp2_with fail
  refine (isClass_p F _ i0).mono ?_
  rintro en w1 ⟨rfl, hb1⟩
  have tq0 := Ri3.c hb1 w.heap.size F.1 F.2.1 F.2.2
  have tq1 := Wi3.c hb1 (w.heap.size + 1) 0 0 0
  try clear c00 c01 c02
  try clear c10 c11 c12 f10 f11 f12
  obtain ⟨c00, c01, c02, z0⟩ := tq0
  obtain ⟨c10, c11, c12, f10, f11, f12, z1⟩ := tq1
  have hs1 := hb1.size
  have o10 := z0
  have o11 := z1
  rw [k0]
  go_wp2
  refine bodyPost_ret (v := .tuple #[.agg #[.int .i64 0, .int .i64 0, .int .i64 0], .bool false]) (by simp [results, Tryz.results10, go_sem, *]) rfl ?_
  exact ⟨by rw [unhide HV] <;> rfl, byGG⟩
 ·cases k1 : tmB t
  ·have HV : Hid ((.tuple #[frm (srV F t), .bool (srB F t)] : Value) = .tuple #[.agg #[.int .i64 0, .int .i64 0, .int .i64 0], .bool false]) := hide (by simp [srV, srB, *])
   go_enter Tryz.func10, Tryz.ntmps10
   go_wp2_with fail
   refine (isClass_p F _ i0).mono ?_
   rintro en w1 ⟨rfl, hb1⟩
   have tq0 := Ri3.c hb1 w.heap.size F.1 F.2.1 F.2.2
   have tq1 := Wi3.c hb1 (w.heap.size + 1) 0 0 0
   try clear c00 c01 c02
   try clear c10 c11 c12 f10 f11 f12
   obtain ⟨c00, c01, c02, z0⟩ := tq0
   obtain ⟨c10, c11, c12, f10, f11, f12, z1⟩ := tq1
   have hs1 := hb1.size
   have o10 := z0
   have o11 := z1
   rw [k0]
   go_wp2_with (go_at_call 28; refine (isTime_b _ _).mono ?_; rintro e w' ⟨rfl, rfl⟩)
   go_wp2
   refine bodyPost_ret (v := .tuple #[.agg #[.int .i64 0, .int .i64 0, .int .i64 0], .bool false]) (by simp [results, Tryz.results10, go_sem, *]) rfl ?_
   exact ⟨by rw [unhide HV] <;> rfl, byGG⟩
  ·have HV : Hid ((.tuple #[frm (srV F t), .bool (srB F t)] : Value) = .tuple #[frm (sqN (rdT F) t.toNat), .bool true]) := hide (by simp [srV, srB, *])
   have ht : 0 ≤ t ∧ t ≤ 1000000 := by have := inB_true k1; omega
   have hq := frm_of k0
   go_enter Tryz.func10, Tryz.ntmps10
   go_wp2_with fail
   refine (isClass_p F _ i0).mono ?_
   rintro en w1 ⟨rfl, hb1⟩
   have tq0 := Ri3.c hb1 w.heap.size F.1 F.2.1 F.2.2
   have tq1 := Wi3.c hb1 (w.heap.size + 1) 0 0 0
   try clear c00 c01 c02
   try clear c10 c11 c12 f10 f11 f12
   obtain ⟨c00, c01, c02, z0⟩ := tq0
   obtain ⟨c10, c11, c12, f10, f11, f12, z1⟩ := tq1
   have hs1 := hb1.size
   have o10 := z0
   have o11 := z1
   rw [k0]
   go_wp2_with (go_at_call 28; refine (isTime_b _ _).mono ?_; rintro e w' ⟨rfl, rfl⟩)
   refine (square_D F t _ hq.i ht.1 ht.2).mono ?_
   rintro en w2 ⟨rfl, hb2⟩
   have tq0 := Ri3.c hb2 w.heap.size F.1 F.2.1 F.2.2
   have tq1 := Wi3.c hb2 (w.heap.size + 1) 0 0 0
   try clear c00 c01 c02
   try clear c10 c11 c12 f10 f11 f12
   obtain ⟨c00, c01, c02, z0⟩ := tq0
   obtain ⟨c10, c11, c12, f10, f11, f12, z1⟩ := tq1
   have hs2 := hb2.size
   have o20 := z0
   have o21 := z1
   go_wp2
   refine bodyPost_ret (v := .tuple #[frm (sqN (rdT F) t.toNat), .bool true]) (by simp [results, Tryz.results10, go_sem, *]) rfl ?_
   exact ⟨by rw [unhide HV], byGG⟩

end Go.Proofs.YtihfacmlfelliaaGreat
namespace Go.Proofs.YtihfacmlfelliaaGreat
open Go.RowKit
set_option linter.unusedVariables false
set_option linter.unusedSimpArgs false

theorem fr_of_cl {F : T3} (h : clB F = true) : Frm (dT F) F := (pr_true (F := F) (G := F) (by unfold prB; rw [h]; simp)).1
theorem delay_true {F : T3} {t : Int} (h : srB F t = true) : Frm (dT F) (srV F t) ∧ Frm (dT F) (dpV F t) ∧ vdB F (srV F t) t (dpV F t) = true ∧ vdV F (srV F t) t (dpV F t) = true := by
 have h2 := h
 unfold srB at h2
 rw [Bool.and_eq_true] at h2
 have ht2 := inB_true h2.2
 have fF := fr_of_cl h2.1
 have eG : srV F t = sqN (rdT F) t.toNat := by unfold srV; rw [if_pos h]
 have fG : Frm (dT F) (srV F t) := by rw [eG]; exact fF.sq _
 have rG : rdT (srV F t) = srV F t := by rw [eG, sqN_po fF.i]; exact poN_rd fF.i _
 have eP : dpV F t = quD (dT F) F t (dpL F (srV F t) t) := by unfold dpV; rw [if_pos h]
 have fP : Frm (dT F) (dpV F t) := by rw [eP]; exact fF.qu _ _
 have hb : vdB F (srV F t) t (dpV F t) = true := by unfold vdB trB; rw [pr_of_frm fF fG, pr_of_frm fF fP, h2.2]; rfl
 refine ⟨fG, fP, hb, ?_⟩
 unfold vdV
 rw [if_pos hb, eqT_iff, rG, eP, check_true fF.i (dpL_bd F (srV F t) t).1 ht2.1, eG, sqN_po fF.i]
theorem trail_end {F : T3} {t : Int} (h : srB F t = true) : 0 ≤ t ∧ t ≤ 200 ∧ stN F t = t.toNat + 1 ∧ stF F t (t.toNat * 3) = (srV F t).1 ∧ stF F t (t.toNat * 3 + 1) = (srV F t).2.1 ∧ stF F t (t.toNat * 3 + 2) = (srV F t).2.2 := by
 have h2 := h
 unfold srB at h2
 rw [Bool.and_eq_true] at h2
 have ht2 := inB_true h2.2
 have eG : srV F t = sqN (rdT F) t.toNat := by unfold srV; rw [if_pos h]
 have k := stL_at F t.toNat
 unfold stF stN
 rw [if_pos h, eG]
 exact ⟨ht2.1, ht2.2, rfl, k.1, k.2.1, k.2.2⟩
theorem on_mk {L : Nat → T3} : ∀ n, (∀ i, i < n → prB (L 0) (L i) = true) → onB L n = true
 | 0, _ => rfl
 | n + 1, h => by rw [onB, on_mk n (fun i hi => h i (by omega)), h n (by omega)]; rfl
theorem hpL_at (D : Int) (F : T3) (kn : Nat) : ∀ n i, i < n → (hpL D F kn n).getD (i * 3) 0 = (hpM D F kn i).1 ∧ (hpL D F kn n).getD (i * 3 + 1) 0 = (hpM D F kn i).2.1 ∧ (hpL D F kn n).getD (i * 3 + 2) 0 = (hpM D F kn i).2.2
 | n + 1, i, hi => by
  have hl := hpL_len D F kn n
  by_cases q : i < n
  ·have ih := hpL_at D F kn n i q
   simp only [List.getD_eq_getElem?_getD] at ih ⊢
   rw [hpL]
   refine ⟨?_, ?_, ?_⟩ <;> rw [List.getElem?_append_left (by omega)]
   ·exact ih.1
   ·exact ih.2.1
   ·exact ih.2.2
  ·obtain rfl : i = n := by omega
   simp only [hpL, List.getD_eq_getElem?_getD]
   refine ⟨?_, ?_, ?_⟩ <;> rw [List.getElem?_append_right (by omega)] <;> simp [hl]
noncomputable def hpP (F : T3) (k : Int) (i : Nat) : T3 := (hpF F k (i * 3), hpF F k (i * 3 + 1), hpF F k (i * 3 + 2))
theorem hpP_at {F : T3} {k : Int} {i : Nat} (hi : i < k.toNat) : hpP F k i = hpM (dT F) F k.toNat i := by
 have h := hpL_at (dT F) F k.toNat k.toNat i hi
 unfold hpP hpF
 rw [h.1, h.2.1, h.2.2]
theorem hpS_rd {F : T3} (h : Frm (dT F) F) (kn : Nat) : ∀ j, rdT (hpS (dT F) F kn j).1 = (hpS (dT F) F kn j).1
 | 0 => by show rdT (rdT F) = rdT F; exact rd_same (rd_rc h.i.cl)
 | j + 1 => rd_same (hvX_rc (hpS_frm h kn j).1 ((hpS_frm h kn j).1.sq _))
theorem sq_two (n : Nat) : (2 : Nat) ^ (2 ^ (n + 1)) = 2 ^ (2 ^ n) * 2 ^ (2 ^ n) := by
 rw [← Nat.pow_add]
 congr 1
 rw [Nat.pow_succ]; omega
theorem hpS_inv {F : T3} (h : Frm (dT F) F) (kn : Nat) : ∀ j, j ≤ kn → (hpS (dT F) F kn j).2 = poN (dT F) (hpS (dT F) F kn j).1 (2 ^ (2 ^ (kn - j)))
 | 0, _ => by
  show sqN (rdT F) (2 ^ kn) = poN (dT F) (rdT F) (2 ^ (2 ^ kn))
  rw [sqN_po h.i, poN_rdT h.i]
 | j + 1, hj => by
  have ih := hpS_inv h kn j (by omega)
  have hx := (hpS_frm h kn j).1.i
  have e1 : kn - j = (kn - (j + 1)) + 1 := by omega
  have e2 : kn - j - 1 = kn - (j + 1) := by omega
  rw [e1, sq_two] at ih
  show hvY _ _ _ _ _ = poN _ (hvX _ _ _ _ _) _
  unfold hvX hvY
  rw [pwD_po hx, pwD_po ((hpS_frm h kn j).1.sq _).i, e2]
  exact halve_inv hx (sqN_po hx _) ih
theorem vhS_hp {F : T3} (h : Frm (dT F) F) {k : Int} (hk : 0 ≤ k) : ∀ j, j ≤ k.toNat → vhS (dT F) F (sqN (rdT F) (2 ^ k.toNat)) (hpP F k) k j = hpS (dT F) F k.toNat j
 | 0, _ => by
  show (rdT F, rdT _) = (rdT F, _)
  rw [sqN_po h.i, poN_rd h.i]
 | j + 1, hj => by
  have e : k - (j : Int) = ((k.toNat : Nat) : Int) - (j : Int) := by omega
  rw [vhS, vhS_hp h hk j (by omega), hpP_at (by omega), e, hpS]
  rfl
theorem halving_true {F : T3} {k : Int} (h : hpB F k = true) : 0 ≤ k ∧ k ≤ 6 ∧ hpN F k = k.toNat ∧ Frm (dT F) F ∧ Frm (dT F) (hpV F k) ∧ (∀ i, i < k.toNat → Frm (dT F) (hpP F k i)) ∧ vhB F (hpV F k) k.toNat (hpP F k) k = true ∧ vhV F (hpV F k) k.toNat (hpP F k) k = true ∧ srB F ((2 ^ k.toNat : Nat) : Int) = true ∧ srV F ((2 ^ k.toNat : Nat) : Int) = hpV F k := by
 have h2 := h
 unfold hpB at h2
 rw [Bool.and_eq_true] at h2
 have hk := inB_true h2.2
 have fF := fr_of_cl h2.1
 have eV : hpV F k = sqN (rdT F) (2 ^ k.toNat) := by unfold hpV; rw [if_pos h]
 have eN : hpN F k = k.toNat := by unfold hpN; rw [if_pos h]
 have fV : Frm (dT F) (hpV F k) := by rw [eV]; exact fF.sq _
 have fP : ∀ i, i < k.toNat → Frm (dT F) (hpP F k i) := fun i hi => by rw [hpP_at hi]; exact hpM_frm fF _ _
 have hb : vhB F (hpV F k) k.toNat (hpP F k) k = true := by
  unfold vhB
  rw [h2.2, on_mk (k.toNat + 2) (fun i hi => ?_)]
  ·rfl
  ·show prB F _ = true
   refine pr_of_frm fF ?_
   unfold vhP
   split
   ·exact fF
   ·split
    ·exact fV
    ·exact fP _ (by omega)
 have p2 := two_pow_bd (n := k.toNat) (by omega)
 have hs : srB F ((2 ^ k.toNat : Nat) : Int) = true := by
  unfold srB tmB inB
  rw [h2.1, Bool.true_and, Bool.and_eq_true, decide_eq_true_eq, decide_eq_true_eq]
  omega
 refine ⟨hk.1, hk.2, eN, fF, fV, fP, hb, ?_, hs, ?_⟩
 ·rw [vh_yes hb (by omega), eqT_iff, eV, vhS_hp fF hk.1 _ (Nat.le_refl _), hpS_inv fF _ _ (Nat.le_refl _), Nat.sub_self]
  have hx := (hpS_frm fF k.toNat k.toNat).1.i
  have e := poN_add hx 1 1
  rw [poN_one hx, hpS_rd fF] at e
  exact e.symm
 ·unfold srV; rw [if_pos hs, eV, Int.toNat_natCast]
end Go.Proofs.YtihfacmlfelliaaGreat
namespace Go.Proofs.YtihfacmlfelliaaGreat
open Go.RowKit
set_option linter.unusedVariables false
set_option linter.unusedSimpArgs false
attribute [local go_sem] q2 q3 q4 q5 q6 q7 q8 q9 q10 q11 q12

theorem _root_.Go.World.grownBy.setB {w w' : World} {g : Nat} (h : w.grownBy w' (some g)) (o : Nat) (v : Value) : w.grownBy (w'.setCell ⟨g, o, none⟩ v) (some g) :=
 ⟨h.os, h.tape, h.output, by simpa [World.setCell] using h.size, fun j hj hne => (Below.heap_setCell _ _ _ _ (fun e => hne (by rw [e]))).trans (h.block j hj hne)⟩
theorem _root_.Go.World.grownBy.refl' (w : World) (r : Option Nat) : w.grownBy w r := ⟨rfl, rfl, rfl, Nat.le_refl _, fun _ _ _ => rfl⟩
theorem _root_.Go.World.grownBy.trans' {w w' w'' : World} {r : Option Nat} (h : w.grownBy w' r) (h2 : w'.grownBy w'' r) : w.grownBy w'' r :=
 ⟨h2.os.trans h.os, h2.tape.trans h.tape, h2.output.trans h.output, Nat.le_trans h.size h2.size, fun k hk hne => (h2.block k (Nat.lt_of_lt_of_le hk h.size) hne).trans (h.block k hk hne)⟩
theorem _root_.Go.World.grownBy.drewN' {w w' : World} {r : Option Nat} (h : w.grownBy w' r) (n : Nat) : w.grownBy (w'.drewN n) r := ⟨h.os, h.tape, h.output, h.size, h.block⟩
theorem _root_.Go.World.grownBy.below' {w w' w'' : World} {r : Option Nat} (h : w.grownBy w' r) (hb : Below w'.heap.size w' w'') : w.grownBy w'' r :=
 ⟨hb.os.trans h.os, hb.tape.trans h.tape, hb.output.trans h.output, Nat.le_trans h.size hb.size, fun k hk hne => (hb.block k (Nat.lt_of_lt_of_le hk h.size)).trans (h.block k hk hne)⟩
theorem _root_.Go.World.grownBy.alloc' {w w' : World} {r : Option Nat} (h : w.grownBy w' r) (ob : Obj) : w.grownBy (w'.alloc ob) r := h.below' (below_alloc_self _ _)
theorem _root_.Go.World.grownBy.to_below {w w' : World} {b B : Nat} (h : w.grownBy w' (some b)) (hb : B ≤ b) (hB : B ≤ w.heap.size) : Below B w w' :=
 ⟨h.os, h.tape, h.output, h.size, fun k hk => h.block k (by omega) (fun e => by have := Option.some.inj e; omega)⟩
variable {B : Nat}
def BytesAt (B : Nat) (w : World) (b : Nat) (a : Option Addr) (n : Nat) : Prop :=
 n = 0 ∨ ∃ g off, a = some ⟨g, off, none⟩ ∧ (g < B ∧ B ≤ b) ∧ ∀ i, i < n → ∃ x : Int, w.cell? ⟨g, off + i, none⟩ = some (.int .u8 x) ∧ 0 ≤ x ∧ x ≤ 255
theorem BytesAt.grown {w w' : World} {b : Nat} {a : Option Addr} {n : Nat} (h : BytesAt B w b a n) (hg : w.grownBy w' (some b)) : BytesAt B w' b a n := by
 rcases h with h | ⟨g, off, h1, h2, h3⟩
 ·exact .inl h
 ·refine .inr ⟨g, off, h1, h2, fun i hi => ?_⟩
  obtain ⟨x, hx, h4⟩ := h3 i hi
  exact ⟨x, by rw [hg.cell_far ⟨g, off + i, none⟩ (World.block_lt_of_cell? _ _ hx) (fun e => (show g ≠ b by omega) (show g = b from (Option.some.inj e)))]; exact hx, h4⟩
def Cur (B : Nat) (w : World) (b : Nat) (K : Int) : Prop := ∃ (a : Option Addr) (n c : Nat) (t s : Int), w.cell? ⟨b, 0, none⟩ = some (.slice a n c) ∧ w.cell? ⟨b, 1, none⟩ = some (.int .i64 t) ∧ w.cell? ⟨b, 2, none⟩ = some (.int .u64 s) ∧
 w.frozen? ⟨b, 1, none⟩ = false ∧ w.frozen? ⟨b, 2, none⟩ = false ∧ 0 ≤ t ∧ t ≤ K ∧ BytesAt B w b a n
theorem Cur.below {w w' : World} {b : Nat} {K : Int} (h : Cur B w b K) (hb : Below w.heap.size w w') : Cur B w' b K := by
 obtain ⟨a, n, c, t, s, h0, h1, h2, h3, h4, h5, h6, h7⟩ := h
 have hlt := World.block_lt_of_cell? _ _ h0
 refine ⟨a, n, c, t, s, cell_call hb h0, cell_call hb h1, cell_call hb h2, frz_call hb hlt h3, frz_call hb hlt h4, h5, h6, ?_⟩
 rcases h7 with h | ⟨g, off, k1, k2, k3⟩
 ·exact .inl h
 ·exact .inr ⟨g, off, k1, k2, fun i hi => by obtain ⟨x, hx, k4⟩ := k3 i hi; exact ⟨x, cell_call hb hx, k4⟩⟩
theorem Cur.le {w : World} {b : Nat} {K K' : Int} (h : Cur B w b K) (hk : K ≤ K') : Cur B w b K' := by
 obtain ⟨a, n, c, t, s, h0, h1, h2, h3, h4, h5, h6, h7⟩ := h
 exact ⟨a, n, c, t, s, h0, h1, h2, h3, h4, h5, by omega, h7⟩
theorem Cur.lt {w : World} {b : Nat} {K : Int} (h : Cur B w b K) : b < w.heap.size := by
 obtain ⟨a, n, c, t, s, h0, h1⟩ := h
 exact World.block_lt_of_cell? _ _ h0
theorem seed_bd (x : Int) : 0 ≤ wrap64 (bits BinOp.and IntKind.u64 (IntKind.u64.wrap x / 1099511627776) 255) ∧ wrap64 (bits BinOp.and IntKind.u64 (IntKind.u64.wrap x / 1099511627776) 255) ≤ 255 := by
 obtain ⟨y, hy⟩ : ∃ y, y = IntKind.u64.wrap x / 1099511627776 := ⟨_, rfl⟩
 rw [IntKind.wrap_u64] at hy
 have h0 : 0 ≤ y := by omega
 have h1 : y < 2 ^ 63 := by omega
 have h := bits_mask .u64 63 (by decide) (fun n h₀ h₁ => by rw [IntKind.wrap_u64]; omega) 8 (by decide) y h0 h1
 have e : ((2 : Int) ^ 8 - 1) = 255 := by decide
 have e2 : ((2 : Int) ^ 8) = 256 := by decide
 rw [e, e2] at h
 rw [IntKind.wrap_u64, ← hy, h]
 unfold wrap64
 omega
theorem cur_end {w W : World} {b : Nat} {a : Option Addr} {n c : Nat} {t K : Int} (hB : BytesAt B w b a n) (hg : w.grownBy W (some b)) (h0 : W.cell? ⟨b, 0, none⟩ = some (.slice a n c)) (h1 : W.cell? ⟨b, 1, none⟩ = some (.int .i64 t)) (h2' : ∃ s, W.cell? ⟨b, 2, none⟩ = some (.int .u64 s)) (h3 : W.frozen? ⟨b, 1, none⟩ = false) (h4 : W.frozen? ⟨b, 2, none⟩ = false) (h5 : 0 ≤ t) (h6 : t ≤ K) : Cur B W b K ∧ w.grownBy W (some b) :=
 have ⟨s, h2⟩ := h2'
 ⟨⟨a, n, c, t, s, h0, h1, h2, h3, h4, h5, h6, hB.grown hg⟩, hg⟩
set_option maxRecDepth 100000 in
set_option maxHeartbeats 4000000 in
theorem next_a (b : Nat) (K : Int) (w : World) (h : Cur B w b K) (hK : K ≤ 1000000000000) :
  Calls Tryz.prog 94 #[.pointer (some ⟨b, 0, none⟩)] w fun e w' => ∃ v : Int, e = .returned (.int .i64 v) ∧ (0 ≤ v ∧ v ≤ 255) ∧ Cur B w' b (K + 1) ∧ w.grownBy w' (some b) := by
 obtain ⟨a, n, c, t, s, h0, h1, h2, h3, h4, h5, h6, h7⟩ := h
 have hlt : b < w.heap.size := World.block_lt_of_cell? _ _ h0
 have hB := h7
 by_cases q : t < (n : Int)
 ·obtain ⟨k, rfl⟩ := Int.eq_ofNat_of_zero_le h5
  have hk : k < n := by omega
  rcases h7 with h7 | ⟨g, off, rfl, hgb, h7⟩
  ·omega
  ·obtain ⟨x, hx, hx0, hx1⟩ := h7 k hk
   have hk1 : (k : Int) + 1 ≤ (n : Int) := by omega
   go_enter Tryz.func94, Tryz.ntmps94
   go_wp2
   go_quiet (fail)
   go_wp2
   go_quiet (fail)
   go_wp2
   go_quiet (fail)
   go_wp2
   go_ret
   exact ⟨_, rfl, ⟨hx0, hx1⟩, cur_end (c := c) (t := (k : Int) + 1) hB (by repeat' first | exact World.grownBy.refl' _ _ | refine World.grownBy.drewN' ?_ _ | refine World.grownBy.setB ?_ _ _ | refine World.grownBy.alloc' ?_ _) byCT byCT ⟨_, by first | (go_simp; done) | (go_simp; rfl)⟩ byFT byFT (by omega) (by omega)⟩
 ·have hk1 : ¬ (t + 1 ≤ (n : Int)) := by omega
  go_enter Tryz.func94, Tryz.ntmps94
  go_wp2
  go_quiet (fail)
  go_wp2
  go_quiet (fail)
  go_wp2
  go_ret
  refine ⟨_, rfl, ?_, cur_end (c := c) (t := t + 1) hB (by repeat' first | exact World.grownBy.refl' _ _ | refine World.grownBy.drewN' ?_ _ | refine World.grownBy.setB ?_ _ _ | refine World.grownBy.alloc' ?_ _) byCT byCT ⟨_, by first | (go_simp; done) | (go_simp; rfl)⟩ byFT byFT (by omega) (by omega)⟩
  exact seed_bd _

def Drew (B : Nat) (w : World) (b : Nat) (K : Int) (P : Int → Prop) (e : Ending) (w' : World) : Prop := ∃ v : Int, e = .returned (.int .i64 v) ∧ P v ∧ Cur B w' b K ∧ w.grownBy w' (some b)
set_option maxRecDepth 100000 in
set_option maxHeartbeats 4000000 in
theorem pick_a (b : Nat) (K n : Int) (w : World) (h : Cur B w b K) (hK : K ≤ 100000000000) (hn : 1 ≤ n ∧ n ≤ 1000000000) :
  Calls Tryz.prog 60 #[.pointer (some ⟨b, 0, none⟩), .int .i64 n] w (Drew B w b (K + 2) (fun v => 0 ≤ v ∧ v < n)) := by
 by_cases q : n ≤ 1
 ·go_enter Tryz.func60, Tryz.ntmps60
  go_wp2
  go_ret
  exact ⟨_, rfl, ⟨by omega, by omega⟩, h.le (by omega), World.grownBy.refl' _ _⟩
 ·go_enter Tryz.func60, Tryz.ntmps60
  go_wp2_with fail
  refine (next_a b K w h (by omega)).mono ?_
  rintro e w1 ⟨v, rfl, ⟨v0, v1⟩, h1, g1⟩
  have r1 := Int.emod_nonneg v (show n ≠ 0 by omega)
  have r2 := Int.emod_lt_of_pos v (show 0 < n by omega)
  by_cases q2 : 200 < n
  ·go_wp2_with fail
   refine (next_a b (K + 1) w1 h1 (by omega)).mono ?_
   rintro e w2 ⟨v2, rfl, ⟨v20, v21⟩, h2, g2⟩
   have s1 := Int.emod_nonneg (v * 256 + v2) (show n ≠ 0 by omega)
   have s2 := Int.emod_lt_of_pos (v * 256 + v2) (show 0 < n by omega)
   have s3 : (v * 256 + v2).tmod n = (v * 256 + v2) % n := Int.tmod_eq_emod_of_nonneg (by omega)
   have hnz : ¬ n = 0 := by omega
   go_wp2
   go_ret
   refine ⟨_, rfl, ?_, h2.le (by omega), g1.trans' g2⟩
   first | (rw [s3]; exact ⟨s1, s2⟩) | exact ⟨s1, s2⟩ | (simp only [s3]; omega)
  ·have s3 : v.tmod n = v % n := Int.tmod_eq_emod_of_nonneg (by omega)
   have hnz : ¬ n = 0 := by omega
   go_wp2
   go_ret
   refine ⟨_, rfl, ?_, h1.le (by omega), g1⟩
   first | (rw [s3]; exact ⟨r1, r2⟩) | exact ⟨r1, r2⟩ | (simp only [s3]; omega)
theorem one_a (b : Nat) (K n : Int) (w : World) (h : Cur B w b K) (hK : K ≤ 100000000000) (hn : 1 ≤ n ∧ n ≤ 1000000000) :
  Calls Tryz.prog 65 #[.pointer (some ⟨b, 0, none⟩), .int .i64 n] w fun e w' => ∃ t : Bool, e = .returned (.bool t) ∧ Cur B w' b (K + 2) ∧ w.grownBy w' (some b) := by
 go_enter Tryz.func65, Tryz.ntmps65
 go_wp2_with fail
 refine (pick_a b K n w h hK hn).mono ?_
 rintro e w1 ⟨v, rfl, ⟨v0, v1⟩, h1, g1⟩
 go_wp2
 go_ret
 exact ⟨_, rfl, h1, g1⟩
def ListP (w : World) (b g off n : Nat) (P : Int → Prop) : Prop := g ≠ b ∧ ∀ i, i < n → ∃ x : Int, w.cell? ⟨g, off + i, none⟩ = some (.int .i64 x) ∧ P x
set_option maxRecDepth 100000 in
set_option maxHeartbeats 4000000 in
theorem among_a (b : Nat) (K : Int) (g off n c : Nat) (P : Int → Prop) (w : World) (h : Cur B w b K) (hK : K ≤ 100000000000) (hn : 1 ≤ n ∧ n ≤ 1000000) (hl : ListP w b g off n P) :
  Calls Tryz.prog 70 #[.pointer (some ⟨b, 0, none⟩), .slice (some ⟨g, off, none⟩) n c] w (Drew B w b (K + 2) P) := by
 go_enter Tryz.func70, Tryz.ntmps70
 go_wp2_with fail
 refine (pick_a b K (n : Int) w h hK (by omega)).mono ?_
 rintro e w1 ⟨v, rfl, ⟨v0, v1⟩, h1, g1⟩
 obtain ⟨k, rfl⟩ := Int.eq_ofNat_of_zero_le v0
 have hk : k < n := by omega
 obtain ⟨x, hx, hp⟩ := hl.2 k hk
 have hx1 : w1.cell? ⟨g, off + k, none⟩ = some (.int .i64 x) := by rw [g1.cell_far ⟨g, off + k, none⟩ (World.block_lt_of_cell? _ _ hx) (fun e => hl.1 (show g = b from (Option.some.inj e)))]; exact hx
 go_wp2
 go_ret
 exact ⟨_, rfl, hp, h1, g1⟩
end Go.Proofs.YtihfacmlfelliaaGreat
namespace Go.Proofs.YtihfacmlfelliaaGreat
open Go.RowKit
set_option linter.unusedVariables false
set_option linter.unusedSimpArgs false
attribute [local go_sem] q2 q3 q4 q5 q6 q7 q8 q9 q10 q11 q12

def negB (d : Int) : Bool := inB d (-2000) (-3) && decide (d % 4 ≤ 1)
theorem neg_true {d : Int} (h : negB d = true) : -2000 ≤ d ∧ d ≤ -3 := by
 unfold negB at h; simp at h; exact inB_true h.1
set_option maxRecDepth 100000 in
set_option maxHeartbeats 1000000 in
theorem reDisc_a (d : Int) (w : World) :
  Calls Tryz.prog 100 #[.int .i64 d] w fun e w' => e = .returned (.bool (negB d)) ∧ w = w' := by
 cases k0 : inB d (-2000) (-3)
 ·go_enter Tryz.func100, Tryz.ntmps100
  go_wp2_with (first | (go_at_call 79; refine (l1In_any _ _ _ _).mono ?_; rintro e w' ⟨rfl, rfl⟩) | (go_at_call 81; refine (nuMod_a _ _ _ (by first | assumption | omega) (by first | assumption | omega) (by first | assumption | omega)).mono ?_; rintro e w' ⟨rfl, rfl⟩))
  go_returns
  exact ⟨ret_bool (by simp [negB, k0] <;> (try (intros; omega))), rfl⟩
 ·obtain ⟨e0, e1⟩ := inB_true k0
  by_cases k1 : d % 4 ≤ 1
  ·go_enter Tryz.func100, Tryz.ntmps100
   go_wp2_with (first | (go_at_call 79; refine (l1In_any _ _ _ _).mono ?_; rintro e w' ⟨rfl, rfl⟩) | (go_at_call 81; refine (nuMod_a _ _ _ (by first | assumption | omega) (by first | assumption | omega) (by first | assumption | omega)).mono ?_; rintro e w' ⟨rfl, rfl⟩))
   go_returns
   exact ⟨ret_bool (by simp [negB, k0, k1] <;> (try (intros; omega))), rfl⟩
  ·go_enter Tryz.func100, Tryz.ntmps100
   go_wp2_with (first | (go_at_call 79; refine (l1In_any _ _ _ _).mono ?_; rintro e w' ⟨rfl, rfl⟩) | (go_at_call 81; refine (nuMod_a _ _ _ (by first | assumption | omega) (by first | assumption | omega) (by first | assumption | omega)).mono ?_; rintro e w' ⟨rfl, rfl⟩))
   go_returns
   exact ⟨ret_bool (by simp [negB, k0, k1] <;> (try (intros; omega))), rfl⟩

end Go.Proofs.YtihfacmlfelliaaGreat
