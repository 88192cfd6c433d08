/- SquareRepeatedly on both sides. The law of forgeries: what it says, plainly. -/
import Derived.Test.YtihfacmlfelliaaGreatDpB
import Derived.Test.YtihfacmlfelliaaGreatSof
import Derived.Test.YtihfacmlfelliaaGreatVp
import Derived.Test.YtihfacmlfelliaaGreatDvf
import Derived.Test.YtihfacmlfelliaaGreatSofI
import Derived.Test.YtihfacmlfelliaaGreatSofS
import Derived.Test.YtihfacmlfelliaaGreatVd
namespace Go.Proofs.YtihfacmlfelliaaGreat
open Go.RowKit
set_option linter.unusedVariables false
set_option linter.unusedSimpArgs false
attribute [local go_sem] q2 q3 q4 q5 q6 q7 q8 q9 q10 q11 q12

set_option maxRecDepth 100000 in
set_option maxHeartbeats 4000000 in
theorem implSquareRepeatedly (F : T3) (t : Int) (w : World) (i0 : I64T F) : Calls Tryz.prog 10 #[frm F, .int .i64 t] w fun e w' => e = .returned (.tuple #[frm (srV F t), .bool (srB F t)]) ∧ Below w.heap.size w w' := by
 cases k0 : clB F
 ·have HV : Hid ((.tuple #[frm (srV F t), .bool (srB F t)] : Value) = .tuple #[.agg #[.int .i64 0, .int .i64 0, .int .i64 0], .bool false]) := hide (by simp [srV, srB, *])
  go_enter Tryz.func10, Tryz.ntmps10
  go_wp2_with fail
  refine (isClass_p F _ i0).mono ?_
  rintro en w1 ⟨rfl, hb1⟩
  have tq0 := Ri3.c hb1 w.heap.size F.1 F.2.1 F.2.2
  have tq1 := Wi3.c hb1 (w.heap.size + 1) 0 0 0
  try clear c00 c01 c02
  try clear c10 c11 c12 f10 f11 f12
  obtain ⟨c00, c01, c02, z0⟩ := tq0
  obtain ⟨c10, c11, c12, f10, f11, f12, z1⟩ := tq1
  have hs1 := hb1.size
  have o10 := z0
  have o11 := z1
  rw [k0]
  go_wp2
  refine bodyPost_ret (v := .tuple #[.agg #[.int .i64 0, .int .i64 0, .int .i64 0], .bool false]) (by simp [results, Tryz.results10, go_sem, *]) rfl ?_
  exact ⟨by rw [unhide HV] <;> rfl, byGG⟩
 ·cases k1 : tmB t
  ·have HV : Hid ((.tuple #[frm (srV F t), .bool (srB F t)] : Value) = .tuple #[.agg #[.int .i64 0, .int .i64 0, .int .i64 0], .bool false]) := hide (by simp [srV, srB, *])
   go_enter Tryz.func10, Tryz.ntmps10
   go_wp2_with fail
   refine (isClass_p F _ i0).mono ?_
   rintro en w1 ⟨rfl, hb1⟩
   have tq0 := Ri3.c hb1 w.heap.size F.1 F.2.1 F.2.2
   have tq1 := Wi3.c hb1 (w.heap.size + 1) 0 0 0
   try clear c00 c01 c02
   try clear c10 c11 c12 f10 f11 f12
   obtain ⟨c00, c01, c02, z0⟩ := tq0
   obtain ⟨c10, c11, c12, f10, f11, f12, z1⟩ := tq1
   have hs1 := hb1.size
   have o10 := z0
   have o11 := z1
   rw [k0]
   go_wp2_with (go_at_call 28; refine (isTime_b _ _).mono ?_; rintro e w' ⟨rfl, rfl⟩)
   go_wp2
   refine bodyPost_ret (v := .tuple #[.agg #[.int .i64 0, .int .i64 0, .int .i64 0], .bool false]) (by simp [results, Tryz.results10, go_sem, *]) rfl ?_
   exact ⟨by rw [unhide HV] <;> rfl, byGG⟩
  ·have HV : Hid ((.tuple #[frm (srV F t), .bool (srB F t)] : Value) = .tuple #[frm (sqN (rdT F) t.toNat), .bool true]) := hide (by simp [srV, srB, *])
   have ht : 0 ≤ t ∧ t ≤ 1000000 := by have := inB_true k1; omega
   have hq := frm_of k0
   go_enter Tryz.func10, Tryz.ntmps10
   go_wp2_with fail
   refine (isClass_p F _ i0).mono ?_
   rintro en w1 ⟨rfl, hb1⟩
   have tq0 := Ri3.c hb1 w.heap.size F.1 F.2.1 F.2.2
   have tq1 := Wi3.c hb1 (w.heap.size + 1) 0 0 0
   try clear c00 c01 c02
   try clear c10 c11 c12 f10 f11 f12
   obtain ⟨c00, c01, c02, z0⟩ := tq0
   obtain ⟨c10, c11, c12, f10, f11, f12, z1⟩ := tq1
   have hs1 := hb1.size
   have o10 := z0
   have o11 := z1
   rw [k0]
   go_wp2_with (go_at_call 28; refine (isTime_b _ _).mono ?_; rintro e w' ⟨rfl, rfl⟩)
   refine (square_D F t _ hq.i ht.1 ht.2).mono ?_
   rintro en w2 ⟨rfl, hb2⟩
   have tq0 := Ri3.c hb2 w.heap.size F.1 F.2.1 F.2.2
   have tq1 := Wi3.c hb2 (w.heap.size + 1) 0 0 0
   try clear c00 c01 c02
   try clear c10 c11 c12 f10 f11 f12
   obtain ⟨c00, c01, c02, z0⟩ := tq0
   obtain ⟨c10, c11, c12, f10, f11, f12, z1⟩ := tq1
   have hs2 := hb2.size
   have o20 := z0
   have o21 := z1
   go_wp2
   refine bodyPost_ret (v := .tuple #[frm (sqN (rdT F) t.toNat), .bool true]) (by simp [results, Tryz.results10, go_sem, *]) rfl ?_
   exact ⟨by rw [unhide HV], byGG⟩

end Go.Proofs.YtihfacmlfelliaaGreat
namespace Go.Proofs.YtihfacmlfelliaaGreat
open Go.RowKit
set_option linter.unusedVariables false
set_option linter.unusedSimpArgs false
attribute [local go_sem] q2 q3 q4 q5 q6 q7 q8 q9 q10 q11 q12

theorem lsoS (F W X Y : T3) (t : Int) (b : Bool) (w : World) (hX : soX F t W = X) (hY : soY F t W = Y) (hb : soB F t W = b) : Calls Tryz.prog 8 #[frm F, .int .i64 t, frm W] w fun e w' => e = .returned (.tuple #[frm X, frm Y, .bool b]) ∧ Below w.heap.size w w' := by
 subst hX hY hb; exact specSmallOrderForgery F t W w
theorem lsoI (F W X Y : T3) (t : Int) (b : Bool) (w : World) (i0 : I64T F) (i1 : I64T W) (hX : soX F t W = X) (hY : soY F t W = Y) (hb : soB F t W = b) : Calls Tryz.prog 7 #[frm F, .int .i64 t, frm W] w fun e w' => e = .returned (.tuple #[frm X, frm Y, .bool b]) ∧ Below w.heap.size w w' := by
 subst hX hY hb; exact implSmallOrderForgery F t W w i0 i1
theorem vd_y (F G P : T3) (t : Int) (w : World) (i0 : I64T F) (i1 : I64T G) (i2 : I64T P) (h : vdV F G t P = true) (h2 : vdB F G t P = true) : Calls Tryz.prog 9 #[frm F, frm G, .int .i64 t, frm P] w fun e w' => e = .returned (.tuple #[.bool true, .bool true]) ∧ Below w.heap.size w w' := by
 have := implVerifyDelay F G t P w i0 i1 i2
 rw [h, h2] at this
 exact this
theorem sr_y (F S : T3) (t : Int) (w : World) (i0 : I64T F) (h : srV F t = S) (h2 : srB F t = true) : Calls Tryz.prog 10 #[frm F, .int .i64 t] w fun e w' => e = .returned (.tuple #[frm S, .bool true]) ∧ Below w.heap.size w w' := by
 have := implSquareRepeatedly F t w i0
 rw [h, h2] at this
 exact this
theorem inv_mod {l x : Int} {n : Nat} (hl : 0 ≤ l) (hx : 0 ≤ x) {q : Int} (h : l * x - 1 = (n : Int) * q) : (x.toNat * l.toNat) % n = 1 % n := by
 obtain ⟨a, rfl⟩ := Int.eq_ofNat_of_zero_le hl
 obtain ⟨b, rfl⟩ := Int.eq_ofNat_of_zero_le hx
 have e0 : ((b * a : Nat) : Int) = (a : Int) * (b : Int) := by rw [Int.natCast_mul, Int.mul_comm]
 have e1 : ((b * a : Nat) : Int) = 1 + (n : Int) * q := by omega
 have e2 : (((b * a : Nat) : Int) % (n : Int)) = (1 : Int) % (n : Int) := by rw [e1, Int.add_mul_emod_self_left]
 have e3 : (((b * a) % n : Nat) : Int) = ((1 % n : Nat) : Int) := by rw [Int.natCast_emod, Int.natCast_emod]; exact e2
 exact Int.ofNat_inj.1 e3
structure Forged (F W X Y S : T3) (t : Int) : Prop where
 f : Frm (dT F) F
 w : Frm (dT F) W
 x : Frm (dT F) X
 y : Frm (dT F) Y
 s : Frm (dT F) S
 vv : vdV F X t Y = true
 vb : vdB F X t Y = true
 sv : srV F t = S
 sb : srB F t = true
 ne : S ≠ X
 q : cmp X (inT S) = rdT W
theorem forged_of {F W X Y : T3} {t : Int} (hX : soX F t W = X) (hY : soY F t W = Y) (hb : soB F t W = true) : ∃ S, Forged F W X Y S t := by
 have hb2 := hb
 unfold soB at hb2
 rw [Bool.and_eq_true] at hb2
 obtain ⟨hk, hg⟩ := hb2
 have hk2 := hk
 unfold soK at hk2
 simp only [Bool.and_eq_true, Bool.not_eq_true'] at hk2
 obtain ⟨hp, ht, hi⟩ := hk2
 obtain ⟨fF, fW⟩ := pr_true hp
 have ht2 := inB_true ht
 have hX2 : X = soG F t W := by rw [← hX]; unfold soX; rw [if_pos hb]
 have hY2 : Y = soV F t W := by rw [← hY]; unfold soY; rw [if_pos hb]
 have hcl : clB F = true := cl_of_frm fF
 have hsb : srB F t = true := by unfold srB; rw [hcl, ht]; rfl
 have hsv : srV F t = sqN (rdT F) t.toNat := by unfold srV; rw [if_pos hsb]
 have hpo := sqN_po fF.i t.toNat
 have fS : Frm (dT F) (sqN (rdT F) t.toNat) := fF.sq _
 have rS : rdT (sqN (rdT F) t.toNat) = sqN (rdT F) t.toNat := by rw [hpo]; exact poN_rd fF.i _
 have fX : Frm (dT F) X := by rw [hX2]; exact fS.cp fW
 have rX : rdT X = X := by rw [hX2]; exact rd_same (fS.i.rc fW.i)
 have hl := dpL_bd F X t
 have hne : rdT W ≠ onT (dT F) := fun e => by
  unfold soI at hi
  rw [e] at hi
  have : eqT (onT (dT F)) (onT (dT F)) = true := eqT_iff.2 rfl
  rw [this] at hi; cases hi
 have hod := od_is fW.i
 have hLx : soL F t W = dpL F X t := by unfold soL; rw [hX2]
 have fY : Frm (dT F) Y := by rw [hY2]; exact (fF.qu _ _).cp (fW.pw _)
 have hn1 : 1 ≤ odN (dT F) W := hod.1
 have hinv := inv_is (a := soL F t W) (m := soN F W) (by unfold soN; omega) (by
  have h1 : igcd (soL F t W) (soN F W) = 1 := by simpa using hg
  unfold igcd at h1
  rw [Int.gcd_comm]; omega)
 rw [hLx] at hinv
 obtain ⟨v0, v1, q, hq⟩ := hinv
 have hchk := check_forged fF.i fW.i (t := t) (l := dpL F X t) (n := odN (dT F) W) hl.1 ht2.1 hod.2.2.1 (x := invI (dpL F X t) (soN F W)) v0 (inv_mod (by omega) v0 hq)
 refine ⟨sqN (rdT F) t.toNat, fF, fW, fX, fY, fS, ?_, ?_, hsv, hsb, ?_, ?_⟩
 ·have hvb : vdB F X t Y = true := by unfold vdB trB; rw [pr_of_frm fF fX, pr_of_frm fF fY, ht]; rfl
  unfold vdV
  rw [if_pos hvb, eqT_iff, rX, hY2]
  unfold soV
  rw [hLx, hchk, hX2]
  unfold soG
  rw [hpo]
 ·unfold vdB trB; rw [pr_of_frm fF fX, pr_of_frm fF fY, ht]; rfl
 ·rw [hX2]; exact forged_ne fS.i rS fW.i hne
 ·rw [hX2]; exact forged_quot fS.i fW.i
end Go.Proofs.YtihfacmlfelliaaGreat
