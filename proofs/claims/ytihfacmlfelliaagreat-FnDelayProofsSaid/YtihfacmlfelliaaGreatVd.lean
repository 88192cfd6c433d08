/- VerifyDelay on both sides. -/
import Derived.Test.YtihfacmlfelliaaGreatHc
namespace Go.Proofs.YtihfacmlfelliaaGreat
open Go.RowKit
set_option linter.unusedVariables false
set_option linter.unusedSimpArgs false
attribute [local go_sem] q2 q3 q4 q5 q6 q7 q8 q9 q10 q11 q12

set_option maxRecDepth 100000 in
set_option maxHeartbeats 4000000 in
theorem implVerifyDelay (F : T3) (G : T3) (t : Int) (P : T3) (w : World) (i0 : I64T F) (i1 : I64T G) (i2 : I64T P) : Calls Tryz.prog 9 #[frm F, frm G, .int .i64 t, frm P] w fun e w' => e = .returned (.tuple #[.bool (vdV F G t P), .bool (vdB F G t P)]) ∧ Below w.heap.size w w' := by
 cases k0 : trB F G P
 ·have HV : Hid ((.tuple #[.bool (vdV F G t P), .bool (vdB F G t P)] : Value) = .tuple #[.bool false, .bool false]) := hide (by simp [vdV, vdB, *])
  go_enter Tryz.func9, Tryz.ntmps9
  go_wp2_with fail
  refine (areOne_l (thrT F G P) (w.heap.size + 1 + 1 + 1) 3 3 _ (by omega) (three_fs (by refine ⟨?_, ?_, ?_, ?_, ?_, ?_, ?_, ?_, ?_⟩ <;> exact byCT)) (three_i64 i0 i1 i2)).mono ?_
  rintro en w1 ⟨rfl, hb1⟩
  have tq0 := Ri3.c hb1 w.heap.size F.1 F.2.1 F.2.2
  have tq1 := Ri3.c hb1 (w.heap.size + 1) G.1 G.2.1 G.2.2
  have tq2 := Ri3.c hb1 (w.heap.size + 1 + 1) P.1 P.2.1 P.2.2
  try clear c00 c01 c02
  try clear c10 c11 c12
  try clear c20 c21 c22
  obtain ⟨c00, c01, c02, z0⟩ := tq0
  obtain ⟨c10, c11, c12, z1⟩ := tq1
  obtain ⟨c20, c21, c22, z2⟩ := tq2
  have hs1 := hb1.size
  have o10 := z0
  have o11 := z1
  have o12 := z2
  rw [on_three]
  rw [k0]
  go_wp2
  refine bodyPost_ret (v := .tuple #[.bool false, .bool false]) (by simp [results, Tryz.results9, go_sem, *]) rfl ?_
  exact ⟨by rw [unhide HV] <;> rfl, byGG⟩
 ·cases k1 : tmB t
  ·have HV : Hid ((.tuple #[.bool (vdV F G t P), .bool (vdB F G t P)] : Value) = .tuple #[.bool false, .bool false]) := hide (by simp [vdV, vdB, *])
   go_enter Tryz.func9, Tryz.ntmps9
   go_wp2_with fail
   refine (areOne_l (thrT F G P) (w.heap.size + 1 + 1 + 1) 3 3 _ (by omega) (three_fs (by refine ⟨?_, ?_, ?_, ?_, ?_, ?_, ?_, ?_, ?_⟩ <;> exact byCT)) (three_i64 i0 i1 i2)).mono ?_
   rintro en w1 ⟨rfl, hb1⟩
   have tq0 := Ri3.c hb1 w.heap.size F.1 F.2.1 F.2.2
   have tq1 := Ri3.c hb1 (w.heap.size + 1) G.1 G.2.1 G.2.2
   have tq2 := Ri3.c hb1 (w.heap.size + 1 + 1) P.1 P.2.1 P.2.2
   try clear c00 c01 c02
   try clear c10 c11 c12
   try clear c20 c21 c22
   obtain ⟨c00, c01, c02, z0⟩ := tq0
   obtain ⟨c10, c11, c12, z1⟩ := tq1
   obtain ⟨c20, c21, c22, z2⟩ := tq2
   have hs1 := hb1.size
   have o10 := z0
   have o11 := z1
   have o12 := z2
   rw [on_three]
   rw [k0]
   go_wp2_with (go_at_call 28; refine (isTime_b _ _).mono ?_; rintro e w' ⟨rfl, rfl⟩)
   go_wp2
   refine bodyPost_ret (v := .tuple #[.bool false, .bool false]) (by simp [results, Tryz.results9, go_sem, *]) rfl ?_
   exact ⟨by rw [unhide HV] <;> rfl, byGG⟩
  ·skip
   have ht : 0 ≤ t ∧ t ≤ 1000000 := by have := inB_true k1; omega
   obtain ⟨hq1, hq2, hq3⟩ := tr_true k0
   have hl := dpL_bd F G t
   obtain ⟨L, hL⟩ : ∃ L, L = dpL F G t := ⟨_, rfl⟩
   obtain ⟨E, hE⟩ : ∃ E, E = pmI 2 t L := ⟨_, rfl⟩
   obtain ⟨X1, hX1⟩ : ∃ X1, X1 = pwD (dT F) P L := ⟨_, rfl⟩
   obtain ⟨X2, hX2⟩ : ∃ X2, X2 = pwD (dT F) F E := ⟨_, rfl⟩
   obtain ⟨X3, hX3⟩ : ∃ X3, X3 = cmp X1 X2 := ⟨_, rfl⟩
   obtain ⟨X4, hX4⟩ : ∃ X4, X4 = rdT G := ⟨_, rfl⟩
   rw [← hL] at hl
   have he := pmI_bd (a := 2) (k := t) (m := L) (by omega)
   rw [← hE] at he
   have HV2 : Hid ((.tuple #[.bool (vdV F G t P), .bool (vdB F G t P)] : Value) = .tuple #[.bool (eqT X3 X4), .bool true]) := hide (by
    have e1 : vdB F G t P = true := by unfold vdB; rw [k0, k1]; rfl
    have e2 : vdV F G t P = eqT X3 X4 := by unfold vdV; rw [if_pos e1, ← hL, ← hE, ← hX1, ← hX2, ← hX3, ← hX4]
    rw [e1, e2])
   have hf1 : Frm (dT F) X1 := by rw [hX1]; exact hq3.pw _
   have hf2 : Frm (dT F) X2 := by rw [hX2]; exact hq1.pw _
   replace hX1 := hide hX1
   replace hX2 := hide hX2
   replace hX3 := hide hX3
   replace hX4 := hide hX4
   replace hE := hide hE
   replace hL := hide hL
   go_enter Tryz.func9, Tryz.ntmps9
   go_wp2_with fail
   refine (areOne_l (thrT F G P) (w.heap.size + 1 + 1 + 1) 3 3 _ (by omega) (three_fs (by refine ⟨?_, ?_, ?_, ?_, ?_, ?_, ?_, ?_, ?_⟩ <;> exact byCT)) (three_i64 i0 i1 i2)).mono ?_
   rintro en w1 ⟨rfl, hb1⟩
   have tq0 := Ri3.c hb1 w.heap.size F.1 F.2.1 F.2.2
   have tq1 := Ri3.c hb1 (w.heap.size + 1) G.1 G.2.1 G.2.2
   have tq2 := Ri3.c hb1 (w.heap.size + 1 + 1) P.1 P.2.1 P.2.2
   try clear c00 c01 c02
   try clear c10 c11 c12
   try clear c20 c21 c22
   obtain ⟨c00, c01, c02, z0⟩ := tq0
   obtain ⟨c10, c11, c12, z1⟩ := tq1
   obtain ⟨c20, c21, c22, z2⟩ := tq2
   have hs1 := hb1.size
   have o10 := z0
   have o11 := z1
   have o12 := z2
   rw [on_three]
   rw [k0]
   go_wp2_with (go_at_call 28; refine (isTime_b _ _).mono ?_; rintro e w' ⟨rfl, rfl⟩)
   refine (ch_rxi F G t L _ hq1 hq2 ht.1 ht.2 (unhide hL)).mono ?_
   rintro en w2 ⟨rfl, hb2⟩
   have tq0 := Ri3.c hb2 w.heap.size F.1 F.2.1 F.2.2
   have tq1 := Ri3.c hb2 (w.heap.size + 1) G.1 G.2.1 G.2.2
   have tq2 := Ri3.c hb2 (w.heap.size + 1 + 1) P.1 P.2.1 P.2.2
   try clear c00 c01 c02
   try clear c10 c11 c12
   try clear c20 c21 c22
   obtain ⟨c00, c01, c02, z0⟩ := tq0
   obtain ⟨c10, c11, c12, z1⟩ := tq1
   obtain ⟨c20, c21, c22, z2⟩ := tq2
   have hs2 := hb2.size
   have o20 := z0
   have o21 := z1
   have o22 := z2
   go_upto_region 4 with fail
   go_cut [8, 9] (fun s8 s9 wx => s8 = .bool (eqT X3 X4) ∧ s9 = .bool true ∧ Ri3 wx w.heap.size F.1 F.2.1 F.2.2 ∧ Ri3 wx (w.heap.size + 1) G.1 G.2.1 G.2.2 ∧ Ri3 wx (w.heap.size + 1 + 1) P.1 P.2.1 P.2.2 ∧ Below w.heap.size w wx)
   case first =>
    have h1 := trivial
    rename_i K2 h2 h3
    refine region_n0 (by kernel_rfl) (fun j => #[26,27,28,29,30,31,32,33,34,35,36,37,8,9].getD j 0) (fun j => Kd.ok ((fun j => match j with | 0 => Kd.val (.agg #[.int .i64 (P.1), .int .i64 (P.2.1), .int .i64 (P.2.2)]) | 1 => Kd.val (.int .i64 L) | 2 => Kd.val (.agg #[.int .i64 (X1.1), .int .i64 (X1.2.1), .int .i64 (X1.2.2)]) | 3 => Kd.val (.agg #[.int .i64 (F.1), .int .i64 (F.2.1), .int .i64 (F.2.2)]) | 4 => Kd.val (.int .i64 t) | 5 => Kd.val (.int .i64 L) | 6 => Kd.val (.int .i64 E) | 7 => Kd.val (.agg #[.int .i64 (X2.1), .int .i64 (X2.2.1), .int .i64 (X2.2.2)]) | 8 => Kd.val (.agg #[.int .i64 (X3.1), .int .i64 (X3.2.1), .int .i64 (X3.2.2)]) | 9 => Kd.val (.agg #[.int .i64 (G.1), .int .i64 (G.2.1), .int .i64 (G.2.2)]) | 10 => Kd.val (.agg #[.int .i64 (X4.1), .int .i64 (X4.2.1), .int .i64 (X4.2.2)]) | 11 => Kd.val (.bool (eqT X3 X4)) | 12 => Kd.val (.bool (eqT X3 X4)) | 13 => Kd.val (.bool true) | _ => Kd.any : Nat → Kd) j)) (Sy w (w2.heap.size) [(⟨w.heap.size, 0, none⟩, .int .i64 (F.1)), (⟨w.heap.size, 1, none⟩, .int .i64 (F.2.1)), (⟨w.heap.size, 2, none⟩, .int .i64 (F.2.2)), (⟨w.heap.size + 1, 0, none⟩, .int .i64 (G.1)), (⟨w.heap.size + 1, 1, none⟩, .int .i64 (G.2.1)), (⟨w.heap.size + 1, 2, none⟩, .int .i64 (G.2.2)), (⟨w.heap.size + 1 + 1, 0, none⟩, .int .i64 (P.1)), (⟨w.heap.size + 1 + 1, 1, none⟩, .int .i64 (P.2.1)), (⟨w.heap.size + 1 + 1, 2, none⟩, .int .i64 (P.2.2))] []) (by kernel_rfl) (by kernel_rfl) ?_ ?_ ?_ ?_
    ·intro j hj
     have hj2 : j < 14 := hj
     have : ∀ j, j < 14 → (#[26,27,28,29,30,31,32,33,34,35,36,37,8,9] : Array Nat).getD j 0 < 38 := by decide
     exact this j hj2
    ·refine Sy.drew (Sy.mk_of ?_ ?_ ?_ ?_)
     ·first | rfl | (simp; done) | (simp; omega)
     ·intro c hc
      simp only [List.mem_cons, List.not_mem_nil, or_false] at hc
      rcases hc with rfl | rfl | rfl | rfl | rfl | rfl | rfl | rfl | rfl <;> exact byCT
     ·intro p hp; cases hp
     ·(repeat' first | with_reducible (first | exact Below.refl _ _ | assumption | refine gr_alloc ?_ _ | refine below_drewN ?_ _ | refine below_drew ?_ | refine gr_call ?_ (by assumption) | refine Below.setCell ?_ ?_ _) | go_size | omega | (simp; omega))
    ·clear h1 h2 h3
     refine ⟨?r38x0, ?r38x1, ?r38x2, ?r38x3, ?r38x4, ?r38x5, ?r38x6, ?r38x7, ?r38x8, ?r38x9, ?r38x10, ?r38x11, ?r38x12, ?r38x13, trivial⟩
     all_goals intro _ aq wx Kq hf hS hdep ev1 ev2 hK
     case' r38x0 =>
      have F7 : aq.eval (.tmp 7) = .pointer (some ⟨w.heap.size + 1 + 1, 0, none⟩) := hf 7
      have c0 := hS.cells (⟨w.heap.size + 1 + 1, 0, none⟩, .int .i64 (P.1)) (by simp)
      have c1 := hS.cells (⟨w.heap.size + 1 + 1, 1, none⟩, .int .i64 (P.2.1)) (by simp)
      have c2 := hS.cells (⟨w.heap.size + 1 + 1, 2, none⟩, .int .i64 (P.2.2)) (by simp)
     case' r38x1 =>
      have F10 : aq.eval (.tmp 10) = .int .i64 L := hf 10
     case' r38x2 =>
      have D0 : aq.eval (.tmp 26) = _ := hdep 0
      have D1 : aq.eval (.tmp 27) = _ := hdep 1
     case' r38x3 =>
      have F4 : aq.eval (.tmp 4) = .pointer (some ⟨w.heap.size, 0, none⟩) := hf 4
      have c0 := hS.cells (⟨w.heap.size, 0, none⟩, .int .i64 (F.1)) (by simp)
      have c1 := hS.cells (⟨w.heap.size, 1, none⟩, .int .i64 (F.2.1)) (by simp)
      have c2 := hS.cells (⟨w.heap.size, 2, none⟩, .int .i64 (F.2.2)) (by simp)
     case' r38x4 =>
      have F2 : aq.eval (.tmp 2) = .int .i64 t := hf 2
     case' r38x5 =>
      have F10 : aq.eval (.tmp 10) = .int .i64 L := hf 10
     case' r38x6 =>
      have D4 : aq.eval (.tmp 30) = _ := hdep 4
      have D5 : aq.eval (.tmp 31) = _ := hdep 5
     case' r38x7 =>
      have D3 : aq.eval (.tmp 29) = _ := hdep 3
      have D6 : aq.eval (.tmp 32) = _ := hdep 6
     case' r38x8 =>
      have D2 : aq.eval (.tmp 28) = _ := hdep 2
      have D7 : aq.eval (.tmp 33) = _ := hdep 7
     case' r38x9 =>
      have F5 : aq.eval (.tmp 5) = .pointer (some ⟨w.heap.size + 1, 0, none⟩) := hf 5
      have c0 := hS.cells (⟨w.heap.size + 1, 0, none⟩, .int .i64 (G.1)) (by simp)
      have c1 := hS.cells (⟨w.heap.size + 1, 1, none⟩, .int .i64 (G.2.1)) (by simp)
      have c2 := hS.cells (⟨w.heap.size + 1, 2, none⟩, .int .i64 (G.2.2)) (by simp)
     case' r38x10 =>
      have D9 : aq.eval (.tmp 35) = _ := hdep 9
     case' r38x11 =>
      have D8 : aq.eval (.tmp 34) = _ := hdep 8
      have D10 : aq.eval (.tmp 36) = _ := hdep 10
     case' r38x12 =>
      have D11 : aq.eval (.tmp 37) = _ := hdep 11
     all_goals (clear hf hdep; unfold Oper.wp; generalize Act.eval _ = ev at *; go_simp)
     case r38x2 =>
      refine ((pw_rwi P X1 L _ hq3 (by omega) (by omega) (unhide hX1))).mono ?_
      rintro e w2 ⟨rfl, hb⟩
      refine hK _ _ (hS.call hb) ?_ (fun j u _ h => Kd.ok_below hb h)
      rw [if_pos (by rfl)]
      show (_ : Value) = _
      first | rfl | (refine congrArg (Value.int .i64) ?_; first | rfl | exact int_in (by omega) | exact quo_in (by omega) (by omega) (by omega) | exact rem_in (by omega) (by omega) | omega | rfl) | (simp; done) | (simp [*]; done)
     case r38x6 =>
      refine ((pm_rwi t L E _ (by omega) (by omega) (by omega) (unhide hE))).mono ?_
      rintro e w2 ⟨rfl, rfl⟩
      refine hK _ _ (hS.call (below_refl_self _)) ?_ (fun j u _ h => Kd.ok_below (below_refl_self _) h)
      rw [if_pos (by rfl)]
      show (_ : Value) = _
      first | rfl | (refine congrArg (Value.int .i64) ?_; first | rfl | exact int_in (by omega) | exact quo_in (by omega) (by omega) (by omega) | exact rem_in (by omega) (by omega) | omega | rfl) | (simp; done) | (simp [*]; done)
     case r38x7 =>
      refine ((pw_rwi F X2 E _ hq1 (by omega) (by omega) (unhide hX2))).mono ?_
      rintro e w2 ⟨rfl, hb⟩
      refine hK _ _ (hS.call hb) ?_ (fun j u _ h => Kd.ok_below hb h)
      rw [if_pos (by rfl)]
      show (_ : Value) = _
      first | rfl | (refine congrArg (Value.int .i64) ?_; first | rfl | exact int_in (by omega) | exact quo_in (by omega) (by omega) (by omega) | exact rem_in (by omega) (by omega) | omega | rfl) | (simp; done) | (simp [*]; done)
     case r38x8 =>
      refine ((cm_rwi X1 X2 X3 _ hf1.i hf2.i (unhide hX3))).mono ?_
      rintro e w2 ⟨rfl, hb⟩
      refine hK _ _ (hS.call hb) ?_ (fun j u _ h => Kd.ok_below hb h)
      rw [if_pos (by rfl)]
      show (_ : Value) = _
      first | rfl | (refine congrArg (Value.int .i64) ?_; first | rfl | exact int_in (by omega) | exact quo_in (by omega) (by omega) (by omega) | exact rem_in (by omega) (by omega) | omega | rfl) | (simp; done) | (simp [*]; done)
     case r38x10 =>
      refine ((rd_rwi G X4 _ hq2.i (unhide hX4))).mono ?_
      rintro e w2 ⟨rfl, hb⟩
      refine hK _ _ (hS.call hb) ?_ (fun j u _ h => Kd.ok_below hb h)
      rw [if_pos (by rfl)]
      show (_ : Value) = _
      first | rfl | (refine congrArg (Value.int .i64) ?_; first | rfl | exact int_in (by omega) | exact quo_in (by omega) (by omega) (by omega) | exact rem_in (by omega) (by omega) | omega | rfl) | (simp; done) | (simp [*]; done)
     case' r38x11 =>
      rw [eq3_res, Oper.upon_value]
     all_goals (refine hK _ _ hS ?_ (fun j u _ h => h); rw [if_pos (by rfl)]; show (_ : Value) = _; (first | rfl | (refine congrArg (Value.int .i64) ?_; first | rfl | exact int_in (by omega) | exact quo_in (by omega) (by omega) (by omega) | exact rem_in (by omega) (by omega) | omega | rfl) | (simp; done) | (simp [*]; done)))
    ·intro aq wx hd hw hf hS hg
     have G8 : tau aq 8 = .bool (eqT X3 X4) := hg 12 (by decide)
     have G9 : tau aq 9 = .bool true := hg 13 (by decide)
     have haq : aq = ⟨#[tau aq 0, tau aq 1, tau aq 2, tau aq 3, tau aq 4, tau aq 5, tau aq 6, tau aq 7, tau aq 8, tau aq 9, tau aq 10, tau aq 11, tau aq 12, tau aq 13, tau aq 14, tau aq 15, tau aq 16, tau aq 17, tau aq 18, tau aq 19, tau aq 20, tau aq 21, tau aq 22, tau aq 23, tau aq 24, tau aq 25, tau aq 26, tau aq 27, tau aq 28, tau aq 29, tau aq 30, tau aq 31, tau aq 32, tau aq 33, tau aq 34, tau aq 35, tau aq 36, tau aq 37], []⟩ := by
      obtain ⟨tq, dq⟩ := aq
      have h5 := arr_eq (show tq.size = 38 from hw)
      have h6 : dq = [] := hd
      subst h6
      exact congrArg (fun z => Act.mk z []) h5
     show K2 aq wx
     rw [haq, hf 0, hf 1, hf 2, hf 3, hf 4, hf 5, hf 6, hf 7, hf 10, hf 11, hf 12, hf 13, hf 14, hf 15, hf 16, hf 17, hf 18, hf 19, hf 20, hf 21, hf 22, hf 23, hf 24, hf 25, G8, G9]
     clear haq hf hd hw
     try dsimp only
     refine h3 _ _ ?_
     go_meet
     refine ⟨rfl, rfl, Ri3.m ?_ ?_ ?_, Ri3.m ?_ ?_ ?_, Ri3.m ?_ ?_ ?_, hS.below⟩
     all_goals first | exact hS.cells (_, _) (by simp) | exact (hS.free _ (by simp)).2
   try clear c00
   try clear c01
   try clear c02
   try clear c10
   try clear c11
   try clear c12
   try clear c20
   try clear c21
   try clear c22
   obtain ⟨rfl, rfl, ⟨c00, c01, c02, z0⟩, ⟨c10, c11, c12, z1⟩, ⟨c20, c21, c22, z2⟩, hb0⟩ := hcut
   skip
   go_wp2
   refine bodyPost_ret (v := .tuple #[.bool (eqT X3 X4), .bool true]) (by simp [results, Tryz.results9, go_sem, *]) rfl ?_
   exact ⟨by rw [unhide HV2], hb0⟩

set_option maxRecDepth 100000 in
set_option maxHeartbeats 4000000 in
theorem specVerifyDelay (F : T3) (G : T3) (t : Int) (P : T3) (w : World)  : Calls Tryz.prog 18 #[frm F, frm G, .int .i64 t, frm P] w fun e w' => e = .returned (.tuple #[.bool (vdV F G t P), .bool (vdB F G t P)]) ∧ Below w.heap.size w w' := by
 cases k0 : trB F G P
 ·have HV : Hid ((.tuple #[.bool (vdV F G t P), .bool (vdB F G t P)] : Value) = .tuple #[.bool false, .bool false]) := hide (by simp [vdV, vdB, *])
  go_enter Tryz.func18, Tryz.ntmps18
  go_wp2_with fail
  refine (dlAll_l (thrT F G P) (w.heap.size + 1 + 1 + 1) 3 3 _ (by omega) (three_fs (by refine ⟨?_, ?_, ?_, ?_, ?_, ?_, ?_, ?_, ?_⟩ <;> exact byCT))).mono ?_
  rintro en w1 ⟨rfl, hb1⟩
  have tq0 := Ri3.c hb1 w.heap.size F.1 F.2.1 F.2.2
  have tq1 := Ri3.c hb1 (w.heap.size + 1) G.1 G.2.1 G.2.2
  have tq2 := Ri3.c hb1 (w.heap.size + 1 + 1) P.1 P.2.1 P.2.2
  try clear c00 c01 c02
  try clear c10 c11 c12
  try clear c20 c21 c22
  obtain ⟨c00, c01, c02, z0⟩ := tq0
  obtain ⟨c10, c11, c12, z1⟩ := tq1
  obtain ⟨c20, c21, c22, z2⟩ := tq2
  have hs1 := hb1.size
  have o10 := z0
  have o11 := z1
  have o12 := z2
  rw [on_three]
  rw [k0]
  go_wp2
  refine bodyPost_ret (v := .tuple #[.bool false, .bool false]) (by simp [results, Tryz.results18, go_sem, *]) rfl ?_
  exact ⟨by rw [unhide HV] <;> rfl, byGG⟩
 ·cases k1 : tmB t
  ·have HV : Hid ((.tuple #[.bool (vdV F G t P), .bool (vdB F G t P)] : Value) = .tuple #[.bool false, .bool false]) := hide (by simp [vdV, vdB, *])
   go_enter Tryz.func18, Tryz.ntmps18
   go_wp2_with fail
   refine (dlAll_l (thrT F G P) (w.heap.size + 1 + 1 + 1) 3 3 _ (by omega) (three_fs (by refine ⟨?_, ?_, ?_, ?_, ?_, ?_, ?_, ?_, ?_⟩ <;> exact byCT))).mono ?_
   rintro en w1 ⟨rfl, hb1⟩
   have tq0 := Ri3.c hb1 w.heap.size F.1 F.2.1 F.2.2
   have tq1 := Ri3.c hb1 (w.heap.size + 1) G.1 G.2.1 G.2.2
   have tq2 := Ri3.c hb1 (w.heap.size + 1 + 1) P.1 P.2.1 P.2.2
   try clear c00 c01 c02
   try clear c10 c11 c12
   try clear c20 c21 c22
   obtain ⟨c00, c01, c02, z0⟩ := tq0
   obtain ⟨c10, c11, c12, z1⟩ := tq1
   obtain ⟨c20, c21, c22, z2⟩ := tq2
   have hs1 := hb1.size
   have o10 := z0
   have o11 := z1
   have o12 := z2
   rw [on_three]
   rw [k0]
   go_wp2_with (go_at_call 39; refine (dlTime_b _ _).mono ?_; rintro e w' ⟨rfl, rfl⟩)
   go_wp2
   refine bodyPost_ret (v := .tuple #[.bool false, .bool false]) (by simp [results, Tryz.results18, go_sem, *]) rfl ?_
   exact ⟨by rw [unhide HV] <;> rfl, byGG⟩
  ·skip
   have ht : 0 ≤ t ∧ t ≤ 1000000 := by have := inB_true k1; omega
   obtain ⟨hq1, hq2, hq3⟩ := tr_true k0
   have hl := dpL_bd F G t
   obtain ⟨L, hL⟩ : ∃ L, L = dpL F G t := ⟨_, rfl⟩
   obtain ⟨E, hE⟩ : ∃ E, E = pmI 2 t L := ⟨_, rfl⟩
   obtain ⟨X1, hX1⟩ : ∃ X1, X1 = pwD (dT F) P L := ⟨_, rfl⟩
   obtain ⟨X2, hX2⟩ : ∃ X2, X2 = pwD (dT F) F E := ⟨_, rfl⟩
   obtain ⟨X3, hX3⟩ : ∃ X3, X3 = cmp X1 X2 := ⟨_, rfl⟩
   obtain ⟨X4, hX4⟩ : ∃ X4, X4 = rdT G := ⟨_, rfl⟩
   rw [← hL] at hl
   have he := pmI_bd (a := 2) (k := t) (m := L) (by omega)
   rw [← hE] at he
   have HV2 : Hid ((.tuple #[.bool (vdV F G t P), .bool (vdB F G t P)] : Value) = .tuple #[.bool (eqT X3 X4), .bool true]) := hide (by
    have e1 : vdB F G t P = true := by unfold vdB; rw [k0, k1]; rfl
    have e2 : vdV F G t P = eqT X3 X4 := by unfold vdV; rw [if_pos e1, ← hL, ← hE, ← hX1, ← hX2, ← hX3, ← hX4]
    rw [e1, e2])
   have hf1 : Frm (dT F) X1 := by rw [hX1]; exact hq3.pw _
   have hf2 : Frm (dT F) X2 := by rw [hX2]; exact hq1.pw _
   replace hX1 := hide hX1
   replace hX2 := hide hX2
   replace hX3 := hide hX3
   replace hX4 := hide hX4
   replace hE := hide hE
   replace hL := hide hL
   go_enter Tryz.func18, Tryz.ntmps18
   go_wp2_with fail
   refine (dlAll_l (thrT F G P) (w.heap.size + 1 + 1 + 1) 3 3 _ (by omega) (three_fs (by refine ⟨?_, ?_, ?_, ?_, ?_, ?_, ?_, ?_, ?_⟩ <;> exact byCT))).mono ?_
   rintro en w1 ⟨rfl, hb1⟩
   have tq0 := Ri3.c hb1 w.heap.size F.1 F.2.1 F.2.2
   have tq1 := Ri3.c hb1 (w.heap.size + 1) G.1 G.2.1 G.2.2
   have tq2 := Ri3.c hb1 (w.heap.size + 1 + 1) P.1 P.2.1 P.2.2
   try clear c00 c01 c02
   try clear c10 c11 c12
   try clear c20 c21 c22
   obtain ⟨c00, c01, c02, z0⟩ := tq0
   obtain ⟨c10, c11, c12, z1⟩ := tq1
   obtain ⟨c20, c21, c22, z2⟩ := tq2
   have hs1 := hb1.size
   have o10 := z0
   have o11 := z1
   have o12 := z2
   rw [on_three]
   rw [k0]
   go_wp2_with (go_at_call 39; refine (dlTime_b _ _).mono ?_; rintro e w' ⟨rfl, rfl⟩)
   refine (ch_rxs F G t L _ hq1 hq2 ht.1 ht.2 (unhide hL)).mono ?_
   rintro en w2 ⟨rfl, hb2⟩
   have tq0 := Ri3.c hb2 w.heap.size F.1 F.2.1 F.2.2
   have tq1 := Ri3.c hb2 (w.heap.size + 1) G.1 G.2.1 G.2.2
   have tq2 := Ri3.c hb2 (w.heap.size + 1 + 1) P.1 P.2.1 P.2.2
   try clear c00 c01 c02
   try clear c10 c11 c12
   try clear c20 c21 c22
   obtain ⟨c00, c01, c02, z0⟩ := tq0
   obtain ⟨c10, c11, c12, z1⟩ := tq1
   obtain ⟨c20, c21, c22, z2⟩ := tq2
   have hs2 := hb2.size
   have o20 := z0
   have o21 := z1
   have o22 := z2
   go_upto_region 4 with fail
   go_cut [8, 9] (fun s8 s9 wx => s8 = .bool (eqT X3 X4) ∧ s9 = .bool true ∧ Ri3 wx w.heap.size F.1 F.2.1 F.2.2 ∧ Ri3 wx (w.heap.size + 1) G.1 G.2.1 G.2.2 ∧ Ri3 wx (w.heap.size + 1 + 1) P.1 P.2.1 P.2.2 ∧ Below w.heap.size w wx)
   case first =>
    have h1 := trivial
    rename_i K2 h2 h3
    refine region_n0 (by kernel_rfl) (fun j => #[26,27,28,29,30,31,32,33,34,35,36,37,8,9].getD j 0) (fun j => Kd.ok ((fun j => match j with | 0 => Kd.val (.agg #[.int .i64 (P.1), .int .i64 (P.2.1), .int .i64 (P.2.2)]) | 1 => Kd.val (.int .i64 L) | 2 => Kd.val (.agg #[.int .i64 (X1.1), .int .i64 (X1.2.1), .int .i64 (X1.2.2)]) | 3 => Kd.val (.agg #[.int .i64 (F.1), .int .i64 (F.2.1), .int .i64 (F.2.2)]) | 4 => Kd.val (.int .i64 t) | 5 => Kd.val (.int .i64 L) | 6 => Kd.val (.int .i64 E) | 7 => Kd.val (.agg #[.int .i64 (X2.1), .int .i64 (X2.2.1), .int .i64 (X2.2.2)]) | 8 => Kd.val (.agg #[.int .i64 (X3.1), .int .i64 (X3.2.1), .int .i64 (X3.2.2)]) | 9 => Kd.val (.agg #[.int .i64 (G.1), .int .i64 (G.2.1), .int .i64 (G.2.2)]) | 10 => Kd.val (.agg #[.int .i64 (X4.1), .int .i64 (X4.2.1), .int .i64 (X4.2.2)]) | 11 => Kd.val (.bool (eqT X3 X4)) | 12 => Kd.val (.bool (eqT X3 X4)) | 13 => Kd.val (.bool true) | _ => Kd.any : Nat → Kd) j)) (Sy w (w2.heap.size) [(⟨w.heap.size, 0, none⟩, .int .i64 (F.1)), (⟨w.heap.size, 1, none⟩, .int .i64 (F.2.1)), (⟨w.heap.size, 2, none⟩, .int .i64 (F.2.2)), (⟨w.heap.size + 1, 0, none⟩, .int .i64 (G.1)), (⟨w.heap.size + 1, 1, none⟩, .int .i64 (G.2.1)), (⟨w.heap.size + 1, 2, none⟩, .int .i64 (G.2.2)), (⟨w.heap.size + 1 + 1, 0, none⟩, .int .i64 (P.1)), (⟨w.heap.size + 1 + 1, 1, none⟩, .int .i64 (P.2.1)), (⟨w.heap.size + 1 + 1, 2, none⟩, .int .i64 (P.2.2))] []) (by kernel_rfl) (by kernel_rfl) ?_ ?_ ?_ ?_
    ·intro j hj
     have hj2 : j < 14 := hj
     have : ∀ j, j < 14 → (#[26,27,28,29,30,31,32,33,34,35,36,37,8,9] : Array Nat).getD j 0 < 38 := by decide
     exact this j hj2
    ·refine Sy.drew (Sy.mk_of ?_ ?_ ?_ ?_)
     ·first | rfl | (simp; done) | (simp; omega)
     ·intro c hc
      simp only [List.mem_cons, List.not_mem_nil, or_false] at hc
      rcases hc with rfl | rfl | rfl | rfl | rfl | rfl | rfl | rfl | rfl <;> exact byCT
     ·intro p hp; cases hp
     ·(repeat' first | with_reducible (first | exact Below.refl _ _ | assumption | refine gr_alloc ?_ _ | refine below_drewN ?_ _ | refine below_drew ?_ | refine gr_call ?_ (by assumption) | refine Below.setCell ?_ ?_ _) | go_size | omega | (simp; omega))
    ·clear h1 h2 h3
     refine ⟨?r39x0, ?r39x1, ?r39x2, ?r39x3, ?r39x4, ?r39x5, ?r39x6, ?r39x7, ?r39x8, ?r39x9, ?r39x10, ?r39x11, ?r39x12, ?r39x13, trivial⟩
     all_goals intro _ aq wx Kq hf hS hdep ev1 ev2 hK
     case' r39x0 =>
      have F7 : aq.eval (.tmp 7) = .pointer (some ⟨w.heap.size + 1 + 1, 0, none⟩) := hf 7
      have c0 := hS.cells (⟨w.heap.size + 1 + 1, 0, none⟩, .int .i64 (P.1)) (by simp)
      have c1 := hS.cells (⟨w.heap.size + 1 + 1, 1, none⟩, .int .i64 (P.2.1)) (by simp)
      have c2 := hS.cells (⟨w.heap.size + 1 + 1, 2, none⟩, .int .i64 (P.2.2)) (by simp)
     case' r39x1 =>
      have F10 : aq.eval (.tmp 10) = .int .i64 L := hf 10
     case' r39x2 =>
      have D0 : aq.eval (.tmp 26) = _ := hdep 0
      have D1 : aq.eval (.tmp 27) = _ := hdep 1
     case' r39x3 =>
      have F4 : aq.eval (.tmp 4) = .pointer (some ⟨w.heap.size, 0, none⟩) := hf 4
      have c0 := hS.cells (⟨w.heap.size, 0, none⟩, .int .i64 (F.1)) (by simp)
      have c1 := hS.cells (⟨w.heap.size, 1, none⟩, .int .i64 (F.2.1)) (by simp)
      have c2 := hS.cells (⟨w.heap.size, 2, none⟩, .int .i64 (F.2.2)) (by simp)
     case' r39x4 =>
      have F2 : aq.eval (.tmp 2) = .int .i64 t := hf 2
     case' r39x5 =>
      have F10 : aq.eval (.tmp 10) = .int .i64 L := hf 10
     case' r39x6 =>
      have D4 : aq.eval (.tmp 30) = _ := hdep 4
      have D5 : aq.eval (.tmp 31) = _ := hdep 5
     case' r39x7 =>
      have D3 : aq.eval (.tmp 29) = _ := hdep 3
      have D6 : aq.eval (.tmp 32) = _ := hdep 6
     case' r39x8 =>
      have D2 : aq.eval (.tmp 28) = _ := hdep 2
      have D7 : aq.eval (.tmp 33) = _ := hdep 7
     case' r39x9 =>
      have F5 : aq.eval (.tmp 5) = .pointer (some ⟨w.heap.size + 1, 0, none⟩) := hf 5
      have c0 := hS.cells (⟨w.heap.size + 1, 0, none⟩, .int .i64 (G.1)) (by simp)
      have c1 := hS.cells (⟨w.heap.size + 1, 1, none⟩, .int .i64 (G.2.1)) (by simp)
      have c2 := hS.cells (⟨w.heap.size + 1, 2, none⟩, .int .i64 (G.2.2)) (by simp)
     case' r39x10 =>
      have D9 : aq.eval (.tmp 35) = _ := hdep 9
     case' r39x11 =>
      have D8 : aq.eval (.tmp 34) = _ := hdep 8
      have D10 : aq.eval (.tmp 36) = _ := hdep 10
     case' r39x12 =>
      have D11 : aq.eval (.tmp 37) = _ := hdep 11
     all_goals (clear hf hdep; unfold Oper.wp; generalize Act.eval _ = ev at *; go_simp)
     case r39x2 =>
      refine ((pw_rws P X1 L _ hq3 (by omega) (by omega) (unhide hX1))).mono ?_
      rintro e w2 ⟨rfl, hb⟩
      refine hK _ _ (hS.call hb) ?_ (fun j u _ h => Kd.ok_below hb h)
      rw [if_pos (by rfl)]
      show (_ : Value) = _
      first | rfl | (refine congrArg (Value.int .i64) ?_; first | rfl | exact int_in (by omega) | exact quo_in (by omega) (by omega) (by omega) | exact rem_in (by omega) (by omega) | omega | rfl) | (simp; done) | (simp [*]; done)
     case r39x6 =>
      refine ((pm_rws t L E _ (by omega) (by omega) (by omega) (unhide hE))).mono ?_
      rintro e w2 ⟨rfl, hb⟩
      refine hK _ _ (hS.call hb) ?_ (fun j u _ h => Kd.ok_below hb h)
      rw [if_pos (by rfl)]
      show (_ : Value) = _
      first | rfl | (refine congrArg (Value.int .i64) ?_; first | rfl | exact int_in (by omega) | exact quo_in (by omega) (by omega) (by omega) | exact rem_in (by omega) (by omega) | omega | rfl) | (simp; done) | (simp [*]; done)
     case r39x7 =>
      refine ((pw_rws F X2 E _ hq1 (by omega) (by omega) (unhide hX2))).mono ?_
      rintro e w2 ⟨rfl, hb⟩
      refine hK _ _ (hS.call hb) ?_ (fun j u _ h => Kd.ok_below hb h)
      rw [if_pos (by rfl)]
      show (_ : Value) = _
      first | rfl | (refine congrArg (Value.int .i64) ?_; first | rfl | exact int_in (by omega) | exact quo_in (by omega) (by omega) (by omega) | exact rem_in (by omega) (by omega) | omega | rfl) | (simp; done) | (simp [*]; done)
     case r39x8 =>
      refine ((cm_rws X1 X2 X3 _ hf1.i hf2.i (unhide hX3))).mono ?_
      rintro e w2 ⟨rfl, hb⟩
      refine hK _ _ (hS.call hb) ?_ (fun j u _ h => Kd.ok_below hb h)
      rw [if_pos (by rfl)]
      show (_ : Value) = _
      first | rfl | (refine congrArg (Value.int .i64) ?_; first | rfl | exact int_in (by omega) | exact quo_in (by omega) (by omega) (by omega) | exact rem_in (by omega) (by omega) | omega | rfl) | (simp; done) | (simp [*]; done)
     case r39x10 =>
      refine ((rd_rws G X4 _ hq2.i (unhide hX4))).mono ?_
      rintro e w2 ⟨rfl, hb⟩
      refine hK _ _ (hS.call hb) ?_ (fun j u _ h => Kd.ok_below hb h)
      rw [if_pos (by rfl)]
      show (_ : Value) = _
      first | rfl | (refine congrArg (Value.int .i64) ?_; first | rfl | exact int_in (by omega) | exact quo_in (by omega) (by omega) (by omega) | exact rem_in (by omega) (by omega) | omega | rfl) | (simp; done) | (simp [*]; done)
     case' r39x11 =>
      rw [eq3_res, Oper.upon_value]
     all_goals (refine hK _ _ hS ?_ (fun j u _ h => h); rw [if_pos (by rfl)]; show (_ : Value) = _; (first | rfl | (refine congrArg (Value.int .i64) ?_; first | rfl | exact int_in (by omega) | exact quo_in (by omega) (by omega) (by omega) | exact rem_in (by omega) (by omega) | omega | rfl) | (simp; done) | (simp [*]; done)))
    ·intro aq wx hd hw hf hS hg
     have G8 : tau aq 8 = .bool (eqT X3 X4) := hg 12 (by decide)
     have G9 : tau aq 9 = .bool true := hg 13 (by decide)
     have haq : aq = ⟨#[tau aq 0, tau aq 1, tau aq 2, tau aq 3, tau aq 4, tau aq 5, tau aq 6, tau aq 7, tau aq 8, tau aq 9, tau aq 10, tau aq 11, tau aq 12, tau aq 13, tau aq 14, tau aq 15, tau aq 16, tau aq 17, tau aq 18, tau aq 19, tau aq 20, tau aq 21, tau aq 22, tau aq 23, tau aq 24, tau aq 25, tau aq 26, tau aq 27, tau aq 28, tau aq 29, tau aq 30, tau aq 31, tau aq 32, tau aq 33, tau aq 34, tau aq 35, tau aq 36, tau aq 37], []⟩ := by
      obtain ⟨tq, dq⟩ := aq
      have h5 := arr_eq (show tq.size = 38 from hw)
      have h6 : dq = [] := hd
      subst h6
      exact congrArg (fun z => Act.mk z []) h5
     show K2 aq wx
     rw [haq, hf 0, hf 1, hf 2, hf 3, hf 4, hf 5, hf 6, hf 7, hf 10, hf 11, hf 12, hf 13, hf 14, hf 15, hf 16, hf 17, hf 18, hf 19, hf 20, hf 21, hf 22, hf 23, hf 24, hf 25, G8, G9]
     clear haq hf hd hw
     try dsimp only
     refine h3 _ _ ?_
     go_meet
     refine ⟨rfl, rfl, Ri3.m ?_ ?_ ?_, Ri3.m ?_ ?_ ?_, Ri3.m ?_ ?_ ?_, hS.below⟩
     all_goals first | exact hS.cells (_, _) (by simp) | exact (hS.free _ (by simp)).2
   try clear c00
   try clear c01
   try clear c02
   try clear c10
   try clear c11
   try clear c12
   try clear c20
   try clear c21
   try clear c22
   obtain ⟨rfl, rfl, ⟨c00, c01, c02, z0⟩, ⟨c10, c11, c12, z1⟩, ⟨c20, c21, c22, z2⟩, hb0⟩ := hcut
   skip
   go_wp2
   refine bodyPost_ret (v := .tuple #[.bool (eqT X3 X4), .bool true]) (by simp [results, Tryz.results18, go_sem, *]) rfl ?_
   exact ⟨by rw [unhide HV2], hb0⟩

end Go.Proofs.YtihfacmlfelliaaGreat
