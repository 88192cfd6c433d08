/- DelayProof on both sides. -/
import Derived.Test.YtihfacmlfelliaaGreatSt
namespace Go.Proofs.YtihfacmlfelliaaGreat
open Go.RowKit
set_option linter.unusedVariables false
set_option linter.unusedSimpArgs false
attribute [local go_sem] q2 q3 q4 q5 q6 q7 q8 q9 q10 q11 q12

set_option maxRecDepth 100000 in
set_option maxHeartbeats 4000000 in
theorem implDelayProof (F : T3) (t : Int) (w : World) (i0 : I64T F) : Calls Tryz.prog 14 #[frm F, .int .i64 t] w fun e w' => e = .returned (.tuple #[frm (srV F t), frm (dpV F t), .bool (srB F t)]) ∧ Below w.heap.size w w' := by
 cases k0 : clB F
 ·have HV : Hid ((.tuple #[frm (srV F t), frm (dpV F t), .bool (srB F t)] : Value) = .tuple #[.agg #[.int .i64 0, .int .i64 0, .int .i64 0], .agg #[.int .i64 0, .int .i64 0, .int .i64 0], .bool false]) := hide (by simp [srV, dpV, srB, *])
  go_enter Tryz.func14, Tryz.ntmps14
  go_wp2_with fail
  refine (isClass_p F _ i0).mono ?_
  rintro en w1 ⟨rfl, hb1⟩
  have tq0 := Ri3.c hb1 w.heap.size F.1 F.2.1 F.2.2
  have tq1 := Wi3.c hb1 (w.heap.size + 1) 0 0 0
  have tq2 := Wi3.c hb1 (w.heap.size + 1 + 1) 0 0 0
  try clear c00 c01 c02
  try clear c10 c11 c12 f10 f11 f12
  try clear c20 c21 c22 f20 f21 f22
  obtain ⟨c00, c01, c02, z0⟩ := tq0
  obtain ⟨c10, c11, c12, f10, f11, f12, z1⟩ := tq1
  obtain ⟨c20, c21, c22, f20, f21, f22, z2⟩ := tq2
  have hs1 := hb1.size
  have o10 := z0
  have o11 := z1
  have o12 := z2
  rw [k0]
  go_wp2
  refine bodyPost_ret (v := .tuple #[.agg #[.int .i64 0, .int .i64 0, .int .i64 0], .agg #[.int .i64 0, .int .i64 0, .int .i64 0], .bool false]) (by simp [results, Tryz.results14, go_sem, *]) rfl ?_
  exact ⟨by rw [unhide HV] <;> rfl, byGG⟩
 ·cases k1 : tmB t
  ·have HV : Hid ((.tuple #[frm (srV F t), frm (dpV F t), .bool (srB F t)] : Value) = .tuple #[.agg #[.int .i64 0, .int .i64 0, .int .i64 0], .agg #[.int .i64 0, .int .i64 0, .int .i64 0], .bool false]) := hide (by simp [srV, dpV, srB, *])
   go_enter Tryz.func14, Tryz.ntmps14
   go_wp2_with fail
   refine (isClass_p F _ i0).mono ?_
   rintro en w1 ⟨rfl, hb1⟩
   have tq0 := Ri3.c hb1 w.heap.size F.1 F.2.1 F.2.2
   have tq1 := Wi3.c hb1 (w.heap.size + 1) 0 0 0
   have tq2 := Wi3.c hb1 (w.heap.size + 1 + 1) 0 0 0
   try clear c00 c01 c02
   try clear c10 c11 c12 f10 f11 f12
   try clear c20 c21 c22 f20 f21 f22
   obtain ⟨c00, c01, c02, z0⟩ := tq0
   obtain ⟨c10, c11, c12, f10, f11, f12, z1⟩ := tq1
   obtain ⟨c20, c21, c22, f20, f21, f22, z2⟩ := tq2
   have hs1 := hb1.size
   have o10 := z0
   have o11 := z1
   have o12 := z2
   rw [k0]
   go_wp2_with (go_at_call 28; refine (isTime_b _ _).mono ?_; rintro e w' ⟨rfl, rfl⟩)
   go_wp2
   refine bodyPost_ret (v := .tuple #[.agg #[.int .i64 0, .int .i64 0, .int .i64 0], .agg #[.int .i64 0, .int .i64 0, .int .i64 0], .bool false]) (by simp [results, Tryz.results14, go_sem, *]) rfl ?_
   exact ⟨by rw [unhide HV] <;> rfl, byGG⟩
  ·have HV : Hid ((.tuple #[frm (srV F t), frm (dpV F t), .bool (srB F t)] : Value) = .tuple #[frm (srV F t), frm (dpV F t), .bool true]) := hide (by simp [srB, *])
   have ht : 0 ≤ t ∧ t ≤ 1000000 := by have := inB_true k1; omega
   have hq := frm_of k0
   have hsv : srV F t = sqN (rdT F) t.toNat := by simp [srV, srB, *]
   have hpv : dpV F t = quD (dT F) F t (dpL F (srV F t) t) := by simp [dpV, srB, *]
   have hqs : Frm (dT F) (srV F t) := by rw [hsv]; exact hq.sq _
   have hl := dpL_bd F (srV F t) t
   have hl2 : dpL F (srV F t) t ≤ 1000 := by omega
   replace hsv := hide hsv
   replace hpv := hide hpv
   go_enter Tryz.func14, Tryz.ntmps14
   go_wp2_with fail
   refine (isClass_p F _ i0).mono ?_
   rintro en w1 ⟨rfl, hb1⟩
   have tq0 := Ri3.c hb1 w.heap.size F.1 F.2.1 F.2.2
   have tq1 := Wi3.c hb1 (w.heap.size + 1) 0 0 0
   have tq2 := Wi3.c hb1 (w.heap.size + 1 + 1) 0 0 0
   try clear c00 c01 c02
   try clear c10 c11 c12 f10 f11 f12
   try clear c20 c21 c22 f20 f21 f22
   obtain ⟨c00, c01, c02, z0⟩ := tq0
   obtain ⟨c10, c11, c12, f10, f11, f12, z1⟩ := tq1
   obtain ⟨c20, c21, c22, f20, f21, f22, z2⟩ := tq2
   have hs1 := hb1.size
   have o10 := z0
   have o11 := z1
   have o12 := z2
   rw [k0]
   go_wp2_with (go_at_call 28; refine (isTime_b _ _).mono ?_; rintro e w' ⟨rfl, rfl⟩)
   refine (sq_rwi F (srV F t) t _ hq.i ht.1 ht.2 (unhide hsv)).mono ?_
   rintro en w2 ⟨rfl, hb2⟩
   have tq0 := Ri3.c hb2 w.heap.size F.1 F.2.1 F.2.2
   have tq1 := Wi3.c hb2 (w.heap.size + 1) 0 0 0
   have tq2 := Wi3.c hb2 (w.heap.size + 1 + 1) 0 0 0
   try clear c00 c01 c02
   try clear c10 c11 c12 f10 f11 f12
   try clear c20 c21 c22 f20 f21 f22
   obtain ⟨c00, c01, c02, z0⟩ := tq0
   obtain ⟨c10, c11, c12, f10, f11, f12, z1⟩ := tq1
   obtain ⟨c20, c21, c22, f20, f21, f22, z2⟩ := tq2
   have hs2 := hb2.size
   have o20 := z0
   have o21 := z1
   have o22 := z2
   go_upto_region 4 with fail
   go_cut [6] (fun s6 wx => s6 = .bool true ∧ Ri3 wx w.heap.size F.1 F.2.1 F.2.2 ∧ Wi3 wx (w.heap.size + 1) (((srV F t)).1) (((srV F t)).2.1) (((srV F t)).2.2) ∧ Wi3 wx (w.heap.size + 1 + 1) (((dpV F t)).1) (((dpV F t)).2.1) (((dpV F t)).2.2) ∧ Wi3 wx w2.heap.size (((srV F t)).1) (((srV F t)).2.1) (((srV F t)).2.2) ∧ Below w.heap.size w wx)
   case first =>
    have h1 := trivial
    rename_i K2 h2 h3
    refine region_n0 (by kernel_rfl) (fun j => #[21,22,23,24,25,26,27,28,4,5,6].getD j 0) (fun j => Kd.ok ((fun j => match j with | 0 => Kd.val (.agg #[.int .i64 (((srV F t)).1), .int .i64 (((srV F t)).2.1), .int .i64 (((srV F t)).2.2)]) | 1 => Kd.val (.agg #[.int .i64 (F.1), .int .i64 (F.2.1), .int .i64 (F.2.2)]) | 2 => Kd.val (.int .i64 t) | 3 => Kd.val (.agg #[.int .i64 (F.1), .int .i64 (F.2.1), .int .i64 (F.2.2)]) | 4 => Kd.val (.agg #[.int .i64 (((srV F t)).1), .int .i64 (((srV F t)).2.1), .int .i64 (((srV F t)).2.2)]) | 5 => Kd.val (.int .i64 t) | 6 => Kd.val (.int .i64 (dpL F (srV F t) t)) | 7 => Kd.val (.agg #[.int .i64 (((dpV F t)).1), .int .i64 (((dpV F t)).2.1), .int .i64 (((dpV F t)).2.2)]) | 8 => Kd.old (w2.heap.size + 1) [(⟨w.heap.size + 1, 0, none⟩, .int .i64 (((srV F t)).1)), (⟨w.heap.size + 1, 1, none⟩, .int .i64 (((srV F t)).2.1)), (⟨w.heap.size + 1, 2, none⟩, .int .i64 (((srV F t)).2.2))] | 9 => Kd.old (w2.heap.size + 1) [(⟨w.heap.size + 1 + 1, 0, none⟩, .int .i64 (((dpV F t)).1)), (⟨w.heap.size + 1 + 1, 1, none⟩, .int .i64 (((dpV F t)).2.1)), (⟨w.heap.size + 1 + 1, 2, none⟩, .int .i64 (((dpV F t)).2.2))] | 10 => Kd.val (.bool true) | _ => Kd.any : Nat → Kd) j)) (Sy w (w2.heap.size + 1) [(⟨w.heap.size, 0, none⟩, .int .i64 (F.1)), (⟨w.heap.size, 1, none⟩, .int .i64 (F.2.1)), (⟨w.heap.size, 2, none⟩, .int .i64 (F.2.2)), (⟨w2.heap.size, 0, none⟩, .int .i64 (((srV F t)).1)), (⟨w2.heap.size, 1, none⟩, .int .i64 (((srV F t)).2.1)), (⟨w2.heap.size, 2, none⟩, .int .i64 (((srV F t)).2.2))] [⟨w.heap.size + 1, 0, none⟩, ⟨w.heap.size + 1, 1, none⟩, ⟨w.heap.size + 1, 2, none⟩, ⟨w.heap.size + 1 + 1, 0, none⟩, ⟨w.heap.size + 1 + 1, 1, none⟩, ⟨w.heap.size + 1 + 1, 2, none⟩, ⟨w2.heap.size, 0, none⟩, ⟨w2.heap.size, 1, none⟩, ⟨w2.heap.size, 2, none⟩]) (by kernel_rfl) (by kernel_rfl) ?_ ?_ ?_ ?_
    ·intro j hj
     have hj2 : j < 11 := hj
     have : ∀ j, j < 11 → (#[21,22,23,24,25,26,27,28,4,5,6] : Array Nat).getD j 0 < 29 := by decide
     exact this j hj2
    ·refine Sy.drew (Sy.mk_of ?_ ?_ ?_ ?_)
     ·first | rfl | (simp; done) | (simp; omega)
     ·intro c hc
      simp only [List.mem_cons, List.not_mem_nil, or_false] at hc
      rcases hc with rfl | rfl | rfl | rfl | rfl | rfl <;> exact byCT
     ·intro p hp
      simp only [List.mem_cons, List.not_mem_nil, or_false] at hp
      rcases hp with rfl | rfl | rfl | rfl | rfl | rfl | rfl | rfl | rfl <;> exact ⟨by first | ((repeat' with_reducible (first | refine ex_set _ ?_ | refine ex_al _ ?_ | exact ⟨_, by assumption⟩)); done) | first | exact ⟨_, by assumption⟩ | assumption | (go_simp; done) | (go_simp; exact ⟨_, rfl⟩), by first | ((repeat' first | with_reducible (first | assumption | refine frz_al _ ?_ ?_ | refine frz_set _ ?_) | omega | (simp; omega)); done) | assumption | (go_simp; done)⟩
     ·(repeat' first | with_reducible (first | exact Below.refl _ _ | assumption | refine gr_alloc ?_ _ | refine below_drewN ?_ _ | refine below_drew ?_ | refine gr_call ?_ (by assumption) | refine Below.setCell ?_ ?_ _) | go_size | omega | (simp; omega))
    ·clear h1 h2 h3
     refine ⟨?r35x0, ?r35x1, ?r35x2, ?r35x3, ?r35x4, ?r35x5, ?r35x6, ?r35x7, ?r35x8, ?r35x9, ?r35x10, trivial⟩
     all_goals intro _ aq wx Kq hf hS hdep ev1 ev2 hK
     case' r35x0 =>
      have F7 : aq.eval (.tmp 7) = .pointer (some ⟨w2.heap.size, 0, none⟩) := hf 7
      have c0 := hS.cells (⟨w2.heap.size, 0, none⟩, .int .i64 (((srV F t)).1)) (by simp)
      have c1 := hS.cells (⟨w2.heap.size, 1, none⟩, .int .i64 (((srV F t)).2.1)) (by simp)
      have c2 := hS.cells (⟨w2.heap.size, 2, none⟩, .int .i64 (((srV F t)).2.2)) (by simp)
     case' r35x1 =>
      have F2 : aq.eval (.tmp 2) = .pointer (some ⟨w.heap.size, 0, none⟩) := hf 2
      have c0 := hS.cells (⟨w.heap.size, 0, none⟩, .int .i64 (F.1)) (by simp)
      have c1 := hS.cells (⟨w.heap.size, 1, none⟩, .int .i64 (F.2.1)) (by simp)
      have c2 := hS.cells (⟨w.heap.size, 2, none⟩, .int .i64 (F.2.2)) (by simp)
     case' r35x2 =>
      have F1 : aq.eval (.tmp 1) = .int .i64 t := hf 1
     case' r35x3 =>
      have F2 : aq.eval (.tmp 2) = .pointer (some ⟨w.heap.size, 0, none⟩) := hf 2
      have c0 := hS.cells (⟨w.heap.size, 0, none⟩, .int .i64 (F.1)) (by simp)
      have c1 := hS.cells (⟨w.heap.size, 1, none⟩, .int .i64 (F.2.1)) (by simp)
      have c2 := hS.cells (⟨w.heap.size, 2, none⟩, .int .i64 (F.2.2)) (by simp)
     case' r35x4 =>
      have F7 : aq.eval (.tmp 7) = .pointer (some ⟨w2.heap.size, 0, none⟩) := hf 7
      have c0 := hS.cells (⟨w2.heap.size, 0, none⟩, .int .i64 (((srV F t)).1)) (by simp)
      have c1 := hS.cells (⟨w2.heap.size, 1, none⟩, .int .i64 (((srV F t)).2.1)) (by simp)
      have c2 := hS.cells (⟨w2.heap.size, 2, none⟩, .int .i64 (((srV F t)).2.2)) (by simp)
     case' r35x5 =>
      have F1 : aq.eval (.tmp 1) = .int .i64 t := hf 1
     case' r35x6 =>
      have D3 : aq.eval (.tmp 24) = _ := hdep 3
      have D4 : aq.eval (.tmp 25) = _ := hdep 4
      have D5 : aq.eval (.tmp 26) = _ := hdep 5
     case' r35x7 =>
      have D1 : aq.eval (.tmp 22) = _ := hdep 1
      have D2 : aq.eval (.tmp 23) = _ := hdep 2
      have D6 : aq.eval (.tmp 27) = _ := hdep 6
     case' r35x8 =>
      have D0 : aq.eval (.tmp 21) = _ := hdep 0
      have F4 : aq.eval (.tmp 4) = .pointer (some ⟨w.heap.size + 1, 0, none⟩) := hf 4
      obtain ⟨⟨vx0, cx0⟩, cf0⟩ := hS.free ⟨w.heap.size + 1, 0, none⟩ (by simp)
      obtain ⟨⟨vx1, cx1⟩, cf1⟩ := hS.free ⟨w.heap.size + 1, 1, none⟩ (by simp)
      obtain ⟨⟨vx2, cx2⟩, cf2⟩ := hS.free ⟨w.heap.size + 1, 2, none⟩ (by simp)
     case' r35x9 =>
      have D7 : aq.eval (.tmp 28) = _ := hdep 7
      have F5 : aq.eval (.tmp 5) = .pointer (some ⟨w.heap.size + 1 + 1, 0, none⟩) := hf 5
      obtain ⟨⟨vx0, cx0⟩, cf0⟩ := hS.free ⟨w.heap.size + 1 + 1, 0, none⟩ (by simp)
      obtain ⟨⟨vx1, cx1⟩, cf1⟩ := hS.free ⟨w.heap.size + 1 + 1, 1, none⟩ (by simp)
      obtain ⟨⟨vx2, cx2⟩, cf2⟩ := hS.free ⟨w.heap.size + 1 + 1, 2, none⟩ (by simp)
     all_goals (clear hf hdep; unfold Oper.wp; generalize Act.eval _ = ev at *; go_simp)
     case r35x6 =>
      refine ((ch_rwi F (srV F t) t _ hq hqs ht.1 ht.2)).mono ?_
      rintro e w2 ⟨rfl, hb⟩
      refine hK _ _ (hS.call hb) ?_ (fun j u _ h => Kd.ok_below hb h)
      rw [if_pos (by rfl)]
      show (_ : Value) = _
      first | rfl | (refine congrArg (Value.int .i64) ?_; first | rfl | exact int_in (by omega) | exact quo_in (by omega) (by omega) (by omega) | exact rem_in (by omega) (by omega) | omega) | (simp; done) | (simp [*]; done)
     case r35x7 =>
      refine ((qu_rw F (dpV F t) t (dpL F (srV F t) t) _ hq ht.1 ht.2 hl.1 hl2 (unhide hpv))).mono ?_
      rintro e w2 ⟨rfl, hb⟩
      refine hK _ _ (hS.call hb) ?_ (fun j u _ h => Kd.ok_below hb h)
      rw [if_pos (by rfl)]
      show (_ : Value) = _
      first | rfl | (refine congrArg (Value.int .i64) ?_; first | rfl | exact int_in (by omega) | exact quo_in (by omega) (by omega) (by omega) | exact rem_in (by omega) (by omega) | omega) | (simp; done) | (simp [*]; done)
     case r35x8 =>
      refine hK undef (setAll (w.heap.size + 1) 0 [.int .i64 (((srV F t)).1), .int .i64 (((srV F t)).2.1), .int .i64 (((srV F t)).2.2)] wx) (Sy.setAll (by first | omega | (simp; omega) | (simp; done)) (fa (far_blk (by first | (with_reducible assumption) | omega)) (fa (far_blk (by first | (with_reducible assumption) | omega)) (fa (far_blk (by first | (with_reducible assumption) | omega)) (fa (far_blk (by first | (with_reducible assumption) | omega)) (fa (far_blk (by first | (with_reducible assumption) | omega)) (fa (far_blk (by first | (with_reducible assumption) | omega)) (fa0))))))) hS) ?_ (fun j u hj h => ?_)
      ·rw [if_neg (by decide)]
       exact fa ⟨setAll_at (w.heap.size + 1) [.int .i64 (((srV F t)).1), .int .i64 (((srV F t)).2.1), .int .i64 (((srV F t)).2.2)] 0 wx 0 (show 0 < 3 by decide) ⟨vx0, cx0⟩, (by first | omega | (simp; omega) | (simp; done))⟩ (fa ⟨setAll_at (w.heap.size + 1) [.int .i64 (((srV F t)).1), .int .i64 (((srV F t)).2.1), .int .i64 (((srV F t)).2.2)] 0 wx 1 (show 1 < 3 by decide) ⟨vx1, cx1⟩, (by first | omega | (simp; omega) | (simp; done))⟩ (fa ⟨setAll_at (w.heap.size + 1) [.int .i64 (((srV F t)).1), .int .i64 (((srV F t)).2.1), .int .i64 (((srV F t)).2.2)] 0 wx 2 (show 2 < 3 by decide) ⟨vx2, cx2⟩, (by first | omega | (simp; omega) | (simp; done))⟩ (fa0)))
      ·match j, hj with
       | 0, hj | 1, hj | 2, hj | 3, hj | 4, hj | 5, hj | 6, hj | 7, hj | 10, hj => exact (show (u : Value) = _ from h)
       | 8, hj => exact absurd rfl hj
       | 9, hj => exact Kd.ok_setAll_old (k := Kd.old (w2.heap.size + 1) [(⟨w.heap.size + 1 + 1, 0, none⟩, .int .i64 (((dpV F t)).1)), (⟨w.heap.size + 1 + 1, 1, none⟩, .int .i64 (((dpV F t)).2.1)), (⟨w.heap.size + 1 + 1, 2, none⟩, .int .i64 (((dpV F t)).2.2))]) trivial (fa (far_blk (by first | (with_reducible assumption) | omega)) (fa (far_blk (by first | (with_reducible assumption) | omega)) (fa (far_blk (by first | (with_reducible assumption) | omega)) (fa0)))) h
       | j + 11, _ => trivial
     case r35x9 =>
      refine hK undef (setAll (w.heap.size + 1 + 1) 0 [.int .i64 (((dpV F t)).1), .int .i64 (((dpV F t)).2.1), .int .i64 (((dpV F t)).2.2)] wx) (Sy.setAll (by first | omega | (simp; omega) | (simp; done)) (fa (far_blk (by first | (with_reducible assumption) | omega)) (fa (far_blk (by first | (with_reducible assumption) | omega)) (fa (far_blk (by first | (with_reducible assumption) | omega)) (fa (far_blk (by first | (with_reducible assumption) | omega)) (fa (far_blk (by first | (with_reducible assumption) | omega)) (fa (far_blk (by first | (with_reducible assumption) | omega)) (fa0))))))) hS) ?_ (fun j u hj h => ?_)
      ·rw [if_neg (by decide)]
       exact fa ⟨setAll_at (w.heap.size + 1 + 1) [.int .i64 (((dpV F t)).1), .int .i64 (((dpV F t)).2.1), .int .i64 (((dpV F t)).2.2)] 0 wx 0 (show 0 < 3 by decide) ⟨vx0, cx0⟩, (by first | omega | (simp; omega) | (simp; done))⟩ (fa ⟨setAll_at (w.heap.size + 1 + 1) [.int .i64 (((dpV F t)).1), .int .i64 (((dpV F t)).2.1), .int .i64 (((dpV F t)).2.2)] 0 wx 1 (show 1 < 3 by decide) ⟨vx1, cx1⟩, (by first | omega | (simp; omega) | (simp; done))⟩ (fa ⟨setAll_at (w.heap.size + 1 + 1) [.int .i64 (((dpV F t)).1), .int .i64 (((dpV F t)).2.1), .int .i64 (((dpV F t)).2.2)] 0 wx 2 (show 2 < 3 by decide) ⟨vx2, cx2⟩, (by first | omega | (simp; omega) | (simp; done))⟩ (fa0)))
      ·match j, hj with
       | 0, hj | 1, hj | 2, hj | 3, hj | 4, hj | 5, hj | 6, hj | 7, hj | 10, hj => exact (show (u : Value) = _ from h)
       | 8, hj => exact Kd.ok_setAll_old (k := Kd.old (w2.heap.size + 1) [(⟨w.heap.size + 1, 0, none⟩, .int .i64 (((srV F t)).1)), (⟨w.heap.size + 1, 1, none⟩, .int .i64 (((srV F t)).2.1)), (⟨w.heap.size + 1, 2, none⟩, .int .i64 (((srV F t)).2.2))]) trivial (fa (far_blk (by first | (with_reducible assumption) | omega)) (fa (far_blk (by first | (with_reducible assumption) | omega)) (fa (far_blk (by first | (with_reducible assumption) | omega)) (fa0)))) h
       | 9, hj => exact absurd rfl hj
       | j + 11, _ => trivial
     all_goals (refine hK _ _ hS ?_ (fun j u _ h => h); rw [if_pos (by rfl)]; show (_ : Value) = _; (first | rfl | (refine congrArg (Value.int .i64) ?_; first | rfl | exact int_in (by omega) | exact quo_in (by omega) (by omega) (by omega) | exact rem_in (by omega) (by omega) | omega) | (simp; done) | (simp [*]; done)))
    ·intro aq wx hd hw hf hS hg
     have G6 : tau aq 6 = .bool true := hg 10 (by decide)
     have haq : aq = ⟨#[tau aq 0, tau aq 1, tau aq 2, tau aq 3, tau aq 4, tau aq 5, tau aq 6, tau aq 7, tau aq 8, tau aq 9, tau aq 10, tau aq 11, tau aq 12, tau aq 13, tau aq 14, tau aq 15, tau aq 16, tau aq 17, tau aq 18, tau aq 19, tau aq 20, tau aq 21, tau aq 22, tau aq 23, tau aq 24, tau aq 25, tau aq 26, tau aq 27, tau aq 28], []⟩ := by
      obtain ⟨tq, dq⟩ := aq
      have h5 := arr_eq (show tq.size = 29 from hw)
      have h6 : dq = [] := hd
      subst h6
      exact congrArg (fun z => Act.mk z []) h5
     show K2 aq wx
     rw [haq, hf 0, hf 1, hf 2, hf 3, hf 4, hf 5, hf 7, hf 8, hf 9, hf 10, hf 11, hf 12, hf 13, hf 14, hf 15, hf 16, hf 17, hf 18, hf 19, hf 20, G6]
     clear haq hf hd hw
     try dsimp only
     refine h3 _ _ ?_
     go_meet
     refine ⟨rfl, Ri3.m ?_ ?_ ?_, Wi3.m (hg 8 (by decide) (_, _) (by simp)).1 (hg 8 (by decide) (_, _) (by simp)).1 (hg 8 (by decide) (_, _) (by simp)).1 ?_ ?_ ?_, Wi3.m (hg 9 (by decide) (_, _) (by simp)).1 (hg 9 (by decide) (_, _) (by simp)).1 (hg 9 (by decide) (_, _) (by simp)).1 ?_ ?_ ?_, Wi3.m ?_ ?_ ?_ ?_ ?_ ?_, hS.below⟩
     all_goals first | exact hS.cells (_, _) (by simp) | exact (hS.free _ (by simp)).2
   try clear c00
   try clear c01
   try clear c02
   try clear c10
   try clear c11
   try clear c12
   try clear c20
   try clear c21
   try clear c22
   try clear c30
   try clear c31
   try clear c32
   try clear f10
   try clear f11
   try clear f12
   try clear f20
   try clear f21
   try clear f22
   try clear f30
   try clear f31
   try clear f32
   obtain ⟨rfl, ⟨c00, c01, c02, z0⟩, ⟨c10, c11, c12, f10, f11, f12, z1⟩, ⟨c20, c21, c22, f20, f21, f22, z2⟩, ⟨c30, c31, c32, f30, f31, f32, z3⟩, hb0⟩ := hcut
   skip
   go_wp2
   refine bodyPost_ret (v := .tuple #[frm (srV F t), frm (dpV F t), .bool true]) (by simp [results, Tryz.results14, go_sem, *]) rfl ?_
   exact ⟨by rw [unhide HV], hb0⟩

set_option maxRecDepth 100000 in
set_option maxHeartbeats 4000000 in
theorem specDelayProof (F : T3) (t : Int) (w : World)  : Calls Tryz.prog 15 #[frm F, .int .i64 t] w fun e w' => e = .returned (.tuple #[frm (srV F t), frm (dpV F t), .bool (srB F t)]) ∧ Below w.heap.size w w' := by
 cases k0 : clB F
 ·have HV : Hid ((.tuple #[frm (srV F t), frm (dpV F t), .bool (srB F t)] : Value) = .tuple #[.agg #[.int .i64 0, .int .i64 0, .int .i64 0], .agg #[.int .i64 0, .int .i64 0, .int .i64 0], .bool false]) := hide (by simp [srV, dpV, srB, *])
  go_enter Tryz.func15, Tryz.ntmps15
  go_wp2_with fail
  refine (coGood_p F _).mono ?_
  rintro en w1 ⟨rfl, hb1⟩
  have tq0 := Ri3.c hb1 w.heap.size F.1 F.2.1 F.2.2
  have tq1 := Wi3.c hb1 (w.heap.size + 1) 0 0 0
  have tq2 := Wi3.c hb1 (w.heap.size + 1 + 1) 0 0 0
  try clear c00 c01 c02
  try clear c10 c11 c12 f10 f11 f12
  try clear c20 c21 c22 f20 f21 f22
  obtain ⟨c00, c01, c02, z0⟩ := tq0
  obtain ⟨c10, c11, c12, f10, f11, f12, z1⟩ := tq1
  obtain ⟨c20, c21, c22, f20, f21, f22, z2⟩ := tq2
  have hs1 := hb1.size
  have o10 := z0
  have o11 := z1
  have o12 := z2
  rw [k0]
  go_wp2
  refine bodyPost_ret (v := .tuple #[.agg #[.int .i64 0, .int .i64 0, .int .i64 0], .agg #[.int .i64 0, .int .i64 0, .int .i64 0], .bool false]) (by simp [results, Tryz.results15, go_sem, *]) rfl ?_
  exact ⟨by rw [unhide HV] <;> rfl, byGG⟩
 ·cases k1 : tmB t
  ·have HV : Hid ((.tuple #[frm (srV F t), frm (dpV F t), .bool (srB F t)] : Value) = .tuple #[.agg #[.int .i64 0, .int .i64 0, .int .i64 0], .agg #[.int .i64 0, .int .i64 0, .int .i64 0], .bool false]) := hide (by simp [srV, dpV, srB, *])
   go_enter Tryz.func15, Tryz.ntmps15
   go_wp2_with fail
   refine (coGood_p F _).mono ?_
   rintro en w1 ⟨rfl, hb1⟩
   have tq0 := Ri3.c hb1 w.heap.size F.1 F.2.1 F.2.2
   have tq1 := Wi3.c hb1 (w.heap.size + 1) 0 0 0
   have tq2 := Wi3.c hb1 (w.heap.size + 1 + 1) 0 0 0
   try clear c00 c01 c02
   try clear c10 c11 c12 f10 f11 f12
   try clear c20 c21 c22 f20 f21 f22
   obtain ⟨c00, c01, c02, z0⟩ := tq0
   obtain ⟨c10, c11, c12, f10, f11, f12, z1⟩ := tq1
   obtain ⟨c20, c21, c22, f20, f21, f22, z2⟩ := tq2
   have hs1 := hb1.size
   have o10 := z0
   have o11 := z1
   have o12 := z2
   rw [k0]
   go_wp2_with (go_at_call 39; refine (dlTime_b _ _).mono ?_; rintro e w' ⟨rfl, rfl⟩)
   go_wp2
   refine bodyPost_ret (v := .tuple #[.agg #[.int .i64 0, .int .i64 0, .int .i64 0], .agg #[.int .i64 0, .int .i64 0, .int .i64 0], .bool false]) (by simp [results, Tryz.results15, go_sem, *]) rfl ?_
   exact ⟨by rw [unhide HV] <;> rfl, byGG⟩
  ·have HV : Hid ((.tuple #[frm (srV F t), frm (dpV F t), .bool (srB F t)] : Value) = .tuple #[frm (srV F t), frm (dpV F t), .bool true]) := hide (by simp [srB, *])
   have ht : 0 ≤ t ∧ t ≤ 1000000 := by have := inB_true k1; omega
   have hq := frm_of k0
   have hsv : srV F t = sqN (rdT F) t.toNat := by simp [srV, srB, *]
   have hpv : dpV F t = quD (dT F) F t (dpL F (srV F t) t) := by simp [dpV, srB, *]
   have hqs : Frm (dT F) (srV F t) := by rw [hsv]; exact hq.sq _
   have hl := dpL_bd F (srV F t) t
   have hl2 : dpL F (srV F t) t ≤ 1000 := by omega
   replace hsv := hide hsv
   replace hpv := hide hpv
   go_enter Tryz.func15, Tryz.ntmps15
   go_wp2_with fail
   refine (coGood_p F _).mono ?_
   rintro en w1 ⟨rfl, hb1⟩
   have tq0 := Ri3.c hb1 w.heap.size F.1 F.2.1 F.2.2
   have tq1 := Wi3.c hb1 (w.heap.size + 1) 0 0 0
   have tq2 := Wi3.c hb1 (w.heap.size + 1 + 1) 0 0 0
   try clear c00 c01 c02
   try clear c10 c11 c12 f10 f11 f12
   try clear c20 c21 c22 f20 f21 f22
   obtain ⟨c00, c01, c02, z0⟩ := tq0
   obtain ⟨c10, c11, c12, f10, f11, f12, z1⟩ := tq1
   obtain ⟨c20, c21, c22, f20, f21, f22, z2⟩ := tq2
   have hs1 := hb1.size
   have o10 := z0
   have o11 := z1
   have o12 := z2
   rw [k0]
   go_wp2_with (go_at_call 39; refine (dlTime_b _ _).mono ?_; rintro e w' ⟨rfl, rfl⟩)
   refine (sq_rws F (srV F t) t _ hq.i ht.1 ht.2 (unhide hsv)).mono ?_
   rintro en w2 ⟨rfl, hb2⟩
   have tq0 := Ri3.c hb2 w.heap.size F.1 F.2.1 F.2.2
   have tq1 := Wi3.c hb2 (w.heap.size + 1) 0 0 0
   have tq2 := Wi3.c hb2 (w.heap.size + 1 + 1) 0 0 0
   try clear c00 c01 c02
   try clear c10 c11 c12 f10 f11 f12
   try clear c20 c21 c22 f20 f21 f22
   obtain ⟨c00, c01, c02, z0⟩ := tq0
   obtain ⟨c10, c11, c12, f10, f11, f12, z1⟩ := tq1
   obtain ⟨c20, c21, c22, f20, f21, f22, z2⟩ := tq2
   have hs2 := hb2.size
   have o20 := z0
   have o21 := z1
   have o22 := z2
   go_upto_region 4 with fail
   go_cut [8] (fun s8 wx => ∃ g : Nat, s8 = .pointer (some ⟨g, 0, none⟩) ∧ Ri3 wx w.heap.size F.1 F.2.1 F.2.2 ∧ Wi3 wx (w.heap.size + 1) 0 0 0 ∧ Wi3 wx (w.heap.size + 1 + 1) 0 0 0 ∧ Wi3 wx w2.heap.size (((srV F t)).1) (((srV F t)).2.1) (((srV F t)).2.2) ∧ Wi3 wx g (((dpV F t)).1) (((dpV F t)).2.1) (((dpV F t)).2.2) ∧ Below w.heap.size w wx ∧ w2.heap.size + 1 ≤ g)
   case first =>
    have h1 := trivial
    rename_i K2 h2 h3
    let hgf9 : Nat → World → Value → Prop := fun j => match j with | 0 => Kd.ok (Kd.val (.agg #[.int .i64 (F.1), .int .i64 (F.2.1), .int .i64 (F.2.2)])) | 1 => Kd.ok (Kd.val (.int .i64 t)) | 2 => Kd.ok (Kd.val (.agg #[.int .i64 (F.1), .int .i64 (F.2.1), .int .i64 (F.2.2)])) | 3 => Kd.ok (Kd.val (.agg #[.int .i64 (((srV F t)).1), .int .i64 (((srV F t)).2.1), .int .i64 (((srV F t)).2.2)])) | 4 => Kd.ok (Kd.val (.int .i64 t)) | 5 => Kd.ok (Kd.val (.int .i64 (dpL F (srV F t) t))) | 6 => (TupE (frm (dpV F t))) | 7 => (TupE (frm (dpV F t))) | 8 => Kd.ok (Kd.val (.agg #[.int .i64 (((dpV F t)).1), .int .i64 (((dpV F t)).2.1), .int .i64 (((dpV F t)).2.2)])) | 9 => Kd.ok (Kd.any) | 10 => Kd.ok (Kd.own (w2.heap.size + 1) 3) | 11 => Kd.ok (Kd.held (w2.heap.size + 1) [.int .i64 (((dpV F t)).1), .int .i64 (((dpV F t)).2.1), .int .i64 (((dpV F t)).2.2)]) | 12 => Kd.ok (Kd.any) | _ => Kd.ok Kd.any
    have hst9 : ∀ j, StB (hgf9 j) := fun j => match j with | 0 => (Kd.st (Kd.val (.agg #[.int .i64 (F.1), .int .i64 (F.2.1), .int .i64 (F.2.2)])) : StB (Kd.ok (Kd.val (.agg #[.int .i64 (F.1), .int .i64 (F.2.1), .int .i64 (F.2.2)])))) | 1 => (Kd.st (Kd.val (.int .i64 t)) : StB (Kd.ok (Kd.val (.int .i64 t)))) | 2 => (Kd.st (Kd.val (.agg #[.int .i64 (F.1), .int .i64 (F.2.1), .int .i64 (F.2.2)])) : StB (Kd.ok (Kd.val (.agg #[.int .i64 (F.1), .int .i64 (F.2.1), .int .i64 (F.2.2)])))) | 3 => (Kd.st (Kd.val (.agg #[.int .i64 (((srV F t)).1), .int .i64 (((srV F t)).2.1), .int .i64 (((srV F t)).2.2)])) : StB (Kd.ok (Kd.val (.agg #[.int .i64 (((srV F t)).1), .int .i64 (((srV F t)).2.1), .int .i64 (((srV F t)).2.2)])))) | 4 => (Kd.st (Kd.val (.int .i64 t)) : StB (Kd.ok (Kd.val (.int .i64 t)))) | 5 => (Kd.st (Kd.val (.int .i64 (dpL F (srV F t) t))) : StB (Kd.ok (Kd.val (.int .i64 (dpL F (srV F t) t))))) | 6 => (TupE.st : StB (TupE (frm (dpV F t)))) | 7 => (TupE.st : StB (TupE (frm (dpV F t)))) | 8 => (Kd.st (Kd.val (.agg #[.int .i64 (((dpV F t)).1), .int .i64 (((dpV F t)).2.1), .int .i64 (((dpV F t)).2.2)])) : StB (Kd.ok (Kd.val (.agg #[.int .i64 (((dpV F t)).1), .int .i64 (((dpV F t)).2.1), .int .i64 (((dpV F t)).2.2)])))) | 9 => (Kd.st (Kd.any) : StB (Kd.ok (Kd.any))) | 10 => (Kd.st (Kd.own (w2.heap.size + 1) 3) : StB (Kd.ok (Kd.own (w2.heap.size + 1) 3))) | 11 => (Kd.st (Kd.held (w2.heap.size + 1) [.int .i64 (((dpV F t)).1), .int .i64 (((dpV F t)).2.1), .int .i64 (((dpV F t)).2.2)]) : StB (Kd.ok (Kd.held (w2.heap.size + 1) [.int .i64 (((dpV F t)).1), .int .i64 (((dpV F t)).2.1), .int .i64 (((dpV F t)).2.2)]))) | 12 => (Kd.st (Kd.any) : StB (Kd.ok (Kd.any))) | j + 13 => (Kd.st Kd.any : StB (Kd.ok Kd.any))
    refine region_n0 (by kernel_rfl) (fun j => #[24,25,26,27,28,29,30,23,31,32,8,8,9].getD j 0) (hgf9) (Sy w (w2.heap.size + 1) [(⟨w.heap.size, 0, none⟩, .int .i64 (F.1)), (⟨w.heap.size, 1, none⟩, .int .i64 (F.2.1)), (⟨w.heap.size, 2, none⟩, .int .i64 (F.2.2)), (⟨w.heap.size + 1, 0, none⟩, .int .i64 0), (⟨w.heap.size + 1, 1, none⟩, .int .i64 0), (⟨w.heap.size + 1, 2, none⟩, .int .i64 0), (⟨w.heap.size + 1 + 1, 0, none⟩, .int .i64 0), (⟨w.heap.size + 1 + 1, 1, none⟩, .int .i64 0), (⟨w.heap.size + 1 + 1, 2, none⟩, .int .i64 0), (⟨w2.heap.size, 0, none⟩, .int .i64 (((srV F t)).1)), (⟨w2.heap.size, 1, none⟩, .int .i64 (((srV F t)).2.1)), (⟨w2.heap.size, 2, none⟩, .int .i64 (((srV F t)).2.2))] [⟨w.heap.size + 1, 0, none⟩, ⟨w.heap.size + 1, 1, none⟩, ⟨w.heap.size + 1, 2, none⟩, ⟨w.heap.size + 1 + 1, 0, none⟩, ⟨w.heap.size + 1 + 1, 1, none⟩, ⟨w.heap.size + 1 + 1, 2, none⟩, ⟨w2.heap.size, 0, none⟩, ⟨w2.heap.size, 1, none⟩, ⟨w2.heap.size, 2, none⟩]) (by kernel_rfl) (by kernel_rfl) ?_ ?_ ?_ ?_
    ·intro j hj
     have hj2 : j < 13 := hj
     have : ∀ j, j < 13 → (#[24,25,26,27,28,29,30,23,31,32,8,8,9] : Array Nat).getD j 0 < 35 := by decide
     exact this j hj2
    ·refine Sy.drew (Sy.mk_of ?_ ?_ ?_ ?_)
     ·first | rfl | (simp; done) | (simp; omega)
     ·intro c hc
      simp only [List.mem_cons, List.not_mem_nil, or_false] at hc
      rcases hc with rfl | rfl | rfl | rfl | rfl | rfl | rfl | rfl | rfl | rfl | rfl | rfl <;> exact byCT
     ·intro p hp
      simp only [List.mem_cons, List.not_mem_nil, or_false] at hp
      rcases hp with rfl | rfl | rfl | rfl | rfl | rfl | rfl | rfl | rfl <;> exact ⟨by first | ((repeat' with_reducible (first | refine ex_set _ ?_ | refine ex_al _ ?_ | exact ⟨_, by assumption⟩)); done) | first | exact ⟨_, by assumption⟩ | assumption | (go_simp; done) | (go_simp; exact ⟨_, rfl⟩), by first | ((repeat' first | with_reducible (first | assumption | refine frz_al _ ?_ ?_ | refine frz_set _ ?_) | omega | (simp; omega)); done) | assumption | (go_simp; done)⟩
     ·(repeat' first | with_reducible (first | exact Below.refl _ _ | assumption | refine gr_alloc ?_ _ | refine below_drewN ?_ _ | refine below_drew ?_ | refine gr_call ?_ (by assumption) | refine Below.setCell ?_ ?_ _) | go_size | omega | (simp; omega))
    ·clear h1 h2 h3
     refine ⟨?r36x0, ?r36x1, ?r36x2, ?r36x3, ?r36x4, ?r36x5, ?r36x6, ?r36x7, ?r36x8, ?r36x9, ?r36x10, ?r36x11, ?r36x12, trivial⟩
     all_goals intro _ aq wx Kq hf hS hdep ev1 ev2 hK
     case' r36x0 =>
      have F2 : aq.eval (.tmp 2) = .pointer (some ⟨w.heap.size, 0, none⟩) := hf 2
      have c0 := hS.cells (⟨w.heap.size, 0, none⟩, .int .i64 (F.1)) (by simp)
      have c1 := hS.cells (⟨w.heap.size, 1, none⟩, .int .i64 (F.2.1)) (by simp)
      have c2 := hS.cells (⟨w.heap.size, 2, none⟩, .int .i64 (F.2.2)) (by simp)
     case' r36x1 =>
      have F1 : aq.eval (.tmp 1) = .int .i64 t := hf 1
     case' r36x2 =>
      have F2 : aq.eval (.tmp 2) = .pointer (some ⟨w.heap.size, 0, none⟩) := hf 2
      have c0 := hS.cells (⟨w.heap.size, 0, none⟩, .int .i64 (F.1)) (by simp)
      have c1 := hS.cells (⟨w.heap.size, 1, none⟩, .int .i64 (F.2.1)) (by simp)
      have c2 := hS.cells (⟨w.heap.size, 2, none⟩, .int .i64 (F.2.2)) (by simp)
     case' r36x3 =>
      have F7 : aq.eval (.tmp 7) = .pointer (some ⟨w2.heap.size, 0, none⟩) := hf 7
      have c0 := hS.cells (⟨w2.heap.size, 0, none⟩, .int .i64 (((srV F t)).1)) (by simp)
      have c1 := hS.cells (⟨w2.heap.size, 1, none⟩, .int .i64 (((srV F t)).2.1)) (by simp)
      have c2 := hS.cells (⟨w2.heap.size, 2, none⟩, .int .i64 (((srV F t)).2.2)) (by simp)
     case' r36x4 =>
      have F1 : aq.eval (.tmp 1) = .int .i64 t := hf 1
     case' r36x5 =>
      have D2 : aq.eval (.tmp 26) = _ := hdep 2
      have D3 : aq.eval (.tmp 27) = _ := hdep 3
      have D4 : aq.eval (.tmp 28) = _ := hdep 4
     case' r36x6 =>
      have D0 : aq.eval (.tmp 24) = _ := hdep 0
      have D1 : aq.eval (.tmp 25) = _ := hdep 1
      have D5 : aq.eval (.tmp 29) = _ := hdep 5
     case' r36x7 =>
      obtain ⟨rr, DP30⟩ := hdep 6
      change aq.eval (.tmp 30) = _ at DP30
     case' r36x8 =>
      obtain ⟨rr, DP23⟩ := hdep 7
      change aq.eval (.tmp 23) = _ at DP23
     case' r36x9 =>
      obtain ⟨rr, DP23⟩ := hdep 7
      change aq.eval (.tmp 23) = _ at DP23
     case' r36x11 =>
      have D8 : aq.eval (.tmp 31) = _ := hdep 8
      obtain ⟨gn, D10, r1, r2, r3⟩ := hdep 10
      change aq.eval (.tmp 8) = _ at D10
      obtain ⟨⟨vx0, cx0⟩, cf0⟩ := r3 0 (by decide)
      obtain ⟨⟨vx1, cx1⟩, cf1⟩ := r3 1 (by decide)
      obtain ⟨⟨vx2, cx2⟩, cf2⟩ := r3 2 (by decide)
      have D10' : tau aq 8 = _ := D10
     all_goals (clear hf hdep; unfold Oper.wp; generalize Act.eval _ = ev at *; go_simp)
     case r36x5 =>
      refine ((ch_rws F (srV F t) t _ hq hqs ht.1 ht.2)).mono ?_
      rintro e w2 ⟨rfl, hb⟩
      refine hK _ _ (hS.call hb) ?_ (fun j u _ h => hst9 j _ _ _ hb h)
      rw [if_pos (by rfl)]
      show (_ : Value) = _
      first | rfl | (refine congrArg (Value.int .i64) ?_; first | rfl | exact int_in (by omega) | exact quo_in (by omega) (by omega) (by omega) | exact rem_in (by omega) (by omega) | omega) | (simp; done) | (simp [*]; done)
     case r36x6 =>
      refine ((dq_rw F (dpV F t) t (dpL F (srV F t) t) _ hq ht.1 ht.2 hl.1 hl2 (unhide hpv))).mono ?_
      rintro e w2 ⟨v9, rfl, hpr, hb⟩
      refine hK _ _ (hS.call hb) ?_ (fun j u _ h => hst9 j _ _ _ hb h)
      rw [if_pos (by rfl)]
      exact hpr
     case r36x7 =>
      refine hK _ _ hS ?_ (fun j u _ h => h)
      rw [if_pos (by rfl)]
      exact ⟨_, rfl⟩
     case r36x9 =>
      refine hK _ _ hS ?_ (fun j u _ h => h)
      rw [if_pos (by rfl)]
      trivial
     case r36x10 =>
      refine hK _ _ (hS.call (below_alloc_self _ _)) ?_ (fun j u _ h => hst9 j _ _ _ (below_alloc_self _ _) h)
      rw [if_pos (by rfl)]
      exact kd_new hS.size rfl
     case r36x11 =>
      refine hK undef (setAll gn 0 [.int .i64 (((dpV F t)).1), .int .i64 (((dpV F t)).2.1), .int .i64 (((dpV F t)).2.2)] wx) (Sy.setAll_new r1 hS) ?_ (fun j u hj h => ?_)
      ·rw [if_neg (by decide)]
       exact kd_held r1 r2 D10' r3
      ·match j, hj with
       | 0, hj | 1, hj | 2, hj | 3, hj | 4, hj | 5, hj | 8, hj => exact (show (u : Value) = _ from h)
       | 6, hj | 7, hj => exact h
       | 9, hj | 12, hj => trivial
       | 10, hj => exact Kd.ok_setAll_new (k := Kd.own (w2.heap.size + 1) 3) rfl (fun B' cs e => by cases e) h
       | 11, hj => exact absurd rfl hj
       | j + 13, _ => trivial
     case r36x12 =>
      refine hK _ _ hS ?_ (fun j u _ h => h)
      rw [if_pos (by rfl)]
      trivial
     all_goals (refine hK _ _ hS ?_ (fun j u _ h => h); rw [if_pos (by rfl)]; show (_ : Value) = _; (first | rfl | (refine congrArg (Value.int .i64) ?_; first | rfl | exact int_in (by omega) | exact quo_in (by omega) (by omega) (by omega) | exact rem_in (by omega) (by omega) | omega) | (simp; done) | (simp [*]; done)))
    ·intro aq wx hd hw hf hS hg
     obtain ⟨g, G8, r1g, r2g, r3g⟩ := hg 11 (by decide)
     change tau aq 8 = _ at G8
     have haq : aq = ⟨#[tau aq 0, tau aq 1, tau aq 2, tau aq 3, tau aq 4, tau aq 5, tau aq 6, tau aq 7, tau aq 8, tau aq 9, tau aq 10, tau aq 11, tau aq 12, tau aq 13, tau aq 14, tau aq 15, tau aq 16, tau aq 17, tau aq 18, tau aq 19, tau aq 20, tau aq 21, tau aq 22, tau aq 23, tau aq 24, tau aq 25, tau aq 26, tau aq 27, tau aq 28, tau aq 29, tau aq 30, tau aq 31, tau aq 32, tau aq 33, tau aq 34], []⟩ := by
      obtain ⟨tq, dq⟩ := aq
      have h5 := arr_eq (show tq.size = 35 from hw)
      have h6 : dq = [] := hd
      subst h6
      exact congrArg (fun z => Act.mk z []) h5
     show K2 aq wx
     rw [haq, hf 0, hf 1, hf 2, hf 3, hf 4, hf 5, hf 6, hf 7, hf 10, hf 11, hf 12, hf 13, hf 14, hf 15, hf 16, hf 17, hf 18, hf 19, hf 20, hf 21, hf 22, hf 33, hf 34, G8]
     clear haq hf hd hw
     try dsimp only
     refine h3 _ _ ?_
     go_meet
     refine ⟨g, rfl, Ri3.m ?_ ?_ ?_, Wi3.m ?_ ?_ ?_ ?_ ?_ ?_, Wi3.m ?_ ?_ ?_ ?_ ?_ ?_, Wi3.m ?_ ?_ ?_ ?_ ?_ ?_, Wi3.m (r3g 0 (by simp)).1 (r3g 1 (by simp)).1 (r3g 2 (by simp)).1 (r3g 0 (by simp)).2 (r3g 1 (by simp)).2 (r3g 2 (by simp)).2, hS.below, r1g⟩
     all_goals first | exact hS.cells (_, _) (by simp) | exact (hS.free _ (by simp)).2
   try clear c00
   try clear c01
   try clear c02
   try clear c10
   try clear c11
   try clear c12
   try clear c20
   try clear c21
   try clear c22
   try clear c30
   try clear c31
   try clear c32
   try clear f10
   try clear f11
   try clear f12
   try clear f20
   try clear f21
   try clear f22
   try clear f30
   try clear f31
   try clear f32
   obtain ⟨g, rfl, ⟨c00, c01, c02, z0⟩, ⟨c10, c11, c12, f10, f11, f12, z1⟩, ⟨c20, c21, c22, f20, f21, f22, z2⟩, ⟨c30, c31, c32, f30, f31, f32, z3⟩, ⟨c40, c41, c42, f40, f41, f42, z4⟩, hb0, ng⟩ := hcut
   obtain ⟨wd4, rfl⟩ : ∃ wd4 : World, wd4 = wc := ⟨_, rfl⟩
   go_upto_region 5 with fail
   go_cut [6] (fun s6 wx => s6 = .bool true ∧ Ri3 wx w.heap.size F.1 F.2.1 F.2.2 ∧ Wi3 wx (w.heap.size + 1) (((srV F t)).1) (((srV F t)).2.1) (((srV F t)).2.2) ∧ Wi3 wx (w.heap.size + 1 + 1) (((dpV F t)).1) (((dpV F t)).2.1) (((dpV F t)).2.2) ∧ Wi3 wx w2.heap.size (((srV F t)).1) (((srV F t)).2.1) (((srV F t)).2.2) ∧ Wi3 wx g (((dpV F t)).1) (((dpV F t)).2.1) (((dpV F t)).2.2) ∧ Below w.heap.size w wx)
   case first =>
    have h1 := trivial
    rename_i K2 h2 h3
    refine region_n0 (by kernel_rfl) (fun j => #[33,34,4,5,6].getD j 0) (fun j => Kd.ok ((fun j => match j with | 0 => Kd.val (.agg #[.int .i64 (((srV F t)).1), .int .i64 (((srV F t)).2.1), .int .i64 (((srV F t)).2.2)]) | 1 => Kd.val (.agg #[.int .i64 (((dpV F t)).1), .int .i64 (((dpV F t)).2.1), .int .i64 (((dpV F t)).2.2)]) | 2 => Kd.old (wd4.heap.size) [(⟨w.heap.size + 1, 0, none⟩, .int .i64 (((srV F t)).1)), (⟨w.heap.size + 1, 1, none⟩, .int .i64 (((srV F t)).2.1)), (⟨w.heap.size + 1, 2, none⟩, .int .i64 (((srV F t)).2.2))] | 3 => Kd.old (wd4.heap.size) [(⟨w.heap.size + 1 + 1, 0, none⟩, .int .i64 (((dpV F t)).1)), (⟨w.heap.size + 1 + 1, 1, none⟩, .int .i64 (((dpV F t)).2.1)), (⟨w.heap.size + 1 + 1, 2, none⟩, .int .i64 (((dpV F t)).2.2))] | 4 => Kd.val (.bool true) | _ => Kd.any : Nat → Kd) j)) (Sy w (wd4.heap.size) [(⟨w.heap.size, 0, none⟩, .int .i64 (F.1)), (⟨w.heap.size, 1, none⟩, .int .i64 (F.2.1)), (⟨w.heap.size, 2, none⟩, .int .i64 (F.2.2)), (⟨w2.heap.size, 0, none⟩, .int .i64 (((srV F t)).1)), (⟨w2.heap.size, 1, none⟩, .int .i64 (((srV F t)).2.1)), (⟨w2.heap.size, 2, none⟩, .int .i64 (((srV F t)).2.2)), (⟨g, 0, none⟩, .int .i64 (((dpV F t)).1)), (⟨g, 1, none⟩, .int .i64 (((dpV F t)).2.1)), (⟨g, 2, none⟩, .int .i64 (((dpV F t)).2.2))] [⟨w.heap.size + 1, 0, none⟩, ⟨w.heap.size + 1, 1, none⟩, ⟨w.heap.size + 1, 2, none⟩, ⟨w.heap.size + 1 + 1, 0, none⟩, ⟨w.heap.size + 1 + 1, 1, none⟩, ⟨w.heap.size + 1 + 1, 2, none⟩, ⟨w2.heap.size, 0, none⟩, ⟨w2.heap.size, 1, none⟩, ⟨w2.heap.size, 2, none⟩, ⟨g, 0, none⟩, ⟨g, 1, none⟩, ⟨g, 2, none⟩]) (by kernel_rfl) (by kernel_rfl) ?_ ?_ ?_ ?_
    ·intro j hj
     have hj2 : j < 5 := hj
     have : ∀ j, j < 5 → (#[33,34,4,5,6] : Array Nat).getD j 0 < 35 := by decide
     exact this j hj2
    ·refine Sy.drew (Sy.mk_of ?_ ?_ ?_ ?_)
     ·first | rfl | (simp; done) | (simp; omega)
     ·intro c hc
      simp only [List.mem_cons, List.not_mem_nil, or_false] at hc
      rcases hc with rfl | rfl | rfl | rfl | rfl | rfl | rfl | rfl | rfl <;> exact byCT
     ·intro p hp
      simp only [List.mem_cons, List.not_mem_nil, or_false] at hp
      rcases hp with rfl | rfl | rfl | rfl | rfl | rfl | rfl | rfl | rfl | rfl | rfl | rfl <;> exact ⟨by first | ((repeat' with_reducible (first | refine ex_set _ ?_ | refine ex_al _ ?_ | exact ⟨_, by assumption⟩)); done) | first | exact ⟨_, by assumption⟩ | assumption | (go_simp; done) | (go_simp; exact ⟨_, rfl⟩), by first | ((repeat' first | with_reducible (first | assumption | refine frz_al _ ?_ ?_ | refine frz_set _ ?_) | omega | (simp; omega)); done) | assumption | (go_simp; done)⟩
     ·(repeat' first | with_reducible (first | exact Below.refl _ _ | assumption | refine gr_alloc ?_ _ | refine below_drewN ?_ _ | refine below_drew ?_ | refine gr_call ?_ (by assumption) | refine Below.setCell ?_ ?_ _) | go_size | omega | (simp; omega))
    ·clear h1 h2 h3
     try clear c00
     try clear c01
     try clear c02
     try clear c10
     try clear c11
     try clear c12
     try clear c20
     try clear c21
     try clear c22
     try clear c30
     try clear c31
     try clear c32
     try clear c40
     try clear c41
     try clear c42
     try clear f10
     try clear f11
     try clear f12
     try clear f20
     try clear f21
     try clear f22
     try clear f30
     try clear f31
     try clear f32
     try clear f40
     try clear f41
     try clear f42
     refine ⟨?r37x0, ?r37x1, ?r37x2, ?r37x3, ?r37x4, trivial⟩
     all_goals intro _ aq wx Kq hf hS hdep ev1 ev2 hK
     case' r37x0 =>
      have F7 : aq.eval (.tmp 7) = .pointer (some ⟨w2.heap.size, 0, none⟩) := hf 7
      have c0 := hS.cells (⟨w2.heap.size, 0, none⟩, .int .i64 (((srV F t)).1)) (by simp)
      have c1 := hS.cells (⟨w2.heap.size, 1, none⟩, .int .i64 (((srV F t)).2.1)) (by simp)
      have c2 := hS.cells (⟨w2.heap.size, 2, none⟩, .int .i64 (((srV F t)).2.2)) (by simp)
     case' r37x1 =>
      have F8 : aq.eval (.tmp 8) = .pointer (some ⟨g, 0, none⟩) := hf 8
      have c0 := hS.cells (⟨g, 0, none⟩, .int .i64 (((dpV F t)).1)) (by simp)
      have c1 := hS.cells (⟨g, 1, none⟩, .int .i64 (((dpV F t)).2.1)) (by simp)
      have c2 := hS.cells (⟨g, 2, none⟩, .int .i64 (((dpV F t)).2.2)) (by simp)
     case' r37x2 =>
      have D0 : aq.eval (.tmp 33) = _ := hdep 0
      have F4 : aq.eval (.tmp 4) = .pointer (some ⟨w.heap.size + 1, 0, none⟩) := hf 4
      obtain ⟨⟨vx0, cx0⟩, cf0⟩ := hS.free ⟨w.heap.size + 1, 0, none⟩ (by simp)
      obtain ⟨⟨vx1, cx1⟩, cf1⟩ := hS.free ⟨w.heap.size + 1, 1, none⟩ (by simp)
      obtain ⟨⟨vx2, cx2⟩, cf2⟩ := hS.free ⟨w.heap.size + 1, 2, none⟩ (by simp)
     case' r37x3 =>
      have D1 : aq.eval (.tmp 34) = _ := hdep 1
      have F5 : aq.eval (.tmp 5) = .pointer (some ⟨w.heap.size + 1 + 1, 0, none⟩) := hf 5
      obtain ⟨⟨vx0, cx0⟩, cf0⟩ := hS.free ⟨w.heap.size + 1 + 1, 0, none⟩ (by simp)
      obtain ⟨⟨vx1, cx1⟩, cf1⟩ := hS.free ⟨w.heap.size + 1 + 1, 1, none⟩ (by simp)
      obtain ⟨⟨vx2, cx2⟩, cf2⟩ := hS.free ⟨w.heap.size + 1 + 1, 2, none⟩ (by simp)
     all_goals (clear hf hdep; unfold Oper.wp; generalize Act.eval _ = ev at *; go_simp)
     case r37x2 =>
      refine hK undef (setAll (w.heap.size + 1) 0 [.int .i64 (((srV F t)).1), .int .i64 (((srV F t)).2.1), .int .i64 (((srV F t)).2.2)] wx) (Sy.setAll (by first | omega | (simp; omega) | (simp; done)) (fa (far_blk (by first | (with_reducible assumption) | omega)) (fa (far_blk (by first | (with_reducible assumption) | omega)) (fa (far_blk (by first | (with_reducible assumption) | omega)) (fa (far_blk (by first | (with_reducible assumption) | omega)) (fa (far_blk (by first | (with_reducible assumption) | omega)) (fa (far_blk (by first | (with_reducible assumption) | omega)) (fa (far_blk (by first | (with_reducible assumption) | omega)) (fa (far_blk (by first | (with_reducible assumption) | omega)) (fa (far_blk (by first | (with_reducible assumption) | omega)) (fa0)))))))))) hS) ?_ (fun j u hj h => ?_)
      ·rw [if_neg (by decide)]
       exact fa ⟨setAll_at (w.heap.size + 1) [.int .i64 (((srV F t)).1), .int .i64 (((srV F t)).2.1), .int .i64 (((srV F t)).2.2)] 0 wx 0 (show 0 < 3 by decide) ⟨vx0, cx0⟩, (by first | omega | (simp; omega) | (simp; done))⟩ (fa ⟨setAll_at (w.heap.size + 1) [.int .i64 (((srV F t)).1), .int .i64 (((srV F t)).2.1), .int .i64 (((srV F t)).2.2)] 0 wx 1 (show 1 < 3 by decide) ⟨vx1, cx1⟩, (by first | omega | (simp; omega) | (simp; done))⟩ (fa ⟨setAll_at (w.heap.size + 1) [.int .i64 (((srV F t)).1), .int .i64 (((srV F t)).2.1), .int .i64 (((srV F t)).2.2)] 0 wx 2 (show 2 < 3 by decide) ⟨vx2, cx2⟩, (by first | omega | (simp; omega) | (simp; done))⟩ (fa0)))
      ·match j, hj with
       | 0, hj | 1, hj | 4, hj => exact (show (u : Value) = _ from h)
       | 2, hj => exact absurd rfl hj
       | 3, hj => exact Kd.ok_setAll_old (k := Kd.old (wd4.heap.size) [(⟨w.heap.size + 1 + 1, 0, none⟩, .int .i64 (((dpV F t)).1)), (⟨w.heap.size + 1 + 1, 1, none⟩, .int .i64 (((dpV F t)).2.1)), (⟨w.heap.size + 1 + 1, 2, none⟩, .int .i64 (((dpV F t)).2.2))]) trivial (fa (far_blk (by first | (with_reducible assumption) | omega)) (fa (far_blk (by first | (with_reducible assumption) | omega)) (fa (far_blk (by first | (with_reducible assumption) | omega)) (fa0)))) h
       | j + 5, _ => trivial
     case r37x3 =>
      refine hK undef (setAll (w.heap.size + 1 + 1) 0 [.int .i64 (((dpV F t)).1), .int .i64 (((dpV F t)).2.1), .int .i64 (((dpV F t)).2.2)] wx) (Sy.setAll (by first | omega | (simp; omega) | (simp; done)) (fa (far_blk (by first | (with_reducible assumption) | omega)) (fa (far_blk (by first | (with_reducible assumption) | omega)) (fa (far_blk (by first | (with_reducible assumption) | omega)) (fa (far_blk (by first | (with_reducible assumption) | omega)) (fa (far_blk (by first | (with_reducible assumption) | omega)) (fa (far_blk (by first | (with_reducible assumption) | omega)) (fa (far_blk (by first | (with_reducible assumption) | omega)) (fa (far_blk (by first | (with_reducible assumption) | omega)) (fa (far_blk (by first | (with_reducible assumption) | omega)) (fa0)))))))))) hS) ?_ (fun j u hj h => ?_)
      ·rw [if_neg (by decide)]
       exact fa ⟨setAll_at (w.heap.size + 1 + 1) [.int .i64 (((dpV F t)).1), .int .i64 (((dpV F t)).2.1), .int .i64 (((dpV F t)).2.2)] 0 wx 0 (show 0 < 3 by decide) ⟨vx0, cx0⟩, (by first | omega | (simp; omega) | (simp; done))⟩ (fa ⟨setAll_at (w.heap.size + 1 + 1) [.int .i64 (((dpV F t)).1), .int .i64 (((dpV F t)).2.1), .int .i64 (((dpV F t)).2.2)] 0 wx 1 (show 1 < 3 by decide) ⟨vx1, cx1⟩, (by first | omega | (simp; omega) | (simp; done))⟩ (fa ⟨setAll_at (w.heap.size + 1 + 1) [.int .i64 (((dpV F t)).1), .int .i64 (((dpV F t)).2.1), .int .i64 (((dpV F t)).2.2)] 0 wx 2 (show 2 < 3 by decide) ⟨vx2, cx2⟩, (by first | omega | (simp; omega) | (simp; done))⟩ (fa0)))
      ·match j, hj with
       | 0, hj | 1, hj | 4, hj => exact (show (u : Value) = _ from h)
       | 2, hj => exact Kd.ok_setAll_old (k := Kd.old (wd4.heap.size) [(⟨w.heap.size + 1, 0, none⟩, .int .i64 (((srV F t)).1)), (⟨w.heap.size + 1, 1, none⟩, .int .i64 (((srV F t)).2.1)), (⟨w.heap.size + 1, 2, none⟩, .int .i64 (((srV F t)).2.2))]) trivial (fa (far_blk (by first | (with_reducible assumption) | omega)) (fa (far_blk (by first | (with_reducible assumption) | omega)) (fa (far_blk (by first | (with_reducible assumption) | omega)) (fa0)))) h
       | 3, hj => exact absurd rfl hj
       | j + 5, _ => trivial
     all_goals (refine hK _ _ hS ?_ (fun j u _ h => h); rw [if_pos (by rfl)]; show (_ : Value) = _; (first | rfl | (refine congrArg (Value.int .i64) ?_; first | rfl | exact int_in (by omega) | exact quo_in (by omega) (by omega) (by omega) | exact rem_in (by omega) (by omega) | omega) | (simp; done) | (simp [*]; done)))
    ·intro aq wx hd hw hf hS hg
     have G6 : tau aq 6 = .bool true := hg 4 (by decide)
     have haq : aq = ⟨#[tau aq 0, tau aq 1, tau aq 2, tau aq 3, tau aq 4, tau aq 5, tau aq 6, tau aq 7, tau aq 8, tau aq 9, tau aq 10, tau aq 11, tau aq 12, tau aq 13, tau aq 14, tau aq 15, tau aq 16, tau aq 17, tau aq 18, tau aq 19, tau aq 20, tau aq 21, tau aq 22, tau aq 23, tau aq 24, tau aq 25, tau aq 26, tau aq 27, tau aq 28, tau aq 29, tau aq 30, tau aq 31, tau aq 32, tau aq 33, tau aq 34], []⟩ := by
      obtain ⟨tq, dq⟩ := aq
      have h5 := arr_eq (show tq.size = 35 from hw)
      have h6 : dq = [] := hd
      subst h6
      exact congrArg (fun z => Act.mk z []) h5
     show K2 aq wx
     rw [haq, hf 0, hf 1, hf 2, hf 3, hf 4, hf 5, hf 7, hf 8, hf 9, hf 10, hf 11, hf 12, hf 13, hf 14, hf 15, hf 16, hf 17, hf 18, hf 19, hf 20, hf 21, hf 22, hf 23, hf 24, hf 25, hf 26, hf 27, hf 28, hf 29, hf 30, hf 31, hf 32, G6]
     clear haq hf hd hw
     try dsimp only
     refine h3 _ _ ?_
     go_meet
     refine ⟨rfl, Ri3.m ?_ ?_ ?_, Wi3.m (hg 2 (by decide) (_, _) (by simp)).1 (hg 2 (by decide) (_, _) (by simp)).1 (hg 2 (by decide) (_, _) (by simp)).1 ?_ ?_ ?_, Wi3.m (hg 3 (by decide) (_, _) (by simp)).1 (hg 3 (by decide) (_, _) (by simp)).1 (hg 3 (by decide) (_, _) (by simp)).1 ?_ ?_ ?_, Wi3.m ?_ ?_ ?_ ?_ ?_ ?_, Wi3.m ?_ ?_ ?_ ?_ ?_ ?_, hS.below⟩
     all_goals first | exact hS.cells (_, _) (by simp) | exact (hS.free _ (by simp)).2
   try clear c00
   try clear c01
   try clear c02
   try clear c10
   try clear c11
   try clear c12
   try clear c20
   try clear c21
   try clear c22
   try clear c30
   try clear c31
   try clear c32
   try clear c40
   try clear c41
   try clear c42
   try clear f10
   try clear f11
   try clear f12
   try clear f20
   try clear f21
   try clear f22
   try clear f30
   try clear f31
   try clear f32
   try clear f40
   try clear f41
   try clear f42
   obtain ⟨rfl, ⟨c00, c01, c02, z0⟩, ⟨c10, c11, c12, f10, f11, f12, z1⟩, ⟨c20, c21, c22, f20, f21, f22, z2⟩, ⟨c30, c31, c32, f30, f31, f32, z3⟩, ⟨c40, c41, c42, f40, f41, f42, z4⟩, hb0⟩ := hcut
   skip
   go_wp2
   refine bodyPost_ret (v := .tuple #[frm (srV F t), frm (dpV F t), .bool true]) (by simp [results, Tryz.results15, go_sem, *]) rfl ?_
   exact ⟨by rw [unhide HV], hb0⟩

end Go.Proofs.YtihfacmlfelliaaGreat
