/- Halving: one fold on both sides. -/
import Derived.Test.YtihfacmlfelliaaGreatHc
namespace Go.Proofs.YtihfacmlfelliaaGreat
open Go.RowKit
set_option linter.unusedVariables false
set_option linter.unusedSimpArgs false
attribute [local go_sem] q2 q3 q4 q5 q6 q7 q8 q9 q10 q11 q12

noncomputable def hvR (D : Int) (x y m : T3) (k : Int) : Int := khI D (keyT x) (keyT y) (keyT m) k
noncomputable def hvX (D : Int) (x y m : T3) (k : Int) : T3 := cmp (pwD D x (hvR D x y m k)) m
noncomputable def hvY (D : Int) (x y m : T3) (k : Int) : T3 := cmp (pwD D m (hvR D x y m k)) y
theorem hvR_bd (D : Int) (x y m : T3) (k : Int) : 2 ≤ hvR D x y m k ∧ hvR D x y m k ≤ 14 := by
 have := khX_bd D (keyT x) (keyT y) (keyT m) k
 unfold hvR khI; omega
theorem hvX_frm {D : Int} {x y m : T3} {k : Int} (hx : Frm D x) (hm : Frm D m) : Frm D (hvX D x y m k) := (hx.pw _).cp hm
theorem hvY_frm {D : Int} {x y m : T3} {k : Int} (hy : Frm D y) (hm : Frm D m) : Frm D (hvY D x y m k) := (hm.pw _).cp hy
theorem hvX_rc {D : Int} {x y m : T3} {k : Int} (hx : Frm D x) (hm : Frm D m) : RcT (hvX D x y m k) := (hx.pw _).i.rc hm.i
theorem hvY_rc {D : Int} {x y m : T3} {k : Int} (hy : Frm D y) (hm : Frm D m) : RcT (hvY D x y m k) := (hm.pw _).i.rc hy.i

theorem kh_rwi {D : Int} (x y m : T3) (k r : Int) (w : World) (h0 : Frm D x) (h1 : Frm D y) (h2 : Frm D m) (h3 : 0 ≤ k) (h4 : k ≤ 1000000) (hr : r = khI D (keyT x) (keyT y) (keyT m) k) :
  Calls Tryz.prog 95 #[frm x, frm y, frm m, .int .i64 k] w fun e w' => e = .returned (.int .i64 r) ∧ Below w.heap.size w w' := by
 subst hr; exact halvingChallenge_D x y m k w h0 h1 h2 h3 h4
theorem kh_rws {D : Int} (x y m : T3) (k r : Int) (w : World) (h0 : Frm D x) (h1 : Frm D y) (h2 : Frm D m) (h3 : 0 ≤ k) (h4 : k ≤ 1000000) (hr : r = khI D (keyT x) (keyT y) (keyT m) k) :
  Calls Tryz.prog 96 #[frm x, frm y, frm m, .int .i64 k] w fun e w' => e = .returned (.int .i64 r) ∧ Below w.heap.size w w' := by
 subst hr; exact dlHalf_D x y m k w h0 h1 h2 h3 h4

set_option maxRecDepth 100000 in
set_option maxHeartbeats 4000000 in
theorem halve_D {D : Int} (x y m : T3) (k : Int) (w : World) (hx : Frm D x) (hy : Frm D y) (hm : Frm D m) (h0 : 0 ≤ k) (h1 : k ≤ 1000000) :
  Calls Tryz.prog 62 #[frm x, frm y, frm m, .int .i64 k] w fun e w' => e = .returned (.tuple #[frm (hvX D x y m k), frm (hvY D x y m k)]) ∧ Below w.heap.size w w' := by
 have hr := hvR_bd D x y m k
 obtain ⟨r, hr2⟩ : ∃ r, r = hvR D x y m k := ⟨_, rfl⟩
 rw [← hr2] at hr
 obtain ⟨P, hP⟩ : ∃ P, P = pwD D x r := ⟨_, rfl⟩
 obtain ⟨Q, hQ⟩ : ∃ Q, Q = pwD D m r := ⟨_, rfl⟩
 obtain ⟨X, hX⟩ : ∃ X, X = cmp P m := ⟨_, rfl⟩
 obtain ⟨Y, hY⟩ : ∃ Y, Y = cmp Q y := ⟨_, rfl⟩
 have HV : Hid (hvX D x y m k = X ∧ hvY D x y m k = Y) := hide ⟨by unfold hvX; rw [← hr2, ← hP, ← hX], by unfold hvY; rw [← hr2, ← hQ, ← hY]⟩
 have fP : Frm D P := by rw [hP]; exact hx.pw _
 have fQ : Frm D Q := by rw [hQ]; exact hm.pw _
 replace hP := hide hP
 replace hQ := hide hQ
 replace hX := hide hX
 replace hY := hide hY
 have HR : hvR D x y m k = khI D (keyT x) (keyT y) (keyT m) k := rfl
 rw [HR] at hr2
 clear HR
 have HR := hide hr2
 clear hr2
 go_enter Tryz.func62, Tryz.ntmps62
 go_wp2_with fail
 refine (kh_rwi x y m k r _ hx hy hm h0 h1 (unhide HR)).mono ?_
 rintro en w1 ⟨rfl, hb1⟩
 have tq0 := Ri3.c hb1 w.heap.size x.1 x.2.1 x.2.2
 have tq1 := Ri3.c hb1 (w.heap.size + 1) y.1 y.2.1 y.2.2
 have tq2 := Ri3.c hb1 (w.heap.size + 1 + 1) m.1 m.2.1 m.2.2
 have tq3 := Wi3.c hb1 (w.heap.size + 1 + 1 + 1) 0 0 0
 have tq4 := Wi3.c hb1 (w.heap.size + 1 + 1 + 1 + 1) 0 0 0
 try clear c00 c01 c02
 try clear c10 c11 c12
 try clear c20 c21 c22
 try clear c30 c31 c32 f30 f31 f32
 try clear c40 c41 c42 f40 f41 f42
 obtain ⟨c00, c01, c02, z0⟩ := tq0
 obtain ⟨c10, c11, c12, z1⟩ := tq1
 obtain ⟨c20, c21, c22, z2⟩ := tq2
 obtain ⟨c30, c31, c32, f30, f31, f32, z3⟩ := tq3
 obtain ⟨c40, c41, c42, f40, f41, f42, z4⟩ := tq4
 have hs1 := hb1.size
 have o10 := z0
 have o11 := z1
 have o12 := z2
 have o13 := z3
 have o14 := z4
 go_upto_region 2 with fail
 go_cut [] (fun  wx => Ri3 wx w.heap.size x.1 x.2.1 x.2.2 ∧ Ri3 wx (w.heap.size + 1) y.1 y.2.1 y.2.2 ∧ Ri3 wx (w.heap.size + 1 + 1) m.1 m.2.1 m.2.2 ∧ Wi3 wx (w.heap.size + 1 + 1 + 1) X.1 X.2.1 X.2.2 ∧ Wi3 wx (w.heap.size + 1 + 1 + 1 + 1) Y.1 Y.2.1 Y.2.2 ∧ Below w.heap.size w wx)
 case first =>
  have h1 := trivial
  rename_i K2 h2 h3
  refine region_n0 (by kernel_rfl) (fun j => #[16,17,18,19,20,21,22,23,24,25,8,9].getD j 0) (fun j => Kd.ok ((fun j => match j with | 0 => Kd.val (.agg #[.int .i64 (x.1), .int .i64 (x.2.1), .int .i64 (x.2.2)]) | 1 => Kd.val (.int .i64 r) | 2 => Kd.val (.agg #[.int .i64 (P.1), .int .i64 (P.2.1), .int .i64 (P.2.2)]) | 3 => Kd.val (.agg #[.int .i64 (m.1), .int .i64 (m.2.1), .int .i64 (m.2.2)]) | 4 => Kd.val (.agg #[.int .i64 (X.1), .int .i64 (X.2.1), .int .i64 (X.2.2)]) | 5 => Kd.val (.agg #[.int .i64 (m.1), .int .i64 (m.2.1), .int .i64 (m.2.2)]) | 6 => Kd.val (.int .i64 r) | 7 => Kd.val (.agg #[.int .i64 (Q.1), .int .i64 (Q.2.1), .int .i64 (Q.2.2)]) | 8 => Kd.val (.agg #[.int .i64 (y.1), .int .i64 (y.2.1), .int .i64 (y.2.2)]) | 9 => Kd.val (.agg #[.int .i64 (Y.1), .int .i64 (Y.2.1), .int .i64 (Y.2.2)]) | 10 => Kd.old (w1.heap.size) [(⟨w.heap.size + 1 + 1 + 1, 0, none⟩, .int .i64 (X.1)), (⟨w.heap.size + 1 + 1 + 1, 1, none⟩, .int .i64 (X.2.1)), (⟨w.heap.size + 1 + 1 + 1, 2, none⟩, .int .i64 (X.2.2))] | 11 => Kd.old (w1.heap.size) [(⟨w.heap.size + 1 + 1 + 1 + 1, 0, none⟩, .int .i64 (Y.1)), (⟨w.heap.size + 1 + 1 + 1 + 1, 1, none⟩, .int .i64 (Y.2.1)), (⟨w.heap.size + 1 + 1 + 1 + 1, 2, none⟩, .int .i64 (Y.2.2))] | _ => Kd.any : Nat → Kd) j)) (Sy w (w1.heap.size) [(⟨w.heap.size, 0, none⟩, .int .i64 (x.1)), (⟨w.heap.size, 1, none⟩, .int .i64 (x.2.1)), (⟨w.heap.size, 2, none⟩, .int .i64 (x.2.2)), (⟨w.heap.size + 1, 0, none⟩, .int .i64 (y.1)), (⟨w.heap.size + 1, 1, none⟩, .int .i64 (y.2.1)), (⟨w.heap.size + 1, 2, none⟩, .int .i64 (y.2.2)), (⟨w.heap.size + 1 + 1, 0, none⟩, .int .i64 (m.1)), (⟨w.heap.size + 1 + 1, 1, none⟩, .int .i64 (m.2.1)), (⟨w.heap.size + 1 + 1, 2, none⟩, .int .i64 (m.2.2))] [⟨w.heap.size + 1 + 1 + 1, 0, none⟩, ⟨w.heap.size + 1 + 1 + 1, 1, none⟩, ⟨w.heap.size + 1 + 1 + 1, 2, none⟩, ⟨w.heap.size + 1 + 1 + 1 + 1, 0, none⟩, ⟨w.heap.size + 1 + 1 + 1 + 1, 1, none⟩, ⟨w.heap.size + 1 + 1 + 1 + 1, 2, none⟩]) (by kernel_rfl) (by kernel_rfl) ?_ ?_ ?_ ?_
  ·intro j hj
   have hj2 : j < 12 := hj
   have : ∀ j, j < 12 → (#[16,17,18,19,20,21,22,23,24,25,8,9] : Array Nat).getD j 0 < 26 := by decide
   exact this j hj2
  ·refine Sy.drew (Sy.mk_of ?_ ?_ ?_ ?_)
   ·first | rfl | (simp; done) | (simp; omega)
   ·intro c hc
    simp only [List.mem_cons, List.not_mem_nil, or_false] at hc
    rcases hc with rfl | rfl | rfl | rfl | rfl | rfl | rfl | rfl | rfl <;> exact byCT
   ·intro p hp
    simp only [List.mem_cons, List.not_mem_nil, or_false] at hp
    rcases hp with rfl | rfl | rfl | rfl | rfl | rfl <;> exact ⟨by first | ((repeat' with_reducible (first | refine ex_set _ ?_ | refine ex_al _ ?_ | exact ⟨_, by assumption⟩)); done) | first | exact ⟨_, by assumption⟩ | assumption | (go_simp; done) | (go_simp; exact ⟨_, rfl⟩), by first | ((repeat' first | with_reducible (first | assumption | refine frz_al _ ?_ ?_ | refine frz_set _ ?_) | omega | (simp; omega)); done) | assumption | (go_simp; done)⟩
   ·(repeat' first | with_reducible (first | exact Below.refl _ _ | assumption | refine gr_alloc ?_ _ | refine below_drewN ?_ _ | refine below_drew ?_ | refine gr_call ?_ (by assumption) | refine Below.setCell ?_ ?_ _) | go_size | omega | (simp; omega))
  ·clear h1 h2 h3
   refine ⟨?r40x0, ?r40x1, ?r40x2, ?r40x3, ?r40x4, ?r40x5, ?r40x6, ?r40x7, ?r40x8, ?r40x9, ?r40x10, ?r40x11, trivial⟩
   all_goals intro _ aq wx Kq hf hS hdep ev1 ev2 hK
   case' r40x0 =>
    have F4 : aq.eval (.tmp 4) = .pointer (some ⟨w.heap.size, 0, none⟩) := hf 4
    have c0 := hS.cells (⟨w.heap.size, 0, none⟩, .int .i64 (x.1)) (by simp)
    have c1 := hS.cells (⟨w.heap.size, 1, none⟩, .int .i64 (x.2.1)) (by simp)
    have c2 := hS.cells (⟨w.heap.size, 2, none⟩, .int .i64 (x.2.2)) (by simp)
   case' r40x1 =>
    have F10 : aq.eval (.tmp 10) = .int .i64 r := hf 10
   case' r40x2 =>
    have D0 : aq.eval (.tmp 16) = _ := hdep 0
    have D1 : aq.eval (.tmp 17) = _ := hdep 1
   case' r40x3 =>
    have F6 : aq.eval (.tmp 6) = .pointer (some ⟨w.heap.size + 1 + 1, 0, none⟩) := hf 6
    have c0 := hS.cells (⟨w.heap.size + 1 + 1, 0, none⟩, .int .i64 (m.1)) (by simp)
    have c1 := hS.cells (⟨w.heap.size + 1 + 1, 1, none⟩, .int .i64 (m.2.1)) (by simp)
    have c2 := hS.cells (⟨w.heap.size + 1 + 1, 2, none⟩, .int .i64 (m.2.2)) (by simp)
   case' r40x4 =>
    have D2 : aq.eval (.tmp 18) = _ := hdep 2
    have D3 : aq.eval (.tmp 19) = _ := hdep 3
   case' r40x5 =>
    have F6 : aq.eval (.tmp 6) = .pointer (some ⟨w.heap.size + 1 + 1, 0, none⟩) := hf 6
    have c0 := hS.cells (⟨w.heap.size + 1 + 1, 0, none⟩, .int .i64 (m.1)) (by simp)
    have c1 := hS.cells (⟨w.heap.size + 1 + 1, 1, none⟩, .int .i64 (m.2.1)) (by simp)
    have c2 := hS.cells (⟨w.heap.size + 1 + 1, 2, none⟩, .int .i64 (m.2.2)) (by simp)
   case' r40x6 =>
    have F10 : aq.eval (.tmp 10) = .int .i64 r := hf 10
   case' r40x7 =>
    have D5 : aq.eval (.tmp 21) = _ := hdep 5
    have D6 : aq.eval (.tmp 22) = _ := hdep 6
   case' r40x8 =>
    have F5 : aq.eval (.tmp 5) = .pointer (some ⟨w.heap.size + 1, 0, none⟩) := hf 5
    have c0 := hS.cells (⟨w.heap.size + 1, 0, none⟩, .int .i64 (y.1)) (by simp)
    have c1 := hS.cells (⟨w.heap.size + 1, 1, none⟩, .int .i64 (y.2.1)) (by simp)
    have c2 := hS.cells (⟨w.heap.size + 1, 2, none⟩, .int .i64 (y.2.2)) (by simp)
   case' r40x9 =>
    have D7 : aq.eval (.tmp 23) = _ := hdep 7
    have D8 : aq.eval (.tmp 24) = _ := hdep 8
   case' r40x10 =>
    have D4 : aq.eval (.tmp 20) = _ := hdep 4
    have F8 : aq.eval (.tmp 8) = .pointer (some ⟨w.heap.size + 1 + 1 + 1, 0, none⟩) := hf 8
    obtain ⟨⟨vx0, cx0⟩, cf0⟩ := hS.free ⟨w.heap.size + 1 + 1 + 1, 0, none⟩ (by simp)
    obtain ⟨⟨vx1, cx1⟩, cf1⟩ := hS.free ⟨w.heap.size + 1 + 1 + 1, 1, none⟩ (by simp)
    obtain ⟨⟨vx2, cx2⟩, cf2⟩ := hS.free ⟨w.heap.size + 1 + 1 + 1, 2, none⟩ (by simp)
   case' r40x11 =>
    have D9 : aq.eval (.tmp 25) = _ := hdep 9
    have F9 : aq.eval (.tmp 9) = .pointer (some ⟨w.heap.size + 1 + 1 + 1 + 1, 0, none⟩) := hf 9
    obtain ⟨⟨vx0, cx0⟩, cf0⟩ := hS.free ⟨w.heap.size + 1 + 1 + 1 + 1, 0, none⟩ (by simp)
    obtain ⟨⟨vx1, cx1⟩, cf1⟩ := hS.free ⟨w.heap.size + 1 + 1 + 1 + 1, 1, none⟩ (by simp)
    obtain ⟨⟨vx2, cx2⟩, cf2⟩ := hS.free ⟨w.heap.size + 1 + 1 + 1 + 1, 2, none⟩ (by simp)
   all_goals (clear hf hdep; unfold Oper.wp; generalize Act.eval _ = ev at *; go_simp)
   case r40x2 =>
    refine ((pw_rwi x P r _ hx (by omega) (by omega) (unhide hP))).mono ?_
    rintro e w2 ⟨rfl, hb⟩
    refine hK _ _ (hS.call hb) ?_ (fun j u _ h => Kd.ok_below hb h)
    rw [if_pos (by rfl)]
    show (_ : Value) = _
    first | rfl | (refine congrArg (Value.int .i64) ?_; first | rfl | exact int_in (by omega) | exact quo_in (by omega) (by omega) (by omega) | exact rem_in (by omega) (by omega) | omega) | (simp; done) | (simp [*]; done)
   case r40x4 =>
    refine ((cm_rwi P m X _ fP.i hm.i (unhide hX))).mono ?_
    rintro e w2 ⟨rfl, hb⟩
    refine hK _ _ (hS.call hb) ?_ (fun j u _ h => Kd.ok_below hb h)
    rw [if_pos (by rfl)]
    show (_ : Value) = _
    first | rfl | (refine congrArg (Value.int .i64) ?_; first | rfl | exact int_in (by omega) | exact quo_in (by omega) (by omega) (by omega) | exact rem_in (by omega) (by omega) | omega) | (simp; done) | (simp [*]; done)
   case r40x7 =>
    refine ((pw_rwi m Q r _ hm (by omega) (by omega) (unhide hQ))).mono ?_
    rintro e w2 ⟨rfl, hb⟩
    refine hK _ _ (hS.call hb) ?_ (fun j u _ h => Kd.ok_below hb h)
    rw [if_pos (by rfl)]
    show (_ : Value) = _
    first | rfl | (refine congrArg (Value.int .i64) ?_; first | rfl | exact int_in (by omega) | exact quo_in (by omega) (by omega) (by omega) | exact rem_in (by omega) (by omega) | omega) | (simp; done) | (simp [*]; done)
   case r40x9 =>
    refine ((cm_rwi Q y Y _ fQ.i hy.i (unhide hY))).mono ?_
    rintro e w2 ⟨rfl, hb⟩
    refine hK _ _ (hS.call hb) ?_ (fun j u _ h => Kd.ok_below hb h)
    rw [if_pos (by rfl)]
    show (_ : Value) = _
    first | rfl | (refine congrArg (Value.int .i64) ?_; first | rfl | exact int_in (by omega) | exact quo_in (by omega) (by omega) (by omega) | exact rem_in (by omega) (by omega) | omega) | (simp; done) | (simp [*]; done)
   case r40x10 =>
    refine hK undef (setAll (w.heap.size + 1 + 1 + 1) 0 [.int .i64 (X.1), .int .i64 (X.2.1), .int .i64 (X.2.2)] wx) (Sy.setAll (by first | omega | (simp; omega) | (simp; done)) (fa (far_blk (by first | (with_reducible assumption) | omega)) (fa (far_blk (by first | (with_reducible assumption) | omega)) (fa (far_blk (by first | (with_reducible assumption) | omega)) (fa (far_blk (by first | (with_reducible assumption) | omega)) (fa (far_blk (by first | (with_reducible assumption) | omega)) (fa (far_blk (by first | (with_reducible assumption) | omega)) (fa (far_blk (by first | (with_reducible assumption) | omega)) (fa (far_blk (by first | (with_reducible assumption) | omega)) (fa (far_blk (by first | (with_reducible assumption) | omega)) (fa0)))))))))) hS) ?_ (fun j u hj h => ?_)
    ·rw [if_neg (by decide)]
     exact fa ⟨setAll_at (w.heap.size + 1 + 1 + 1) [.int .i64 (X.1), .int .i64 (X.2.1), .int .i64 (X.2.2)] 0 wx 0 (show 0 < 3 by decide) ⟨vx0, cx0⟩, (by first | omega | (simp; omega) | (simp; done))⟩ (fa ⟨setAll_at (w.heap.size + 1 + 1 + 1) [.int .i64 (X.1), .int .i64 (X.2.1), .int .i64 (X.2.2)] 0 wx 1 (show 1 < 3 by decide) ⟨vx1, cx1⟩, (by first | omega | (simp; omega) | (simp; done))⟩ (fa ⟨setAll_at (w.heap.size + 1 + 1 + 1) [.int .i64 (X.1), .int .i64 (X.2.1), .int .i64 (X.2.2)] 0 wx 2 (show 2 < 3 by decide) ⟨vx2, cx2⟩, (by first | omega | (simp; omega) | (simp; done))⟩ (fa0)))
    ·match j, hj with
     | 0, hj | 1, hj | 2, hj | 3, hj | 4, hj | 5, hj | 6, hj | 7, hj | 8, hj | 9, hj => exact (show (u : Value) = _ from h)
     | 10, hj => exact absurd rfl hj
     | 11, hj => exact Kd.ok_setAll_old (k := Kd.old (w1.heap.size) [(⟨w.heap.size + 1 + 1 + 1 + 1, 0, none⟩, .int .i64 (Y.1)), (⟨w.heap.size + 1 + 1 + 1 + 1, 1, none⟩, .int .i64 (Y.2.1)), (⟨w.heap.size + 1 + 1 + 1 + 1, 2, none⟩, .int .i64 (Y.2.2))]) trivial (fa (far_blk (by first | (with_reducible assumption) | omega)) (fa (far_blk (by first | (with_reducible assumption) | omega)) (fa (far_blk (by first | (with_reducible assumption) | omega)) (fa0)))) h
     | j + 12, _ => trivial
   case r40x11 =>
    refine hK undef (setAll (w.heap.size + 1 + 1 + 1 + 1) 0 [.int .i64 (Y.1), .int .i64 (Y.2.1), .int .i64 (Y.2.2)] wx) (Sy.setAll (by first | omega | (simp; omega) | (simp; done)) (fa (far_blk (by first | (with_reducible assumption) | omega)) (fa (far_blk (by first | (with_reducible assumption) | omega)) (fa (far_blk (by first | (with_reducible assumption) | omega)) (fa (far_blk (by first | (with_reducible assumption) | omega)) (fa (far_blk (by first | (with_reducible assumption) | omega)) (fa (far_blk (by first | (with_reducible assumption) | omega)) (fa (far_blk (by first | (with_reducible assumption) | omega)) (fa (far_blk (by first | (with_reducible assumption) | omega)) (fa (far_blk (by first | (with_reducible assumption) | omega)) (fa0)))))))))) hS) ?_ (fun j u hj h => ?_)
    ·rw [if_neg (by decide)]
     exact fa ⟨setAll_at (w.heap.size + 1 + 1 + 1 + 1) [.int .i64 (Y.1), .int .i64 (Y.2.1), .int .i64 (Y.2.2)] 0 wx 0 (show 0 < 3 by decide) ⟨vx0, cx0⟩, (by first | omega | (simp; omega) | (simp; done))⟩ (fa ⟨setAll_at (w.heap.size + 1 + 1 + 1 + 1) [.int .i64 (Y.1), .int .i64 (Y.2.1), .int .i64 (Y.2.2)] 0 wx 1 (show 1 < 3 by decide) ⟨vx1, cx1⟩, (by first | omega | (simp; omega) | (simp; done))⟩ (fa ⟨setAll_at (w.heap.size + 1 + 1 + 1 + 1) [.int .i64 (Y.1), .int .i64 (Y.2.1), .int .i64 (Y.2.2)] 0 wx 2 (show 2 < 3 by decide) ⟨vx2, cx2⟩, (by first | omega | (simp; omega) | (simp; done))⟩ (fa0)))
    ·match j, hj with
     | 0, hj | 1, hj | 2, hj | 3, hj | 4, hj | 5, hj | 6, hj | 7, hj | 8, hj | 9, hj => exact (show (u : Value) = _ from h)
     | 10, hj => exact Kd.ok_setAll_old (k := Kd.old (w1.heap.size) [(⟨w.heap.size + 1 + 1 + 1, 0, none⟩, .int .i64 (X.1)), (⟨w.heap.size + 1 + 1 + 1, 1, none⟩, .int .i64 (X.2.1)), (⟨w.heap.size + 1 + 1 + 1, 2, none⟩, .int .i64 (X.2.2))]) trivial (fa (far_blk (by first | (with_reducible assumption) | omega)) (fa (far_blk (by first | (with_reducible assumption) | omega)) (fa (far_blk (by first | (with_reducible assumption) | omega)) (fa0)))) h
     | 11, hj => exact absurd rfl hj
     | j + 12, _ => trivial
   all_goals (refine hK _ _ hS ?_ (fun j u _ h => h); rw [if_pos (by rfl)]; show (_ : Value) = _; (first | rfl | (refine congrArg (Value.int .i64) ?_; first | rfl | exact int_in (by omega) | exact quo_in (by omega) (by omega) (by omega) | exact rem_in (by omega) (by omega) | omega) | (simp; done) | (simp [*]; done)))
  ·intro aq wx hd hw hf hS hg
   have haq : aq = ⟨#[tau aq 0, tau aq 1, tau aq 2, tau aq 3, tau aq 4, tau aq 5, tau aq 6, tau aq 7, tau aq 8, tau aq 9, tau aq 10, tau aq 11, tau aq 12, tau aq 13, tau aq 14, tau aq 15, tau aq 16, tau aq 17, tau aq 18, tau aq 19, tau aq 20, tau aq 21, tau aq 22, tau aq 23, tau aq 24, tau aq 25], []⟩ := by
    obtain ⟨tq, dq⟩ := aq
    have h5 := arr_eq (show tq.size = 26 from hw)
    have h6 : dq = [] := hd
    subst h6
    exact congrArg (fun z => Act.mk z []) h5
   show K2 aq wx
   rw [haq, hf 0, hf 1, hf 2, hf 3, hf 4, hf 5, hf 6, hf 7, hf 8, hf 9, hf 10, hf 11, hf 12, hf 13, hf 14, hf 15]
   clear haq hf hd hw
   try dsimp only
   refine h3 _ _ ?_
   go_meet
   refine ⟨Ri3.m ?_ ?_ ?_, Ri3.m ?_ ?_ ?_, Ri3.m ?_ ?_ ?_, Wi3.m (hg 10 (by decide) (_, _) (by simp)).1 (hg 10 (by decide) (_, _) (by simp)).1 (hg 10 (by decide) (_, _) (by simp)).1 ?_ ?_ ?_, Wi3.m (hg 11 (by decide) (_, _) (by simp)).1 (hg 11 (by decide) (_, _) (by simp)).1 (hg 11 (by decide) (_, _) (by simp)).1 ?_ ?_ ?_, hS.below⟩
   all_goals first | exact hS.cells (_, _) (by simp) | exact (hS.free _ (by simp)).2
 try clear c00
 try clear c01
 try clear c02
 try clear c10
 try clear c11
 try clear c12
 try clear c20
 try clear c21
 try clear c22
 try clear c30
 try clear c31
 try clear c32
 try clear c40
 try clear c41
 try clear c42
 try clear f30
 try clear f31
 try clear f32
 try clear f40
 try clear f41
 try clear f42
 obtain ⟨⟨c00, c01, c02, z0⟩, ⟨c10, c11, c12, z1⟩, ⟨c20, c21, c22, z2⟩, ⟨c30, c31, c32, f30, f31, f32, z3⟩, ⟨c40, c41, c42, f40, f41, f42, z4⟩, hb0⟩ := hcut
 go_wp2
 refine bodyPost_ret (v := .tuple #[frm X, frm Y]) (by simp [results, Tryz.results62, go_sem, *]) rfl ?_
 exact ⟨by rw [(unhide HV).1, (unhide HV).2], hb0⟩

set_option maxRecDepth 100000 in
set_option maxHeartbeats 4000000 in
theorem dlFold_D {D : Int} (x y m : T3) (k : Int) (w : World) (hx : Frm D x) (hy : Frm D y) (hm : Frm D m) (h0 : 0 ≤ k) (h1 : k ≤ 1000000) :
  Calls Tryz.prog 64 #[frm x, frm y, frm m, .int .i64 k] w fun e w' => e = .returned (.tuple #[frm (hvX D x y m k), frm (hvY D x y m k)]) ∧ Below w.heap.size w w' := by
 have hr := hvR_bd D x y m k
 obtain ⟨r, hr2⟩ : ∃ r, r = hvR D x y m k := ⟨_, rfl⟩
 rw [← hr2] at hr
 obtain ⟨P, hP⟩ : ∃ P, P = pwD D x r := ⟨_, rfl⟩
 obtain ⟨Q, hQ⟩ : ∃ Q, Q = pwD D m r := ⟨_, rfl⟩
 obtain ⟨X, hX⟩ : ∃ X, X = cmp P m := ⟨_, rfl⟩
 obtain ⟨Y, hY⟩ : ∃ Y, Y = cmp Q y := ⟨_, rfl⟩
 have HV : Hid (hvX D x y m k = X ∧ hvY D x y m k = Y) := hide ⟨by unfold hvX; rw [← hr2, ← hP, ← hX], by unfold hvY; rw [← hr2, ← hQ, ← hY]⟩
 have fP : Frm D P := by rw [hP]; exact hx.pw _
 have fQ : Frm D Q := by rw [hQ]; exact hm.pw _
 replace hP := hide hP
 replace hQ := hide hQ
 replace hX := hide hX
 replace hY := hide hY
 have HR : hvR D x y m k = khI D (keyT x) (keyT y) (keyT m) k := rfl
 rw [HR] at hr2
 clear HR
 have HR := hide hr2
 clear hr2
 go_enter Tryz.func64, Tryz.ntmps64
 go_wp2_with fail
 refine (kh_rws x y m k r _ hx hy hm h0 h1 (unhide HR)).mono ?_
 rintro en w1 ⟨rfl, hb1⟩
 have tq0 := Ri3.c hb1 w.heap.size x.1 x.2.1 x.2.2
 have tq1 := Ri3.c hb1 (w.heap.size + 1) y.1 y.2.1 y.2.2
 have tq2 := Ri3.c hb1 (w.heap.size + 1 + 1) m.1 m.2.1 m.2.2
 have tq3 := Wi3.c hb1 (w.heap.size + 1 + 1 + 1) 0 0 0
 have tq4 := Wi3.c hb1 (w.heap.size + 1 + 1 + 1 + 1) 0 0 0
 try clear c00 c01 c02
 try clear c10 c11 c12
 try clear c20 c21 c22
 try clear c30 c31 c32 f30 f31 f32
 try clear c40 c41 c42 f40 f41 f42
 obtain ⟨c00, c01, c02, z0⟩ := tq0
 obtain ⟨c10, c11, c12, z1⟩ := tq1
 obtain ⟨c20, c21, c22, z2⟩ := tq2
 obtain ⟨c30, c31, c32, f30, f31, f32, z3⟩ := tq3
 obtain ⟨c40, c41, c42, f40, f41, f42, z4⟩ := tq4
 have hs1 := hb1.size
 have o10 := z0
 have o11 := z1
 have o12 := z2
 have o13 := z3
 have o14 := z4
 go_upto_region 2 with fail
 go_cut [] (fun  wx => Ri3 wx w.heap.size x.1 x.2.1 x.2.2 ∧ Ri3 wx (w.heap.size + 1) y.1 y.2.1 y.2.2 ∧ Ri3 wx (w.heap.size + 1 + 1) m.1 m.2.1 m.2.2 ∧ Wi3 wx (w.heap.size + 1 + 1 + 1) X.1 X.2.1 X.2.2 ∧ Wi3 wx (w.heap.size + 1 + 1 + 1 + 1) Y.1 Y.2.1 Y.2.2 ∧ Below w.heap.size w wx)
 case first =>
  have h1 := trivial
  rename_i K2 h2 h3
  refine region_n0 (by kernel_rfl) (fun j => #[16,17,18,19,20,21,22,23,24,25,8,9].getD j 0) (fun j => Kd.ok ((fun j => match j with | 0 => Kd.val (.agg #[.int .i64 (x.1), .int .i64 (x.2.1), .int .i64 (x.2.2)]) | 1 => Kd.val (.int .i64 r) | 2 => Kd.val (.agg #[.int .i64 (P.1), .int .i64 (P.2.1), .int .i64 (P.2.2)]) | 3 => Kd.val (.agg #[.int .i64 (m.1), .int .i64 (m.2.1), .int .i64 (m.2.2)]) | 4 => Kd.val (.agg #[.int .i64 (X.1), .int .i64 (X.2.1), .int .i64 (X.2.2)]) | 5 => Kd.val (.agg #[.int .i64 (m.1), .int .i64 (m.2.1), .int .i64 (m.2.2)]) | 6 => Kd.val (.int .i64 r) | 7 => Kd.val (.agg #[.int .i64 (Q.1), .int .i64 (Q.2.1), .int .i64 (Q.2.2)]) | 8 => Kd.val (.agg #[.int .i64 (y.1), .int .i64 (y.2.1), .int .i64 (y.2.2)]) | 9 => Kd.val (.agg #[.int .i64 (Y.1), .int .i64 (Y.2.1), .int .i64 (Y.2.2)]) | 10 => Kd.old (w1.heap.size) [(⟨w.heap.size + 1 + 1 + 1, 0, none⟩, .int .i64 (X.1)), (⟨w.heap.size + 1 + 1 + 1, 1, none⟩, .int .i64 (X.2.1)), (⟨w.heap.size + 1 + 1 + 1, 2, none⟩, .int .i64 (X.2.2))] | 11 => Kd.old (w1.heap.size) [(⟨w.heap.size + 1 + 1 + 1 + 1, 0, none⟩, .int .i64 (Y.1)), (⟨w.heap.size + 1 + 1 + 1 + 1, 1, none⟩, .int .i64 (Y.2.1)), (⟨w.heap.size + 1 + 1 + 1 + 1, 2, none⟩, .int .i64 (Y.2.2))] | _ => Kd.any : Nat → Kd) j)) (Sy w (w1.heap.size) [(⟨w.heap.size, 0, none⟩, .int .i64 (x.1)), (⟨w.heap.size, 1, none⟩, .int .i64 (x.2.1)), (⟨w.heap.size, 2, none⟩, .int .i64 (x.2.2)), (⟨w.heap.size + 1, 0, none⟩, .int .i64 (y.1)), (⟨w.heap.size + 1, 1, none⟩, .int .i64 (y.2.1)), (⟨w.heap.size + 1, 2, none⟩, .int .i64 (y.2.2)), (⟨w.heap.size + 1 + 1, 0, none⟩, .int .i64 (m.1)), (⟨w.heap.size + 1 + 1, 1, none⟩, .int .i64 (m.2.1)), (⟨w.heap.size + 1 + 1, 2, none⟩, .int .i64 (m.2.2))] [⟨w.heap.size + 1 + 1 + 1, 0, none⟩, ⟨w.heap.size + 1 + 1 + 1, 1, none⟩, ⟨w.heap.size + 1 + 1 + 1, 2, none⟩, ⟨w.heap.size + 1 + 1 + 1 + 1, 0, none⟩, ⟨w.heap.size + 1 + 1 + 1 + 1, 1, none⟩, ⟨w.heap.size + 1 + 1 + 1 + 1, 2, none⟩]) (by kernel_rfl) (by kernel_rfl) ?_ ?_ ?_ ?_
  ·intro j hj
   have hj2 : j < 12 := hj
   have : ∀ j, j < 12 → (#[16,17,18,19,20,21,22,23,24,25,8,9] : Array Nat).getD j 0 < 26 := by decide
   exact this j hj2
  ·refine Sy.drew (Sy.mk_of ?_ ?_ ?_ ?_)
   ·first | rfl | (simp; done) | (simp; omega)
   ·intro c hc
    simp only [List.mem_cons, List.not_mem_nil, or_false] at hc
    rcases hc with rfl | rfl | rfl | rfl | rfl | rfl | rfl | rfl | rfl <;> exact byCT
   ·intro p hp
    simp only [List.mem_cons, List.not_mem_nil, or_false] at hp
    rcases hp with rfl | rfl | rfl | rfl | rfl | rfl <;> exact ⟨by first | ((repeat' with_reducible (first | refine ex_set _ ?_ | refine ex_al _ ?_ | exact ⟨_, by assumption⟩)); done) | first | exact ⟨_, by assumption⟩ | assumption | (go_simp; done) | (go_simp; exact ⟨_, rfl⟩), by first | ((repeat' first | with_reducible (first | assumption | refine frz_al _ ?_ ?_ | refine frz_set _ ?_) | omega | (simp; omega)); done) | assumption | (go_simp; done)⟩
   ·(repeat' first | with_reducible (first | exact Below.refl _ _ | assumption | refine gr_alloc ?_ _ | refine below_drewN ?_ _ | refine below_drew ?_ | refine gr_call ?_ (by assumption) | refine Below.setCell ?_ ?_ _) | go_size | omega | (simp; omega))
  ·clear h1 h2 h3
   refine ⟨?r41x0, ?r41x1, ?r41x2, ?r41x3, ?r41x4, ?r41x5, ?r41x6, ?r41x7, ?r41x8, ?r41x9, ?r41x10, ?r41x11, trivial⟩
   all_goals intro _ aq wx Kq hf hS hdep ev1 ev2 hK
   case' r41x0 =>
    have F4 : aq.eval (.tmp 4) = .pointer (some ⟨w.heap.size, 0, none⟩) := hf 4
    have c0 := hS.cells (⟨w.heap.size, 0, none⟩, .int .i64 (x.1)) (by simp)
    have c1 := hS.cells (⟨w.heap.size, 1, none⟩, .int .i64 (x.2.1)) (by simp)
    have c2 := hS.cells (⟨w.heap.size, 2, none⟩, .int .i64 (x.2.2)) (by simp)
   case' r41x1 =>
    have F10 : aq.eval (.tmp 10) = .int .i64 r := hf 10
   case' r41x2 =>
    have D0 : aq.eval (.tmp 16) = _ := hdep 0
    have D1 : aq.eval (.tmp 17) = _ := hdep 1
   case' r41x3 =>
    have F6 : aq.eval (.tmp 6) = .pointer (some ⟨w.heap.size + 1 + 1, 0, none⟩) := hf 6
    have c0 := hS.cells (⟨w.heap.size + 1 + 1, 0, none⟩, .int .i64 (m.1)) (by simp)
    have c1 := hS.cells (⟨w.heap.size + 1 + 1, 1, none⟩, .int .i64 (m.2.1)) (by simp)
    have c2 := hS.cells (⟨w.heap.size + 1 + 1, 2, none⟩, .int .i64 (m.2.2)) (by simp)
   case' r41x4 =>
    have D2 : aq.eval (.tmp 18) = _ := hdep 2
    have D3 : aq.eval (.tmp 19) = _ := hdep 3
   case' r41x5 =>
    have F6 : aq.eval (.tmp 6) = .pointer (some ⟨w.heap.size + 1 + 1, 0, none⟩) := hf 6
    have c0 := hS.cells (⟨w.heap.size + 1 + 1, 0, none⟩, .int .i64 (m.1)) (by simp)
    have c1 := hS.cells (⟨w.heap.size + 1 + 1, 1, none⟩, .int .i64 (m.2.1)) (by simp)
    have c2 := hS.cells (⟨w.heap.size + 1 + 1, 2, none⟩, .int .i64 (m.2.2)) (by simp)
   case' r41x6 =>
    have F10 : aq.eval (.tmp 10) = .int .i64 r := hf 10
   case' r41x7 =>
    have D5 : aq.eval (.tmp 21) = _ := hdep 5
    have D6 : aq.eval (.tmp 22) = _ := hdep 6
   case' r41x8 =>
    have F5 : aq.eval (.tmp 5) = .pointer (some ⟨w.heap.size + 1, 0, none⟩) := hf 5
    have c0 := hS.cells (⟨w.heap.size + 1, 0, none⟩, .int .i64 (y.1)) (by simp)
    have c1 := hS.cells (⟨w.heap.size + 1, 1, none⟩, .int .i64 (y.2.1)) (by simp)
    have c2 := hS.cells (⟨w.heap.size + 1, 2, none⟩, .int .i64 (y.2.2)) (by simp)
   case' r41x9 =>
    have D7 : aq.eval (.tmp 23) = _ := hdep 7
    have D8 : aq.eval (.tmp 24) = _ := hdep 8
   case' r41x10 =>
    have D4 : aq.eval (.tmp 20) = _ := hdep 4
    have F8 : aq.eval (.tmp 8) = .pointer (some ⟨w.heap.size + 1 + 1 + 1, 0, none⟩) := hf 8
    obtain ⟨⟨vx0, cx0⟩, cf0⟩ := hS.free ⟨w.heap.size + 1 + 1 + 1, 0, none⟩ (by simp)
    obtain ⟨⟨vx1, cx1⟩, cf1⟩ := hS.free ⟨w.heap.size + 1 + 1 + 1, 1, none⟩ (by simp)
    obtain ⟨⟨vx2, cx2⟩, cf2⟩ := hS.free ⟨w.heap.size + 1 + 1 + 1, 2, none⟩ (by simp)
   case' r41x11 =>
    have D9 : aq.eval (.tmp 25) = _ := hdep 9
    have F9 : aq.eval (.tmp 9) = .pointer (some ⟨w.heap.size + 1 + 1 + 1 + 1, 0, none⟩) := hf 9
    obtain ⟨⟨vx0, cx0⟩, cf0⟩ := hS.free ⟨w.heap.size + 1 + 1 + 1 + 1, 0, none⟩ (by simp)
    obtain ⟨⟨vx1, cx1⟩, cf1⟩ := hS.free ⟨w.heap.size + 1 + 1 + 1 + 1, 1, none⟩ (by simp)
    obtain ⟨⟨vx2, cx2⟩, cf2⟩ := hS.free ⟨w.heap.size + 1 + 1 + 1 + 1, 2, none⟩ (by simp)
   all_goals (clear hf hdep; unfold Oper.wp; generalize Act.eval _ = ev at *; go_simp)
   case r41x2 =>
    refine ((pw_rws x P r _ hx (by omega) (by omega) (unhide hP))).mono ?_
    rintro e w2 ⟨rfl, hb⟩
    refine hK _ _ (hS.call hb) ?_ (fun j u _ h => Kd.ok_below hb h)
    rw [if_pos (by rfl)]
    show (_ : Value) = _
    first | rfl | (refine congrArg (Value.int .i64) ?_; first | rfl | exact int_in (by omega) | exact quo_in (by omega) (by omega) (by omega) | exact rem_in (by omega) (by omega) | omega) | (simp; done) | (simp [*]; done)
   case r41x4 =>
    refine ((cm_rws P m X _ fP.i hm.i (unhide hX))).mono ?_
    rintro e w2 ⟨rfl, hb⟩
    refine hK _ _ (hS.call hb) ?_ (fun j u _ h => Kd.ok_below hb h)
    rw [if_pos (by rfl)]
    show (_ : Value) = _
    first | rfl | (refine congrArg (Value.int .i64) ?_; first | rfl | exact int_in (by omega) | exact quo_in (by omega) (by omega) (by omega) | exact rem_in (by omega) (by omega) | omega) | (simp; done) | (simp [*]; done)
   case r41x7 =>
    refine ((pw_rws m Q r _ hm (by omega) (by omega) (unhide hQ))).mono ?_
    rintro e w2 ⟨rfl, hb⟩
    refine hK _ _ (hS.call hb) ?_ (fun j u _ h => Kd.ok_below hb h)
    rw [if_pos (by rfl)]
    show (_ : Value) = _
    first | rfl | (refine congrArg (Value.int .i64) ?_; first | rfl | exact int_in (by omega) | exact quo_in (by omega) (by omega) (by omega) | exact rem_in (by omega) (by omega) | omega) | (simp; done) | (simp [*]; done)
   case r41x9 =>
    refine ((cm_rws Q y Y _ fQ.i hy.i (unhide hY))).mono ?_
    rintro e w2 ⟨rfl, hb⟩
    refine hK _ _ (hS.call hb) ?_ (fun j u _ h => Kd.ok_below hb h)
    rw [if_pos (by rfl)]
    show (_ : Value) = _
    first | rfl | (refine congrArg (Value.int .i64) ?_; first | rfl | exact int_in (by omega) | exact quo_in (by omega) (by omega) (by omega) | exact rem_in (by omega) (by omega) | omega) | (simp; done) | (simp [*]; done)
   case r41x10 =>
    refine hK undef (setAll (w.heap.size + 1 + 1 + 1) 0 [.int .i64 (X.1), .int .i64 (X.2.1), .int .i64 (X.2.2)] wx) (Sy.setAll (by first | omega | (simp; omega) | (simp; done)) (fa (far_blk (by first | (with_reducible assumption) | omega)) (fa (far_blk (by first | (with_reducible assumption) | omega)) (fa (far_blk (by first | (with_reducible assumption) | omega)) (fa (far_blk (by first | (with_reducible assumption) | omega)) (fa (far_blk (by first | (with_reducible assumption) | omega)) (fa (far_blk (by first | (with_reducible assumption) | omega)) (fa (far_blk (by first | (with_reducible assumption) | omega)) (fa (far_blk (by first | (with_reducible assumption) | omega)) (fa (far_blk (by first | (with_reducible assumption) | omega)) (fa0)))))))))) hS) ?_ (fun j u hj h => ?_)
    ·rw [if_neg (by decide)]
     exact fa ⟨setAll_at (w.heap.size + 1 + 1 + 1) [.int .i64 (X.1), .int .i64 (X.2.1), .int .i64 (X.2.2)] 0 wx 0 (show 0 < 3 by decide) ⟨vx0, cx0⟩, (by first | omega | (simp; omega) | (simp; done))⟩ (fa ⟨setAll_at (w.heap.size + 1 + 1 + 1) [.int .i64 (X.1), .int .i64 (X.2.1), .int .i64 (X.2.2)] 0 wx 1 (show 1 < 3 by decide) ⟨vx1, cx1⟩, (by first | omega | (simp; omega) | (simp; done))⟩ (fa ⟨setAll_at (w.heap.size + 1 + 1 + 1) [.int .i64 (X.1), .int .i64 (X.2.1), .int .i64 (X.2.2)] 0 wx 2 (show 2 < 3 by decide) ⟨vx2, cx2⟩, (by first | omega | (simp; omega) | (simp; done))⟩ (fa0)))
    ·match j, hj with
     | 0, hj | 1, hj | 2, hj | 3, hj | 4, hj | 5, hj | 6, hj | 7, hj | 8, hj | 9, hj => exact (show (u : Value) = _ from h)
     | 10, hj => exact absurd rfl hj
     | 11, hj => exact Kd.ok_setAll_old (k := Kd.old (w1.heap.size) [(⟨w.heap.size + 1 + 1 + 1 + 1, 0, none⟩, .int .i64 (Y.1)), (⟨w.heap.size + 1 + 1 + 1 + 1, 1, none⟩, .int .i64 (Y.2.1)), (⟨w.heap.size + 1 + 1 + 1 + 1, 2, none⟩, .int .i64 (Y.2.2))]) trivial (fa (far_blk (by first | (with_reducible assumption) | omega)) (fa (far_blk (by first | (with_reducible assumption) | omega)) (fa (far_blk (by first | (with_reducible assumption) | omega)) (fa0)))) h
     | j + 12, _ => trivial
   case r41x11 =>
    refine hK undef (setAll (w.heap.size + 1 + 1 + 1 + 1) 0 [.int .i64 (Y.1), .int .i64 (Y.2.1), .int .i64 (Y.2.2)] wx) (Sy.setAll (by first | omega | (simp; omega) | (simp; done)) (fa (far_blk (by first | (with_reducible assumption) | omega)) (fa (far_blk (by first | (with_reducible assumption) | omega)) (fa (far_blk (by first | (with_reducible assumption) | omega)) (fa (far_blk (by first | (with_reducible assumption) | omega)) (fa (far_blk (by first | (with_reducible assumption) | omega)) (fa (far_blk (by first | (with_reducible assumption) | omega)) (fa (far_blk (by first | (with_reducible assumption) | omega)) (fa (far_blk (by first | (with_reducible assumption) | omega)) (fa (far_blk (by first | (with_reducible assumption) | omega)) (fa0)))))))))) hS) ?_ (fun j u hj h => ?_)
    ·rw [if_neg (by decide)]
     exact fa ⟨setAll_at (w.heap.size + 1 + 1 + 1 + 1) [.int .i64 (Y.1), .int .i64 (Y.2.1), .int .i64 (Y.2.2)] 0 wx 0 (show 0 < 3 by decide) ⟨vx0, cx0⟩, (by first | omega | (simp; omega) | (simp; done))⟩ (fa ⟨setAll_at (w.heap.size + 1 + 1 + 1 + 1) [.int .i64 (Y.1), .int .i64 (Y.2.1), .int .i64 (Y.2.2)] 0 wx 1 (show 1 < 3 by decide) ⟨vx1, cx1⟩, (by first | omega | (simp; omega) | (simp; done))⟩ (fa ⟨setAll_at (w.heap.size + 1 + 1 + 1 + 1) [.int .i64 (Y.1), .int .i64 (Y.2.1), .int .i64 (Y.2.2)] 0 wx 2 (show 2 < 3 by decide) ⟨vx2, cx2⟩, (by first | omega | (simp; omega) | (simp; done))⟩ (fa0)))
    ·match j, hj with
     | 0, hj | 1, hj | 2, hj | 3, hj | 4, hj | 5, hj | 6, hj | 7, hj | 8, hj | 9, hj => exact (show (u : Value) = _ from h)
     | 10, hj => exact Kd.ok_setAll_old (k := Kd.old (w1.heap.size) [(⟨w.heap.size + 1 + 1 + 1, 0, none⟩, .int .i64 (X.1)), (⟨w.heap.size + 1 + 1 + 1, 1, none⟩, .int .i64 (X.2.1)), (⟨w.heap.size + 1 + 1 + 1, 2, none⟩, .int .i64 (X.2.2))]) trivial (fa (far_blk (by first | (with_reducible assumption) | omega)) (fa (far_blk (by first | (with_reducible assumption) | omega)) (fa (far_blk (by first | (with_reducible assumption) | omega)) (fa0)))) h
     | 11, hj => exact absurd rfl hj
     | j + 12, _ => trivial
   all_goals (refine hK _ _ hS ?_ (fun j u _ h => h); rw [if_pos (by rfl)]; show (_ : Value) = _; (first | rfl | (refine congrArg (Value.int .i64) ?_; first | rfl | exact int_in (by omega) | exact quo_in (by omega) (by omega) (by omega) | exact rem_in (by omega) (by omega) | omega) | (simp; done) | (simp [*]; done)))
  ·intro aq wx hd hw hf hS hg
   have haq : aq = ⟨#[tau aq 0, tau aq 1, tau aq 2, tau aq 3, tau aq 4, tau aq 5, tau aq 6, tau aq 7, tau aq 8, tau aq 9, tau aq 10, tau aq 11, tau aq 12, tau aq 13, tau aq 14, tau aq 15, tau aq 16, tau aq 17, tau aq 18, tau aq 19, tau aq 20, tau aq 21, tau aq 22, tau aq 23, tau aq 24, tau aq 25], []⟩ := by
    obtain ⟨tq, dq⟩ := aq
    have h5 := arr_eq (show tq.size = 26 from hw)
    have h6 : dq = [] := hd
    subst h6
    exact congrArg (fun z => Act.mk z []) h5
   show K2 aq wx
   rw [haq, hf 0, hf 1, hf 2, hf 3, hf 4, hf 5, hf 6, hf 7, hf 8, hf 9, hf 10, hf 11, hf 12, hf 13, hf 14, hf 15]
   clear haq hf hd hw
   try dsimp only
   refine h3 _ _ ?_
   go_meet
   refine ⟨Ri3.m ?_ ?_ ?_, Ri3.m ?_ ?_ ?_, Ri3.m ?_ ?_ ?_, Wi3.m (hg 10 (by decide) (_, _) (by simp)).1 (hg 10 (by decide) (_, _) (by simp)).1 (hg 10 (by decide) (_, _) (by simp)).1 ?_ ?_ ?_, Wi3.m (hg 11 (by decide) (_, _) (by simp)).1 (hg 11 (by decide) (_, _) (by simp)).1 (hg 11 (by decide) (_, _) (by simp)).1 ?_ ?_ ?_, hS.below⟩
   all_goals first | exact hS.cells (_, _) (by simp) | exact (hS.free _ (by simp)).2
 try clear c00
 try clear c01
 try clear c02
 try clear c10
 try clear c11
 try clear c12
 try clear c20
 try clear c21
 try clear c22
 try clear c30
 try clear c31
 try clear c32
 try clear c40
 try clear c41
 try clear c42
 try clear f30
 try clear f31
 try clear f32
 try clear f40
 try clear f41
 try clear f42
 obtain ⟨⟨c00, c01, c02, z0⟩, ⟨c10, c11, c12, z1⟩, ⟨c20, c21, c22, z2⟩, ⟨c30, c31, c32, f30, f31, f32, z3⟩, ⟨c40, c41, c42, f40, f41, f42, z4⟩, hb0⟩ := hcut
 go_wp2
 refine bodyPost_ret (v := .tuple #[frm X, frm Y]) (by simp [results, Tryz.results64, go_sem, *]) rfl ?_
 exact ⟨by rw [(unhide HV).1, (unhide HV).2], hb0⟩
end Go.Proofs.YtihfacmlfelliaaGreat
