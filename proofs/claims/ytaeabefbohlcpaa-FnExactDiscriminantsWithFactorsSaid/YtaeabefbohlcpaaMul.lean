/- The composite (spec). -/
import Derived.Test.YtaeabefbohlcpaaCou
namespace Go.Proofs.Ytaeabefbohlcpaa
open Go.RowKit
set_option linter.unusedVariables false
set_option linter.unusedSimpArgs false
attribute [local go_sem] q2 q3 q4 q5 q6 q7 q8 q9 q10 q11 q12

set_option maxRecDepth 100000 in
set_option maxHeartbeats 4000000 in
theorem coJoined_a (a t x e y s : Int) (w : World) (h0 : -1000000 ≤ a * e ∧ a * e ≤ 1000000) (he : 1 ≤ e) (hq : (e * s).tdiv e = s) (hs : 0 ≤ s ∧ s ≤ 100000000) :
  Calls Try.prog 84 #[.agg #[.int .i64 a, .int .i64 t, .int .i64 (e * s)], .agg #[.int .i64 e, .int .i64 x, .int .i64 y]] w fun e' w' => e' = .returned (.agg #[.int .i64 (a * e), .int .i64 t, .int .i64 s]) ∧ Below w.heap.size w w' := by
 have HX1 : IntKind.i64.wrap ((e * s).tdiv e) = s := by rw [hq]; exact int_in (by omega)
 have hne : ¬ e = 0 := by omega
 go_enter Try.func84, Try.ntmps84
 go_upto_region 1 with fail
 go_cut [] (fun  wx => Ri3 wx w.heap.size a t (e * s) ∧ Ri3 wx (w.heap.size + 1) e x y ∧ Wi3 wx (w.heap.size + 1 + 1) (a * e) t s ∧ Below w.heap.size w wx)
 case first =>
  have h1 := trivial
  rename_i K2 h2 h3
  refine region_n0 (by kernel_rfl) (fun j => #[5,6,7,8,9,10,11,12,13,14,15,16,17,4].getD j 0) (fun j => Kd.ok ((fun j => match j with | 0 => Kd.val (.pointer (some ⟨w.heap.size, 0, none⟩)) | 1 => Kd.val (.int .i64 a) | 2 => Kd.val (.pointer (some ⟨w.heap.size + 1, 0, none⟩)) | 3 => Kd.val (.int .i64 e) | 4 => Kd.val (.int .i64 (a * e)) | 5 => Kd.val (.pointer (some ⟨w.heap.size, 1, none⟩)) | 6 => Kd.val (.int .i64 t) | 7 => Kd.val (.pointer (some ⟨w.heap.size, 2, none⟩)) | 8 => Kd.val (.int .i64 (e * s)) | 9 => Kd.val (.pointer (some ⟨w.heap.size + 1, 0, none⟩)) | 10 => Kd.val (.int .i64 e) | 11 => Kd.val (.int .i64 s) | 12 => Kd.val (.agg #[.int .i64 (a * e), .int .i64 t, .int .i64 s]) | 13 => Kd.old (w.heap.size + 1 + 1 + 1) [(⟨w.heap.size + 1 + 1, 0, none⟩, .int .i64 (a * e)), (⟨w.heap.size + 1 + 1, 1, none⟩, .int .i64 t), (⟨w.heap.size + 1 + 1, 2, none⟩, .int .i64 s)] | _ => Kd.any : Nat → Kd) j)) (Sy w (w.heap.size + 1 + 1 + 1) [(⟨w.heap.size, 0, none⟩, .int .i64 a), (⟨w.heap.size, 1, none⟩, .int .i64 t), (⟨w.heap.size, 2, none⟩, .int .i64 (e * s)), (⟨w.heap.size + 1, 0, none⟩, .int .i64 e), (⟨w.heap.size + 1, 1, none⟩, .int .i64 x), (⟨w.heap.size + 1, 2, none⟩, .int .i64 y)] [⟨w.heap.size + 1 + 1, 0, none⟩, ⟨w.heap.size + 1 + 1, 1, none⟩, ⟨w.heap.size + 1 + 1, 2, none⟩]) (by kernel_rfl) (by kernel_rfl) ?_ ?_ ?_ ?_
  ·intro j hj
   have hj2 : j < 14 := hj
   have : ∀ j, j < 14 → (#[5,6,7,8,9,10,11,12,13,14,15,16,17,4] : Array Nat).getD j 0 < 18 := by decide
   exact this j hj2
  ·refine Sy.drew (Sy.mk_of ?_ ?_ ?_ ?_)
   ·first | rfl | (simp; done) | (simp; omega)
   ·intro c hc
    simp only [List.mem_cons, List.not_mem_nil, or_false] at hc
    rcases hc with rfl | rfl | rfl | rfl | rfl | rfl <;> exact byCT
   ·intro p hp
    simp only [List.mem_cons, List.not_mem_nil, or_false] at hp
    rcases hp with rfl | rfl | rfl <;> exact ⟨by first | ((repeat' with_reducible (first | refine ex_set _ ?_ | refine ex_al _ ?_ | exact ⟨_, by assumption⟩)); done) | first | exact ⟨_, by assumption⟩ | assumption | (go_simp; done) | (go_simp; exact ⟨_, rfl⟩), by first | ((repeat' first | with_reducible (first | assumption | refine frz_al _ ?_ ?_ | refine frz_set _ ?_) | omega | (simp; omega)); done) | assumption | (go_simp; done)⟩
   ·(repeat' first | with_reducible (first | exact Below.refl _ _ | assumption | refine gr_alloc ?_ _ | refine below_drewN ?_ _ | refine below_drew ?_ | refine gr_call ?_ (by assumption) | refine Below.setCell ?_ ?_ _) | go_size | omega | (simp; omega))
  ·clear h1 h2 h3
   refine ⟨?r22x0, ?r22x1, ?r22x2, ?r22x3, ?r22x4, ?r22x5, ?r22x6, ?r22x7, ?r22x8, ?r22x9, ?r22x10, ?r22x11, ?r22x12, ?r22x13, trivial⟩
   all_goals intro _ aq wx Kq hf hS hdep ev1 ev2 hK
   case' r22x0 =>
    have F2 : aq.eval (.tmp 2) = .pointer (some ⟨w.heap.size, 0, none⟩) := hf 2
   case' r22x1 =>
    have D0 : aq.eval (.tmp 5) = _ := hdep 0
    have c0 := hS.cells (⟨w.heap.size, 0, none⟩, .int .i64 a) (by simp)
   case' r22x2 =>
    have F3 : aq.eval (.tmp 3) = .pointer (some ⟨w.heap.size + 1, 0, none⟩) := hf 3
   case' r22x3 =>
    have D2 : aq.eval (.tmp 7) = _ := hdep 2
    have c0 := hS.cells (⟨w.heap.size + 1, 0, none⟩, .int .i64 e) (by simp)
   case' r22x4 =>
    have D1 : aq.eval (.tmp 6) = _ := hdep 1
    have D3 : aq.eval (.tmp 8) = _ := hdep 3
   case' r22x5 =>
    have F2 : aq.eval (.tmp 2) = .pointer (some ⟨w.heap.size, 0, none⟩) := hf 2
   case' r22x6 =>
    have D5 : aq.eval (.tmp 10) = _ := hdep 5
    have c0 := hS.cells (⟨w.heap.size, 1, none⟩, .int .i64 t) (by simp)
   case' r22x7 =>
    have F2 : aq.eval (.tmp 2) = .pointer (some ⟨w.heap.size, 0, none⟩) := hf 2
   case' r22x8 =>
    have D7 : aq.eval (.tmp 12) = _ := hdep 7
    have c0 := hS.cells (⟨w.heap.size, 2, none⟩, .int .i64 (e * s)) (by simp)
   case' r22x9 =>
    have F3 : aq.eval (.tmp 3) = .pointer (some ⟨w.heap.size + 1, 0, none⟩) := hf 3
   case' r22x10 =>
    have D9 : aq.eval (.tmp 14) = _ := hdep 9
    have c0 := hS.cells (⟨w.heap.size + 1, 0, none⟩, .int .i64 e) (by simp)
   case' r22x11 =>
    have D8 : aq.eval (.tmp 13) = _ := hdep 8
    have D10 : aq.eval (.tmp 15) = _ := hdep 10
   case' r22x12 =>
    have D4 : aq.eval (.tmp 9) = _ := hdep 4
    have D6 : aq.eval (.tmp 11) = _ := hdep 6
    have D11 : aq.eval (.tmp 16) = _ := hdep 11
   case' r22x13 =>
    have D12 : aq.eval (.tmp 17) = _ := hdep 12
    have F4 : aq.eval (.tmp 4) = .pointer (some ⟨w.heap.size + 1 + 1, 0, none⟩) := hf 4
    obtain ⟨⟨vx0, cx0⟩, cf0⟩ := hS.free ⟨w.heap.size + 1 + 1, 0, none⟩ (by simp)
    obtain ⟨⟨vx1, cx1⟩, cf1⟩ := hS.free ⟨w.heap.size + 1 + 1, 1, none⟩ (by simp)
    obtain ⟨⟨vx2, cx2⟩, cf2⟩ := hS.free ⟨w.heap.size + 1 + 1, 2, none⟩ (by simp)
   all_goals (clear hf hdep; unfold Oper.wp; generalize Act.eval _ = ev at *; go_simp)
   case' r22x11 =>
    try rw [if_neg (by omega), Oper.upon_value]
   case r22x13 =>
    refine hK undef (setAll (w.heap.size + 1 + 1) 0 [.int .i64 (a * e), .int .i64 t, .int .i64 s] wx) (Sy.setAll (by first | omega | (simp; omega) | (simp; done)) (fa (far_blk (by first | (with_reducible assumption) | omega)) (fa (far_blk (by first | (with_reducible assumption) | omega)) (fa (far_blk (by first | (with_reducible assumption) | omega)) (fa (far_blk (by first | (with_reducible assumption) | omega)) (fa (far_blk (by first | (with_reducible assumption) | omega)) (fa (far_blk (by first | (with_reducible assumption) | omega)) (fa0))))))) hS) ?_ (fun j u hj h => ?_)
    ·rw [if_neg (by decide)]
     exact fa ⟨setAll_at (w.heap.size + 1 + 1) [.int .i64 (a * e), .int .i64 t, .int .i64 s] 0 wx 0 (show 0 < 3 by decide) ⟨vx0, cx0⟩, (by first | omega | (simp; omega) | (simp; done))⟩ (fa ⟨setAll_at (w.heap.size + 1 + 1) [.int .i64 (a * e), .int .i64 t, .int .i64 s] 0 wx 1 (show 1 < 3 by decide) ⟨vx1, cx1⟩, (by first | omega | (simp; omega) | (simp; done))⟩ (fa ⟨setAll_at (w.heap.size + 1 + 1) [.int .i64 (a * e), .int .i64 t, .int .i64 s] 0 wx 2 (show 2 < 3 by decide) ⟨vx2, cx2⟩, (by first | omega | (simp; omega) | (simp; done))⟩ (fa0)))
    ·match j, hj with
     | 0, hj | 1, hj | 2, hj | 3, hj | 4, hj | 5, hj | 6, hj | 7, hj | 8, hj | 9, hj | 10, hj | 11, hj | 12, hj => exact (show (u : Value) = _ from h)
     | 13, hj => exact absurd rfl hj
     | j + 14, _ => trivial
   all_goals (refine hK _ _ hS ?_ (fun j u _ h => h); rw [if_pos (by rfl)]; show (_ : Value) = _; (first | rfl | (refine congrArg (Value.int .i64) ?_; first | rfl | exact int_in (by omega) | exact quo_in (by omega) (by omega) (by omega) | exact rem_in (by omega) (by omega) | omega | exact HX1) | (simp; done) | (simp [*]; done)))
  ·intro aq wx hd hw hf hS hg
   have haq : aq = ⟨#[tau aq 0, tau aq 1, tau aq 2, tau aq 3, tau aq 4, tau aq 5, tau aq 6, tau aq 7, tau aq 8, tau aq 9, tau aq 10, tau aq 11, tau aq 12, tau aq 13, tau aq 14, tau aq 15, tau aq 16, tau aq 17], []⟩ := by
    obtain ⟨tq, dq⟩ := aq
    have h5 := arr_eq (show tq.size = 18 from hw)
    have h6 : dq = [] := hd
    subst h6
    exact congrArg (fun z => Act.mk z []) h5
   show K2 aq wx
   rw [haq, hf 0, hf 1, hf 2, hf 3, hf 4]
   clear haq hf hd hw
   try dsimp only
   refine h3 _ _ ?_
   go_meet
   refine ⟨Ri3.m ?_ ?_ ?_, Ri3.m ?_ ?_ ?_, Wi3.m (hg 13 (by decide) (_, _) (by simp)).1 (hg 13 (by decide) (_, _) (by simp)).1 (hg 13 (by decide) (_, _) (by simp)).1 ?_ ?_ ?_, hS.below⟩
   all_goals first | exact hS.cells (_, _) (by simp) | exact (hS.free _ (by simp)).2
 obtain ⟨⟨c00, c01, c02, z0⟩, ⟨c10, c11, c12, z1⟩, ⟨c20, c21, c22, f20, f21, f22, z2⟩, hb0⟩ := hcut
 go_wp2
 refine bodyPost_ret (v := .agg #[.int .i64 (a * e), .int .i64 t, .int .i64 s]) (by simp [results, Try.results84, go_sem, *]) rfl ?_
 exact ⟨rfl, hb0⟩

set_option maxRecDepth 100000 in
set_option maxHeartbeats 8000000 in
theorem coMul_r (a b c p q r : Int) (w : World) (hc1 : Cls a b c) (hc2 : Cls p q r) (hdd : discI p q r = discI a b c) :
  Calls Try.prog 67 #[.agg #[.int .i64 a, .int .i64 b, .int .i64 c], .agg #[.int .i64 p, .int .i64 q, .int .i64 r]] w fun e' w' => ∃ u v k, e' = .returned (.agg #[.int .i64 u, .int .i64 v, .int .i64 k]) ∧ CpR a b c p q r u v k ∧ Below w.heap.size w w' := by
 go_enter Try.func67, Try.ntmps67
 go_wp2_with fail
 refine (coUnite_r a b c p q r _ hc1 hc2 hdd).mono ?_
 rintro en w1 ⟨x1, y1, zz1, x2, y2, zz2, e, t, s, g0, gg1, g2, g3, l0, l1, l2, l3, rfl, r1, r2, hu, hb1⟩
 have tq0 := lt_c hb1 w.heap.size
 have tq1 := lt_c hb1 (w.heap.size + 1)
 have tq2 := Wi3.c hb1 (w.heap.size + 1 + 1) 0 0 0
 try clear c20 c21 c22 f20 f21 f22
 have z0 := tq0
 clear tq0
 have z1 := tq1
 clear tq1
 obtain ⟨c20, c21, c22, f20, f21, f22, z2⟩ := tq2
 have hs1 := hb1.size
 have hD : discI x2 y2 zz2 = discI x1 y1 zz1 := by rw [r2.dd, hdd, r1.dd]
 obtain ⟨f1, f2, f3, f4, f5, f6, f7, f8, f9⟩ := hu.facts r1.rc r2.rc hD
 have hc := f6.ok
 have r3 := rdr_of f6
 obtain ⟨u, v, k, E⟩ : ∃ u v k, rfA (x1 * e) t s = u ∧ rfB (x1 * e) t s = v ∧ rfC (x1 * e) t s = k := ⟨_, _, _, rfl, rfl, rfl⟩
 have r3' : RdR (x1 * e) t s u v k := by obtain ⟨rfl, rfl, rfl⟩ := E; exact r3
 have HC : Hid (CpR a b c p q r u v k) := hide ⟨_, _, _, _, _, _, _, _, _, r1, r2, hdd, hu, r3'⟩
 have q1 : (e * s).tdiv e = s := Int.mul_tdiv_cancel_left _ (by omega)
 have q2 : -1000000 ≤ x1 * e ∧ x1 * e ≤ 1000000 := by
  have n0 := Int.mul_pos f1 f3
  have n1 : x1 * e ≤ 26 * 20000 := Int.mul_le_mul f2 f4 (by omega) (by omega)
  omega
 have q3 : 0 ≤ s ∧ s ≤ 100000000 := ⟨by have := hc.c0; omega, hc.c1⟩
 clear r3 r3' r1 r2 hu hD f6 f7 f8 f9 f5
 go_wp2_with fail
 refine (coJoined_a x1 t t e (x1 * s) s _ q2 (by omega) q1 q3).mono ?_
 rintro en w2 ⟨rfl, hb2⟩
 have tq0 := lt_c hb2 w.heap.size
 have tq1 := lt_c hb2 (w.heap.size + 1)
 have tq2 := Wi3.c hb2 (w.heap.size + 1 + 1) 0 0 0
 try clear c20 c21 c22 f20 f21 f22
 have z0 := tq0
 clear tq0
 have z1 := tq1
 clear tq1
 obtain ⟨c20, c21, c22, f20, f21, f22, z2⟩ := tq2
 have hs2 := hb2.size
 go_wp2_with fail
 refine (reClass_rw (x1 * e) t s u v k hc E _).mono ?_
 rintro en w3 ⟨rfl, hb3⟩
 have tq0 := lt_c hb3 w.heap.size
 have tq1 := lt_c hb3 (w.heap.size + 1)
 have tq2 := Wi3.c hb3 (w.heap.size + 1 + 1) 0 0 0
 try clear c20 c21 c22 f20 f21 f22
 have z0 := tq0
 clear tq0
 have z1 := tq1
 clear tq1
 obtain ⟨c20, c21, c22, f20, f21, f22, z2⟩ := tq2
 have hs3 := hb3.size
 go_wp2
 refine bodyPost_ret (v := .agg #[.int .i64 u, .int .i64 v, .int .i64 k]) (by simp [results, Try.results67, go_sem, *]) rfl ?_
 exact ⟨u, v, k, rfl, unhide HC, byGG⟩
end Go.Proofs.Ytaeabefbohlcpaa
