/- DivideForms, ComposeForms, AreEquivalent where they answer. -/
import Derived.Test.YtihfacmlfelliaaGreatGi
import Derived.Test.YtihfacmlfelliaaGreatGc
import Derived.Test.YtihfacmlfelliaaGreatDpB
namespace Go.Proofs.YtihfacmlfelliaaGreat
open Go.RowKit
set_option linter.unusedVariables false
set_option linter.unusedSimpArgs false
attribute [local go_sem] q2 q3 q4 q5 q6 q7 q8 q9 q10 q11 q12

theorem cl_of_frm {D : Int} {F : T3} (h : Frm D F) : clB F = true := by
 have ho := h.i.cl.ok
 have hp := h.i.cl.pr
 have hc : contI F.1 F.2.1 F.2.2 = 1 := by
  obtain ⟨g, hg⟩ : ∃ g : Nat, Int.gcd F.1 (Int.gcd F.2.1 F.2.2 : Int) = g := ⟨_, rfl⟩
  have e : contI F.1 F.2.1 F.2.2 = (g : Int) := by unfold contI igcd; rw [hg]
  have d1 : (g : Int) ∣ F.1 := by rw [← hg]; first | exact Int.gcd_dvd_left _ _ | exact Int.gcd_dvd_left
  have d2 : (g : Int) ∣ ((Int.gcd F.2.1 F.2.2 : Nat) : Int) := by rw [← hg]; first | exact Int.gcd_dvd_right _ _ | exact Int.gcd_dvd_right
  have d3 : (g : Int) ∣ F.2.1 := Int.dvd_trans d2 (by first | exact Int.gcd_dvd_left _ _ | exact Int.gcd_dvd_left)
  have d4 : (g : Int) ∣ F.2.2 := Int.dvd_trans d2 (by first | exact Int.gcd_dvd_right _ _ | exact Int.gcd_dvd_right)
  have := Int.eq_one_of_dvd_one (by omega) (hp _ d1 d3 d4)
  omega
 unfold clB classB shownB defB
 rw [h.f, hc]
 have := ho.a0
 have := ho.d0
 have := ho.d1
 simp
 omega
theorem pr_of_frm {D : Int} {F G : T3} (h : Frm D F) (h2 : Frm D G) : prB F G = true := by
 unfold prB
 rw [cl_of_frm h, cl_of_frm h2, h.i.d, h2.i.d]
 simp
theorem i64_of_frm {D : Int} {F : T3} (h : Frm D F) : I64T F := by
 have := form_true h.f
 unfold I64T I64; omega
set_option maxRecDepth 100000 in
theorem opposite_T (G : T3) (w : World) (h : -1000000 ≤ G.2.1 ∧ G.2.1 ≤ 1000000) : Calls Tryz.prog 55 #[frm G] w fun e w' => e = .returned (frm (inT G)) ∧ Below w.heap.size w w' := by
 obtain ⟨a, b, c⟩ := G
 simp only at h
 go_enter Tryz.func55, Tryz.ntmps55
 go_wp2
 refine bodyPost_ret (v := .agg #[.int .i64 a, .int .i64 (-b), .int .i64 c]) (by simp [results, Tryz.results55, go_sem, *]) rfl ?_
 exact ⟨rfl, byGG⟩
theorem defi_T {D : Int} (F : T3) (w : World) (h : Frm D F) : Calls Tryz.prog 56 #[frm F] w fun e w' => e = .returned (.bool true) ∧ Below w.heap.size w w' := by
 have hd := shown_def (class_shown (cl_of_frm h))
 have i := i64_of_frm h
 have := isDefinite_a F.1 F.2.1 F.2.2 w i.1 i.2.1 i.2.2
 rw [hd] at this
 exact this
theorem arePair_y {D : Int} (F G : T3) (w : World) (h : Frm D F) (h2 : Frm D G) : Calls Tryz.prog 27 #[frm F, frm G] w fun e w' => e = .returned (.bool true) ∧ Below w.heap.size w w' := by
 have := arePair_p F G w (i64_of_frm h) (i64_of_frm h2)
 rw [pr_of_frm h h2] at this
 exact this
theorem cmp_rw9 {D : Int} (F G X : T3) (w : World) (h : InD D F) (h2 : InD D G) (hX : cmp F G = X) : Calls Tryz.prog 30 #[frm F, frm G] w fun e w' => e = .returned (frm X) ∧ Below w.heap.size w w' := by
 subst hX; exact compose_D F G w h h2
theorem rd_rw9 {D : Int} (F X : T3) (w : World) (h : InD D F) (hX : rdT F = X) : Calls Tryz.prog 53 #[frm F] w fun e w' => e = .returned (frm X) ∧ Below w.heap.size w w' := by
 subst hX; exact reduced_D F w h

set_option maxRecDepth 100000 in
set_option maxHeartbeats 4000000 in
theorem divide_y {D : Int} (F G X : T3) (w : World) (hF : Frm D F) (hG : Frm D G) (hX : cmp F (inT G) = X) : Calls Tryz.prog 11 #[frm F, frm G] w fun e w' => e = .returned (.tuple #[frm X, .bool true]) ∧ Below w.heap.size w w' := by
 have hGb := hide (form_true hG.f).2.1
 have hF := hide hF
 have hG := hide hG
 have hX := hide hX
 go_enter Tryz.func11, Tryz.ntmps11
 go_wp2_with fail
 refine (arePair_y F G _ (unhide hF) (unhide hG)).mono ?_
 rintro en w1 ⟨rfl, hb1⟩
 have tq0 := Ri3.c hb1 w.heap.size F.1 F.2.1 F.2.2
 have tq1 := Ri3.c hb1 (w.heap.size + 1) G.1 G.2.1 G.2.2
 have tq2 := Wi3.c hb1 (w.heap.size + 1 + 1) 0 0 0
 try clear c00 c01 c02
 try clear c10 c11 c12
 try clear c20 c21 c22 f20 f21 f22
 obtain ⟨c00, c01, c02, z0⟩ := tq0
 obtain ⟨c10, c11, c12, z1⟩ := tq1
 obtain ⟨c20, c21, c22, f20, f21, f22, z2⟩ := tq2
 have hs1 := hb1.size
 go_upto_region 3 with fail
 go_cut [5] (fun s5 wx => s5 = .bool true ∧ Ri3 wx w.heap.size F.1 F.2.1 F.2.2 ∧ Ri3 wx (w.heap.size + 1) G.1 G.2.1 G.2.2 ∧ Wi3 wx (w.heap.size + 1 + 1) X.1 X.2.1 X.2.2 ∧ Below w.heap.size w wx)
 case first =>
  have h1 := trivial
  rename_i K2 h2 h3
  refine region_n0 (by kernel_rfl) (fun j => #[11,12,13,14,4,5].getD j 0) (fun j => Kd.ok ((fun j => match j with | 0 => Kd.val (.agg #[.int .i64 (F.1), .int .i64 (F.2.1), .int .i64 (F.2.2)]) | 1 => Kd.val (.agg #[.int .i64 (G.1), .int .i64 (G.2.1), .int .i64 (G.2.2)]) | 2 => Kd.val (.agg #[.int .i64 (G.1), .int .i64 (-G.2.1), .int .i64 (G.2.2)]) | 3 => Kd.val (.agg #[.int .i64 (X.1), .int .i64 (X.2.1), .int .i64 (X.2.2)]) | 4 => Kd.old (w1.heap.size) [(⟨w.heap.size + 1 + 1, 0, none⟩, .int .i64 (X.1)), (⟨w.heap.size + 1 + 1, 1, none⟩, .int .i64 (X.2.1)), (⟨w.heap.size + 1 + 1, 2, none⟩, .int .i64 (X.2.2))] | 5 => Kd.val (.bool true) | _ => Kd.any : Nat → Kd) j)) (Sy w (w1.heap.size) [(⟨w.heap.size, 0, none⟩, .int .i64 (F.1)), (⟨w.heap.size, 1, none⟩, .int .i64 (F.2.1)), (⟨w.heap.size, 2, none⟩, .int .i64 (F.2.2)), (⟨w.heap.size + 1, 0, none⟩, .int .i64 (G.1)), (⟨w.heap.size + 1, 1, none⟩, .int .i64 (G.2.1)), (⟨w.heap.size + 1, 2, none⟩, .int .i64 (G.2.2))] [⟨w.heap.size + 1 + 1, 0, none⟩, ⟨w.heap.size + 1 + 1, 1, none⟩, ⟨w.heap.size + 1 + 1, 2, none⟩]) (by kernel_rfl) (by kernel_rfl) ?_ ?_ ?_ ?_
  ·intro j hj
   have hj2 : j < 6 := hj
   have : ∀ j, j < 6 → (#[11,12,13,14,4,5] : Array Nat).getD j 0 < 15 := by decide
   exact this j hj2
  ·refine Sy.drew (Sy.mk_of ?_ ?_ ?_ ?_)
   ·first | rfl | (simp; done) | (simp; omega)
   ·intro c hc
    simp only [List.mem_cons, List.not_mem_nil, or_false] at hc
    rcases hc with rfl | rfl | rfl | rfl | rfl | rfl <;> exact byCT
   ·intro p hp
    simp only [List.mem_cons, List.not_mem_nil, or_false] at hp
    rcases hp with rfl | rfl | rfl <;> exact ⟨by first | ((repeat' with_reducible (first | refine ex_set _ ?_ | refine ex_al _ ?_ | exact ⟨_, by assumption⟩)); done) | first | exact ⟨_, by assumption⟩ | assumption | (go_simp; done) | (go_simp; exact ⟨_, rfl⟩), by first | ((repeat' first | with_reducible (first | assumption | refine frz_al _ ?_ ?_ | refine frz_set _ ?_) | omega | (simp; omega)); done) | assumption | (go_simp; done)⟩
   ·(repeat' first | with_reducible (first | exact Below.refl _ _ | assumption | refine gr_alloc ?_ _ | refine below_drewN ?_ _ | refine below_drew ?_ | refine gr_call ?_ (by assumption) | refine Below.setCell ?_ ?_ _) | go_size | omega | (simp; omega))
  ·clear h1 h2 h3
   refine ⟨?r38x0, ?r38x1, ?r38x2, ?r38x3, ?r38x4, ?r38x5, trivial⟩
   all_goals intro _ aq wx Kq hf hS hdep ev1 ev2 hK
   case' r38x0 =>
    have F2 : aq.eval (.tmp 2) = .pointer (some ⟨w.heap.size, 0, none⟩) := hf 2
    have c0 := hS.cells (⟨w.heap.size, 0, none⟩, .int .i64 (F.1)) (by simp)
    have c1 := hS.cells (⟨w.heap.size, 1, none⟩, .int .i64 (F.2.1)) (by simp)
    have c2 := hS.cells (⟨w.heap.size, 2, none⟩, .int .i64 (F.2.2)) (by simp)
   case' r38x1 =>
    have F3 : aq.eval (.tmp 3) = .pointer (some ⟨w.heap.size + 1, 0, none⟩) := hf 3
    have c0 := hS.cells (⟨w.heap.size + 1, 0, none⟩, .int .i64 (G.1)) (by simp)
    have c1 := hS.cells (⟨w.heap.size + 1, 1, none⟩, .int .i64 (G.2.1)) (by simp)
    have c2 := hS.cells (⟨w.heap.size + 1, 2, none⟩, .int .i64 (G.2.2)) (by simp)
   case' r38x2 =>
    have D1 : aq.eval (.tmp 12) = _ := hdep 1
   case' r38x3 =>
    have D0 : aq.eval (.tmp 11) = _ := hdep 0
    have D2 : aq.eval (.tmp 13) = _ := hdep 2
   case' r38x4 =>
    have D3 : aq.eval (.tmp 14) = _ := hdep 3
    have F4 : aq.eval (.tmp 4) = .pointer (some ⟨w.heap.size + 1 + 1, 0, none⟩) := hf 4
    obtain ⟨⟨vx0, cx0⟩, cf0⟩ := hS.free ⟨w.heap.size + 1 + 1, 0, none⟩ (by simp)
    obtain ⟨⟨vx1, cx1⟩, cf1⟩ := hS.free ⟨w.heap.size + 1 + 1, 1, none⟩ (by simp)
    obtain ⟨⟨vx2, cx2⟩, cf2⟩ := hS.free ⟨w.heap.size + 1 + 1, 2, none⟩ (by simp)
   all_goals (clear hf hdep; unfold Oper.wp; generalize Act.eval _ = ev at *; go_simp)
   case r38x2 =>
    refine ((opposite_T G _ (unhide hGb))).mono ?_
    rintro e w2 ⟨rfl, hb⟩
    refine hK _ _ (hS.call hb) ?_ (fun j u _ h => Kd.ok_below hb h)
    rw [if_pos (by rfl)]
    show (_ : Value) = _
    first | rfl | (refine congrArg (Value.int .i64) ?_; first | rfl | exact int_in (by omega) | exact quo_in (by omega) (by omega) (by omega) | exact rem_in (by omega) (by omega) | omega) | (simp; done) | (simp [*]; done)
   case r38x3 =>
    refine ((cmp_rw9 F (inT G) X _ (unhide hF).i (inT_in (unhide hG).i) (unhide hX))).mono ?_
    rintro e w2 ⟨rfl, hb⟩
    refine hK _ _ (hS.call hb) ?_ (fun j u _ h => Kd.ok_below hb h)
    rw [if_pos (by rfl)]
    show (_ : Value) = _
    first | rfl | (refine congrArg (Value.int .i64) ?_; first | rfl | exact int_in (by omega) | exact quo_in (by omega) (by omega) (by omega) | exact rem_in (by omega) (by omega) | omega) | (simp; done) | (simp [*]; done)
   case r38x4 =>
    refine hK undef (setAll (w.heap.size + 1 + 1) 0 [.int .i64 (X.1), .int .i64 (X.2.1), .int .i64 (X.2.2)] wx) (Sy.setAll (by first | omega | (simp; omega) | (simp; done)) (fa (far_blk (by first | (with_reducible assumption) | omega)) (fa (far_blk (by first | (with_reducible assumption) | omega)) (fa (far_blk (by first | (with_reducible assumption) | omega)) (fa (far_blk (by first | (with_reducible assumption) | omega)) (fa (far_blk (by first | (with_reducible assumption) | omega)) (fa (far_blk (by first | (with_reducible assumption) | omega)) (fa0))))))) hS) ?_ (fun j u hj h => ?_)
    ·rw [if_neg (by decide)]
     exact fa ⟨setAll_at (w.heap.size + 1 + 1) [.int .i64 (X.1), .int .i64 (X.2.1), .int .i64 (X.2.2)] 0 wx 0 (show 0 < 3 by decide) ⟨vx0, cx0⟩, (by first | omega | (simp; omega) | (simp; done))⟩ (fa ⟨setAll_at (w.heap.size + 1 + 1) [.int .i64 (X.1), .int .i64 (X.2.1), .int .i64 (X.2.2)] 0 wx 1 (show 1 < 3 by decide) ⟨vx1, cx1⟩, (by first | omega | (simp; omega) | (simp; done))⟩ (fa ⟨setAll_at (w.heap.size + 1 + 1) [.int .i64 (X.1), .int .i64 (X.2.1), .int .i64 (X.2.2)] 0 wx 2 (show 2 < 3 by decide) ⟨vx2, cx2⟩, (by first | omega | (simp; omega) | (simp; done))⟩ (fa0)))
    ·match j, hj with
     | 0, hj | 1, hj | 2, hj | 3, hj | 5, hj => exact (show (u : Value) = _ from h)
     | 4, hj => exact absurd rfl hj
     | j + 6, _ => trivial
   all_goals (refine hK _ _ hS ?_ (fun j u _ h => h); rw [if_pos (by rfl)]; show (_ : Value) = _; (first | rfl | (refine congrArg (Value.int .i64) ?_; first | rfl | exact int_in (by omega) | exact quo_in (by omega) (by omega) (by omega) | exact rem_in (by omega) (by omega) | omega) | (simp; done) | (simp [*]; done)))
  ·intro aq wx hd hw hf hS hg
   have G5 : tau aq 5 = .bool true := hg 5 (by decide)
   have haq : aq = ⟨#[tau aq 0, tau aq 1, tau aq 2, tau aq 3, tau aq 4, tau aq 5, tau aq 6, tau aq 7, tau aq 8, tau aq 9, tau aq 10, tau aq 11, tau aq 12, tau aq 13, tau aq 14], []⟩ := by
    obtain ⟨tq, dq⟩ := aq
    have h5 := arr_eq (show tq.size = 15 from hw)
    have h6 : dq = [] := hd
    subst h6
    exact congrArg (fun z => Act.mk z []) h5
   show K2 aq wx
   rw [haq, hf 0, hf 1, hf 2, hf 3, hf 4, hf 6, hf 7, hf 8, hf 9, hf 10, G5]
   clear haq hf hd hw
   try dsimp only
   refine h3 _ _ ?_
   go_meet
   refine ⟨rfl, Ri3.m ?_ ?_ ?_, Ri3.m ?_ ?_ ?_, Wi3.m (hg 4 (by decide) (_, _) (by simp)).1 (hg 4 (by decide) (_, _) (by simp)).1 (hg 4 (by decide) (_, _) (by simp)).1 ?_ ?_ ?_, hS.below⟩
   all_goals first | exact hS.cells (_, _) (by simp) | exact (hS.free _ (by simp)).2
 try clear c00
 try clear c01
 try clear c02
 try clear c10
 try clear c11
 try clear c12
 try clear c20
 try clear c21
 try clear c22
 try clear f20
 try clear f21
 try clear f22
 obtain ⟨rfl, ⟨c00, c01, c02, z0⟩, ⟨c10, c11, c12, z1⟩, ⟨c20, c21, c22, f20, f21, f22, z2⟩, hb0⟩ := hcut
 go_wp2
 refine bodyPost_ret (v := .tuple #[frm X, .bool true]) (by simp [results, Tryz.results11, go_sem, *]) rfl ?_
 exact ⟨rfl, byGG⟩

set_option maxRecDepth 100000 in
set_option maxHeartbeats 4000000 in
theorem equiv_y {D : Int} (F G X : T3) (w : World) (hF : Frm D F) (hG : Frm D G) (hX : rdT F = X) (hX2 : rdT G = X) : Calls Tryz.prog 12 #[frm F, frm G] w fun e w' => e = .returned (.tuple #[.bool true, .bool true]) ∧ Below w.heap.size w w' := by
 have hF := hide hF
 have hG := hide hG
 have hX := hide hX
 have hX2 := hide hX2
 go_enter Tryz.func12, Tryz.ntmps12
 go_wp2_with fail
 refine (defi_T F _ (unhide hF)).mono ?_
 rintro en w1 ⟨rfl, hb1⟩
 have tq0 := Ri3.c hb1 w.heap.size F.1 F.2.1 F.2.2
 have tq1 := Ri3.c hb1 (w.heap.size + 1) G.1 G.2.1 G.2.2
 try clear c00 c01 c02
 try clear c10 c11 c12
 obtain ⟨c00, c01, c02, z0⟩ := tq0
 obtain ⟨c10, c11, c12, z1⟩ := tq1
 have hs1 := hb1.size
 go_wp2_with fail
 refine (defi_T G _ (unhide hG)).mono ?_
 rintro en w2 ⟨rfl, hb2⟩
 have tq0 := Ri3.c hb2 w.heap.size F.1 F.2.1 F.2.2
 have tq1 := Ri3.c hb2 (w.heap.size + 1) G.1 G.2.1 G.2.2
 try clear c00 c01 c02
 try clear c10 c11 c12
 obtain ⟨c00, c01, c02, z0⟩ := tq0
 obtain ⟨c10, c11, c12, z1⟩ := tq1
 have hs2 := hb2.size
 go_upto_region 3 with fail
 go_cut [4, 5] (fun s4 s5 wx => s4 = .bool true ∧ s5 = .bool true ∧ Ri3 wx w.heap.size F.1 F.2.1 F.2.2 ∧ Ri3 wx (w.heap.size + 1) G.1 G.2.1 G.2.2 ∧ Below w.heap.size w wx)
 case first =>
  have h1 := trivial
  rename_i K2 h2 h3
  refine region_n0 (by kernel_rfl) (fun j => #[14,15,16,17,18,4,5].getD j 0) (fun j => Kd.ok ((fun j => match j with | 0 => Kd.val (.agg #[.int .i64 (F.1), .int .i64 (F.2.1), .int .i64 (F.2.2)]) | 1 => Kd.val (.agg #[.int .i64 (X.1), .int .i64 (X.2.1), .int .i64 (X.2.2)]) | 2 => Kd.val (.agg #[.int .i64 (G.1), .int .i64 (G.2.1), .int .i64 (G.2.2)]) | 3 => Kd.val (.agg #[.int .i64 (X.1), .int .i64 (X.2.1), .int .i64 (X.2.2)]) | 4 => Kd.val (.bool true) | 5 => Kd.val (.bool true) | 6 => Kd.val (.bool true) | _ => Kd.any : Nat → Kd) j)) (Sy w (w2.heap.size) [(⟨w.heap.size, 0, none⟩, .int .i64 (F.1)), (⟨w.heap.size, 1, none⟩, .int .i64 (F.2.1)), (⟨w.heap.size, 2, none⟩, .int .i64 (F.2.2)), (⟨w.heap.size + 1, 0, none⟩, .int .i64 (G.1)), (⟨w.heap.size + 1, 1, none⟩, .int .i64 (G.2.1)), (⟨w.heap.size + 1, 2, none⟩, .int .i64 (G.2.2))] []) (by kernel_rfl) (by kernel_rfl) ?_ ?_ ?_ ?_
  ·intro j hj
   have hj2 : j < 7 := hj
   have : ∀ j, j < 7 → (#[14,15,16,17,18,4,5] : Array Nat).getD j 0 < 19 := by decide
   exact this j hj2
  ·refine Sy.drew (Sy.mk_of ?_ ?_ ?_ ?_)
   ·first | rfl | (simp; done) | (simp; omega)
   ·intro c hc
    simp only [List.mem_cons, List.not_mem_nil, or_false] at hc
    rcases hc with rfl | rfl | rfl | rfl | rfl | rfl <;> exact byCT
   ·intro p hp; cases hp
   ·(repeat' first | with_reducible (first | exact Below.refl _ _ | assumption | refine gr_alloc ?_ _ | refine below_drewN ?_ _ | refine below_drew ?_ | refine gr_call ?_ (by assumption) | refine Below.setCell ?_ ?_ _) | go_size | omega | (simp; omega))
  ·clear h1 h2 h3
   refine ⟨?r39x0, ?r39x1, ?r39x2, ?r39x3, ?r39x4, ?r39x5, ?r39x6, trivial⟩
   all_goals intro _ aq wx Kq hf hS hdep ev1 ev2 hK
   case' r39x0 =>
    have F2 : aq.eval (.tmp 2) = .pointer (some ⟨w.heap.size, 0, none⟩) := hf 2
    have c0 := hS.cells (⟨w.heap.size, 0, none⟩, .int .i64 (F.1)) (by simp)
    have c1 := hS.cells (⟨w.heap.size, 1, none⟩, .int .i64 (F.2.1)) (by simp)
    have c2 := hS.cells (⟨w.heap.size, 2, none⟩, .int .i64 (F.2.2)) (by simp)
   case' r39x1 =>
    have D0 : aq.eval (.tmp 14) = _ := hdep 0
   case' r39x2 =>
    have F3 : aq.eval (.tmp 3) = .pointer (some ⟨w.heap.size + 1, 0, none⟩) := hf 3
    have c0 := hS.cells (⟨w.heap.size + 1, 0, none⟩, .int .i64 (G.1)) (by simp)
    have c1 := hS.cells (⟨w.heap.size + 1, 1, none⟩, .int .i64 (G.2.1)) (by simp)
    have c2 := hS.cells (⟨w.heap.size + 1, 2, none⟩, .int .i64 (G.2.2)) (by simp)
   case' r39x3 =>
    have D2 : aq.eval (.tmp 16) = _ := hdep 2
   case' r39x4 =>
    have D1 : aq.eval (.tmp 15) = _ := hdep 1
    have D3 : aq.eval (.tmp 17) = _ := hdep 3
   case' r39x5 =>
    have D4 : aq.eval (.tmp 18) = _ := hdep 4
   all_goals (clear hf hdep; unfold Oper.wp; generalize Act.eval _ = ev at *; go_simp)
   case r39x1 =>
    refine ((rd_rw9 F X _ (unhide hF).i (unhide hX))).mono ?_
    rintro e w2 ⟨rfl, hb⟩
    refine hK _ _ (hS.call hb) ?_ (fun j u _ h => Kd.ok_below hb h)
    rw [if_pos (by rfl)]
    show (_ : Value) = _
    first | rfl | (refine congrArg (Value.int .i64) ?_; first | rfl | exact int_in (by omega) | exact quo_in (by omega) (by omega) (by omega) | exact rem_in (by omega) (by omega) | omega) | (simp; done) | (simp [*]; done)
   case r39x3 =>
    refine ((rd_rw9 G X _ (unhide hG).i (unhide hX2))).mono ?_
    rintro e w2 ⟨rfl, hb⟩
    refine hK _ _ (hS.call hb) ?_ (fun j u _ h => Kd.ok_below hb h)
    rw [if_pos (by rfl)]
    show (_ : Value) = _
    first | rfl | (refine congrArg (Value.int .i64) ?_; first | rfl | exact int_in (by omega) | exact quo_in (by omega) (by omega) (by omega) | exact rem_in (by omega) (by omega) | omega) | (simp; done) | (simp [*]; done)
   all_goals (refine hK _ _ hS ?_ (fun j u _ h => h); rw [if_pos (by rfl)]; show (_ : Value) = _; (first | rfl | (refine congrArg (Value.int .i64) ?_; first | rfl | exact int_in (by omega) | exact quo_in (by omega) (by omega) (by omega) | exact rem_in (by omega) (by omega) | omega) | (simp; done) | (simp [*]; done)))
  ·intro aq wx hd hw hf hS hg
   have G4 : tau aq 4 = .bool true := hg 5 (by decide)
   have G5 : tau aq 5 = .bool true := hg 6 (by decide)
   have haq : aq = ⟨#[tau aq 0, tau aq 1, tau aq 2, tau aq 3, tau aq 4, tau aq 5, tau aq 6, tau aq 7, tau aq 8, tau aq 9, tau aq 10, tau aq 11, tau aq 12, tau aq 13, tau aq 14, tau aq 15, tau aq 16, tau aq 17, tau aq 18], []⟩ := by
    obtain ⟨tq, dq⟩ := aq
    have h5 := arr_eq (show tq.size = 19 from hw)
    have h6 : dq = [] := hd
    subst h6
    exact congrArg (fun z => Act.mk z []) h5
   show K2 aq wx
   rw [haq, hf 0, hf 1, hf 2, hf 3, hf 6, hf 7, hf 8, hf 9, hf 10, hf 11, hf 12, hf 13, G4, G5]
   clear haq hf hd hw
   try dsimp only
   refine h3 _ _ ?_
   go_meet
   refine ⟨rfl, rfl, Ri3.m ?_ ?_ ?_, Ri3.m ?_ ?_ ?_, hS.below⟩
   all_goals first | exact hS.cells (_, _) (by simp) | exact (hS.free _ (by simp)).2
 try clear c00
 try clear c01
 try clear c02
 try clear c10
 try clear c11
 try clear c12
 obtain ⟨rfl, rfl, ⟨c00, c01, c02, z0⟩, ⟨c10, c11, c12, z1⟩, hb0⟩ := hcut
 go_wp2
 go_ret2
 exact ⟨rfl, byGG⟩
end Go.Proofs.YtihfacmlfelliaaGreat
