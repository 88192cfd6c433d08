/- Powers and composites by name. Halving challenges on both sides. -/
import Derived.Test.YtihfacmlfelliaaGreatDpB
import Derived.Test.YtihfacmlfelliaaGreatGpw
import Derived.Test.YtihfacmlfelliaaGreatPw
namespace Go.Proofs.YtihfacmlfelliaaGreat
open Go.RowKit
set_option linter.unusedVariables false
set_option linter.unusedSimpArgs false
attribute [local go_sem] q2 q3 q4 q5 q6 q7 q8 q9 q10 q11 q12

theorem eq3_res (X Y : T3) (w : World) : (if X.1 = Y.1 then if X.2.1 = Y.2.1 then if X.2.2 = Y.2.2 then Result.ok (Next.value (Value.bool true)) w else Result.ok (Next.value (Value.bool false)) w else Result.ok (Next.value (Value.bool false)) w else Result.ok (Next.value (Value.bool false)) w) = Result.ok (Next.value (Value.bool (eqT X Y))) w := by
 unfold eqT
 by_cases h1 : X.1 = Y.1
 ·by_cases h2 : X.2.1 = Y.2.1
  ·by_cases h3 : X.2.2 = Y.2.2
   ·simp [h1, h2, h3]
   ·simp [h1, h2, h3]
  ·simp [h1, h2]
 ·simp [h1]
theorem pw_rwi {D : Int} (F X : T3) (k : Int) (w : World) (h0 : Frm D F) (h1 : 0 ≤ k) (h2 : k ≤ 1000000) (hX : X = pwD D F k) :
  Calls Tryz.prog 36 #[frm F, .int .i64 k] w fun e w' => e = .returned (frm X) ∧ Below w.heap.size w w' := by
 subst hX; exact powerForm_D F k w h0 h1 h2
theorem pw_rws {D : Int} (F X : T3) (k : Int) (w : World) (h0 : Frm D F) (h1 : 0 ≤ k) (h2 : k ≤ 1000000) (hX : X = pwD D F k) :
  Calls Tryz.prog 49 #[frm F, .int .i64 k] w fun e w' => e = .returned (frm X) ∧ Below w.heap.size w w' := by
 subst hX; exact coPower_D F k w h0 h1 h2
theorem cm_rwi {D : Int} (F G X : T3) (w : World) (h0 : InD D F) (h1 : InD D G) (hX : X = cmp F G) :
  Calls Tryz.prog 30 #[frm F, frm G] w fun e w' => e = .returned (frm X) ∧ Below w.heap.size w w' := by
 subst hX; exact compose_D F G w h0 h1
theorem cm_rws {D : Int} (F G X : T3) (w : World) (h0 : InD D F) (h1 : InD D G) (hX : X = cmp F G) :
  Calls Tryz.prog 43 #[frm F, frm G] w fun e w' => e = .returned (frm X) ∧ Below w.heap.size w w' := by
 subst hX; exact coMul_D F G w h0 h1
theorem rd_rwi {D : Int} (F X : T3) (w : World) (h0 : InD D F) (hX : X = rdT F) :
  Calls Tryz.prog 53 #[frm F] w fun e w' => e = .returned (frm X) ∧ Below w.heap.size w w' := by
 subst hX; exact reduced_D F w h0
theorem rd_rws {D : Int} (F X : T3) (w : World) (h0 : InD D F) (hX : X = rdT F) :
  Calls Tryz.prog 40 #[frm F] w fun e w' => e = .returned (frm X) ∧ Below w.heap.size w w' := by
 subst hX; exact reClass_D F w h0

theorem pm_rwi (t m E : Int) (w : World) (h0 : 0 ≤ t ∧ t ≤ 1000000) (h1 : 1 ≤ m) (h2 : m ≤ 1000000) (hE : E = pmI 2 t m) :
  Calls Tryz.prog 52 #[.int .i64 2, .int .i64 t, .int .i64 m] w fun e w' => e = .returned (.int .i64 E) ∧ w = w' := by
 subst hE; exact power_i 2 t m w (by omega) h0 h1 h2
theorem ch_rxi (F G : T3) (t L : Int) (w : World) (h0 : Frm (dT F) F) (h1 : Frm (dT F) G) (h2 : 0 ≤ t) (h3 : t ≤ 1000000) (hL : L = dpL F G t) :
  Calls Tryz.prog 32 #[frm F, frm G, .int .i64 t] w fun e w' => e = .returned (.int .i64 L) ∧ Below w.heap.size w w' := by
 subst hL; exact ch_rwi F G t w h0 h1 h2 h3

theorem pm_rws (t m E : Int) (w : World) (h0 : 0 ≤ t ∧ t ≤ 1000000) (h1 : 1 ≤ m) (h2 : m ≤ 1000000) (hE : E = pmI 2 t m) :
  Calls Tryz.prog 59 #[.int .i64 2, .int .i64 t, .int .i64 m] w fun e w' => e = .returned (.int .i64 E) ∧ Below w.heap.size w w' := by
 subst hE; exact nuPower_i 2 t m w (by omega) h0 h1 h2
theorem ch_rxs (F G : T3) (t L : Int) (w : World) (h0 : Frm (dT F) F) (h1 : Frm (dT F) G) (h2 : 0 ≤ t) (h3 : t ≤ 1000000) (hL : L = dpL F G t) :
  Calls Tryz.prog 45 #[frm F, frm G, .int .i64 t] w fun e w' => e = .returned (.int .i64 L) ∧ Below w.heap.size w w' := by
 subst hL; exact ch_rws F G t w h0 h1 h2 h3

end Go.Proofs.YtihfacmlfelliaaGreat
namespace Go.Proofs.YtihfacmlfelliaaGreat
open Go.RowKit
set_option linter.unusedVariables false
set_option linter.unusedSimpArgs false
attribute [local go_sem] q2 q3 q4 q5 q6 q7 q8 q9 q10 q11 q12

set_option maxRecDepth 100000 in
set_option maxHeartbeats 16000000 in
theorem halvingChallenge_D {D : Int} (F G M : T3) (k : Int) (w : World) (h0 : Frm D F) (h1 : Frm D G) (h2 : Frm D M) (h3 : 0 ≤ k) (h4 : k ≤ 1000000) :
  Calls Tryz.prog 95 #[frm F, frm G, frm M, .int .i64 k] w fun e w' => e = .returned (.int .i64 (khI D (keyT F) (keyT G) (keyT M) k)) ∧ Below w.heap.size w w' := by
 have kb1 := key_bd h0.i.cl
 have kb2 := key_bd h1.i.cl
 have kb3 := key_bd h2.i.cl
 have hdd := h0.dd
 have hix := khX_bd D (keyT F) (keyT G) (keyT M) k
 have HX : (-D + 3 * keyT F + 5 * keyT G + 7 * keyT M + k).tmod 13 = khX D (keyT F) (keyT G) (keyT M) k := by
  unfold khX; rw [rem_in (by omega) (by omega)]; congr 1; omega
 have HY : IntKind.i64.wrap (2 + khX D (keyT F) (keyT G) (keyT M) k) = khI D (keyT F) (keyT G) (keyT M) k := int_in (by omega)
 go_enter Tryz.func95, Tryz.ntmps95
 go_upto_region 1 with fail
 go_cut [8] (fun s8 wx => s8 = .int .i64 (khI D (keyT F) (keyT G) (keyT M) k) ∧ Ri3 wx w.heap.size F.1 F.2.1 F.2.2 ∧ Ri3 wx (w.heap.size + 1) G.1 G.2.1 G.2.2 ∧ Ri3 wx (w.heap.size + 1 + 1) M.1 M.2.1 M.2.2 ∧ Below w.heap.size w wx)
 case first =>
  have h1 := trivial
  rename_i K2 h2 h3
  refine region_n0 (by kernel_rfl) (fun j => #[9,10,11,12,13,14,15,16,17,18,19,20,21,22,23,24,25,26,8].getD j 0) (fun j => Kd.ok ((fun j => match j with | 0 => Kd.val (.agg #[.int .i64 (F.1), .int .i64 (F.2.1), .int .i64 (F.2.2)]) | 1 => Kd.val (.int .i64 (keyT F)) | 2 => Kd.val (.int .i64 (3 * (keyT F))) | 3 => Kd.val (.agg #[.int .i64 (G.1), .int .i64 (G.2.1), .int .i64 (G.2.2)]) | 4 => Kd.val (.int .i64 (keyT G)) | 5 => Kd.val (.int .i64 (5 * (keyT G))) | 6 => Kd.val (.int .i64 ((3 * (keyT F)) + (5 * (keyT G)))) | 7 => Kd.val (.agg #[.int .i64 (M.1), .int .i64 (M.2.1), .int .i64 (M.2.2)]) | 8 => Kd.val (.int .i64 (keyT M)) | 9 => Kd.val (.int .i64 (7 * (keyT M))) | 10 => Kd.val (.int .i64 (((3 * (keyT F)) + (5 * (keyT G))) + (7 * (keyT M)))) | 11 => Kd.val (.int .i64 k) | 12 => Kd.val (.int .i64 ((((3 * (keyT F)) + (5 * (keyT G))) + (7 * (keyT M))) + k)) | 13 => Kd.val (.agg #[.int .i64 (F.1), .int .i64 (F.2.1), .int .i64 (F.2.2)]) | 14 => Kd.val (.int .i64 D) | 15 => Kd.val (.int .i64 (((((3 * (keyT F)) + (5 * (keyT G))) + (7 * (keyT M))) + k) - D)) | 16 => Kd.val (.int .i64 (khX D (keyT F) (keyT G) (keyT M) k)) | 17 => Kd.val (.int .i64 (khI D (keyT F) (keyT G) (keyT M) k)) | 18 => Kd.val (.int .i64 (khI D (keyT F) (keyT G) (keyT M) k)) | _ => Kd.any : Nat → Kd) j)) (Sy w (w.heap.size + 1 + 1 + 1) [(⟨w.heap.size, 0, none⟩, .int .i64 (F.1)), (⟨w.heap.size, 1, none⟩, .int .i64 (F.2.1)), (⟨w.heap.size, 2, none⟩, .int .i64 (F.2.2)), (⟨w.heap.size + 1, 0, none⟩, .int .i64 (G.1)), (⟨w.heap.size + 1, 1, none⟩, .int .i64 (G.2.1)), (⟨w.heap.size + 1, 2, none⟩, .int .i64 (G.2.2)), (⟨w.heap.size + 1 + 1, 0, none⟩, .int .i64 (M.1)), (⟨w.heap.size + 1 + 1, 1, none⟩, .int .i64 (M.2.1)), (⟨w.heap.size + 1 + 1, 2, none⟩, .int .i64 (M.2.2))] []) (by kernel_rfl) (by kernel_rfl) ?_ ?_ ?_ ?_
  ·intro j hj
   have hj2 : j < 19 := hj
   have : ∀ j, j < 19 → (#[9,10,11,12,13,14,15,16,17,18,19,20,21,22,23,24,25,26,8] : Array Nat).getD j 0 < 27 := by decide
   exact this j hj2
  ·refine Sy.drew (Sy.mk_of ?_ ?_ ?_ ?_)
   ·first | rfl | (simp; done) | (simp; omega)
   ·intro c hc
    simp only [List.mem_cons, List.not_mem_nil, or_false] at hc
    rcases hc with rfl | rfl | rfl | rfl | rfl | rfl | rfl | rfl | rfl <;> exact byCT
   ·intro p hp; cases hp
   ·(repeat' first | with_reducible (first | exact Below.refl _ _ | assumption | refine gr_alloc ?_ _ | refine below_drewN ?_ _ | refine below_drew ?_ | refine gr_call ?_ (by assumption) | refine Below.setCell ?_ ?_ _) | go_size | omega | (simp; omega))
  ·clear h1 h2 h3
   refine ⟨?r33x0, ?r33x1, ?r33x2, ?r33x3, ?r33x4, ?r33x5, ?r33x6, ?r33x7, ?r33x8, ?r33x9, ?r33x10, ?r33x11, ?r33x12, ?r33x13, ?r33x14, ?r33x15, ?r33x16, ?r33x17, ?r33x18, trivial⟩
   all_goals intro _ aq wx Kq hf hS hdep ev1 ev2 hK
   case' r33x0 =>
    have F4 : aq.eval (.tmp 4) = .pointer (some ⟨w.heap.size, 0, none⟩) := hf 4
    have c0 := hS.cells (⟨w.heap.size, 0, none⟩, .int .i64 (F.1)) (by simp)
    have c1 := hS.cells (⟨w.heap.size, 1, none⟩, .int .i64 (F.2.1)) (by simp)
    have c2 := hS.cells (⟨w.heap.size, 2, none⟩, .int .i64 (F.2.2)) (by simp)
   case' r33x1 =>
    have D0 : aq.eval (.tmp 9) = _ := hdep 0
   case' r33x2 =>
    have D1 : aq.eval (.tmp 10) = _ := hdep 1
   case' r33x3 =>
    have F5 : aq.eval (.tmp 5) = .pointer (some ⟨w.heap.size + 1, 0, none⟩) := hf 5
    have c0 := hS.cells (⟨w.heap.size + 1, 0, none⟩, .int .i64 (G.1)) (by simp)
    have c1 := hS.cells (⟨w.heap.size + 1, 1, none⟩, .int .i64 (G.2.1)) (by simp)
    have c2 := hS.cells (⟨w.heap.size + 1, 2, none⟩, .int .i64 (G.2.2)) (by simp)
   case' r33x4 =>
    have D3 : aq.eval (.tmp 12) = _ := hdep 3
   case' r33x5 =>
    have D4 : aq.eval (.tmp 13) = _ := hdep 4
   case' r33x6 =>
    have D2 : aq.eval (.tmp 11) = _ := hdep 2
    have D5 : aq.eval (.tmp 14) = _ := hdep 5
   case' r33x7 =>
    have F6 : aq.eval (.tmp 6) = .pointer (some ⟨w.heap.size + 1 + 1, 0, none⟩) := hf 6
    have c0 := hS.cells (⟨w.heap.size + 1 + 1, 0, none⟩, .int .i64 (M.1)) (by simp)
    have c1 := hS.cells (⟨w.heap.size + 1 + 1, 1, none⟩, .int .i64 (M.2.1)) (by simp)
    have c2 := hS.cells (⟨w.heap.size + 1 + 1, 2, none⟩, .int .i64 (M.2.2)) (by simp)
   case' r33x8 =>
    have D7 : aq.eval (.tmp 16) = _ := hdep 7
   case' r33x9 =>
    have D8 : aq.eval (.tmp 17) = _ := hdep 8
   case' r33x10 =>
    have D6 : aq.eval (.tmp 15) = _ := hdep 6
    have D9 : aq.eval (.tmp 18) = _ := hdep 9
   case' r33x11 =>
    have F3 : aq.eval (.tmp 3) = .int .i64 k := hf 3
   case' r33x12 =>
    have D10 : aq.eval (.tmp 19) = _ := hdep 10
    have D11 : aq.eval (.tmp 20) = _ := hdep 11
   case' r33x13 =>
    have F4 : aq.eval (.tmp 4) = .pointer (some ⟨w.heap.size, 0, none⟩) := hf 4
    have c0 := hS.cells (⟨w.heap.size, 0, none⟩, .int .i64 (F.1)) (by simp)
    have c1 := hS.cells (⟨w.heap.size, 1, none⟩, .int .i64 (F.2.1)) (by simp)
    have c2 := hS.cells (⟨w.heap.size, 2, none⟩, .int .i64 (F.2.2)) (by simp)
   case' r33x14 =>
    have D13 : aq.eval (.tmp 22) = _ := hdep 13
   case' r33x15 =>
    have D12 : aq.eval (.tmp 21) = _ := hdep 12
    have D14 : aq.eval (.tmp 23) = _ := hdep 14
   case' r33x16 =>
    have D15 : aq.eval (.tmp 24) = _ := hdep 15
   case' r33x17 =>
    have D16 : aq.eval (.tmp 25) = _ := hdep 16
   case' r33x18 =>
    have D17 : aq.eval (.tmp 26) = _ := hdep 17
   all_goals (clear hf hdep; unfold Oper.wp; generalize Act.eval _ = ev at *; go_simp)
   case r33x1 =>
    refine ((key_D F _ h0.i)).mono ?_
    rintro e w2 ⟨rfl, hb⟩
    refine hK _ _ (hS.call hb) ?_ (fun j u _ h => Kd.ok_below hb h)
    rw [if_pos (by rfl)]
    show (_ : Value) = _
    first | rfl | (refine congrArg (Value.int .i64) ?_; first | rfl | exact int_in (by omega) | exact quo_in (by omega) (by omega) (by omega) | exact rem_in (by omega) (by omega) | omega | exact HX | exact HY) | (simp; done) | (simp [*]; done)
   case r33x4 =>
    refine ((key_D G _ h1.i)).mono ?_
    rintro e w2 ⟨rfl, hb⟩
    refine hK _ _ (hS.call hb) ?_ (fun j u _ h => Kd.ok_below hb h)
    rw [if_pos (by rfl)]
    show (_ : Value) = _
    first | rfl | (refine congrArg (Value.int .i64) ?_; first | rfl | exact int_in (by omega) | exact quo_in (by omega) (by omega) (by omega) | exact rem_in (by omega) (by omega) | omega | exact HX | exact HY) | (simp; done) | (simp [*]; done)
   case r33x8 =>
    refine ((key_D M _ h2.i)).mono ?_
    rintro e w2 ⟨rfl, hb⟩
    refine hK _ _ (hS.call hb) ?_ (fun j u _ h => Kd.ok_below hb h)
    rw [if_pos (by rfl)]
    show (_ : Value) = _
    first | rfl | (refine congrArg (Value.int .i64) ?_; first | rfl | exact int_in (by omega) | exact quo_in (by omega) (by omega) (by omega) | exact rem_in (by omega) (by omega) | omega | exact HX | exact HY) | (simp; done) | (simp [*]; done)
   case r33x14 =>
    refine ((disc_D F _ h0.i h0.f)).mono ?_
    rintro e w2 ⟨rfl, hb⟩
    refine hK _ _ (hS.call hb) ?_ (fun j u _ h => Kd.ok_below hb h)
    rw [if_pos (by rfl)]
    show (_ : Value) = _
    first | rfl | (refine congrArg (Value.int .i64) ?_; first | rfl | exact int_in (by omega) | exact quo_in (by omega) (by omega) (by omega) | exact rem_in (by omega) (by omega) | omega | exact HX | exact HY) | (simp; done) | (simp [*]; done)
   case r33x16 =>
    refine ((mod_a (3 * keyT F + 5 * keyT G + 7 * keyT M + k - D) 13 _ (by omega) (by omega) (by omega))).mono ?_
    rintro e w2 ⟨rfl, rfl⟩
    refine hK _ _ (hS.call (below_refl_self _)) ?_ (fun j u _ h => Kd.ok_below (below_refl_self _) h)
    rw [if_pos (by rfl)]
    show (_ : Value) = _
    first | rfl | (refine congrArg (Value.int .i64) ?_; first | rfl | exact int_in (by omega) | exact quo_in (by omega) (by omega) (by omega) | exact rem_in (by omega) (by omega) | omega | exact HX | exact HY) | (simp; done) | (simp [*]; done)
   all_goals (refine hK _ _ hS ?_ (fun j u _ h => h); rw [if_pos (by rfl)]; show (_ : Value) = _; (first | rfl | (refine congrArg (Value.int .i64) ?_; first | rfl | exact int_in (by omega) | exact quo_in (by omega) (by omega) (by omega) | exact rem_in (by omega) (by omega) | omega | exact HX | exact HY) | (simp; done) | (simp [*]; done)))
  ·intro aq wx hd hw hf hS hg
   have G8 : tau aq 8 = .int .i64 (khI D (keyT F) (keyT G) (keyT M) k) := hg 18 (by decide)
   have haq : aq = ⟨#[tau aq 0, tau aq 1, tau aq 2, tau aq 3, tau aq 4, tau aq 5, tau aq 6, tau aq 7, tau aq 8, tau aq 9, tau aq 10, tau aq 11, tau aq 12, tau aq 13, tau aq 14, tau aq 15, tau aq 16, tau aq 17, tau aq 18, tau aq 19, tau aq 20, tau aq 21, tau aq 22, tau aq 23, tau aq 24, tau aq 25, tau aq 26], []⟩ := by
    obtain ⟨tq, dq⟩ := aq
    have h5 := arr_eq (show tq.size = 27 from hw)
    have h6 : dq = [] := hd
    subst h6
    exact congrArg (fun z => Act.mk z []) h5
   show K2 aq wx
   rw [haq, hf 0, hf 1, hf 2, hf 3, hf 4, hf 5, hf 6, hf 7, G8]
   clear haq hf hd hw
   try dsimp only
   refine h3 _ _ ?_
   go_meet
   refine ⟨rfl, Ri3.m ?_ ?_ ?_, Ri3.m ?_ ?_ ?_, Ri3.m ?_ ?_ ?_, hS.below⟩
   all_goals first | exact hS.cells (_, _) (by simp) | exact (hS.free _ (by simp)).2
 obtain ⟨rfl, ⟨c00, c01, c02, z0⟩, ⟨c10, c11, c12, z1⟩, ⟨c20, c21, c22, z2⟩, hb0⟩ := hcut
 go_wp2
 refine bodyPost_ret (v := .int .i64 (khI D (keyT F) (keyT G) (keyT M) k)) (by simp [results, Tryz.results95, go_sem, *]) rfl ?_
 exact ⟨rfl, hb0⟩

set_option maxRecDepth 100000 in
set_option maxHeartbeats 16000000 in
theorem dlHalf_D {D : Int} (F G M : T3) (k : Int) (w : World) (h0 : Frm D F) (h1 : Frm D G) (h2 : Frm D M) (h3 : 0 ≤ k) (h4 : k ≤ 1000000) :
  Calls Tryz.prog 96 #[frm F, frm G, frm M, .int .i64 k] w fun e w' => e = .returned (.int .i64 (khI D (keyT F) (keyT G) (keyT M) k)) ∧ Below w.heap.size w w' := by
 have kb1 := key_bd h0.i.cl
 have kb2 := key_bd h1.i.cl
 have kb3 := key_bd h2.i.cl
 have hdd := h0.dd
 have hix := khX_bd D (keyT F) (keyT G) (keyT M) k
 have HX : (-D + 3 * keyT F + 5 * keyT G + 7 * keyT M + k).tmod 13 = khX D (keyT F) (keyT G) (keyT M) k := by
  unfold khX; rw [rem_in (by omega) (by omega)]; congr 1; omega
 have HY : IntKind.i64.wrap (2 + khX D (keyT F) (keyT G) (keyT M) k) = khI D (keyT F) (keyT G) (keyT M) k := int_in (by omega)
 go_enter Tryz.func96, Tryz.ntmps96
 go_upto_region 1 with fail
 go_cut [8] (fun s8 wx => s8 = .int .i64 (khI D (keyT F) (keyT G) (keyT M) k) ∧ Ri3 wx w.heap.size F.1 F.2.1 F.2.2 ∧ Ri3 wx (w.heap.size + 1) G.1 G.2.1 G.2.2 ∧ Ri3 wx (w.heap.size + 1 + 1) M.1 M.2.1 M.2.2 ∧ Below w.heap.size w wx)
 case first =>
  have h1 := trivial
  rename_i K2 h2 h3
  refine region_n0 (by kernel_rfl) (fun j => #[9,10,11,12,13,14,15,16,17,18,19,20,21,22,23,24,25,26,27,8].getD j 0) (fun j => Kd.ok ((fun j => match j with | 0 => Kd.val (.agg #[.int .i64 (F.1), .int .i64 (F.2.1), .int .i64 (F.2.2)]) | 1 => Kd.val (.int .i64 D) | 2 => Kd.val (.int .i64 (-D)) | 3 => Kd.val (.agg #[.int .i64 (F.1), .int .i64 (F.2.1), .int .i64 (F.2.2)]) | 4 => Kd.val (.int .i64 (keyT F)) | 5 => Kd.val (.int .i64 (3 * (keyT F))) | 6 => Kd.val (.int .i64 ((-D) + (3 * (keyT F)))) | 7 => Kd.val (.agg #[.int .i64 (G.1), .int .i64 (G.2.1), .int .i64 (G.2.2)]) | 8 => Kd.val (.int .i64 (keyT G)) | 9 => Kd.val (.int .i64 (5 * (keyT G))) | 10 => Kd.val (.int .i64 (((-D) + (3 * (keyT F))) + (5 * (keyT G)))) | 11 => Kd.val (.agg #[.int .i64 (M.1), .int .i64 (M.2.1), .int .i64 (M.2.2)]) | 12 => Kd.val (.int .i64 (keyT M)) | 13 => Kd.val (.int .i64 (7 * (keyT M))) | 14 => Kd.val (.int .i64 ((((-D) + (3 * (keyT F))) + (5 * (keyT G))) + (7 * (keyT M)))) | 15 => Kd.val (.int .i64 k) | 16 => Kd.val (.int .i64 (((((-D) + (3 * (keyT F))) + (5 * (keyT G))) + (7 * (keyT M))) + k)) | 17 => Kd.val (.int .i64 (khX D (keyT F) (keyT G) (keyT M) k)) | 18 => Kd.val (.int .i64 (khI D (keyT F) (keyT G) (keyT M) k)) | 19 => Kd.val (.int .i64 (khI D (keyT F) (keyT G) (keyT M) k)) | _ => Kd.any : Nat → Kd) j)) (Sy w (w.heap.size + 1 + 1 + 1) [(⟨w.heap.size, 0, none⟩, .int .i64 (F.1)), (⟨w.heap.size, 1, none⟩, .int .i64 (F.2.1)), (⟨w.heap.size, 2, none⟩, .int .i64 (F.2.2)), (⟨w.heap.size + 1, 0, none⟩, .int .i64 (G.1)), (⟨w.heap.size + 1, 1, none⟩, .int .i64 (G.2.1)), (⟨w.heap.size + 1, 2, none⟩, .int .i64 (G.2.2)), (⟨w.heap.size + 1 + 1, 0, none⟩, .int .i64 (M.1)), (⟨w.heap.size + 1 + 1, 1, none⟩, .int .i64 (M.2.1)), (⟨w.heap.size + 1 + 1, 2, none⟩, .int .i64 (M.2.2))] []) (by kernel_rfl) (by kernel_rfl) ?_ ?_ ?_ ?_
  ·intro j hj
   have hj2 : j < 20 := hj
   have : ∀ j, j < 20 → (#[9,10,11,12,13,14,15,16,17,18,19,20,21,22,23,24,25,26,27,8] : Array Nat).getD j 0 < 28 := by decide
   exact this j hj2
  ·refine Sy.drew (Sy.mk_of ?_ ?_ ?_ ?_)
   ·first | rfl | (simp; done) | (simp; omega)
   ·intro c hc
    simp only [List.mem_cons, List.not_mem_nil, or_false] at hc
    rcases hc with rfl | rfl | rfl | rfl | rfl | rfl | rfl | rfl | rfl <;> exact byCT
   ·intro p hp; cases hp
   ·(repeat' first | with_reducible (first | exact Below.refl _ _ | assumption | refine gr_alloc ?_ _ | refine below_drewN ?_ _ | refine below_drew ?_ | refine gr_call ?_ (by assumption) | refine Below.setCell ?_ ?_ _) | go_size | omega | (simp; omega))
  ·clear h1 h2 h3
   refine ⟨?r34x0, ?r34x1, ?r34x2, ?r34x3, ?r34x4, ?r34x5, ?r34x6, ?r34x7, ?r34x8, ?r34x9, ?r34x10, ?r34x11, ?r34x12, ?r34x13, ?r34x14, ?r34x15, ?r34x16, ?r34x17, ?r34x18, ?r34x19, trivial⟩
   all_goals intro _ aq wx Kq hf hS hdep ev1 ev2 hK
   case' r34x0 =>
    have F4 : aq.eval (.tmp 4) = .pointer (some ⟨w.heap.size, 0, none⟩) := hf 4
    have c0 := hS.cells (⟨w.heap.size, 0, none⟩, .int .i64 (F.1)) (by simp)
    have c1 := hS.cells (⟨w.heap.size, 1, none⟩, .int .i64 (F.2.1)) (by simp)
    have c2 := hS.cells (⟨w.heap.size, 2, none⟩, .int .i64 (F.2.2)) (by simp)
   case' r34x1 =>
    have D0 : aq.eval (.tmp 9) = _ := hdep 0
   case' r34x2 =>
    have D1 : aq.eval (.tmp 10) = _ := hdep 1
   case' r34x3 =>
    have F4 : aq.eval (.tmp 4) = .pointer (some ⟨w.heap.size, 0, none⟩) := hf 4
    have c0 := hS.cells (⟨w.heap.size, 0, none⟩, .int .i64 (F.1)) (by simp)
    have c1 := hS.cells (⟨w.heap.size, 1, none⟩, .int .i64 (F.2.1)) (by simp)
    have c2 := hS.cells (⟨w.heap.size, 2, none⟩, .int .i64 (F.2.2)) (by simp)
   case' r34x4 =>
    have D3 : aq.eval (.tmp 12) = _ := hdep 3
   case' r34x5 =>
    have D4 : aq.eval (.tmp 13) = _ := hdep 4
   case' r34x6 =>
    have D2 : aq.eval (.tmp 11) = _ := hdep 2
    have D5 : aq.eval (.tmp 14) = _ := hdep 5
   case' r34x7 =>
    have F5 : aq.eval (.tmp 5) = .pointer (some ⟨w.heap.size + 1, 0, none⟩) := hf 5
    have c0 := hS.cells (⟨w.heap.size + 1, 0, none⟩, .int .i64 (G.1)) (by simp)
    have c1 := hS.cells (⟨w.heap.size + 1, 1, none⟩, .int .i64 (G.2.1)) (by simp)
    have c2 := hS.cells (⟨w.heap.size + 1, 2, none⟩, .int .i64 (G.2.2)) (by simp)
   case' r34x8 =>
    have D7 : aq.eval (.tmp 16) = _ := hdep 7
   case' r34x9 =>
    have D8 : aq.eval (.tmp 17) = _ := hdep 8
   case' r34x10 =>
    have D6 : aq.eval (.tmp 15) = _ := hdep 6
    have D9 : aq.eval (.tmp 18) = _ := hdep 9
   case' r34x11 =>
    have F6 : aq.eval (.tmp 6) = .pointer (some ⟨w.heap.size + 1 + 1, 0, none⟩) := hf 6
    have c0 := hS.cells (⟨w.heap.size + 1 + 1, 0, none⟩, .int .i64 (M.1)) (by simp)
    have c1 := hS.cells (⟨w.heap.size + 1 + 1, 1, none⟩, .int .i64 (M.2.1)) (by simp)
    have c2 := hS.cells (⟨w.heap.size + 1 + 1, 2, none⟩, .int .i64 (M.2.2)) (by simp)
   case' r34x12 =>
    have D11 : aq.eval (.tmp 20) = _ := hdep 11
   case' r34x13 =>
    have D12 : aq.eval (.tmp 21) = _ := hdep 12
   case' r34x14 =>
    have D10 : aq.eval (.tmp 19) = _ := hdep 10
    have D13 : aq.eval (.tmp 22) = _ := hdep 13
   case' r34x15 =>
    have F3 : aq.eval (.tmp 3) = .int .i64 k := hf 3
   case' r34x16 =>
    have D14 : aq.eval (.tmp 23) = _ := hdep 14
    have D15 : aq.eval (.tmp 24) = _ := hdep 15
   case' r34x17 =>
    have D16 : aq.eval (.tmp 25) = _ := hdep 16
   case' r34x18 =>
    have D17 : aq.eval (.tmp 26) = _ := hdep 17
   case' r34x19 =>
    have D18 : aq.eval (.tmp 27) = _ := hdep 18
   all_goals (clear hf hdep; unfold Oper.wp; generalize Act.eval _ = ev at *; go_simp)
   case r34x1 =>
    refine ((foDisc_D F _ h0.i h0.f)).mono ?_
    rintro e w2 ⟨rfl, hb⟩
    refine hK _ _ (hS.call hb) ?_ (fun j u _ h => Kd.ok_below hb h)
    rw [if_pos (by rfl)]
    show (_ : Value) = _
    first | rfl | (refine congrArg (Value.int .i64) ?_; first | rfl | exact int_in (by omega) | exact quo_in (by omega) (by omega) (by omega) | exact rem_in (by omega) (by omega) | omega | exact HX | exact HY) | (simp; done) | (simp [*]; done)
   case r34x4 =>
    refine ((dlKey_D F _ h0.i)).mono ?_
    rintro e w2 ⟨rfl, hb⟩
    refine hK _ _ (hS.call hb) ?_ (fun j u _ h => Kd.ok_below hb h)
    rw [if_pos (by rfl)]
    show (_ : Value) = _
    first | rfl | (refine congrArg (Value.int .i64) ?_; first | rfl | exact int_in (by omega) | exact quo_in (by omega) (by omega) (by omega) | exact rem_in (by omega) (by omega) | omega | exact HX | exact HY) | (simp; done) | (simp [*]; done)
   case r34x8 =>
    refine ((dlKey_D G _ h1.i)).mono ?_
    rintro e w2 ⟨rfl, hb⟩
    refine hK _ _ (hS.call hb) ?_ (fun j u _ h => Kd.ok_below hb h)
    rw [if_pos (by rfl)]
    show (_ : Value) = _
    first | rfl | (refine congrArg (Value.int .i64) ?_; first | rfl | exact int_in (by omega) | exact quo_in (by omega) (by omega) (by omega) | exact rem_in (by omega) (by omega) | omega | exact HX | exact HY) | (simp; done) | (simp [*]; done)
   case r34x12 =>
    refine ((dlKey_D M _ h2.i)).mono ?_
    rintro e w2 ⟨rfl, hb⟩
    refine hK _ _ (hS.call hb) ?_ (fun j u _ h => Kd.ok_below hb h)
    rw [if_pos (by rfl)]
    show (_ : Value) = _
    first | rfl | (refine congrArg (Value.int .i64) ?_; first | rfl | exact int_in (by omega) | exact quo_in (by omega) (by omega) (by omega) | exact rem_in (by omega) (by omega) | omega | exact HX | exact HY) | (simp; done) | (simp [*]; done)
   case' r34x17 =>
    try rw [if_neg (by omega), Oper.upon_value]
   all_goals (refine hK _ _ hS ?_ (fun j u _ h => h); rw [if_pos (by rfl)]; show (_ : Value) = _; (first | rfl | (refine congrArg (Value.int .i64) ?_; first | rfl | exact int_in (by omega) | exact quo_in (by omega) (by omega) (by omega) | exact rem_in (by omega) (by omega) | omega | exact HX | exact HY) | (simp; done) | (simp [*]; done)))
  ·intro aq wx hd hw hf hS hg
   have G8 : tau aq 8 = .int .i64 (khI D (keyT F) (keyT G) (keyT M) k) := hg 19 (by decide)
   have haq : aq = ⟨#[tau aq 0, tau aq 1, tau aq 2, tau aq 3, tau aq 4, tau aq 5, tau aq 6, tau aq 7, tau aq 8, tau aq 9, tau aq 10, tau aq 11, tau aq 12, tau aq 13, tau aq 14, tau aq 15, tau aq 16, tau aq 17, tau aq 18, tau aq 19, tau aq 20, tau aq 21, tau aq 22, tau aq 23, tau aq 24, tau aq 25, tau aq 26, tau aq 27], []⟩ := by
    obtain ⟨tq, dq⟩ := aq
    have h5 := arr_eq (show tq.size = 28 from hw)
    have h6 : dq = [] := hd
    subst h6
    exact congrArg (fun z => Act.mk z []) h5
   show K2 aq wx
   rw [haq, hf 0, hf 1, hf 2, hf 3, hf 4, hf 5, hf 6, hf 7, G8]
   clear haq hf hd hw
   try dsimp only
   refine h3 _ _ ?_
   go_meet
   refine ⟨rfl, Ri3.m ?_ ?_ ?_, Ri3.m ?_ ?_ ?_, Ri3.m ?_ ?_ ?_, hS.below⟩
   all_goals first | exact hS.cells (_, _) (by simp) | exact (hS.free _ (by simp)).2
 obtain ⟨rfl, ⟨c00, c01, c02, z0⟩, ⟨c10, c11, c12, z1⟩, ⟨c20, c21, c22, z2⟩, hb0⟩ := hcut
 go_wp2
 refine bodyPost_ret (v := .int .i64 (khI D (keyT F) (keyT G) (keyT M) k)) (by simp [results, Tryz.results96, go_sem, *]) rfl ?_
 exact ⟨rfl, hb0⟩

end Go.Proofs.YtihfacmlfelliaaGreat
