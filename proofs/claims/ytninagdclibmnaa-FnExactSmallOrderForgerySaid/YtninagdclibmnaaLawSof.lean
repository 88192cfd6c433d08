/-
  The law of SmallOrderForgery.
-/
import Derived.Test.YtninagdclibmnaaSofI
import Derived.Test.YtninagdclibmnaaSofS
import Derived.Test.YtninagdclibmnaaFormS
import Derived.Test.YtninagdclibmnaaTo
import Derived.Test.YtninagdclibmnaaRuleP
namespace Go.Proofs.Ytninagdclibmnaa
open Go.RowKit
set_option linter.unusedVariables false
set_option linter.unusedSimpArgs false
attribute [local go_sem] q2 q3 q4 q5 q6 q7 q8 q9 q10 q11 q12

theorem lso_s (F W X Y : T3) (t : Int) (b : Bool) (w : World)  (hX : soX F t W = X) (hY : soY F t W = Y) (hb : soB F t W = b) : Calls Try.prog 39 #[frm F, .int .i64 t, frm W] w fun e w' => e = .returned (.tuple #[frm X, frm Y, .bool b]) ∧ Below w.heap.size w w' := by
  subst hX hY hb; exact specSmallOrderForgery F t W w
theorem lso_i (F W X Y : T3) (t : Int) (b : Bool) (w : World) (i0 : I64T F) (i1 : I64T W) (hX : soX F t W = X) (hY : soY F t W = Y) (hb : soB F t W = b) : Calls Try.prog 40 #[frm F, .int .i64 t, frm W] w fun e w' => e = .returned (.tuple #[frm X, frm Y, .bool b]) ∧ Below w.heap.size w w' := by
  subst hX hY hb; exact implSmallOrderForgery F t W w i0 i1
set_option maxRecDepth 100000 in
set_option maxHeartbeats 4000000 in
theorem lawSmallOrderForgery (F : T3) (t : Int) (W : T3) (w : World) (i0 : I64T F) (i1 : I64T W) : Calls Try.prog 11 #[frm F, .int .i64 t, frm W] w fun e w' => e = .returned (.bool true) ∧ Below w.heap.size w w' := by
  obtain ⟨X, hX⟩ : ∃ X, soX F t W = X := ⟨_, rfl⟩
  obtain ⟨Y, hY⟩ : ∃ Y, soY F t W = Y := ⟨_, rfl⟩
  obtain ⟨b, hb⟩ : ∃ b, soB F t W = b := ⟨_, rfl⟩
  replace hX := hide hX
  replace hY := hide hY
  replace hb := hide hb
  go_enter Try.func11, Try.ntmps11
  go_upto_region 1 with fail
  go_cut [7, 8, 9, 10, 11] (fun s7 s8 s9 s10 s11 wx => ∃ gs0 gs1 : Nat, s7 = .pointer (some ⟨gs0, 0, none⟩) ∧ s8 = .pointer (some ⟨gs1, 0, none⟩) ∧ s9 = .bool b ∧ s10 = undef ∧ s11 = undef ∧ wx.cell? ⟨w.heap.size, 0, none⟩ = some (.int .i64 (F.1)) ∧ wx.cell? ⟨w.heap.size, 1, none⟩ = some (.int .i64 (F.2.1)) ∧ wx.cell? ⟨w.heap.size, 2, none⟩ = some (.int .i64 (F.2.2)) ∧ wx.cell? ⟨w.heap.size + 1, 0, none⟩ = some (.int .i64 (W.1)) ∧ wx.cell? ⟨w.heap.size + 1, 1, none⟩ = some (.int .i64 (W.2.1)) ∧ wx.cell? ⟨w.heap.size + 1, 2, none⟩ = some (.int .i64 (W.2.2)) ∧ wx.cell? ⟨gs0, 0, none⟩ = some (.int .i64 (X.1)) ∧ wx.frozen? ⟨gs0, 0, none⟩ = false ∧ wx.cell? ⟨gs0, 1, none⟩ = some (.int .i64 (X.2.1)) ∧ wx.frozen? ⟨gs0, 1, none⟩ = false ∧ wx.cell? ⟨gs0, 2, none⟩ = some (.int .i64 (X.2.2)) ∧ wx.frozen? ⟨gs0, 2, none⟩ = false ∧ wx.cell? ⟨gs1, 0, none⟩ = some (.int .i64 (Y.1)) ∧ wx.frozen? ⟨gs1, 0, none⟩ = false ∧ wx.cell? ⟨gs1, 1, none⟩ = some (.int .i64 (Y.2.1)) ∧ wx.frozen? ⟨gs1, 1, none⟩ = false ∧ wx.cell? ⟨gs1, 2, none⟩ = some (.int .i64 (Y.2.2)) ∧ wx.frozen? ⟨gs1, 2, none⟩ = false ∧ Below w.heap.size w wx ∧ w.heap.size + 1 + 1 ≤ gs0 ∧ w.heap.size + 1 + 1 ≤ gs1 ∧ ¬ gs0 = gs1)
  case first =>
    have h1 := trivial
    rename_i K2 h2 h3
    refine region_p0 (by kernel_rfl) (fun j => #[14,15,16,17,18,19,13,20,21,22,7,8,7,8,9].getD j 0) (fun j => Kd.ok ((fun j => match j with | 0 => Kd.val (.agg #[.int .i64 (F.1), .int .i64 (F.2.1), .int .i64 (F.2.2)]) | 1 => Kd.val (.agg #[.int .i64 (F.1), .int .i64 (F.2.1), .int .i64 (F.2.2)]) | 2 => Kd.val (.int .i64 t) | 3 => Kd.val (.agg #[.int .i64 (W.1), .int .i64 (W.2.1), .int .i64 (W.2.2)]) | 4 => Kd.val (.agg #[.int .i64 (W.1), .int .i64 (W.2.1), .int .i64 (W.2.2)]) | 5 => Kd.val (.tuple #[.agg #[.int .i64 (X.1), .int .i64 (X.2.1), .int .i64 (X.2.2)], .agg #[.int .i64 (Y.1), .int .i64 (Y.2.1), .int .i64 (Y.2.2)], .bool b]) | 6 => Kd.val (.tuple #[.agg #[.int .i64 (X.1), .int .i64 (X.2.1), .int .i64 (X.2.2)], .agg #[.int .i64 (Y.1), .int .i64 (Y.2.1), .int .i64 (Y.2.2)], .bool b]) | 7 => Kd.val (.agg #[.int .i64 (X.1), .int .i64 (X.2.1), .int .i64 (X.2.2)]) | 8 => Kd.val (.agg #[.int .i64 (Y.1), .int .i64 (Y.2.1), .int .i64 (Y.2.2)]) | 9 => Kd.val (.bool b) | 10 => Kd.own (w.heap.size + 1 + 1) 3 | 11 => Kd.own (w.heap.size + 1 + 1) 3 | 12 => Kd.held (w.heap.size + 1 + 1) [.int .i64 (X.1), .int .i64 (X.2.1), .int .i64 (X.2.2)] | 13 => Kd.held (w.heap.size + 1 + 1) [.int .i64 (Y.1), .int .i64 (Y.2.1), .int .i64 (Y.2.2)] | 14 => Kd.val (.bool b) | _ => Kd.any : Nat → Kd) j)) (Sy w (w.heap.size + 1 + 1) [(⟨w.heap.size, 0, none⟩, .int .i64 (F.1)), (⟨w.heap.size, 1, none⟩, .int .i64 (F.2.1)), (⟨w.heap.size, 2, none⟩, .int .i64 (F.2.2)), (⟨w.heap.size + 1, 0, none⟩, .int .i64 (W.1)), (⟨w.heap.size + 1, 1, none⟩, .int .i64 (W.2.1)), (⟨w.heap.size + 1, 2, none⟩, .int .i64 (W.2.2))] []) 7 8 (by kernel_rfl) (by kernel_rfl) (PairOk.start (by rfl) (by rfl) (show 7 < 48 by decide) (show 8 < 48 by decide)) ?_ ?_ ?_ ?_
    · intro j hj
      have hj2 : j < 15 := hj
      have : ∀ j, j < 15 → (#[14,15,16,17,18,19,13,20,21,22,7,8,7,8,9] : Array Nat).getD j 0 < 48 := by decide
      exact this j hj2
    · refine Sy.drew (Sy.mk_of ?_ ?_ ?_ ?_)
      · first | rfl | (simp; done) | (simp; omega)
      · intro c hc
        simp only [List.mem_cons, List.not_mem_nil, or_false] at hc
        rcases hc with rfl | rfl | rfl | rfl | rfl | rfl <;> exact byCT
      · intro p hp; cases hp
      · (repeat' first | with_reducible (first | exact Below.refl _ _ | assumption | refine gr_alloc ?_ _ | refine below_drewN ?_ _ | refine below_drew ?_ | refine gr_call ?_ (by assumption) | refine Below.setCell ?_ ?_ _) | go_size | omega | (simp; omega))
    · clear h1 h2 h3
      refine ⟨?r53x0, ?r53x1, ?r53x2, ?r53x3, ?r53x4, ?r53x5, ?r53x6, ?r53x7, ?r53x8, ?r53x9, ?r53x10, ?r53x11, ?r53x12, ?r53x13, ?r53x14, trivial⟩
      all_goals intro _ aq wx Kq hf hS hPQ hdep ev1 ev2 hK
      case' r53x0 =>
        have F3 : aq.eval (.tmp 3) = .pointer (some ⟨w.heap.size, 0, none⟩) := hf 3
        have c0 := hS.cells (⟨w.heap.size, 0, none⟩, .int .i64 (F.1)) (by simp)
        have c1 := hS.cells (⟨w.heap.size, 1, none⟩, .int .i64 (F.2.1)) (by simp)
        have c2 := hS.cells (⟨w.heap.size, 2, none⟩, .int .i64 (F.2.2)) (by simp)
      case' r53x1 =>
        have D0 : aq.eval (.tmp 14) = _ := hdep 0
      case' r53x2 =>
        have F1 : aq.eval (.tmp 1) = .int .i64 t := hf 1
      case' r53x3 =>
        have F5 : aq.eval (.tmp 5) = .pointer (some ⟨w.heap.size + 1, 0, none⟩) := hf 5
        have c0 := hS.cells (⟨w.heap.size + 1, 0, none⟩, .int .i64 (W.1)) (by simp)
        have c1 := hS.cells (⟨w.heap.size + 1, 1, none⟩, .int .i64 (W.2.1)) (by simp)
        have c2 := hS.cells (⟨w.heap.size + 1, 2, none⟩, .int .i64 (W.2.2)) (by simp)
      case' r53x4 =>
        have D3 : aq.eval (.tmp 17) = _ := hdep 3
      case' r53x5 =>
        have D1 : aq.eval (.tmp 15) = _ := hdep 1
        have D2 : aq.eval (.tmp 16) = _ := hdep 2
        have D4 : aq.eval (.tmp 18) = _ := hdep 4
      case' r53x6 =>
        have D5 : aq.eval (.tmp 19) = _ := hdep 5
      case' r53x7 =>
        have D6 : aq.eval (.tmp 13) = _ := hdep 6
      case' r53x8 =>
        have D6 : aq.eval (.tmp 13) = _ := hdep 6
      case' r53x9 =>
        have D6 : aq.eval (.tmp 13) = _ := hdep 6
      case' r53x12 =>
        have D7 : aq.eval (.tmp 20) = _ := hdep 7
        obtain ⟨gn, D10, r1, r2, r3⟩ := hdep 10
        change aq.eval (.tmp 7) = _ at D10
        obtain ⟨⟨vx0, cx0⟩, cf0⟩ := r3 0 (by decide)
        obtain ⟨⟨vx1, cx1⟩, cf1⟩ := r3 1 (by decide)
        obtain ⟨⟨vx2, cx2⟩, cf2⟩ := r3 2 (by decide)
        have D10' : tau aq 7 = _ := D10
      case' r53x13 =>
        have D8 : aq.eval (.tmp 21) = _ := hdep 8
        obtain ⟨gn, D11, r1, r2, r3⟩ := hdep 11
        change aq.eval (.tmp 8) = _ at D11
        obtain ⟨⟨vx0, cx0⟩, cf0⟩ := r3 0 (by decide)
        obtain ⟨⟨vx1, cx1⟩, cf1⟩ := r3 1 (by decide)
        obtain ⟨⟨vx2, cx2⟩, cf2⟩ := r3 2 (by decide)
        have D11' : tau aq 8 = _ := D11
      case' r53x14 =>
        have D9 : aq.eval (.tmp 22) = _ := hdep 9
      all_goals (clear hf hdep; unfold Oper.wp; generalize Act.eval _ = ev at *; go_simp)
      case r53x1 =>
        refine ((toForm_w F _)).mono ?_
        rintro e w2 ⟨rfl, hb⟩
        refine hK _ _ (hS.call hb) ?_ (fun j u _ _ h => Kd.ok_below hb h) (PairOk.put hPQ (by decide) (by decide) hb.size)
        rw [if_pos (by rfl)]
        show (_ : Value) = _
        first | rfl | (refine congrArg (Value.int .i64) ?_; first | rfl | exact int_in (by omega) | exact quo_in (by omega) (by omega) (by omega) | exact rem_in (by omega) (by omega) | omega) | (simp; done) | (simp [*]; done)
      case r53x4 =>
        refine ((toForm_w W _)).mono ?_
        rintro e w2 ⟨rfl, hb⟩
        refine hK _ _ (hS.call hb) ?_ (fun j u _ _ h => Kd.ok_below hb h) (PairOk.put hPQ (by decide) (by decide) hb.size)
        rw [if_pos (by rfl)]
        show (_ : Value) = _
        first | rfl | (refine congrArg (Value.int .i64) ?_; first | rfl | exact int_in (by omega) | exact quo_in (by omega) (by omega) (by omega) | exact rem_in (by omega) (by omega) | omega) | (simp; done) | (simp [*]; done)
      case r53x5 =>
        refine ((lso_s F W X Y t b _ (unhide hX) (unhide hY) (unhide hb))).mono ?_
        rintro e w2 ⟨rfl, hb⟩
        refine hK _ _ (hS.call hb) ?_ (fun j u _ _ h => Kd.ok_below hb h) (PairOk.put hPQ (by decide) (by decide) hb.size)
        rw [if_pos (by rfl)]
        show (_ : Value) = _
        first | rfl | (refine congrArg (Value.int .i64) ?_; first | rfl | exact int_in (by omega) | exact quo_in (by omega) (by omega) (by omega) | exact rem_in (by omega) (by omega) | omega) | (simp; done) | (simp [*]; done)
      case r53x10 =>
        refine hK _ _ (hS.call (below_alloc_self _ _)) ?_ (fun j u _ _ h => Kd.ok_below (below_alloc_self _ _) h) (PairOk.left hPQ (by decide) (by simp))
        rw [if_pos (by rfl)]
        exact kd_new hS.size rfl
      case r53x11 =>
        refine hK _ _ (hS.call (below_alloc_self _ _)) ?_ (fun j u _ _ h => Kd.ok_below (below_alloc_self _ _) h) (PairOk.right hPQ (by decide) (by simp))
        rw [if_pos (by rfl)]
        exact kd_new hS.size rfl
      case r53x12 =>
        refine hK undef (setAll gn 0 [.int .i64 (X.1), .int .i64 (X.2.1), .int .i64 (X.2.2)] wx) (Sy.setAll_new r1 hS) ?_ (fun j u hj hu h => ?_) (PairOk.put hPQ (by decide) (by decide) (by rw [setAll_size]; exact Nat.le_refl _))
        · rw [if_neg (by decide)]
          exact kd_held r1 r2 D10' r3
        · match j, hj with
          | 0, hj => exact (show (u : Value) = _ from h)
          | 1, hj => exact (show (u : Value) = _ from h)
          | 2, hj => exact (show (u : Value) = _ from h)
          | 3, hj => exact (show (u : Value) = _ from h)
          | 4, hj => exact (show (u : Value) = _ from h)
          | 5, hj => exact (show (u : Value) = _ from h)
          | 6, hj => exact (show (u : Value) = _ from h)
          | 7, hj => exact (show (u : Value) = _ from h)
          | 8, hj => exact (show (u : Value) = _ from h)
          | 9, hj => exact (show (u : Value) = _ from h)
          | 10, hj => exact Kd.ok_setAll_new (k := Kd.own (w.heap.size + 1 + 1) 3) rfl (fun B' cs e => by cases e) h
          | 11, hj => exact Kd.ok_setAll_new (k := Kd.own (w.heap.size + 1 + 1) 3) rfl (fun B' cs e => by cases e) h
          | 12, hj => exact absurd rfl hj
          | 13, hj => exact held_far h (fun b e => hPQ.ne _ _ _ _ D10' (hu.symm.trans e))
          | 14, hj => exact (show (u : Value) = _ from h)
          | j + 15, _ => trivial
      case r53x13 =>
        refine hK undef (setAll gn 0 [.int .i64 (Y.1), .int .i64 (Y.2.1), .int .i64 (Y.2.2)] wx) (Sy.setAll_new r1 hS) ?_ (fun j u hj hu h => ?_) (PairOk.put hPQ (by decide) (by decide) (by rw [setAll_size]; exact Nat.le_refl _))
        · rw [if_neg (by decide)]
          exact kd_held r1 r2 D11' r3
        · match j, hj with
          | 0, hj => exact (show (u : Value) = _ from h)
          | 1, hj => exact (show (u : Value) = _ from h)
          | 2, hj => exact (show (u : Value) = _ from h)
          | 3, hj => exact (show (u : Value) = _ from h)
          | 4, hj => exact (show (u : Value) = _ from h)
          | 5, hj => exact (show (u : Value) = _ from h)
          | 6, hj => exact (show (u : Value) = _ from h)
          | 7, hj => exact (show (u : Value) = _ from h)
          | 8, hj => exact (show (u : Value) = _ from h)
          | 9, hj => exact (show (u : Value) = _ from h)
          | 10, hj => exact Kd.ok_setAll_new (k := Kd.own (w.heap.size + 1 + 1) 3) rfl (fun B' cs e => by cases e) h
          | 11, hj => exact Kd.ok_setAll_new (k := Kd.own (w.heap.size + 1 + 1) 3) rfl (fun B' cs e => by cases e) h
          | 12, hj => exact held_far h (fun b e => (hPQ.ne _ _ _ _ (hu.symm.trans e) D11').symm)
          | 13, hj => exact absurd rfl hj
          | 14, hj => exact (show (u : Value) = _ from h)
          | j + 15, _ => trivial
      all_goals (refine hK _ _ hS ?_ (fun j u _ _ h => h) (PairOk.put hPQ (by decide) (by decide) (Nat.le_refl _)); rw [if_pos (by rfl)]; show (_ : Value) = _; (first | rfl | (refine congrArg (Value.int .i64) ?_; first | rfl | exact int_in (by omega) | exact quo_in (by omega) (by omega) (by omega) | exact rem_in (by omega) (by omega) | omega) | (simp; done) | (simp [*]; done)))
    · intro aq wx hPQ hd hw hf hS hg
      obtain ⟨gs0, G7, r1gs0, r2gs0, r3gs0⟩ := hg 12 (by decide)
      change tau aq 7 = _ at G7
      obtain ⟨gs1, G8, r1gs1, r2gs1, r3gs1⟩ := hg 13 (by decide)
      change tau aq 8 = _ at G8
      have G9 : tau aq 9 = .bool b := hg 14 (by decide)
      have haq : aq = ⟨#[tau aq 0, tau aq 1, tau aq 2, tau aq 3, tau aq 4, tau aq 5, tau aq 6, tau aq 7, tau aq 8, tau aq 9, tau aq 10, tau aq 11, tau aq 12, tau aq 13, tau aq 14, tau aq 15, tau aq 16, tau aq 17, tau aq 18, tau aq 19, tau aq 20, tau aq 21, tau aq 22, tau aq 23, tau aq 24, tau aq 25, tau aq 26, tau aq 27, tau aq 28, tau aq 29, tau aq 30, tau aq 31, tau aq 32, tau aq 33, tau aq 34, tau aq 35, tau aq 36, tau aq 37, tau aq 38, tau aq 39, tau aq 40, tau aq 41, tau aq 42, tau aq 43, tau aq 44, tau aq 45, tau aq 46, tau aq 47], []⟩ := by
        obtain ⟨tq, dq⟩ := aq
        have h5 := arr_eq (show tq.size = 48 from hw)
        have h6 : dq = [] := hd
        subst h6
        exact congrArg (fun z => Act.mk z []) h5
      show K2 aq wx
      rw [haq, hf 0, hf 1, hf 2, hf 3, hf 4, hf 5, hf 6, hf 10, hf 11, hf 12, hf 23, hf 24, hf 25, hf 26, hf 27, hf 28, hf 29, hf 30, hf 31, hf 32, hf 33, hf 34, hf 35, hf 36, hf 37, hf 38, hf 39, hf 40, hf 41, hf 42, hf 43, hf 44, hf 45, hf 46, hf 47, G7, G8, G9]
      clear haq hf hd hw
      try dsimp only
      refine h3 _ _ ?_
      go_meet
      exact ⟨gs0, gs1, rfl, rfl, rfl, rfl, rfl, hS.cells (⟨w.heap.size, 0, none⟩, .int .i64 (F.1)) (by simp), hS.cells (⟨w.heap.size, 1, none⟩, .int .i64 (F.2.1)) (by simp), hS.cells (⟨w.heap.size, 2, none⟩, .int .i64 (F.2.2)) (by simp), hS.cells (⟨w.heap.size + 1, 0, none⟩, .int .i64 (W.1)) (by simp), hS.cells (⟨w.heap.size + 1, 1, none⟩, .int .i64 (W.2.1)) (by simp), hS.cells (⟨w.heap.size + 1, 2, none⟩, .int .i64 (W.2.2)) (by simp), (r3gs0 0 (by simp)).1, (r3gs0 0 (by simp)).2, (r3gs0 1 (by simp)).1, (r3gs0 1 (by simp)).2, (r3gs0 2 (by simp)).1, (r3gs0 2 (by simp)).2, (r3gs1 0 (by simp)).1, (r3gs1 0 (by simp)).2, (r3gs1 1 (by simp)).1, (r3gs1 1 (by simp)).2, (r3gs1 2 (by simp)).1, (r3gs1 2 (by simp)).2, hS.below, r1gs0, r1gs1, (hPQ.ne _ _ _ _ G7 G8)⟩
  obtain ⟨gs0, gs1, rfl, rfl, rfl, rfl, rfl, c00, c01, c02, c10, c11, c12, c20, f20, c21, f21, c22, f22, c30, f30, c31, f31, c32, f32, hb0, ngs0, ngs1, npq⟩ := hcut
  have z0 := World.block_lt_of_cell? _ _ c00
  have z1 := World.block_lt_of_cell? _ _ c10
  have z2 := World.block_lt_of_cell? _ _ c20
  have z3 := World.block_lt_of_cell? _ _ c30
  change w.heap.size < wc.heap.size at z0
  change w.heap.size + 1 < wc.heap.size at z1
  change gs0 < wc.heap.size at z2
  change gs1 < wc.heap.size at z3
  obtain ⟨wl1, rfl⟩ : ∃ wl1 : World, wl1 = wc := ⟨_, rfl⟩
  go_upto_region 2 with fail
  go_cut [10, 11, 12] (fun s10 s11 s12 wx => ∃ gi0 gi1 : Nat, s10 = .pointer (some ⟨gi0, 0, none⟩) ∧ s11 = .pointer (some ⟨gi1, 0, none⟩) ∧ s12 = .bool b ∧ wx.cell? ⟨w.heap.size, 0, none⟩ = some (.int .i64 (F.1)) ∧ wx.cell? ⟨w.heap.size, 1, none⟩ = some (.int .i64 (F.2.1)) ∧ wx.cell? ⟨w.heap.size, 2, none⟩ = some (.int .i64 (F.2.2)) ∧ wx.cell? ⟨w.heap.size + 1, 0, none⟩ = some (.int .i64 (W.1)) ∧ wx.cell? ⟨w.heap.size + 1, 1, none⟩ = some (.int .i64 (W.2.1)) ∧ wx.cell? ⟨w.heap.size + 1, 2, none⟩ = some (.int .i64 (W.2.2)) ∧ wx.cell? ⟨gs0, 0, none⟩ = some (.int .i64 (X.1)) ∧ wx.frozen? ⟨gs0, 0, none⟩ = false ∧ wx.cell? ⟨gs0, 1, none⟩ = some (.int .i64 (X.2.1)) ∧ wx.frozen? ⟨gs0, 1, none⟩ = false ∧ wx.cell? ⟨gs0, 2, none⟩ = some (.int .i64 (X.2.2)) ∧ wx.frozen? ⟨gs0, 2, none⟩ = false ∧ wx.cell? ⟨gs1, 0, none⟩ = some (.int .i64 (Y.1)) ∧ wx.frozen? ⟨gs1, 0, none⟩ = false ∧ wx.cell? ⟨gs1, 1, none⟩ = some (.int .i64 (Y.2.1)) ∧ wx.frozen? ⟨gs1, 1, none⟩ = false ∧ wx.cell? ⟨gs1, 2, none⟩ = some (.int .i64 (Y.2.2)) ∧ wx.frozen? ⟨gs1, 2, none⟩ = false ∧ wx.cell? ⟨gi0, 0, none⟩ = some (.int .i64 (X.1)) ∧ wx.frozen? ⟨gi0, 0, none⟩ = false ∧ wx.cell? ⟨gi0, 1, none⟩ = some (.int .i64 (X.2.1)) ∧ wx.frozen? ⟨gi0, 1, none⟩ = false ∧ wx.cell? ⟨gi0, 2, none⟩ = some (.int .i64 (X.2.2)) ∧ wx.frozen? ⟨gi0, 2, none⟩ = false ∧ wx.cell? ⟨gi1, 0, none⟩ = some (.int .i64 (Y.1)) ∧ wx.frozen? ⟨gi1, 0, none⟩ = false ∧ wx.cell? ⟨gi1, 1, none⟩ = some (.int .i64 (Y.2.1)) ∧ wx.frozen? ⟨gi1, 1, none⟩ = false ∧ wx.cell? ⟨gi1, 2, none⟩ = some (.int .i64 (Y.2.2)) ∧ wx.frozen? ⟨gi1, 2, none⟩ = false ∧ Below w.heap.size w wx ∧ wl1.heap.size ≤ gi0 ∧ wl1.heap.size ≤ gi1 ∧ ¬ gi0 = gi1)
  case first =>
    have h1 := trivial
    rename_i K2 h2 h3
    refine region_p0 (by kernel_rfl) (fun j => #[24,25,26,27,28,29,23,30,31,32,10,11,10,11,12].getD j 0) (fun j => Kd.ok ((fun j => match j with | 0 => Kd.val (.agg #[.int .i64 (F.1), .int .i64 (F.2.1), .int .i64 (F.2.2)]) | 1 => Kd.val (.agg #[.int .i64 (F.1), .int .i64 (F.2.1), .int .i64 (F.2.2)]) | 2 => Kd.val (.int .i64 t) | 3 => Kd.val (.agg #[.int .i64 (W.1), .int .i64 (W.2.1), .int .i64 (W.2.2)]) | 4 => Kd.val (.agg #[.int .i64 (W.1), .int .i64 (W.2.1), .int .i64 (W.2.2)]) | 5 => Kd.val (.tuple #[.agg #[.int .i64 (X.1), .int .i64 (X.2.1), .int .i64 (X.2.2)], .agg #[.int .i64 (Y.1), .int .i64 (Y.2.1), .int .i64 (Y.2.2)], .bool b]) | 6 => Kd.val (.tuple #[.agg #[.int .i64 (X.1), .int .i64 (X.2.1), .int .i64 (X.2.2)], .agg #[.int .i64 (Y.1), .int .i64 (Y.2.1), .int .i64 (Y.2.2)], .bool b]) | 7 => Kd.val (.agg #[.int .i64 (X.1), .int .i64 (X.2.1), .int .i64 (X.2.2)]) | 8 => Kd.val (.agg #[.int .i64 (Y.1), .int .i64 (Y.2.1), .int .i64 (Y.2.2)]) | 9 => Kd.val (.bool b) | 10 => Kd.own (wl1.heap.size) 3 | 11 => Kd.own (wl1.heap.size) 3 | 12 => Kd.held (wl1.heap.size) [.int .i64 (X.1), .int .i64 (X.2.1), .int .i64 (X.2.2)] | 13 => Kd.held (wl1.heap.size) [.int .i64 (Y.1), .int .i64 (Y.2.1), .int .i64 (Y.2.2)] | 14 => Kd.val (.bool b) | _ => Kd.any : Nat → Kd) j)) (Sy w (wl1.heap.size) [(⟨w.heap.size, 0, none⟩, .int .i64 (F.1)), (⟨w.heap.size, 1, none⟩, .int .i64 (F.2.1)), (⟨w.heap.size, 2, none⟩, .int .i64 (F.2.2)), (⟨w.heap.size + 1, 0, none⟩, .int .i64 (W.1)), (⟨w.heap.size + 1, 1, none⟩, .int .i64 (W.2.1)), (⟨w.heap.size + 1, 2, none⟩, .int .i64 (W.2.2)), (⟨gs0, 0, none⟩, .int .i64 (X.1)), (⟨gs0, 1, none⟩, .int .i64 (X.2.1)), (⟨gs0, 2, none⟩, .int .i64 (X.2.2)), (⟨gs1, 0, none⟩, .int .i64 (Y.1)), (⟨gs1, 1, none⟩, .int .i64 (Y.2.1)), (⟨gs1, 2, none⟩, .int .i64 (Y.2.2))] [⟨gs0, 0, none⟩, ⟨gs0, 1, none⟩, ⟨gs0, 2, none⟩, ⟨gs1, 0, none⟩, ⟨gs1, 1, none⟩, ⟨gs1, 2, none⟩]) 10 11 (by kernel_rfl) (by kernel_rfl) (PairOk.start (by rfl) (by rfl) (show 10 < 48 by decide) (show 11 < 48 by decide)) ?_ ?_ ?_ ?_
    · intro j hj
      have hj2 : j < 15 := hj
      have : ∀ j, j < 15 → (#[24,25,26,27,28,29,23,30,31,32,10,11,10,11,12] : Array Nat).getD j 0 < 48 := by decide
      exact this j hj2
    · refine Sy.drew (Sy.mk_of ?_ ?_ ?_ ?_)
      · first | rfl | (simp; done) | (simp; omega)
      · intro c hc
        simp only [List.mem_cons, List.not_mem_nil, or_false] at hc
        rcases hc with rfl | rfl | rfl | rfl | rfl | rfl | rfl | rfl | rfl | rfl | rfl | rfl <;> exact byCT
      · intro p hp
        simp only [List.mem_cons, List.not_mem_nil, or_false] at hp
        rcases hp with rfl | rfl | rfl | rfl | rfl | rfl <;> exact ⟨by first | ((repeat' with_reducible (first | refine ex_set _ ?_ | refine ex_al _ ?_ | exact ⟨_, by assumption⟩)); done) | first | exact ⟨_, by assumption⟩ | assumption | (go_simp; done) | (go_simp; exact ⟨_, rfl⟩), by first | ((repeat' first | with_reducible (first | assumption | refine frz_al _ ?_ ?_ | refine frz_set _ ?_) | omega | (simp; omega)); done) | assumption | (go_simp; done)⟩
      · (repeat' first | with_reducible (first | exact Below.refl _ _ | assumption | refine gr_alloc ?_ _ | refine below_drewN ?_ _ | refine below_drew ?_ | refine gr_call ?_ (by assumption) | refine Below.setCell ?_ ?_ _) | go_size | omega | (simp; omega))
    · clear h1 h2 h3
      try clear c00
      try clear c01
      try clear c02
      try clear c10
      try clear c11
      try clear c12
      try clear c20
      try clear c21
      try clear c22
      try clear c30
      try clear c31
      try clear c32
      try clear f20
      try clear f21
      try clear f22
      try clear f30
      try clear f31
      try clear f32
      refine ⟨?r54x0, ?r54x1, ?r54x2, ?r54x3, ?r54x4, ?r54x5, ?r54x6, ?r54x7, ?r54x8, ?r54x9, ?r54x10, ?r54x11, ?r54x12, ?r54x13, ?r54x14, trivial⟩
      all_goals intro _ aq wx Kq hf hS hPQ hdep ev1 ev2 hK
      case' r54x0 =>
        have F3 : aq.eval (.tmp 3) = .pointer (some ⟨w.heap.size, 0, none⟩) := hf 3
        have c0 := hS.cells (⟨w.heap.size, 0, none⟩, .int .i64 (F.1)) (by simp)
        have c1 := hS.cells (⟨w.heap.size, 1, none⟩, .int .i64 (F.2.1)) (by simp)
        have c2 := hS.cells (⟨w.heap.size, 2, none⟩, .int .i64 (F.2.2)) (by simp)
      case' r54x1 =>
        have D0 : aq.eval (.tmp 24) = _ := hdep 0
      case' r54x2 =>
        have F1 : aq.eval (.tmp 1) = .int .i64 t := hf 1
      case' r54x3 =>
        have F5 : aq.eval (.tmp 5) = .pointer (some ⟨w.heap.size + 1, 0, none⟩) := hf 5
        have c0 := hS.cells (⟨w.heap.size + 1, 0, none⟩, .int .i64 (W.1)) (by simp)
        have c1 := hS.cells (⟨w.heap.size + 1, 1, none⟩, .int .i64 (W.2.1)) (by simp)
        have c2 := hS.cells (⟨w.heap.size + 1, 2, none⟩, .int .i64 (W.2.2)) (by simp)
      case' r54x4 =>
        have D3 : aq.eval (.tmp 27) = _ := hdep 3
      case' r54x5 =>
        have D1 : aq.eval (.tmp 25) = _ := hdep 1
        have D2 : aq.eval (.tmp 26) = _ := hdep 2
        have D4 : aq.eval (.tmp 28) = _ := hdep 4
      case' r54x6 =>
        have D5 : aq.eval (.tmp 29) = _ := hdep 5
      case' r54x7 =>
        have D6 : aq.eval (.tmp 23) = _ := hdep 6
      case' r54x8 =>
        have D6 : aq.eval (.tmp 23) = _ := hdep 6
      case' r54x9 =>
        have D6 : aq.eval (.tmp 23) = _ := hdep 6
      case' r54x12 =>
        have D7 : aq.eval (.tmp 30) = _ := hdep 7
        obtain ⟨gn, D10, r1, r2, r3⟩ := hdep 10
        change aq.eval (.tmp 10) = _ at D10
        obtain ⟨⟨vx0, cx0⟩, cf0⟩ := r3 0 (by decide)
        obtain ⟨⟨vx1, cx1⟩, cf1⟩ := r3 1 (by decide)
        obtain ⟨⟨vx2, cx2⟩, cf2⟩ := r3 2 (by decide)
        have D10' : tau aq 10 = _ := D10
      case' r54x13 =>
        have D8 : aq.eval (.tmp 31) = _ := hdep 8
        obtain ⟨gn, D11, r1, r2, r3⟩ := hdep 11
        change aq.eval (.tmp 11) = _ at D11
        obtain ⟨⟨vx0, cx0⟩, cf0⟩ := r3 0 (by decide)
        obtain ⟨⟨vx1, cx1⟩, cf1⟩ := r3 1 (by decide)
        obtain ⟨⟨vx2, cx2⟩, cf2⟩ := r3 2 (by decide)
        have D11' : tau aq 11 = _ := D11
      case' r54x14 =>
        have D9 : aq.eval (.tmp 32) = _ := hdep 9
      all_goals (clear hf hdep; unfold Oper.wp; generalize Act.eval _ = ev at *; go_simp)
      case r54x1 =>
        refine ((toForm_w F _)).mono ?_
        rintro e w2 ⟨rfl, hb⟩
        refine hK _ _ (hS.call hb) ?_ (fun j u _ _ h => Kd.ok_below hb h) (PairOk.put hPQ (by decide) (by decide) hb.size)
        rw [if_pos (by rfl)]
        show (_ : Value) = _
        first | rfl | (refine congrArg (Value.int .i64) ?_; first | rfl | exact int_in (by omega) | exact quo_in (by omega) (by omega) (by omega) | exact rem_in (by omega) (by omega) | omega) | (simp; done) | (simp [*]; done)
      case r54x4 =>
        refine ((toForm_w W _)).mono ?_
        rintro e w2 ⟨rfl, hb⟩
        refine hK _ _ (hS.call hb) ?_ (fun j u _ _ h => Kd.ok_below hb h) (PairOk.put hPQ (by decide) (by decide) hb.size)
        rw [if_pos (by rfl)]
        show (_ : Value) = _
        first | rfl | (refine congrArg (Value.int .i64) ?_; first | rfl | exact int_in (by omega) | exact quo_in (by omega) (by omega) (by omega) | exact rem_in (by omega) (by omega) | omega) | (simp; done) | (simp [*]; done)
      case r54x5 =>
        refine ((lso_i F W X Y t b _ i0 i1 (unhide hX) (unhide hY) (unhide hb))).mono ?_
        rintro e w2 ⟨rfl, hb⟩
        refine hK _ _ (hS.call hb) ?_ (fun j u _ _ h => Kd.ok_below hb h) (PairOk.put hPQ (by decide) (by decide) hb.size)
        rw [if_pos (by rfl)]
        show (_ : Value) = _
        first | rfl | (refine congrArg (Value.int .i64) ?_; first | rfl | exact int_in (by omega) | exact quo_in (by omega) (by omega) (by omega) | exact rem_in (by omega) (by omega) | omega) | (simp; done) | (simp [*]; done)
      case r54x10 =>
        refine hK _ _ (hS.call (below_alloc_self _ _)) ?_ (fun j u _ _ h => Kd.ok_below (below_alloc_self _ _) h) (PairOk.left hPQ (by decide) (by simp))
        rw [if_pos (by rfl)]
        exact kd_new hS.size rfl
      case r54x11 =>
        refine hK _ _ (hS.call (below_alloc_self _ _)) ?_ (fun j u _ _ h => Kd.ok_below (below_alloc_self _ _) h) (PairOk.right hPQ (by decide) (by simp))
        rw [if_pos (by rfl)]
        exact kd_new hS.size rfl
      case r54x12 =>
        refine hK undef (setAll gn 0 [.int .i64 (X.1), .int .i64 (X.2.1), .int .i64 (X.2.2)] wx) (Sy.setAll_new r1 hS) ?_ (fun j u hj hu h => ?_) (PairOk.put hPQ (by decide) (by decide) (by rw [setAll_size]; exact Nat.le_refl _))
        · rw [if_neg (by decide)]
          exact kd_held r1 r2 D10' r3
        · match j, hj with
          | 0, hj => exact (show (u : Value) = _ from h)
          | 1, hj => exact (show (u : Value) = _ from h)
          | 2, hj => exact (show (u : Value) = _ from h)
          | 3, hj => exact (show (u : Value) = _ from h)
          | 4, hj => exact (show (u : Value) = _ from h)
          | 5, hj => exact (show (u : Value) = _ from h)
          | 6, hj => exact (show (u : Value) = _ from h)
          | 7, hj => exact (show (u : Value) = _ from h)
          | 8, hj => exact (show (u : Value) = _ from h)
          | 9, hj => exact (show (u : Value) = _ from h)
          | 10, hj => exact Kd.ok_setAll_new (k := Kd.own (wl1.heap.size) 3) rfl (fun B' cs e => by cases e) h
          | 11, hj => exact Kd.ok_setAll_new (k := Kd.own (wl1.heap.size) 3) rfl (fun B' cs e => by cases e) h
          | 12, hj => exact absurd rfl hj
          | 13, hj => exact held_far h (fun b e => hPQ.ne _ _ _ _ D10' (hu.symm.trans e))
          | 14, hj => exact (show (u : Value) = _ from h)
          | j + 15, _ => trivial
      case r54x13 =>
        refine hK undef (setAll gn 0 [.int .i64 (Y.1), .int .i64 (Y.2.1), .int .i64 (Y.2.2)] wx) (Sy.setAll_new r1 hS) ?_ (fun j u hj hu h => ?_) (PairOk.put hPQ (by decide) (by decide) (by rw [setAll_size]; exact Nat.le_refl _))
        · rw [if_neg (by decide)]
          exact kd_held r1 r2 D11' r3
        · match j, hj with
          | 0, hj => exact (show (u : Value) = _ from h)
          | 1, hj => exact (show (u : Value) = _ from h)
          | 2, hj => exact (show (u : Value) = _ from h)
          | 3, hj => exact (show (u : Value) = _ from h)
          | 4, hj => exact (show (u : Value) = _ from h)
          | 5, hj => exact (show (u : Value) = _ from h)
          | 6, hj => exact (show (u : Value) = _ from h)
          | 7, hj => exact (show (u : Value) = _ from h)
          | 8, hj => exact (show (u : Value) = _ from h)
          | 9, hj => exact (show (u : Value) = _ from h)
          | 10, hj => exact Kd.ok_setAll_new (k := Kd.own (wl1.heap.size) 3) rfl (fun B' cs e => by cases e) h
          | 11, hj => exact Kd.ok_setAll_new (k := Kd.own (wl1.heap.size) 3) rfl (fun B' cs e => by cases e) h
          | 12, hj => exact held_far h (fun b e => (hPQ.ne _ _ _ _ (hu.symm.trans e) D11').symm)
          | 13, hj => exact absurd rfl hj
          | 14, hj => exact (show (u : Value) = _ from h)
          | j + 15, _ => trivial
      all_goals (refine hK _ _ hS ?_ (fun j u _ _ h => h) (PairOk.put hPQ (by decide) (by decide) (Nat.le_refl _)); rw [if_pos (by rfl)]; show (_ : Value) = _; (first | rfl | (refine congrArg (Value.int .i64) ?_; first | rfl | exact int_in (by omega) | exact quo_in (by omega) (by omega) (by omega) | exact rem_in (by omega) (by omega) | omega) | (simp; done) | (simp [*]; done)))
    · intro aq wx hPQ hd hw hf hS hg
      obtain ⟨gi0, G10, r1gi0, r2gi0, r3gi0⟩ := hg 12 (by decide)
      change tau aq 10 = _ at G10
      obtain ⟨gi1, G11, r1gi1, r2gi1, r3gi1⟩ := hg 13 (by decide)
      change tau aq 11 = _ at G11
      have G12 : tau aq 12 = .bool b := hg 14 (by decide)
      have haq : aq = ⟨#[tau aq 0, tau aq 1, tau aq 2, tau aq 3, tau aq 4, tau aq 5, tau aq 6, tau aq 7, tau aq 8, tau aq 9, tau aq 10, tau aq 11, tau aq 12, tau aq 13, tau aq 14, tau aq 15, tau aq 16, tau aq 17, tau aq 18, tau aq 19, tau aq 20, tau aq 21, tau aq 22, tau aq 23, tau aq 24, tau aq 25, tau aq 26, tau aq 27, tau aq 28, tau aq 29, tau aq 30, tau aq 31, tau aq 32, tau aq 33, tau aq 34, tau aq 35, tau aq 36, tau aq 37, tau aq 38, tau aq 39, tau aq 40, tau aq 41, tau aq 42, tau aq 43, tau aq 44, tau aq 45, tau aq 46, tau aq 47], []⟩ := by
        obtain ⟨tq, dq⟩ := aq
        have h5 := arr_eq (show tq.size = 48 from hw)
        have h6 : dq = [] := hd
        subst h6
        exact congrArg (fun z => Act.mk z []) h5
      show K2 aq wx
      rw [haq, hf 0, hf 1, hf 2, hf 3, hf 4, hf 5, hf 6, hf 7, hf 8, hf 9, hf 13, hf 14, hf 15, hf 16, hf 17, hf 18, hf 19, hf 20, hf 21, hf 22, hf 33, hf 34, hf 35, hf 36, hf 37, hf 38, hf 39, hf 40, hf 41, hf 42, hf 43, hf 44, hf 45, hf 46, hf 47, G10, G11, G12]
      clear haq hf hd hw
      try dsimp only
      refine h3 _ _ ?_
      go_meet
      exact ⟨gi0, gi1, rfl, rfl, rfl, hS.cells (⟨w.heap.size, 0, none⟩, .int .i64 (F.1)) (by simp), hS.cells (⟨w.heap.size, 1, none⟩, .int .i64 (F.2.1)) (by simp), hS.cells (⟨w.heap.size, 2, none⟩, .int .i64 (F.2.2)) (by simp), hS.cells (⟨w.heap.size + 1, 0, none⟩, .int .i64 (W.1)) (by simp), hS.cells (⟨w.heap.size + 1, 1, none⟩, .int .i64 (W.2.1)) (by simp), hS.cells (⟨w.heap.size + 1, 2, none⟩, .int .i64 (W.2.2)) (by simp), hS.cells (⟨gs0, 0, none⟩, .int .i64 (X.1)) (by simp), (hS.free ⟨gs0, 0, none⟩ (by simp)).2, hS.cells (⟨gs0, 1, none⟩, .int .i64 (X.2.1)) (by simp), (hS.free ⟨gs0, 1, none⟩ (by simp)).2, hS.cells (⟨gs0, 2, none⟩, .int .i64 (X.2.2)) (by simp), (hS.free ⟨gs0, 2, none⟩ (by simp)).2, hS.cells (⟨gs1, 0, none⟩, .int .i64 (Y.1)) (by simp), (hS.free ⟨gs1, 0, none⟩ (by simp)).2, hS.cells (⟨gs1, 1, none⟩, .int .i64 (Y.2.1)) (by simp), (hS.free ⟨gs1, 1, none⟩ (by simp)).2, hS.cells (⟨gs1, 2, none⟩, .int .i64 (Y.2.2)) (by simp), (hS.free ⟨gs1, 2, none⟩ (by simp)).2, (r3gi0 0 (by simp)).1, (r3gi0 0 (by simp)).2, (r3gi0 1 (by simp)).1, (r3gi0 1 (by simp)).2, (r3gi0 2 (by simp)).1, (r3gi0 2 (by simp)).2, (r3gi1 0 (by simp)).1, (r3gi1 0 (by simp)).2, (r3gi1 1 (by simp)).1, (r3gi1 1 (by simp)).2, (r3gi1 2 (by simp)).1, (r3gi1 2 (by simp)).2, hS.below, r1gi0, r1gi1, (hPQ.ne _ _ _ _ G10 G11)⟩
  try clear c00
  try clear c01
  try clear c02
  try clear c10
  try clear c11
  try clear c12
  try clear c20
  try clear c21
  try clear c22
  try clear c30
  try clear c31
  try clear c32
  try clear f20
  try clear f21
  try clear f22
  try clear f30
  try clear f31
  try clear f32
  obtain ⟨gi0, gi1, rfl, rfl, rfl, c00, c01, c02, c10, c11, c12, c20, f20, c21, f21, c22, f22, c30, f30, c31, f31, c32, f32, c40, f40, c41, f41, c42, f42, c50, f50, c51, f51, c52, f52, hb0, ngi0, ngi1, npq⟩ := hcut
  have z0 := World.block_lt_of_cell? _ _ c00
  have z1 := World.block_lt_of_cell? _ _ c10
  have z2 := World.block_lt_of_cell? _ _ c20
  have z3 := World.block_lt_of_cell? _ _ c30
  have z4 := World.block_lt_of_cell? _ _ c40
  have z5 := World.block_lt_of_cell? _ _ c50
  change w.heap.size < wc.heap.size at z0
  change w.heap.size + 1 < wc.heap.size at z1
  change gs0 < wc.heap.size at z2
  change gs1 < wc.heap.size at z3
  change gi0 < wc.heap.size at z4
  change gi1 < wc.heap.size at z5
  obtain ⟨wl2, rfl⟩ : ∃ wl2 : World, wl2 = wc := ⟨_, rfl⟩
  go_wp2_with fail
  refine (eqForm_same (X.1) (X.2.1) (X.2.2) _).mono ?_
  rintro en w7 ⟨rfl, hb7⟩
  have hcs9 := cells_calls hb7 [⟨w.heap.size, 0, none⟩, ⟨w.heap.size, 1, none⟩, ⟨w.heap.size, 2, none⟩, ⟨w.heap.size + 1, 0, none⟩, ⟨w.heap.size + 1, 1, none⟩, ⟨w.heap.size + 1, 2, none⟩, ⟨gs0, 0, none⟩, ⟨gs0, 1, none⟩, ⟨gs0, 2, none⟩, ⟨gs1, 0, none⟩, ⟨gs1, 1, none⟩, ⟨gs1, 2, none⟩, ⟨gi0, 0, none⟩, ⟨gi0, 1, none⟩, ⟨gi0, 2, none⟩, ⟨gi1, 0, none⟩, ⟨gi1, 1, none⟩, ⟨gi1, 2, none⟩] [.int .i64 (F.1), .int .i64 (F.2.1), .int .i64 (F.2.2), .int .i64 (W.1), .int .i64 (W.2.1), .int .i64 (W.2.2), .int .i64 (X.1), .int .i64 (X.2.1), .int .i64 (X.2.2), .int .i64 (Y.1), .int .i64 (Y.2.1), .int .i64 (Y.2.2), .int .i64 (X.1), .int .i64 (X.2.1), .int .i64 (X.2.2), .int .i64 (Y.1), .int .i64 (Y.2.1), .int .i64 (Y.2.2)] (by refine ⟨?_, ?_, ?_, ?_, ?_, ?_, ?_, ?_, ?_, ?_, ?_, ?_, ?_, ?_, ?_, ?_, ?_, ?_, trivial⟩ <;> exact byCT)
  have hfs9 := frees_calls hb7 [⟨gs0, 0, none⟩, ⟨gs0, 1, none⟩, ⟨gs0, 2, none⟩, ⟨gs1, 0, none⟩, ⟨gs1, 1, none⟩, ⟨gs1, 2, none⟩, ⟨gi0, 0, none⟩, ⟨gi0, 1, none⟩, ⟨gi0, 2, none⟩, ⟨gi1, 0, none⟩, ⟨gi1, 1, none⟩, ⟨gi1, 2, none⟩] (by refine ⟨?_, ?_, ?_, ?_, ?_, ?_, ?_, ?_, ?_, ?_, ?_, ?_, trivial⟩ <;> first | with_reducible assumption | omega | (simp; omega) | (simp; done)) (by refine ⟨?_, ?_, ?_, ?_, ?_, ?_, ?_, ?_, ?_, ?_, ?_, ?_, trivial⟩ <;> exact byFT)
  have hzs9 := blocks_calls hb7 [w.heap.size, w.heap.size + 1, gs0, gs1, gi0, gi1] (by refine ⟨?_, ?_, ?_, ?_, ?_, ?_, trivial⟩ <;> first | with_reducible assumption | omega | (simp; omega) | (simp; done))
  try clear c00 c01 c02
  try clear c10 c11 c12
  try clear c20 c21 c22 f20 f21 f22
  try clear c30 c31 c32 f30 f31 f32
  try clear c40 c41 c42 f40 f41 f42
  try clear c50 c51 c52 f50 f51 f52
  obtain ⟨c00, c01, c02, c10, c11, c12, c20, c21, c22, c30, c31, c32, c40, c41, c42, c50, c51, c52, -⟩ := hcs9
  obtain ⟨f20, f21, f22, f30, f31, f32, f40, f41, f42, f50, f51, f52, -⟩ := hfs9
  obtain ⟨z0, z1, z2, z3, z4, z5, -⟩ := hzs9
  have hs7 := hb7.size
  have o70 := z0
  have o71 := z1
  have o72 := z2
  have o73 := z3
  have o74 := z4
  have o75 := z5
  go_wp2_with fail
  refine (eqForm_same (Y.1) (Y.2.1) (Y.2.2) _).mono ?_
  rintro en w8 ⟨rfl, hb8⟩
  have hcs9 := cells_calls hb8 [⟨w.heap.size, 0, none⟩, ⟨w.heap.size, 1, none⟩, ⟨w.heap.size, 2, none⟩, ⟨w.heap.size + 1, 0, none⟩, ⟨w.heap.size + 1, 1, none⟩, ⟨w.heap.size + 1, 2, none⟩, ⟨gs0, 0, none⟩, ⟨gs0, 1, none⟩, ⟨gs0, 2, none⟩, ⟨gs1, 0, none⟩, ⟨gs1, 1, none⟩, ⟨gs1, 2, none⟩, ⟨gi0, 0, none⟩, ⟨gi0, 1, none⟩, ⟨gi0, 2, none⟩, ⟨gi1, 0, none⟩, ⟨gi1, 1, none⟩, ⟨gi1, 2, none⟩] [.int .i64 (F.1), .int .i64 (F.2.1), .int .i64 (F.2.2), .int .i64 (W.1), .int .i64 (W.2.1), .int .i64 (W.2.2), .int .i64 (X.1), .int .i64 (X.2.1), .int .i64 (X.2.2), .int .i64 (Y.1), .int .i64 (Y.2.1), .int .i64 (Y.2.2), .int .i64 (X.1), .int .i64 (X.2.1), .int .i64 (X.2.2), .int .i64 (Y.1), .int .i64 (Y.2.1), .int .i64 (Y.2.2)] (by refine ⟨?_, ?_, ?_, ?_, ?_, ?_, ?_, ?_, ?_, ?_, ?_, ?_, ?_, ?_, ?_, ?_, ?_, ?_, trivial⟩ <;> exact byCT)
  have hfs9 := frees_calls hb8 [⟨gs0, 0, none⟩, ⟨gs0, 1, none⟩, ⟨gs0, 2, none⟩, ⟨gs1, 0, none⟩, ⟨gs1, 1, none⟩, ⟨gs1, 2, none⟩, ⟨gi0, 0, none⟩, ⟨gi0, 1, none⟩, ⟨gi0, 2, none⟩, ⟨gi1, 0, none⟩, ⟨gi1, 1, none⟩, ⟨gi1, 2, none⟩] (by refine ⟨?_, ?_, ?_, ?_, ?_, ?_, ?_, ?_, ?_, ?_, ?_, ?_, trivial⟩ <;> first | with_reducible assumption | omega | (simp; omega) | (simp; done)) (by refine ⟨?_, ?_, ?_, ?_, ?_, ?_, ?_, ?_, ?_, ?_, ?_, ?_, trivial⟩ <;> exact byFT)
  have hzs9 := blocks_calls hb8 [w.heap.size, w.heap.size + 1, gs0, gs1, gi0, gi1] (by refine ⟨?_, ?_, ?_, ?_, ?_, ?_, trivial⟩ <;> first | with_reducible assumption | omega | (simp; omega) | (simp; done))
  try clear c00 c01 c02
  try clear c10 c11 c12
  try clear c20 c21 c22 f20 f21 f22
  try clear c30 c31 c32 f30 f31 f32
  try clear c40 c41 c42 f40 f41 f42
  try clear c50 c51 c52 f50 f51 f52
  obtain ⟨c00, c01, c02, c10, c11, c12, c20, c21, c22, c30, c31, c32, c40, c41, c42, c50, c51, c52, -⟩ := hcs9
  obtain ⟨f20, f21, f22, f30, f31, f32, f40, f41, f42, f50, f51, f52, -⟩ := hfs9
  obtain ⟨z0, z1, z2, z3, z4, z5, -⟩ := hzs9
  have hs8 := hb8.size
  have o80 := z0
  have o81 := z1
  have o82 := z2
  have o83 := z3
  have o84 := z4
  have o85 := z5
  have g8 : Below w.heap.size w w8 := byGG
  go_wp2
  go_ret
  exact ⟨rfl, byGG⟩
end Go.Proofs.Ytninagdclibmnaa
