/-
  The law of VerifyDelay.
-/
import Derived.Test.YtninagdclibmnaaVd
import Derived.Test.YtninagdclibmnaaLawDp
namespace Go.Proofs.Ytninagdclibmnaa
open Go.RowKit
set_option linter.unusedVariables false
set_option linter.unusedSimpArgs false
attribute [local go_sem] q2 q3 q4 q5 q6 q7 q8 q9 q10 q11 q12

set_option maxRecDepth 100000 in
set_option maxHeartbeats 1500000 in
theorem lawVerifyDelay (F G P : T3) (t : Int) (w : World) (i1 : I64T F) (i2 : I64T G) (i3 : I64T P) : Calls Try.prog 8 #[frm F, frm G, .int .i64 t, frm P] w fun e w' => e = .returned (.bool true) ∧ Below w.heap.size w w' := by
  go_enter Try.func8, Try.ntmps8
  go_upto_region 1 with fail
  go_cut [9, 10] (fun s9 s10 wx => s9 = .bool (vdV F G t P) ∧ s10 = .bool (vdB F G t P) ∧ wx.cell? ⟨w.heap.size, 0, none⟩ = some (.int .i64 (F.1)) ∧ wx.cell? ⟨w.heap.size, 1, none⟩ = some (.int .i64 (F.2.1)) ∧ wx.cell? ⟨w.heap.size, 2, none⟩ = some (.int .i64 (F.2.2)) ∧ wx.cell? ⟨w.heap.size + 1, 0, none⟩ = some (.int .i64 (G.1)) ∧ wx.cell? ⟨w.heap.size + 1, 1, none⟩ = some (.int .i64 (G.2.1)) ∧ wx.cell? ⟨w.heap.size + 1, 2, none⟩ = some (.int .i64 (G.2.2)) ∧ wx.cell? ⟨w.heap.size + 1 + 1, 0, none⟩ = some (.int .i64 (P.1)) ∧ wx.cell? ⟨w.heap.size + 1 + 1, 1, none⟩ = some (.int .i64 (P.2.1)) ∧ wx.cell? ⟨w.heap.size + 1 + 1, 2, none⟩ = some (.int .i64 (P.2.2)) ∧ Below w.heap.size w wx)
  case first =>
    have h1 := trivial
    rename_i K2 h2 h3
    refine region_n0 (by kernel_rfl) (fun j => #[14,15,16,17,18,19,20,21,13,22,23,9,10].getD j 0) (fun j => Kd.ok ((fun j => match j with | 0 => Kd.val (.agg #[.int .i64 (F.1), .int .i64 (F.2.1), .int .i64 (F.2.2)]) | 1 => Kd.val (.agg #[.int .i64 (F.1), .int .i64 (F.2.1), .int .i64 (F.2.2)]) | 2 => Kd.val (.agg #[.int .i64 (G.1), .int .i64 (G.2.1), .int .i64 (G.2.2)]) | 3 => Kd.val (.agg #[.int .i64 (G.1), .int .i64 (G.2.1), .int .i64 (G.2.2)]) | 4 => Kd.val (.int .i64 t) | 5 => Kd.val (.agg #[.int .i64 (P.1), .int .i64 (P.2.1), .int .i64 (P.2.2)]) | 6 => Kd.val (.agg #[.int .i64 (P.1), .int .i64 (P.2.1), .int .i64 (P.2.2)]) | 7 => Kd.val (.tuple #[.bool (vdV F G t P), .bool (vdB F G t P)]) | 8 => Kd.val (.tuple #[.bool (vdV F G t P), .bool (vdB F G t P)]) | 9 => Kd.val (.bool (vdV F G t P)) | 10 => Kd.val (.bool (vdB F G t P)) | 11 => Kd.val (.bool (vdV F G t P)) | 12 => Kd.val (.bool (vdB F G t P)) | _ => Kd.any : Nat → Kd) j)) (Sy w (w.heap.size + 1 + 1 + 1) [(⟨w.heap.size, 0, none⟩, .int .i64 (F.1)), (⟨w.heap.size, 1, none⟩, .int .i64 (F.2.1)), (⟨w.heap.size, 2, none⟩, .int .i64 (F.2.2)), (⟨w.heap.size + 1, 0, none⟩, .int .i64 (G.1)), (⟨w.heap.size + 1, 1, none⟩, .int .i64 (G.2.1)), (⟨w.heap.size + 1, 2, none⟩, .int .i64 (G.2.2)), (⟨w.heap.size + 1 + 1, 0, none⟩, .int .i64 (P.1)), (⟨w.heap.size + 1 + 1, 1, none⟩, .int .i64 (P.2.1)), (⟨w.heap.size + 1 + 1, 2, none⟩, .int .i64 (P.2.2))] []) (by kernel_rfl) (by kernel_rfl) ?_ ?_ ?_ ?_
    · intro j hj
      have hj2 : j < 13 := hj
      have : ∀ j, j < 13 → (#[14,15,16,17,18,19,20,21,13,22,23,9,10] : Array Nat).getD j 0 < 43 := by decide
      exact this j hj2
    · refine Sy.drew (Sy.mk_of ?_ ?_ ?_ ?_)
      · first | rfl | (simp; done) | (simp; omega)
      · intro c hc
        simp only [List.mem_cons, List.not_mem_nil, or_false] at hc
        rcases hc with rfl | rfl | rfl | rfl | rfl | rfl | rfl | rfl | rfl <;> (first | with_reducible assumption | ((repeat' first | with_reducible (first | assumption | refine cell_al _ ?_ | refine cell_eq _ ?_ | refine cell_ne _ ?_ ?_ | refine ex_set _ ?_ | refine ex_al _ ?_ | exact ⟨_, by assumption⟩) | (intro hh; injection hh with hh1 hh2; omega)); done) | go_simp)
      · intro p hp; cases hp
      · (repeat' first | with_reducible (first | exact Below.refl _ _ | assumption | refine gr_alloc ?_ _ | refine below_drewN ?_ _ | refine below_drew ?_ | refine gr_call ?_ (by assumption) | refine Below.setCell ?_ ?_ _) | go_size | omega | (simp; omega))
    · clear h1 h2 h3
      refine ⟨?r40x0, ?r40x1, ?r40x2, ?r40x3, ?r40x4, ?r40x5, ?r40x6, ?r40x7, ?r40x8, ?r40x9, ?r40x10, ?r40x11, ?r40x12, trivial⟩
      all_goals intro _ aq wx Kq hf hS hdep ev1 ev2 hK
      case' r40x0 =>
        have F4 : aq.eval (.tmp 4) = .pointer (some ⟨w.heap.size, 0, none⟩) := hf 4
        have c0 := hS.cells (⟨w.heap.size, 0, none⟩, .int .i64 (F.1)) (by simp)
        have c1 := hS.cells (⟨w.heap.size, 1, none⟩, .int .i64 (F.2.1)) (by simp)
        have c2 := hS.cells (⟨w.heap.size, 2, none⟩, .int .i64 (F.2.2)) (by simp)
      case' r40x1 =>
        have D0 : aq.eval (.tmp 14) = _ := hdep 0
      case' r40x2 =>
        have F5 : aq.eval (.tmp 5) = .pointer (some ⟨w.heap.size + 1, 0, none⟩) := hf 5
        have c0 := hS.cells (⟨w.heap.size + 1, 0, none⟩, .int .i64 (G.1)) (by simp)
        have c1 := hS.cells (⟨w.heap.size + 1, 1, none⟩, .int .i64 (G.2.1)) (by simp)
        have c2 := hS.cells (⟨w.heap.size + 1, 2, none⟩, .int .i64 (G.2.2)) (by simp)
      case' r40x3 =>
        have D2 : aq.eval (.tmp 16) = _ := hdep 2
      case' r40x4 =>
        have F2 : aq.eval (.tmp 2) = .int .i64 t := hf 2
      case' r40x5 =>
        have F7 : aq.eval (.tmp 7) = .pointer (some ⟨w.heap.size + 1 + 1, 0, none⟩) := hf 7
        have c0 := hS.cells (⟨w.heap.size + 1 + 1, 0, none⟩, .int .i64 (P.1)) (by simp)
        have c1 := hS.cells (⟨w.heap.size + 1 + 1, 1, none⟩, .int .i64 (P.2.1)) (by simp)
        have c2 := hS.cells (⟨w.heap.size + 1 + 1, 2, none⟩, .int .i64 (P.2.2)) (by simp)
      case' r40x6 =>
        have D5 : aq.eval (.tmp 19) = _ := hdep 5
      case' r40x7 =>
        have D1 : aq.eval (.tmp 15) = _ := hdep 1
        have D3 : aq.eval (.tmp 17) = _ := hdep 3
        have D4 : aq.eval (.tmp 18) = _ := hdep 4
        have D6 : aq.eval (.tmp 20) = _ := hdep 6
      case' r40x8 =>
        have D7 : aq.eval (.tmp 21) = _ := hdep 7
      case' r40x9 =>
        have D8 : aq.eval (.tmp 13) = _ := hdep 8
      case' r40x10 =>
        have D8 : aq.eval (.tmp 13) = _ := hdep 8
      case' r40x11 =>
        have D9 : aq.eval (.tmp 22) = _ := hdep 9
      case' r40x12 =>
        have D10 : aq.eval (.tmp 23) = _ := hdep 10
      all_goals (clear hf hdep; unfold Oper.wp; generalize Act.eval _ = ev at *; go_simp)
      case r40x1 =>
        refine ((toForm_w F _)).mono ?_
        rintro e w2 ⟨rfl, hb⟩
        refine hK _ _ (hS.call hb) ?_ (fun j u _ h => Kd.ok_below hb h)
        rw [if_pos (by rfl)]
        show (_ : Value) = _
        first | rfl | (refine congrArg (Value.int .i64) ?_; first | rfl | exact int_in (by omega) | exact quo_in (by omega) (by omega) (by omega) | exact rem_in (by omega) (by omega) | omega) | (simp; done) | (simp [*]; done)
      case r40x3 =>
        refine ((toForm_w G _)).mono ?_
        rintro e w2 ⟨rfl, hb⟩
        refine hK _ _ (hS.call hb) ?_ (fun j u _ h => Kd.ok_below hb h)
        rw [if_pos (by rfl)]
        show (_ : Value) = _
        first | rfl | (refine congrArg (Value.int .i64) ?_; first | rfl | exact int_in (by omega) | exact quo_in (by omega) (by omega) (by omega) | exact rem_in (by omega) (by omega) | omega) | (simp; done) | (simp [*]; done)
      case r40x6 =>
        refine ((toForm_w P _)).mono ?_
        rintro e w2 ⟨rfl, hb⟩
        refine hK _ _ (hS.call hb) ?_ (fun j u _ h => Kd.ok_below hb h)
        rw [if_pos (by rfl)]
        show (_ : Value) = _
        first | rfl | (refine congrArg (Value.int .i64) ?_; first | rfl | exact int_in (by omega) | exact quo_in (by omega) (by omega) (by omega) | exact rem_in (by omega) (by omega) | omega) | (simp; done) | (simp [*]; done)
      case r40x7 =>
        refine ((specVerifyDelay F G t P _)).mono ?_
        rintro e w2 ⟨rfl, hb⟩
        refine hK _ _ (hS.call hb) ?_ (fun j u _ h => Kd.ok_below hb h)
        rw [if_pos (by rfl)]
        show (_ : Value) = _
        first | rfl | (refine congrArg (Value.int .i64) ?_; first | rfl | exact int_in (by omega) | exact quo_in (by omega) (by omega) (by omega) | exact rem_in (by omega) (by omega) | omega) | (simp; done) | (simp [*]; done)
      all_goals (refine hK _ _ hS ?_ (fun j u _ h => h); rw [if_pos (by rfl)]; show (_ : Value) = _; (first | rfl | (refine congrArg (Value.int .i64) ?_; first | rfl | exact int_in (by omega) | exact quo_in (by omega) (by omega) (by omega) | exact rem_in (by omega) (by omega) | omega) | (simp; done) | (simp [*]; done)))
    · intro aq wx hd hw hf hS hg
      have G9 : tau aq 9 = .bool (vdV F G t P) := hg 11 (by decide)
      have G10 : tau aq 10 = .bool (vdB F G t P) := hg 12 (by decide)
      have haq : aq = ⟨#[tau aq 0, tau aq 1, tau aq 2, tau aq 3, tau aq 4, tau aq 5, tau aq 6, tau aq 7, tau aq 8, tau aq 9, tau aq 10, tau aq 11, tau aq 12, tau aq 13, tau aq 14, tau aq 15, tau aq 16, tau aq 17, tau aq 18, tau aq 19, tau aq 20, tau aq 21, tau aq 22, tau aq 23, tau aq 24, tau aq 25, tau aq 26, tau aq 27, tau aq 28, tau aq 29, tau aq 30, tau aq 31, tau aq 32, tau aq 33, tau aq 34, tau aq 35, tau aq 36, tau aq 37, tau aq 38, tau aq 39, tau aq 40, tau aq 41, tau aq 42], []⟩ := by
        obtain ⟨tq, dq⟩ := aq
        have h5 := arr_eq (show tq.size = 43 from hw)
        have h6 : dq = [] := hd
        subst h6
        exact congrArg (fun z => Act.mk z []) h5
      show K2 aq wx
      rw [haq, hf 0, hf 1, hf 2, hf 3, hf 4, hf 5, hf 6, hf 7, hf 8, hf 11, hf 12, hf 24, hf 25, hf 26, hf 27, hf 28, hf 29, hf 30, hf 31, hf 32, hf 33, hf 34, hf 35, hf 36, hf 37, hf 38, hf 39, hf 40, hf 41, hf 42, G9, G10]
      clear haq hf hd hw
      try dsimp only
      refine h3 _ _ ?_
      go_meet
      exact ⟨rfl, rfl, hS.cells (⟨w.heap.size, 0, none⟩, .int .i64 (F.1)) (by simp), hS.cells (⟨w.heap.size, 1, none⟩, .int .i64 (F.2.1)) (by simp), hS.cells (⟨w.heap.size, 2, none⟩, .int .i64 (F.2.2)) (by simp), hS.cells (⟨w.heap.size + 1, 0, none⟩, .int .i64 (G.1)) (by simp), hS.cells (⟨w.heap.size + 1, 1, none⟩, .int .i64 (G.2.1)) (by simp), hS.cells (⟨w.heap.size + 1, 2, none⟩, .int .i64 (G.2.2)) (by simp), hS.cells (⟨w.heap.size + 1 + 1, 0, none⟩, .int .i64 (P.1)) (by simp), hS.cells (⟨w.heap.size + 1 + 1, 1, none⟩, .int .i64 (P.2.1)) (by simp), hS.cells (⟨w.heap.size + 1 + 1, 2, none⟩, .int .i64 (P.2.2)) (by simp), hS.below⟩
  obtain ⟨rfl, rfl, c00, c01, c02, c10, c11, c12, c20, c21, c22, hb0⟩ := hcut
  have z0 := World.block_lt_of_cell? _ _ c00
  have z1 := World.block_lt_of_cell? _ _ c10
  have z2 := World.block_lt_of_cell? _ _ c20
  change w.heap.size < wc.heap.size at z0
  change w.heap.size + 1 < wc.heap.size at z1
  change w.heap.size + 1 + 1 < wc.heap.size at z2
  obtain ⟨wl1, rfl⟩ : ∃ wl1 : World, wl1 = wc := ⟨_, rfl⟩
  go_upto_region 2 with fail
  go_cut [11, 12] (fun s11 s12 wx => s11 = .bool (vdV F G t P) ∧ s12 = .bool (vdB F G t P) ∧ wx.cell? ⟨w.heap.size, 0, none⟩ = some (.int .i64 (F.1)) ∧ wx.cell? ⟨w.heap.size, 1, none⟩ = some (.int .i64 (F.2.1)) ∧ wx.cell? ⟨w.heap.size, 2, none⟩ = some (.int .i64 (F.2.2)) ∧ wx.cell? ⟨w.heap.size + 1, 0, none⟩ = some (.int .i64 (G.1)) ∧ wx.cell? ⟨w.heap.size + 1, 1, none⟩ = some (.int .i64 (G.2.1)) ∧ wx.cell? ⟨w.heap.size + 1, 2, none⟩ = some (.int .i64 (G.2.2)) ∧ wx.cell? ⟨w.heap.size + 1 + 1, 0, none⟩ = some (.int .i64 (P.1)) ∧ wx.cell? ⟨w.heap.size + 1 + 1, 1, none⟩ = some (.int .i64 (P.2.1)) ∧ wx.cell? ⟨w.heap.size + 1 + 1, 2, none⟩ = some (.int .i64 (P.2.2)) ∧ Below w.heap.size w wx)
  case first =>
    have h1 := trivial
    rename_i K2 h2 h3
    refine region_n0 (by kernel_rfl) (fun j => #[25,26,27,28,29,30,31,32,24,33,34,11,12].getD j 0) (fun j => Kd.ok ((fun j => match j with | 0 => Kd.val (.agg #[.int .i64 (F.1), .int .i64 (F.2.1), .int .i64 (F.2.2)]) | 1 => Kd.val (.agg #[.int .i64 (F.1), .int .i64 (F.2.1), .int .i64 (F.2.2)]) | 2 => Kd.val (.agg #[.int .i64 (G.1), .int .i64 (G.2.1), .int .i64 (G.2.2)]) | 3 => Kd.val (.agg #[.int .i64 (G.1), .int .i64 (G.2.1), .int .i64 (G.2.2)]) | 4 => Kd.val (.int .i64 t) | 5 => Kd.val (.agg #[.int .i64 (P.1), .int .i64 (P.2.1), .int .i64 (P.2.2)]) | 6 => Kd.val (.agg #[.int .i64 (P.1), .int .i64 (P.2.1), .int .i64 (P.2.2)]) | 7 => Kd.val (.tuple #[.bool (vdV F G t P), .bool (vdB F G t P)]) | 8 => Kd.val (.tuple #[.bool (vdV F G t P), .bool (vdB F G t P)]) | 9 => Kd.val (.bool (vdV F G t P)) | 10 => Kd.val (.bool (vdB F G t P)) | 11 => Kd.val (.bool (vdV F G t P)) | 12 => Kd.val (.bool (vdB F G t P)) | _ => Kd.any : Nat → Kd) j)) (Sy w (wl1.heap.size) [(⟨w.heap.size, 0, none⟩, .int .i64 (F.1)), (⟨w.heap.size, 1, none⟩, .int .i64 (F.2.1)), (⟨w.heap.size, 2, none⟩, .int .i64 (F.2.2)), (⟨w.heap.size + 1, 0, none⟩, .int .i64 (G.1)), (⟨w.heap.size + 1, 1, none⟩, .int .i64 (G.2.1)), (⟨w.heap.size + 1, 2, none⟩, .int .i64 (G.2.2)), (⟨w.heap.size + 1 + 1, 0, none⟩, .int .i64 (P.1)), (⟨w.heap.size + 1 + 1, 1, none⟩, .int .i64 (P.2.1)), (⟨w.heap.size + 1 + 1, 2, none⟩, .int .i64 (P.2.2))] []) (by kernel_rfl) (by kernel_rfl) ?_ ?_ ?_ ?_
    · intro j hj
      have hj2 : j < 13 := hj
      have : ∀ j, j < 13 → (#[25,26,27,28,29,30,31,32,24,33,34,11,12] : Array Nat).getD j 0 < 43 := by decide
      exact this j hj2
    · refine Sy.drew (Sy.mk_of ?_ ?_ ?_ ?_)
      · first | rfl | (simp; done) | (simp; omega)
      · intro c hc
        simp only [List.mem_cons, List.not_mem_nil, or_false] at hc
        rcases hc with rfl | rfl | rfl | rfl | rfl | rfl | rfl | rfl | rfl <;> (first | with_reducible assumption | ((repeat' first | with_reducible (first | assumption | refine cell_al _ ?_ | refine cell_eq _ ?_ | refine cell_ne _ ?_ ?_ | refine ex_set _ ?_ | refine ex_al _ ?_ | exact ⟨_, by assumption⟩) | (intro hh; injection hh with hh1 hh2; omega)); done) | go_simp)
      · intro p hp; cases hp
      · (repeat' first | with_reducible (first | exact Below.refl _ _ | assumption | refine gr_alloc ?_ _ | refine below_drewN ?_ _ | refine below_drew ?_ | refine gr_call ?_ (by assumption) | refine Below.setCell ?_ ?_ _) | go_size | omega | (simp; omega))
    · clear h1 h2 h3
      try clear c00
      try clear c01
      try clear c02
      try clear c10
      try clear c11
      try clear c12
      try clear c20
      try clear c21
      try clear c22
      refine ⟨?r41x0, ?r41x1, ?r41x2, ?r41x3, ?r41x4, ?r41x5, ?r41x6, ?r41x7, ?r41x8, ?r41x9, ?r41x10, ?r41x11, ?r41x12, trivial⟩
      all_goals intro _ aq wx Kq hf hS hdep ev1 ev2 hK
      case' r41x0 =>
        have F4 : aq.eval (.tmp 4) = .pointer (some ⟨w.heap.size, 0, none⟩) := hf 4
        have c0 := hS.cells (⟨w.heap.size, 0, none⟩, .int .i64 (F.1)) (by simp)
        have c1 := hS.cells (⟨w.heap.size, 1, none⟩, .int .i64 (F.2.1)) (by simp)
        have c2 := hS.cells (⟨w.heap.size, 2, none⟩, .int .i64 (F.2.2)) (by simp)
      case' r41x1 =>
        have D0 : aq.eval (.tmp 25) = _ := hdep 0
      case' r41x2 =>
        have F5 : aq.eval (.tmp 5) = .pointer (some ⟨w.heap.size + 1, 0, none⟩) := hf 5
        have c0 := hS.cells (⟨w.heap.size + 1, 0, none⟩, .int .i64 (G.1)) (by simp)
        have c1 := hS.cells (⟨w.heap.size + 1, 1, none⟩, .int .i64 (G.2.1)) (by simp)
        have c2 := hS.cells (⟨w.heap.size + 1, 2, none⟩, .int .i64 (G.2.2)) (by simp)
      case' r41x3 =>
        have D2 : aq.eval (.tmp 27) = _ := hdep 2
      case' r41x4 =>
        have F2 : aq.eval (.tmp 2) = .int .i64 t := hf 2
      case' r41x5 =>
        have F7 : aq.eval (.tmp 7) = .pointer (some ⟨w.heap.size + 1 + 1, 0, none⟩) := hf 7
        have c0 := hS.cells (⟨w.heap.size + 1 + 1, 0, none⟩, .int .i64 (P.1)) (by simp)
        have c1 := hS.cells (⟨w.heap.size + 1 + 1, 1, none⟩, .int .i64 (P.2.1)) (by simp)
        have c2 := hS.cells (⟨w.heap.size + 1 + 1, 2, none⟩, .int .i64 (P.2.2)) (by simp)
      case' r41x6 =>
        have D5 : aq.eval (.tmp 30) = _ := hdep 5
      case' r41x7 =>
        have D1 : aq.eval (.tmp 26) = _ := hdep 1
        have D3 : aq.eval (.tmp 28) = _ := hdep 3
        have D4 : aq.eval (.tmp 29) = _ := hdep 4
        have D6 : aq.eval (.tmp 31) = _ := hdep 6
      case' r41x8 =>
        have D7 : aq.eval (.tmp 32) = _ := hdep 7
      case' r41x9 =>
        have D8 : aq.eval (.tmp 24) = _ := hdep 8
      case' r41x10 =>
        have D8 : aq.eval (.tmp 24) = _ := hdep 8
      case' r41x11 =>
        have D9 : aq.eval (.tmp 33) = _ := hdep 9
      case' r41x12 =>
        have D10 : aq.eval (.tmp 34) = _ := hdep 10
      all_goals (clear hf hdep; unfold Oper.wp; generalize Act.eval _ = ev at *; go_simp)
      case r41x1 =>
        refine ((toForm_w F _)).mono ?_
        rintro e w2 ⟨rfl, hb⟩
        refine hK _ _ (hS.call hb) ?_ (fun j u _ h => Kd.ok_below hb h)
        rw [if_pos (by rfl)]
        show (_ : Value) = _
        first | rfl | (refine congrArg (Value.int .i64) ?_; first | rfl | exact int_in (by omega) | exact quo_in (by omega) (by omega) (by omega) | exact rem_in (by omega) (by omega) | omega) | (simp; done) | (simp [*]; done)
      case r41x3 =>
        refine ((toForm_w G _)).mono ?_
        rintro e w2 ⟨rfl, hb⟩
        refine hK _ _ (hS.call hb) ?_ (fun j u _ h => Kd.ok_below hb h)
        rw [if_pos (by rfl)]
        show (_ : Value) = _
        first | rfl | (refine congrArg (Value.int .i64) ?_; first | rfl | exact int_in (by omega) | exact quo_in (by omega) (by omega) (by omega) | exact rem_in (by omega) (by omega) | omega) | (simp; done) | (simp [*]; done)
      case r41x6 =>
        refine ((toForm_w P _)).mono ?_
        rintro e w2 ⟨rfl, hb⟩
        refine hK _ _ (hS.call hb) ?_ (fun j u _ h => Kd.ok_below hb h)
        rw [if_pos (by rfl)]
        show (_ : Value) = _
        first | rfl | (refine congrArg (Value.int .i64) ?_; first | rfl | exact int_in (by omega) | exact quo_in (by omega) (by omega) (by omega) | exact rem_in (by omega) (by omega) | omega) | (simp; done) | (simp [*]; done)
      case r41x7 =>
        refine ((implVerifyDelay F G t P _ i1 i2 i3)).mono ?_
        rintro e w2 ⟨rfl, hb⟩
        refine hK _ _ (hS.call hb) ?_ (fun j u _ h => Kd.ok_below hb h)
        rw [if_pos (by rfl)]
        show (_ : Value) = _
        first | rfl | (refine congrArg (Value.int .i64) ?_; first | rfl | exact int_in (by omega) | exact quo_in (by omega) (by omega) (by omega) | exact rem_in (by omega) (by omega) | omega) | (simp; done) | (simp [*]; done)
      all_goals (refine hK _ _ hS ?_ (fun j u _ h => h); rw [if_pos (by rfl)]; show (_ : Value) = _; (first | rfl | (refine congrArg (Value.int .i64) ?_; first | rfl | exact int_in (by omega) | exact quo_in (by omega) (by omega) (by omega) | exact rem_in (by omega) (by omega) | omega) | (simp; done) | (simp [*]; done)))
    · intro aq wx hd hw hf hS hg
      have G11 : tau aq 11 = .bool (vdV F G t P) := hg 11 (by decide)
      have G12 : tau aq 12 = .bool (vdB F G t P) := hg 12 (by decide)
      have haq : aq = ⟨#[tau aq 0, tau aq 1, tau aq 2, tau aq 3, tau aq 4, tau aq 5, tau aq 6, tau aq 7, tau aq 8, tau aq 9, tau aq 10, tau aq 11, tau aq 12, tau aq 13, tau aq 14, tau aq 15, tau aq 16, tau aq 17, tau aq 18, tau aq 19, tau aq 20, tau aq 21, tau aq 22, tau aq 23, tau aq 24, tau aq 25, tau aq 26, tau aq 27, tau aq 28, tau aq 29, tau aq 30, tau aq 31, tau aq 32, tau aq 33, tau aq 34, tau aq 35, tau aq 36, tau aq 37, tau aq 38, tau aq 39, tau aq 40, tau aq 41, tau aq 42], []⟩ := by
        obtain ⟨tq, dq⟩ := aq
        have h5 := arr_eq (show tq.size = 43 from hw)
        have h6 : dq = [] := hd
        subst h6
        exact congrArg (fun z => Act.mk z []) h5
      show K2 aq wx
      rw [haq, hf 0, hf 1, hf 2, hf 3, hf 4, hf 5, hf 6, hf 7, hf 8, hf 9, hf 10, hf 13, hf 14, hf 15, hf 16, hf 17, hf 18, hf 19, hf 20, hf 21, hf 22, hf 23, hf 35, hf 36, hf 37, hf 38, hf 39, hf 40, hf 41, hf 42, G11, G12]
      clear haq hf hd hw
      try dsimp only
      refine h3 _ _ ?_
      go_meet
      exact ⟨rfl, rfl, hS.cells (⟨w.heap.size, 0, none⟩, .int .i64 (F.1)) (by simp), hS.cells (⟨w.heap.size, 1, none⟩, .int .i64 (F.2.1)) (by simp), hS.cells (⟨w.heap.size, 2, none⟩, .int .i64 (F.2.2)) (by simp), hS.cells (⟨w.heap.size + 1, 0, none⟩, .int .i64 (G.1)) (by simp), hS.cells (⟨w.heap.size + 1, 1, none⟩, .int .i64 (G.2.1)) (by simp), hS.cells (⟨w.heap.size + 1, 2, none⟩, .int .i64 (G.2.2)) (by simp), hS.cells (⟨w.heap.size + 1 + 1, 0, none⟩, .int .i64 (P.1)) (by simp), hS.cells (⟨w.heap.size + 1 + 1, 1, none⟩, .int .i64 (P.2.1)) (by simp), hS.cells (⟨w.heap.size + 1 + 1, 2, none⟩, .int .i64 (P.2.2)) (by simp), hS.below⟩
  try clear c00
  try clear c01
  try clear c02
  try clear c10
  try clear c11
  try clear c12
  try clear c20
  try clear c21
  try clear c22
  obtain ⟨rfl, rfl, c00, c01, c02, c10, c11, c12, c20, c21, c22, hb0⟩ := hcut
  have z0 := World.block_lt_of_cell? _ _ c00
  have z1 := World.block_lt_of_cell? _ _ c10
  have z2 := World.block_lt_of_cell? _ _ c20
  change w.heap.size < wc.heap.size at z0
  change w.heap.size + 1 < wc.heap.size at z1
  change w.heap.size + 1 + 1 < wc.heap.size at z2
  go_wp2
  go_ret
  exact ⟨rfl, hb0⟩
end Go.Proofs.Ytninagdclibmnaa
