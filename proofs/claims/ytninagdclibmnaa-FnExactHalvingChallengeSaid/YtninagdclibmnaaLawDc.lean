/-
  The laws over challenges.
-/
import Derived.Test.YtninagdclibmnaaDc
namespace Go.Proofs.Ytninagdclibmnaa
open Go.RowKit
set_option linter.unusedVariables false
set_option linter.unusedSimpArgs false
attribute [local go_sem] q2 q3 q4 q5 q6 q7 q8 q9 q10 q11 q12

theorem toForm_w (F : T3) (w : World) : Calls Try.prog 17 #[frm F] w fun e w' => e = .returned (frm F) ∧ Below w.heap.size w w' := by
  go_enter Try.func17, Try.ntmps17
  go_wp2
  refine bodyPost_ret (v := frm F) (by simp [results, Try.results17, go_sem, *]) rfl ?_
  exact ⟨rfl, by (repeat' first | with_reducible (first | exact Below.refl _ _ | assumption | refine gr_alloc ?_ _ | refine below_drewN ?_ _ | refine below_drew ?_ | refine gr_call ?_ (by assumption) | refine Below.setCell ?_ ?_ _) | go_size | omega | (simp; omega))⟩

set_option maxRecDepth 100000 in
set_option maxHeartbeats 4000000 in
theorem lawDelayChallenge (F G : T3) (t : Int) (w : World) (i1 : I64T F) (i2 : I64T G) : Calls Try.prog 3 #[frm F, frm G, .int .i64 t] w fun e w' => e = .returned (.bool true) ∧ Below w.heap.size w w' := by
  go_enter Try.func3, Try.ntmps3
  go_upto_region 1 with fail
  go_cut [7, 8] (fun s7 s8 wx => s7 = .int .i64 (dcV F G t) ∧ s8 = .bool (dcB F G t) ∧ wx.cell? ⟨w.heap.size, 0, none⟩ = some (.int .i64 (F.1)) ∧ wx.cell? ⟨w.heap.size, 1, none⟩ = some (.int .i64 (F.2.1)) ∧ wx.cell? ⟨w.heap.size, 2, none⟩ = some (.int .i64 (F.2.2)) ∧ wx.cell? ⟨w.heap.size + 1, 0, none⟩ = some (.int .i64 (G.1)) ∧ wx.cell? ⟨w.heap.size + 1, 1, none⟩ = some (.int .i64 (G.2.1)) ∧ wx.cell? ⟨w.heap.size + 1, 2, none⟩ = some (.int .i64 (G.2.2)) ∧ Below w.heap.size w wx)
  case first =>
    have h1 := trivial
    rename_i K2 h2 h3
    refine region_n0 (by kernel_rfl) (fun j => #[12,13,14,15,16,17,11,18,19,7,8].getD j 0) (fun j => Kd.ok ((fun j => match j with | 0 => Kd.val (.agg #[.int .i64 (F.1), .int .i64 (F.2.1), .int .i64 (F.2.2)]) | 1 => Kd.val (.agg #[.int .i64 (F.1), .int .i64 (F.2.1), .int .i64 (F.2.2)]) | 2 => Kd.val (.agg #[.int .i64 (G.1), .int .i64 (G.2.1), .int .i64 (G.2.2)]) | 3 => Kd.val (.agg #[.int .i64 (G.1), .int .i64 (G.2.1), .int .i64 (G.2.2)]) | 4 => Kd.val (.int .i64 t) | 5 => Kd.val (.tuple #[.int .i64 (dcV F G t), .bool (dcB F G t)]) | 6 => Kd.val (.tuple #[.int .i64 (dcV F G t), .bool (dcB F G t)]) | 7 => Kd.val (.int .i64 (dcV F G t)) | 8 => Kd.val (.bool (dcB F G t)) | 9 => Kd.val (.int .i64 (dcV F G t)) | 10 => Kd.val (.bool (dcB F G t)) | _ => Kd.any : Nat → Kd) j)) (Sy w (w.heap.size + 1 + 1) [(⟨w.heap.size, 0, none⟩, .int .i64 (F.1)), (⟨w.heap.size, 1, none⟩, .int .i64 (F.2.1)), (⟨w.heap.size, 2, none⟩, .int .i64 (F.2.2)), (⟨w.heap.size + 1, 0, none⟩, .int .i64 (G.1)), (⟨w.heap.size + 1, 1, none⟩, .int .i64 (G.2.1)), (⟨w.heap.size + 1, 2, none⟩, .int .i64 (G.2.2))] []) (by kernel_rfl) (by kernel_rfl) ?_ ?_ ?_ ?_
    · intro j hj
      have hj2 : j < 11 := hj
      have : ∀ j, j < 11 → (#[12,13,14,15,16,17,11,18,19,7,8] : Array Nat).getD j 0 < 37 := by decide
      exact this j hj2
    · refine Sy.drew (Sy.mk_of ?_ ?_ ?_ ?_)
      · first | rfl | (simp; done) | (simp; omega)
      · intro c hc
        simp only [List.mem_cons, List.not_mem_nil, or_false] at hc
        rcases hc with rfl | rfl | rfl | rfl | rfl | rfl <;> (first | with_reducible assumption | ((repeat' first | with_reducible (first | assumption | refine cell_al _ ?_ | refine cell_eq _ ?_ | refine cell_ne _ ?_ ?_ | refine ex_set _ ?_ | refine ex_al _ ?_ | exact ⟨_, by assumption⟩) | (intro hh; injection hh with hh1 hh2; omega)); done) | go_simp)
      · intro p hp; cases hp
      · (repeat' first | with_reducible (first | exact Below.refl _ _ | assumption | refine gr_alloc ?_ _ | refine below_drewN ?_ _ | refine below_drew ?_ | refine gr_call ?_ (by assumption) | refine Below.setCell ?_ ?_ _) | go_size | omega | (simp; omega))
    · clear h1 h2 h3
      refine ⟨?r35x0, ?r35x1, ?r35x2, ?r35x3, ?r35x4, ?r35x5, ?r35x6, ?r35x7, ?r35x8, ?r35x9, ?r35x10, trivial⟩
      all_goals intro _ aq wx Kq hf hS hdep ev1 ev2 hK
      case' r35x0 =>
        have F3 : aq.eval (.tmp 3) = .pointer (some ⟨w.heap.size, 0, none⟩) := hf 3
        have c0 := hS.cells (⟨w.heap.size, 0, none⟩, .int .i64 (F.1)) (by simp)
        have c1 := hS.cells (⟨w.heap.size, 1, none⟩, .int .i64 (F.2.1)) (by simp)
        have c2 := hS.cells (⟨w.heap.size, 2, none⟩, .int .i64 (F.2.2)) (by simp)
      case' r35x1 =>
        have D0 : aq.eval (.tmp 12) = _ := hdep 0
      case' r35x2 =>
        have F4 : aq.eval (.tmp 4) = .pointer (some ⟨w.heap.size + 1, 0, none⟩) := hf 4
        have c0 := hS.cells (⟨w.heap.size + 1, 0, none⟩, .int .i64 (G.1)) (by simp)
        have c1 := hS.cells (⟨w.heap.size + 1, 1, none⟩, .int .i64 (G.2.1)) (by simp)
        have c2 := hS.cells (⟨w.heap.size + 1, 2, none⟩, .int .i64 (G.2.2)) (by simp)
      case' r35x3 =>
        have D2 : aq.eval (.tmp 14) = _ := hdep 2
      case' r35x4 =>
        have F2 : aq.eval (.tmp 2) = .int .i64 t := hf 2
      case' r35x5 =>
        have D1 : aq.eval (.tmp 13) = _ := hdep 1
        have D3 : aq.eval (.tmp 15) = _ := hdep 3
        have D4 : aq.eval (.tmp 16) = _ := hdep 4
      case' r35x6 =>
        have D5 : aq.eval (.tmp 17) = _ := hdep 5
      case' r35x7 =>
        have D6 : aq.eval (.tmp 11) = _ := hdep 6
      case' r35x8 =>
        have D6 : aq.eval (.tmp 11) = _ := hdep 6
      case' r35x9 =>
        have D7 : aq.eval (.tmp 18) = _ := hdep 7
      case' r35x10 =>
        have D8 : aq.eval (.tmp 19) = _ := hdep 8
      all_goals (clear hf hdep; unfold Oper.wp; generalize Act.eval _ = ev at *; go_simp)
      case r35x1 =>
        refine ((toForm_w F _)).mono ?_
        rintro e w2 ⟨rfl, hb⟩
        refine hK _ _ (hS.call hb) ?_ (fun j u _ h => Kd.ok_below hb h)
        rw [if_pos (by rfl)]
        show (_ : Value) = _
        first | rfl | (refine congrArg (Value.int .i64) ?_; first | rfl | exact int_in (by omega) | exact quo_in (by omega) (by omega) (by omega) | exact rem_in (by omega) (by omega) | omega) | (simp; done) | (simp [*]; done)
      case r35x3 =>
        refine ((toForm_w G _)).mono ?_
        rintro e w2 ⟨rfl, hb⟩
        refine hK _ _ (hS.call hb) ?_ (fun j u _ h => Kd.ok_below hb h)
        rw [if_pos (by rfl)]
        show (_ : Value) = _
        first | rfl | (refine congrArg (Value.int .i64) ?_; first | rfl | exact int_in (by omega) | exact quo_in (by omega) (by omega) (by omega) | exact rem_in (by omega) (by omega) | omega) | (simp; done) | (simp [*]; done)
      case r35x5 =>
        refine ((specDelayChallenge F G t _)).mono ?_
        rintro e w2 ⟨rfl, hb⟩
        refine hK _ _ (hS.call hb) ?_ (fun j u _ h => Kd.ok_below hb h)
        rw [if_pos (by rfl)]
        show (_ : Value) = _
        first | rfl | (refine congrArg (Value.int .i64) ?_; first | rfl | exact int_in (by omega) | exact quo_in (by omega) (by omega) (by omega) | exact rem_in (by omega) (by omega) | omega) | (simp; done) | (simp [*]; done)
      all_goals (refine hK _ _ hS ?_ (fun j u _ h => h); rw [if_pos (by rfl)]; show (_ : Value) = _; (first | rfl | (refine congrArg (Value.int .i64) ?_; first | rfl | exact int_in (by omega) | exact quo_in (by omega) (by omega) (by omega) | exact rem_in (by omega) (by omega) | omega) | (simp; done) | (simp [*]; done)))
    · intro aq wx hd hw hf hS hg
      have G7 : tau aq 7 = .int .i64 (dcV F G t) := hg 9 (by decide)
      have G8 : tau aq 8 = .bool (dcB F G t) := hg 10 (by decide)
      have haq : aq = ⟨#[tau aq 0, tau aq 1, tau aq 2, tau aq 3, tau aq 4, tau aq 5, tau aq 6, tau aq 7, tau aq 8, tau aq 9, tau aq 10, tau aq 11, tau aq 12, tau aq 13, tau aq 14, tau aq 15, tau aq 16, tau aq 17, tau aq 18, tau aq 19, tau aq 20, tau aq 21, tau aq 22, tau aq 23, tau aq 24, tau aq 25, tau aq 26, tau aq 27, tau aq 28, tau aq 29, tau aq 30, tau aq 31, tau aq 32, tau aq 33, tau aq 34, tau aq 35, tau aq 36], []⟩ := by
        obtain ⟨tq, dq⟩ := aq
        have h5 := arr_eq (show tq.size = 37 from hw)
        have h6 : dq = [] := hd
        subst h6
        exact congrArg (fun z => Act.mk z []) h5
      show K2 aq wx
      rw [haq, hf 0, hf 1, hf 2, hf 3, hf 4, hf 5, hf 6, hf 9, hf 10, hf 20, hf 21, hf 22, hf 23, hf 24, hf 25, hf 26, hf 27, hf 28, hf 29, hf 30, hf 31, hf 32, hf 33, hf 34, hf 35, hf 36, G7, G8]
      clear haq hf hd hw
      try dsimp only
      refine h3 _ _ ?_
      go_meet
      exact ⟨rfl, rfl, hS.cells (⟨w.heap.size, 0, none⟩, .int .i64 (F.1)) (by simp), hS.cells (⟨w.heap.size, 1, none⟩, .int .i64 (F.2.1)) (by simp), hS.cells (⟨w.heap.size, 2, none⟩, .int .i64 (F.2.2)) (by simp), hS.cells (⟨w.heap.size + 1, 0, none⟩, .int .i64 (G.1)) (by simp), hS.cells (⟨w.heap.size + 1, 1, none⟩, .int .i64 (G.2.1)) (by simp), hS.cells (⟨w.heap.size + 1, 2, none⟩, .int .i64 (G.2.2)) (by simp), hS.below⟩
  obtain ⟨rfl, rfl, c00, c01, c02, c10, c11, c12, hb0⟩ := hcut
  have z0 := World.block_lt_of_cell? _ _ c00
  have z1 := World.block_lt_of_cell? _ _ c10
  change _ < wc.heap.size at z0
  change _ < wc.heap.size at z1
  obtain ⟨wl1, rfl⟩ : ∃ wl1 : World, wl1 = wc := ⟨_, rfl⟩
  go_upto_region 2 with fail
  go_cut [9, 10] (fun s9 s10 wx => s9 = .int .i64 (dcV F G t) ∧ s10 = .bool (dcB F G t) ∧ wx.cell? ⟨w.heap.size, 0, none⟩ = some (.int .i64 (F.1)) ∧ wx.cell? ⟨w.heap.size, 1, none⟩ = some (.int .i64 (F.2.1)) ∧ wx.cell? ⟨w.heap.size, 2, none⟩ = some (.int .i64 (F.2.2)) ∧ wx.cell? ⟨w.heap.size + 1, 0, none⟩ = some (.int .i64 (G.1)) ∧ wx.cell? ⟨w.heap.size + 1, 1, none⟩ = some (.int .i64 (G.2.1)) ∧ wx.cell? ⟨w.heap.size + 1, 2, none⟩ = some (.int .i64 (G.2.2)) ∧ Below w.heap.size w wx)
  case first =>
    have h1 := trivial
    rename_i K2 h2 h3
    refine region_n0 (by kernel_rfl) (fun j => #[21,22,23,24,25,26,20,27,28,9,10].getD j 0) (fun j => Kd.ok ((fun j => match j with | 0 => Kd.val (.agg #[.int .i64 (F.1), .int .i64 (F.2.1), .int .i64 (F.2.2)]) | 1 => Kd.val (.agg #[.int .i64 (F.1), .int .i64 (F.2.1), .int .i64 (F.2.2)]) | 2 => Kd.val (.agg #[.int .i64 (G.1), .int .i64 (G.2.1), .int .i64 (G.2.2)]) | 3 => Kd.val (.agg #[.int .i64 (G.1), .int .i64 (G.2.1), .int .i64 (G.2.2)]) | 4 => Kd.val (.int .i64 t) | 5 => Kd.val (.tuple #[.int .i64 (dcV F G t), .bool (dcB F G t)]) | 6 => Kd.val (.tuple #[.int .i64 (dcV F G t), .bool (dcB F G t)]) | 7 => Kd.val (.int .i64 (dcV F G t)) | 8 => Kd.val (.bool (dcB F G t)) | 9 => Kd.val (.int .i64 (dcV F G t)) | 10 => Kd.val (.bool (dcB F G t)) | _ => Kd.any : Nat → Kd) j)) (Sy w (wl1.heap.size) [(⟨w.heap.size, 0, none⟩, .int .i64 (F.1)), (⟨w.heap.size, 1, none⟩, .int .i64 (F.2.1)), (⟨w.heap.size, 2, none⟩, .int .i64 (F.2.2)), (⟨w.heap.size + 1, 0, none⟩, .int .i64 (G.1)), (⟨w.heap.size + 1, 1, none⟩, .int .i64 (G.2.1)), (⟨w.heap.size + 1, 2, none⟩, .int .i64 (G.2.2))] []) (by kernel_rfl) (by kernel_rfl) ?_ ?_ ?_ ?_
    · intro j hj
      have hj2 : j < 11 := hj
      have : ∀ j, j < 11 → (#[21,22,23,24,25,26,20,27,28,9,10] : Array Nat).getD j 0 < 37 := by decide
      exact this j hj2
    · refine Sy.drew (Sy.mk_of ?_ ?_ ?_ ?_)
      · first | rfl | (simp; done) | (simp; omega)
      · intro c hc
        simp only [List.mem_cons, List.not_mem_nil, or_false] at hc
        rcases hc with rfl | rfl | rfl | rfl | rfl | rfl <;> (first | with_reducible assumption | ((repeat' first | with_reducible (first | assumption | refine cell_al _ ?_ | refine cell_eq _ ?_ | refine cell_ne _ ?_ ?_ | refine ex_set _ ?_ | refine ex_al _ ?_ | exact ⟨_, by assumption⟩) | (intro hh; injection hh with hh1 hh2; omega)); done) | go_simp)
      · intro p hp; cases hp
      · (repeat' first | with_reducible (first | exact Below.refl _ _ | assumption | refine gr_alloc ?_ _ | refine below_drewN ?_ _ | refine below_drew ?_ | refine gr_call ?_ (by assumption) | refine Below.setCell ?_ ?_ _) | go_size | omega | (simp; omega))
    · clear h1 h2 h3
      try clear c00
      try clear c01
      try clear c02
      try clear c10
      try clear c11
      try clear c12
      refine ⟨?r36x0, ?r36x1, ?r36x2, ?r36x3, ?r36x4, ?r36x5, ?r36x6, ?r36x7, ?r36x8, ?r36x9, ?r36x10, trivial⟩
      all_goals intro _ aq wx Kq hf hS hdep ev1 ev2 hK
      case' r36x0 =>
        have F3 : aq.eval (.tmp 3) = .pointer (some ⟨w.heap.size, 0, none⟩) := hf 3
        have c0 := hS.cells (⟨w.heap.size, 0, none⟩, .int .i64 (F.1)) (by simp)
        have c1 := hS.cells (⟨w.heap.size, 1, none⟩, .int .i64 (F.2.1)) (by simp)
        have c2 := hS.cells (⟨w.heap.size, 2, none⟩, .int .i64 (F.2.2)) (by simp)
      case' r36x1 =>
        have D0 : aq.eval (.tmp 21) = _ := hdep 0
      case' r36x2 =>
        have F4 : aq.eval (.tmp 4) = .pointer (some ⟨w.heap.size + 1, 0, none⟩) := hf 4
        have c0 := hS.cells (⟨w.heap.size + 1, 0, none⟩, .int .i64 (G.1)) (by simp)
        have c1 := hS.cells (⟨w.heap.size + 1, 1, none⟩, .int .i64 (G.2.1)) (by simp)
        have c2 := hS.cells (⟨w.heap.size + 1, 2, none⟩, .int .i64 (G.2.2)) (by simp)
      case' r36x3 =>
        have D2 : aq.eval (.tmp 23) = _ := hdep 2
      case' r36x4 =>
        have F2 : aq.eval (.tmp 2) = .int .i64 t := hf 2
      case' r36x5 =>
        have D1 : aq.eval (.tmp 22) = _ := hdep 1
        have D3 : aq.eval (.tmp 24) = _ := hdep 3
        have D4 : aq.eval (.tmp 25) = _ := hdep 4
      case' r36x6 =>
        have D5 : aq.eval (.tmp 26) = _ := hdep 5
      case' r36x7 =>
        have D6 : aq.eval (.tmp 20) = _ := hdep 6
      case' r36x8 =>
        have D6 : aq.eval (.tmp 20) = _ := hdep 6
      case' r36x9 =>
        have D7 : aq.eval (.tmp 27) = _ := hdep 7
      case' r36x10 =>
        have D8 : aq.eval (.tmp 28) = _ := hdep 8
      all_goals (clear hf hdep; unfold Oper.wp; generalize Act.eval _ = ev at *; go_simp)
      case r36x1 =>
        refine ((toForm_w F _)).mono ?_
        rintro e w2 ⟨rfl, hb⟩
        refine hK _ _ (hS.call hb) ?_ (fun j u _ h => Kd.ok_below hb h)
        rw [if_pos (by rfl)]
        show (_ : Value) = _
        first | rfl | (refine congrArg (Value.int .i64) ?_; first | rfl | exact int_in (by omega) | exact quo_in (by omega) (by omega) (by omega) | exact rem_in (by omega) (by omega) | omega) | (simp; done) | (simp [*]; done)
      case r36x3 =>
        refine ((toForm_w G _)).mono ?_
        rintro e w2 ⟨rfl, hb⟩
        refine hK _ _ (hS.call hb) ?_ (fun j u _ h => Kd.ok_below hb h)
        rw [if_pos (by rfl)]
        show (_ : Value) = _
        first | rfl | (refine congrArg (Value.int .i64) ?_; first | rfl | exact int_in (by omega) | exact quo_in (by omega) (by omega) (by omega) | exact rem_in (by omega) (by omega) | omega) | (simp; done) | (simp [*]; done)
      case r36x5 =>
        refine ((implDelayChallenge F G t _ i1 i2)).mono ?_
        rintro e w2 ⟨rfl, hb⟩
        refine hK _ _ (hS.call hb) ?_ (fun j u _ h => Kd.ok_below hb h)
        rw [if_pos (by rfl)]
        show (_ : Value) = _
        first | rfl | (refine congrArg (Value.int .i64) ?_; first | rfl | exact int_in (by omega) | exact quo_in (by omega) (by omega) (by omega) | exact rem_in (by omega) (by omega) | omega) | (simp; done) | (simp [*]; done)
      all_goals (refine hK _ _ hS ?_ (fun j u _ h => h); rw [if_pos (by rfl)]; show (_ : Value) = _; (first | rfl | (refine congrArg (Value.int .i64) ?_; first | rfl | exact int_in (by omega) | exact quo_in (by omega) (by omega) (by omega) | exact rem_in (by omega) (by omega) | omega) | (simp; done) | (simp [*]; done)))
    · intro aq wx hd hw hf hS hg
      have G9 : tau aq 9 = .int .i64 (dcV F G t) := hg 9 (by decide)
      have G10 : tau aq 10 = .bool (dcB F G t) := hg 10 (by decide)
      have haq : aq = ⟨#[tau aq 0, tau aq 1, tau aq 2, tau aq 3, tau aq 4, tau aq 5, tau aq 6, tau aq 7, tau aq 8, tau aq 9, tau aq 10, tau aq 11, tau aq 12, tau aq 13, tau aq 14, tau aq 15, tau aq 16, tau aq 17, tau aq 18, tau aq 19, tau aq 20, tau aq 21, tau aq 22, tau aq 23, tau aq 24, tau aq 25, tau aq 26, tau aq 27, tau aq 28, tau aq 29, tau aq 30, tau aq 31, tau aq 32, tau aq 33, tau aq 34, tau aq 35, tau aq 36], []⟩ := by
        obtain ⟨tq, dq⟩ := aq
        have h5 := arr_eq (show tq.size = 37 from hw)
        have h6 : dq = [] := hd
        subst h6
        exact congrArg (fun z => Act.mk z []) h5
      show K2 aq wx
      rw [haq, hf 0, hf 1, hf 2, hf 3, hf 4, hf 5, hf 6, hf 7, hf 8, hf 11, hf 12, hf 13, hf 14, hf 15, hf 16, hf 17, hf 18, hf 19, hf 29, hf 30, hf 31, hf 32, hf 33, hf 34, hf 35, hf 36, G9, G10]
      clear haq hf hd hw
      try dsimp only
      refine h3 _ _ ?_
      go_meet
      exact ⟨rfl, rfl, hS.cells (⟨w.heap.size, 0, none⟩, .int .i64 (F.1)) (by simp), hS.cells (⟨w.heap.size, 1, none⟩, .int .i64 (F.2.1)) (by simp), hS.cells (⟨w.heap.size, 2, none⟩, .int .i64 (F.2.2)) (by simp), hS.cells (⟨w.heap.size + 1, 0, none⟩, .int .i64 (G.1)) (by simp), hS.cells (⟨w.heap.size + 1, 1, none⟩, .int .i64 (G.2.1)) (by simp), hS.cells (⟨w.heap.size + 1, 2, none⟩, .int .i64 (G.2.2)) (by simp), hS.below⟩
  try clear c00
  try clear c01
  try clear c02
  try clear c10
  try clear c11
  try clear c12
  obtain ⟨rfl, rfl, c00, c01, c02, c10, c11, c12, hb0⟩ := hcut
  have z0 := World.block_lt_of_cell? _ _ c00
  have z1 := World.block_lt_of_cell? _ _ c10
  change _ < wc.heap.size at z0
  change _ < wc.heap.size at z1
  go_wp2
  go_ret
  exact ⟨rfl, hb0⟩

set_option maxRecDepth 100000 in
set_option maxHeartbeats 4000000 in
theorem lawHalvingChallenge (F G M : T3) (k : Int) (w : World) (i1 : I64T F) (i2 : I64T G) (i3 : I64T M) : Calls Try.prog 4 #[frm F, frm G, frm M, .int .i64 k] w fun e w' => e = .returned (.bool true) ∧ Below w.heap.size w w' := by
  go_enter Try.func4, Try.ntmps4
  go_upto_region 1 with fail
  go_cut [9, 10] (fun s9 s10 wx => s9 = .int .i64 (hcV F G M k) ∧ s10 = .bool (hcB F G M k) ∧ wx.cell? ⟨w.heap.size, 0, none⟩ = some (.int .i64 (F.1)) ∧ wx.cell? ⟨w.heap.size, 1, none⟩ = some (.int .i64 (F.2.1)) ∧ wx.cell? ⟨w.heap.size, 2, none⟩ = some (.int .i64 (F.2.2)) ∧ wx.cell? ⟨w.heap.size + 1, 0, none⟩ = some (.int .i64 (G.1)) ∧ wx.cell? ⟨w.heap.size + 1, 1, none⟩ = some (.int .i64 (G.2.1)) ∧ wx.cell? ⟨w.heap.size + 1, 2, none⟩ = some (.int .i64 (G.2.2)) ∧ wx.cell? ⟨w.heap.size + 1 + 1, 0, none⟩ = some (.int .i64 (M.1)) ∧ wx.cell? ⟨w.heap.size + 1 + 1, 1, none⟩ = some (.int .i64 (M.2.1)) ∧ wx.cell? ⟨w.heap.size + 1 + 1, 2, none⟩ = some (.int .i64 (M.2.2)) ∧ Below w.heap.size w wx)
  case first =>
    have h1 := trivial
    rename_i K2 h2 h3
    refine region_n0 (by kernel_rfl) (fun j => #[14,15,16,17,18,19,20,21,13,22,23,9,10].getD j 0) (fun j => Kd.ok ((fun j => match j with | 0 => Kd.val (.agg #[.int .i64 (F.1), .int .i64 (F.2.1), .int .i64 (F.2.2)]) | 1 => Kd.val (.agg #[.int .i64 (F.1), .int .i64 (F.2.1), .int .i64 (F.2.2)]) | 2 => Kd.val (.agg #[.int .i64 (G.1), .int .i64 (G.2.1), .int .i64 (G.2.2)]) | 3 => Kd.val (.agg #[.int .i64 (G.1), .int .i64 (G.2.1), .int .i64 (G.2.2)]) | 4 => Kd.val (.agg #[.int .i64 (M.1), .int .i64 (M.2.1), .int .i64 (M.2.2)]) | 5 => Kd.val (.agg #[.int .i64 (M.1), .int .i64 (M.2.1), .int .i64 (M.2.2)]) | 6 => Kd.val (.int .i64 k) | 7 => Kd.val (.tuple #[.int .i64 (hcV F G M k), .bool (hcB F G M k)]) | 8 => Kd.val (.tuple #[.int .i64 (hcV F G M k), .bool (hcB F G M k)]) | 9 => Kd.val (.int .i64 (hcV F G M k)) | 10 => Kd.val (.bool (hcB F G M k)) | 11 => Kd.val (.int .i64 (hcV F G M k)) | 12 => Kd.val (.bool (hcB F G M k)) | _ => Kd.any : Nat → Kd) j)) (Sy w (w.heap.size + 1 + 1 + 1) [(⟨w.heap.size, 0, none⟩, .int .i64 (F.1)), (⟨w.heap.size, 1, none⟩, .int .i64 (F.2.1)), (⟨w.heap.size, 2, none⟩, .int .i64 (F.2.2)), (⟨w.heap.size + 1, 0, none⟩, .int .i64 (G.1)), (⟨w.heap.size + 1, 1, none⟩, .int .i64 (G.2.1)), (⟨w.heap.size + 1, 2, none⟩, .int .i64 (G.2.2)), (⟨w.heap.size + 1 + 1, 0, none⟩, .int .i64 (M.1)), (⟨w.heap.size + 1 + 1, 1, none⟩, .int .i64 (M.2.1)), (⟨w.heap.size + 1 + 1, 2, none⟩, .int .i64 (M.2.2))] []) (by kernel_rfl) (by kernel_rfl) ?_ ?_ ?_ ?_
    · intro j hj
      have hj2 : j < 13 := hj
      have : ∀ j, j < 13 → (#[14,15,16,17,18,19,20,21,13,22,23,9,10] : Array Nat).getD j 0 < 43 := by decide
      exact this j hj2
    · refine Sy.drew (Sy.mk_of ?_ ?_ ?_ ?_)
      · first | rfl | (simp; done) | (simp; omega)
      · intro c hc
        simp only [List.mem_cons, List.not_mem_nil, or_false] at hc
        rcases hc with rfl | rfl | rfl | rfl | rfl | rfl | rfl | rfl | rfl <;> (first | with_reducible assumption | ((repeat' first | with_reducible (first | assumption | refine cell_al _ ?_ | refine cell_eq _ ?_ | refine cell_ne _ ?_ ?_ | refine ex_set _ ?_ | refine ex_al _ ?_ | exact ⟨_, by assumption⟩) | (intro hh; injection hh with hh1 hh2; omega)); done) | go_simp)
      · intro p hp; cases hp
      · (repeat' first | with_reducible (first | exact Below.refl _ _ | assumption | refine gr_alloc ?_ _ | refine below_drewN ?_ _ | refine below_drew ?_ | refine gr_call ?_ (by assumption) | refine Below.setCell ?_ ?_ _) | go_size | omega | (simp; omega))
    · clear h1 h2 h3
      refine ⟨?r37x0, ?r37x1, ?r37x2, ?r37x3, ?r37x4, ?r37x5, ?r37x6, ?r37x7, ?r37x8, ?r37x9, ?r37x10, ?r37x11, ?r37x12, trivial⟩
      all_goals intro _ aq wx Kq hf hS hdep ev1 ev2 hK
      case' r37x0 =>
        have F4 : aq.eval (.tmp 4) = .pointer (some ⟨w.heap.size, 0, none⟩) := hf 4
        have c0 := hS.cells (⟨w.heap.size, 0, none⟩, .int .i64 (F.1)) (by simp)
        have c1 := hS.cells (⟨w.heap.size, 1, none⟩, .int .i64 (F.2.1)) (by simp)
        have c2 := hS.cells (⟨w.heap.size, 2, none⟩, .int .i64 (F.2.2)) (by simp)
      case' r37x1 =>
        have D0 : aq.eval (.tmp 14) = _ := hdep 0
      case' r37x2 =>
        have F5 : aq.eval (.tmp 5) = .pointer (some ⟨w.heap.size + 1, 0, none⟩) := hf 5
        have c0 := hS.cells (⟨w.heap.size + 1, 0, none⟩, .int .i64 (G.1)) (by simp)
        have c1 := hS.cells (⟨w.heap.size + 1, 1, none⟩, .int .i64 (G.2.1)) (by simp)
        have c2 := hS.cells (⟨w.heap.size + 1, 2, none⟩, .int .i64 (G.2.2)) (by simp)
      case' r37x3 =>
        have D2 : aq.eval (.tmp 16) = _ := hdep 2
      case' r37x4 =>
        have F6 : aq.eval (.tmp 6) = .pointer (some ⟨w.heap.size + 1 + 1, 0, none⟩) := hf 6
        have c0 := hS.cells (⟨w.heap.size + 1 + 1, 0, none⟩, .int .i64 (M.1)) (by simp)
        have c1 := hS.cells (⟨w.heap.size + 1 + 1, 1, none⟩, .int .i64 (M.2.1)) (by simp)
        have c2 := hS.cells (⟨w.heap.size + 1 + 1, 2, none⟩, .int .i64 (M.2.2)) (by simp)
      case' r37x5 =>
        have D4 : aq.eval (.tmp 18) = _ := hdep 4
      case' r37x6 =>
        have F3 : aq.eval (.tmp 3) = .int .i64 k := hf 3
      case' r37x7 =>
        have D1 : aq.eval (.tmp 15) = _ := hdep 1
        have D3 : aq.eval (.tmp 17) = _ := hdep 3
        have D5 : aq.eval (.tmp 19) = _ := hdep 5
        have D6 : aq.eval (.tmp 20) = _ := hdep 6
      case' r37x8 =>
        have D7 : aq.eval (.tmp 21) = _ := hdep 7
      case' r37x9 =>
        have D8 : aq.eval (.tmp 13) = _ := hdep 8
      case' r37x10 =>
        have D8 : aq.eval (.tmp 13) = _ := hdep 8
      case' r37x11 =>
        have D9 : aq.eval (.tmp 22) = _ := hdep 9
      case' r37x12 =>
        have D10 : aq.eval (.tmp 23) = _ := hdep 10
      all_goals (clear hf hdep; unfold Oper.wp; generalize Act.eval _ = ev at *; go_simp)
      case r37x1 =>
        refine ((toForm_w F _)).mono ?_
        rintro e w2 ⟨rfl, hb⟩
        refine hK _ _ (hS.call hb) ?_ (fun j u _ h => Kd.ok_below hb h)
        rw [if_pos (by rfl)]
        show (_ : Value) = _
        first | rfl | (refine congrArg (Value.int .i64) ?_; first | rfl | exact int_in (by omega) | exact quo_in (by omega) (by omega) (by omega) | exact rem_in (by omega) (by omega) | omega) | (simp; done) | (simp [*]; done)
      case r37x3 =>
        refine ((toForm_w G _)).mono ?_
        rintro e w2 ⟨rfl, hb⟩
        refine hK _ _ (hS.call hb) ?_ (fun j u _ h => Kd.ok_below hb h)
        rw [if_pos (by rfl)]
        show (_ : Value) = _
        first | rfl | (refine congrArg (Value.int .i64) ?_; first | rfl | exact int_in (by omega) | exact quo_in (by omega) (by omega) (by omega) | exact rem_in (by omega) (by omega) | omega) | (simp; done) | (simp [*]; done)
      case r37x5 =>
        refine ((toForm_w M _)).mono ?_
        rintro e w2 ⟨rfl, hb⟩
        refine hK _ _ (hS.call hb) ?_ (fun j u _ h => Kd.ok_below hb h)
        rw [if_pos (by rfl)]
        show (_ : Value) = _
        first | rfl | (refine congrArg (Value.int .i64) ?_; first | rfl | exact int_in (by omega) | exact quo_in (by omega) (by omega) (by omega) | exact rem_in (by omega) (by omega) | omega) | (simp; done) | (simp [*]; done)
      case r37x7 =>
        refine ((specHalvingChallenge F G M k _)).mono ?_
        rintro e w2 ⟨rfl, hb⟩
        refine hK _ _ (hS.call hb) ?_ (fun j u _ h => Kd.ok_below hb h)
        rw [if_pos (by rfl)]
        show (_ : Value) = _
        first | rfl | (refine congrArg (Value.int .i64) ?_; first | rfl | exact int_in (by omega) | exact quo_in (by omega) (by omega) (by omega) | exact rem_in (by omega) (by omega) | omega) | (simp; done) | (simp [*]; done)
      all_goals (refine hK _ _ hS ?_ (fun j u _ h => h); rw [if_pos (by rfl)]; show (_ : Value) = _; (first | rfl | (refine congrArg (Value.int .i64) ?_; first | rfl | exact int_in (by omega) | exact quo_in (by omega) (by omega) (by omega) | exact rem_in (by omega) (by omega) | omega) | (simp; done) | (simp [*]; done)))
    · intro aq wx hd hw hf hS hg
      have G9 : tau aq 9 = .int .i64 (hcV F G M k) := hg 11 (by decide)
      have G10 : tau aq 10 = .bool (hcB F G M k) := hg 12 (by decide)
      have haq : aq = ⟨#[tau aq 0, tau aq 1, tau aq 2, tau aq 3, tau aq 4, tau aq 5, tau aq 6, tau aq 7, tau aq 8, tau aq 9, tau aq 10, tau aq 11, tau aq 12, tau aq 13, tau aq 14, tau aq 15, tau aq 16, tau aq 17, tau aq 18, tau aq 19, tau aq 20, tau aq 21, tau aq 22, tau aq 23, tau aq 24, tau aq 25, tau aq 26, tau aq 27, tau aq 28, tau aq 29, tau aq 30, tau aq 31, tau aq 32, tau aq 33, tau aq 34, tau aq 35, tau aq 36, tau aq 37, tau aq 38, tau aq 39, tau aq 40, tau aq 41, tau aq 42], []⟩ := by
        obtain ⟨tq, dq⟩ := aq
        have h5 := arr_eq (show tq.size = 43 from hw)
        have h6 : dq = [] := hd
        subst h6
        exact congrArg (fun z => Act.mk z []) h5
      show K2 aq wx
      rw [haq, hf 0, hf 1, hf 2, hf 3, hf 4, hf 5, hf 6, hf 7, hf 8, hf 11, hf 12, hf 24, hf 25, hf 26, hf 27, hf 28, hf 29, hf 30, hf 31, hf 32, hf 33, hf 34, hf 35, hf 36, hf 37, hf 38, hf 39, hf 40, hf 41, hf 42, G9, G10]
      clear haq hf hd hw
      try dsimp only
      refine h3 _ _ ?_
      go_meet
      exact ⟨rfl, rfl, hS.cells (⟨w.heap.size, 0, none⟩, .int .i64 (F.1)) (by simp), hS.cells (⟨w.heap.size, 1, none⟩, .int .i64 (F.2.1)) (by simp), hS.cells (⟨w.heap.size, 2, none⟩, .int .i64 (F.2.2)) (by simp), hS.cells (⟨w.heap.size + 1, 0, none⟩, .int .i64 (G.1)) (by simp), hS.cells (⟨w.heap.size + 1, 1, none⟩, .int .i64 (G.2.1)) (by simp), hS.cells (⟨w.heap.size + 1, 2, none⟩, .int .i64 (G.2.2)) (by simp), hS.cells (⟨w.heap.size + 1 + 1, 0, none⟩, .int .i64 (M.1)) (by simp), hS.cells (⟨w.heap.size + 1 + 1, 1, none⟩, .int .i64 (M.2.1)) (by simp), hS.cells (⟨w.heap.size + 1 + 1, 2, none⟩, .int .i64 (M.2.2)) (by simp), hS.below⟩
  obtain ⟨rfl, rfl, c00, c01, c02, c10, c11, c12, c20, c21, c22, hb0⟩ := hcut
  have z0 := World.block_lt_of_cell? _ _ c00
  have z1 := World.block_lt_of_cell? _ _ c10
  have z2 := World.block_lt_of_cell? _ _ c20
  change _ < wc.heap.size at z0
  change _ < wc.heap.size at z1
  change _ < wc.heap.size at z2
  obtain ⟨wl1, rfl⟩ : ∃ wl1 : World, wl1 = wc := ⟨_, rfl⟩
  go_upto_region 2 with fail
  go_cut [11, 12] (fun s11 s12 wx => s11 = .int .i64 (hcV F G M k) ∧ s12 = .bool (hcB F G M k) ∧ wx.cell? ⟨w.heap.size, 0, none⟩ = some (.int .i64 (F.1)) ∧ wx.cell? ⟨w.heap.size, 1, none⟩ = some (.int .i64 (F.2.1)) ∧ wx.cell? ⟨w.heap.size, 2, none⟩ = some (.int .i64 (F.2.2)) ∧ wx.cell? ⟨w.heap.size + 1, 0, none⟩ = some (.int .i64 (G.1)) ∧ wx.cell? ⟨w.heap.size + 1, 1, none⟩ = some (.int .i64 (G.2.1)) ∧ wx.cell? ⟨w.heap.size + 1, 2, none⟩ = some (.int .i64 (G.2.2)) ∧ wx.cell? ⟨w.heap.size + 1 + 1, 0, none⟩ = some (.int .i64 (M.1)) ∧ wx.cell? ⟨w.heap.size + 1 + 1, 1, none⟩ = some (.int .i64 (M.2.1)) ∧ wx.cell? ⟨w.heap.size + 1 + 1, 2, none⟩ = some (.int .i64 (M.2.2)) ∧ Below w.heap.size w wx)
  case first =>
    have h1 := trivial
    rename_i K2 h2 h3
    refine region_n0 (by kernel_rfl) (fun j => #[25,26,27,28,29,30,31,32,24,33,34,11,12].getD j 0) (fun j => Kd.ok ((fun j => match j with | 0 => Kd.val (.agg #[.int .i64 (F.1), .int .i64 (F.2.1), .int .i64 (F.2.2)]) | 1 => Kd.val (.agg #[.int .i64 (F.1), .int .i64 (F.2.1), .int .i64 (F.2.2)]) | 2 => Kd.val (.agg #[.int .i64 (G.1), .int .i64 (G.2.1), .int .i64 (G.2.2)]) | 3 => Kd.val (.agg #[.int .i64 (G.1), .int .i64 (G.2.1), .int .i64 (G.2.2)]) | 4 => Kd.val (.agg #[.int .i64 (M.1), .int .i64 (M.2.1), .int .i64 (M.2.2)]) | 5 => Kd.val (.agg #[.int .i64 (M.1), .int .i64 (M.2.1), .int .i64 (M.2.2)]) | 6 => Kd.val (.int .i64 k) | 7 => Kd.val (.tuple #[.int .i64 (hcV F G M k), .bool (hcB F G M k)]) | 8 => Kd.val (.tuple #[.int .i64 (hcV F G M k), .bool (hcB F G M k)]) | 9 => Kd.val (.int .i64 (hcV F G M k)) | 10 => Kd.val (.bool (hcB F G M k)) | 11 => Kd.val (.int .i64 (hcV F G M k)) | 12 => Kd.val (.bool (hcB F G M k)) | _ => Kd.any : Nat → Kd) j)) (Sy w (wl1.heap.size) [(⟨w.heap.size, 0, none⟩, .int .i64 (F.1)), (⟨w.heap.size, 1, none⟩, .int .i64 (F.2.1)), (⟨w.heap.size, 2, none⟩, .int .i64 (F.2.2)), (⟨w.heap.size + 1, 0, none⟩, .int .i64 (G.1)), (⟨w.heap.size + 1, 1, none⟩, .int .i64 (G.2.1)), (⟨w.heap.size + 1, 2, none⟩, .int .i64 (G.2.2)), (⟨w.heap.size + 1 + 1, 0, none⟩, .int .i64 (M.1)), (⟨w.heap.size + 1 + 1, 1, none⟩, .int .i64 (M.2.1)), (⟨w.heap.size + 1 + 1, 2, none⟩, .int .i64 (M.2.2))] []) (by kernel_rfl) (by kernel_rfl) ?_ ?_ ?_ ?_
    · intro j hj
      have hj2 : j < 13 := hj
      have : ∀ j, j < 13 → (#[25,26,27,28,29,30,31,32,24,33,34,11,12] : Array Nat).getD j 0 < 43 := by decide
      exact this j hj2
    · refine Sy.drew (Sy.mk_of ?_ ?_ ?_ ?_)
      · first | rfl | (simp; done) | (simp; omega)
      · intro c hc
        simp only [List.mem_cons, List.not_mem_nil, or_false] at hc
        rcases hc with rfl | rfl | rfl | rfl | rfl | rfl | rfl | rfl | rfl <;> (first | with_reducible assumption | ((repeat' first | with_reducible (first | assumption | refine cell_al _ ?_ | refine cell_eq _ ?_ | refine cell_ne _ ?_ ?_ | refine ex_set _ ?_ | refine ex_al _ ?_ | exact ⟨_, by assumption⟩) | (intro hh; injection hh with hh1 hh2; omega)); done) | go_simp)
      · intro p hp; cases hp
      · (repeat' first | with_reducible (first | exact Below.refl _ _ | assumption | refine gr_alloc ?_ _ | refine below_drewN ?_ _ | refine below_drew ?_ | refine gr_call ?_ (by assumption) | refine Below.setCell ?_ ?_ _) | go_size | omega | (simp; omega))
    · clear h1 h2 h3
      try clear c00
      try clear c01
      try clear c02
      try clear c10
      try clear c11
      try clear c12
      try clear c20
      try clear c21
      try clear c22
      refine ⟨?r38x0, ?r38x1, ?r38x2, ?r38x3, ?r38x4, ?r38x5, ?r38x6, ?r38x7, ?r38x8, ?r38x9, ?r38x10, ?r38x11, ?r38x12, trivial⟩
      all_goals intro _ aq wx Kq hf hS hdep ev1 ev2 hK
      case' r38x0 =>
        have F4 : aq.eval (.tmp 4) = .pointer (some ⟨w.heap.size, 0, none⟩) := hf 4
        have c0 := hS.cells (⟨w.heap.size, 0, none⟩, .int .i64 (F.1)) (by simp)
        have c1 := hS.cells (⟨w.heap.size, 1, none⟩, .int .i64 (F.2.1)) (by simp)
        have c2 := hS.cells (⟨w.heap.size, 2, none⟩, .int .i64 (F.2.2)) (by simp)
      case' r38x1 =>
        have D0 : aq.eval (.tmp 25) = _ := hdep 0
      case' r38x2 =>
        have F5 : aq.eval (.tmp 5) = .pointer (some ⟨w.heap.size + 1, 0, none⟩) := hf 5
        have c0 := hS.cells (⟨w.heap.size + 1, 0, none⟩, .int .i64 (G.1)) (by simp)
        have c1 := hS.cells (⟨w.heap.size + 1, 1, none⟩, .int .i64 (G.2.1)) (by simp)
        have c2 := hS.cells (⟨w.heap.size + 1, 2, none⟩, .int .i64 (G.2.2)) (by simp)
      case' r38x3 =>
        have D2 : aq.eval (.tmp 27) = _ := hdep 2
      case' r38x4 =>
        have F6 : aq.eval (.tmp 6) = .pointer (some ⟨w.heap.size + 1 + 1, 0, none⟩) := hf 6
        have c0 := hS.cells (⟨w.heap.size + 1 + 1, 0, none⟩, .int .i64 (M.1)) (by simp)
        have c1 := hS.cells (⟨w.heap.size + 1 + 1, 1, none⟩, .int .i64 (M.2.1)) (by simp)
        have c2 := hS.cells (⟨w.heap.size + 1 + 1, 2, none⟩, .int .i64 (M.2.2)) (by simp)
      case' r38x5 =>
        have D4 : aq.eval (.tmp 29) = _ := hdep 4
      case' r38x6 =>
        have F3 : aq.eval (.tmp 3) = .int .i64 k := hf 3
      case' r38x7 =>
        have D1 : aq.eval (.tmp 26) = _ := hdep 1
        have D3 : aq.eval (.tmp 28) = _ := hdep 3
        have D5 : aq.eval (.tmp 30) = _ := hdep 5
        have D6 : aq.eval (.tmp 31) = _ := hdep 6
      case' r38x8 =>
        have D7 : aq.eval (.tmp 32) = _ := hdep 7
      case' r38x9 =>
        have D8 : aq.eval (.tmp 24) = _ := hdep 8
      case' r38x10 =>
        have D8 : aq.eval (.tmp 24) = _ := hdep 8
      case' r38x11 =>
        have D9 : aq.eval (.tmp 33) = _ := hdep 9
      case' r38x12 =>
        have D10 : aq.eval (.tmp 34) = _ := hdep 10
      all_goals (clear hf hdep; unfold Oper.wp; generalize Act.eval _ = ev at *; go_simp)
      case r38x1 =>
        refine ((toForm_w F _)).mono ?_
        rintro e w2 ⟨rfl, hb⟩
        refine hK _ _ (hS.call hb) ?_ (fun j u _ h => Kd.ok_below hb h)
        rw [if_pos (by rfl)]
        show (_ : Value) = _
        first | rfl | (refine congrArg (Value.int .i64) ?_; first | rfl | exact int_in (by omega) | exact quo_in (by omega) (by omega) (by omega) | exact rem_in (by omega) (by omega) | omega) | (simp; done) | (simp [*]; done)
      case r38x3 =>
        refine ((toForm_w G _)).mono ?_
        rintro e w2 ⟨rfl, hb⟩
        refine hK _ _ (hS.call hb) ?_ (fun j u _ h => Kd.ok_below hb h)
        rw [if_pos (by rfl)]
        show (_ : Value) = _
        first | rfl | (refine congrArg (Value.int .i64) ?_; first | rfl | exact int_in (by omega) | exact quo_in (by omega) (by omega) (by omega) | exact rem_in (by omega) (by omega) | omega) | (simp; done) | (simp [*]; done)
      case r38x5 =>
        refine ((toForm_w M _)).mono ?_
        rintro e w2 ⟨rfl, hb⟩
        refine hK _ _ (hS.call hb) ?_ (fun j u _ h => Kd.ok_below hb h)
        rw [if_pos (by rfl)]
        show (_ : Value) = _
        first | rfl | (refine congrArg (Value.int .i64) ?_; first | rfl | exact int_in (by omega) | exact quo_in (by omega) (by omega) (by omega) | exact rem_in (by omega) (by omega) | omega) | (simp; done) | (simp [*]; done)
      case r38x7 =>
        refine ((implHalvingChallenge F G M k _ i1 i2 i3)).mono ?_
        rintro e w2 ⟨rfl, hb⟩
        refine hK _ _ (hS.call hb) ?_ (fun j u _ h => Kd.ok_below hb h)
        rw [if_pos (by rfl)]
        show (_ : Value) = _
        first | rfl | (refine congrArg (Value.int .i64) ?_; first | rfl | exact int_in (by omega) | exact quo_in (by omega) (by omega) (by omega) | exact rem_in (by omega) (by omega) | omega) | (simp; done) | (simp [*]; done)
      all_goals (refine hK _ _ hS ?_ (fun j u _ h => h); rw [if_pos (by rfl)]; show (_ : Value) = _; (first | rfl | (refine congrArg (Value.int .i64) ?_; first | rfl | exact int_in (by omega) | exact quo_in (by omega) (by omega) (by omega) | exact rem_in (by omega) (by omega) | omega) | (simp; done) | (simp [*]; done)))
    · intro aq wx hd hw hf hS hg
      have G11 : tau aq 11 = .int .i64 (hcV F G M k) := hg 11 (by decide)
      have G12 : tau aq 12 = .bool (hcB F G M k) := hg 12 (by decide)
      have haq : aq = ⟨#[tau aq 0, tau aq 1, tau aq 2, tau aq 3, tau aq 4, tau aq 5, tau aq 6, tau aq 7, tau aq 8, tau aq 9, tau aq 10, tau aq 11, tau aq 12, tau aq 13, tau aq 14, tau aq 15, tau aq 16, tau aq 17, tau aq 18, tau aq 19, tau aq 20, tau aq 21, tau aq 22, tau aq 23, tau aq 24, tau aq 25, tau aq 26, tau aq 27, tau aq 28, tau aq 29, tau aq 30, tau aq 31, tau aq 32, tau aq 33, tau aq 34, tau aq 35, tau aq 36, tau aq 37, tau aq 38, tau aq 39, tau aq 40, tau aq 41, tau aq 42], []⟩ := by
        obtain ⟨tq, dq⟩ := aq
        have h5 := arr_eq (show tq.size = 43 from hw)
        have h6 : dq = [] := hd
        subst h6
        exact congrArg (fun z => Act.mk z []) h5
      show K2 aq wx
      rw [haq, hf 0, hf 1, hf 2, hf 3, hf 4, hf 5, hf 6, hf 7, hf 8, hf 9, hf 10, hf 13, hf 14, hf 15, hf 16, hf 17, hf 18, hf 19, hf 20, hf 21, hf 22, hf 23, hf 35, hf 36, hf 37, hf 38, hf 39, hf 40, hf 41, hf 42, G11, G12]
      clear haq hf hd hw
      try dsimp only
      refine h3 _ _ ?_
      go_meet
      exact ⟨rfl, rfl, hS.cells (⟨w.heap.size, 0, none⟩, .int .i64 (F.1)) (by simp), hS.cells (⟨w.heap.size, 1, none⟩, .int .i64 (F.2.1)) (by simp), hS.cells (⟨w.heap.size, 2, none⟩, .int .i64 (F.2.2)) (by simp), hS.cells (⟨w.heap.size + 1, 0, none⟩, .int .i64 (G.1)) (by simp), hS.cells (⟨w.heap.size + 1, 1, none⟩, .int .i64 (G.2.1)) (by simp), hS.cells (⟨w.heap.size + 1, 2, none⟩, .int .i64 (G.2.2)) (by simp), hS.cells (⟨w.heap.size + 1 + 1, 0, none⟩, .int .i64 (M.1)) (by simp), hS.cells (⟨w.heap.size + 1 + 1, 1, none⟩, .int .i64 (M.2.1)) (by simp), hS.cells (⟨w.heap.size + 1 + 1, 2, none⟩, .int .i64 (M.2.2)) (by simp), hS.below⟩
  try clear c00
  try clear c01
  try clear c02
  try clear c10
  try clear c11
  try clear c12
  try clear c20
  try clear c21
  try clear c22
  obtain ⟨rfl, rfl, c00, c01, c02, c10, c11, c12, c20, c21, c22, hb0⟩ := hcut
  have z0 := World.block_lt_of_cell? _ _ c00
  have z1 := World.block_lt_of_cell? _ _ c10
  have z2 := World.block_lt_of_cell? _ _ c20
  change _ < wc.heap.size at z0
  change _ < wc.heap.size at z1
  change _ < wc.heap.size at z2
  go_wp2
  go_ret
  exact ⟨rfl, hb0⟩
end Go.Proofs.Ytninagdclibmnaa
