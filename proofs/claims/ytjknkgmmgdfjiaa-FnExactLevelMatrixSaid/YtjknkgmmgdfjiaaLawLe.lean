/-
  The laws of AreLevelEquivalent and LevelMatrix.
-/
import Derived.Test.YtjknkgmmgdfjiaaLe
namespace Go.Proofs.Ytjknkgmmgdfjiaa
open Go.RowKit
set_option linter.unusedVariables false
set_option linter.unusedSimpArgs false
attribute [local go_sem] q2 q3 q4 q5 q6 q7 q8 q9 q10 q11 q12

theorem toForm_q (a b c : Int) (w : World) : Calls Try.prog 6 #[.agg #[.int .i64 a, .int .i64 b, .int .i64 c]] w fun e w' => e = .returned (.agg #[.int .i64 a, .int .i64 b, .int .i64 c]) ∧ Below w.heap.size w w' := by
  go_enter Try.func6, Try.ntmps6
  go_wp2
  refine bodyPost_ret (v := .agg #[.int .i64 a, .int .i64 b, .int .i64 c]) (by simp [results, Try.results6, go_sem, *]) rfl ?_
  exact ⟨rfl, byGG⟩
theorem sLevelMatrix_v (a b c p q r n v0 v1 v2 v3 : Int) (t : Bool) (w : World) (hR : leM a b c p q r n = ((v0, v1, v2, v3), t)) : Calls Try.prog 8 #[.agg #[.int .i64 a, .int .i64 b, .int .i64 c], .agg #[.int .i64 p, .int .i64 q, .int .i64 r], .int .i64 n] w fun e w' => e = .returned (.tuple #[.agg #[.int .i64 v0, .int .i64 v1, .int .i64 v2, .int .i64 v3], .bool (t)]) ∧ Below w.heap.size w w' := by
  have := sLevelMatrix_c a b c p q r n w
  rw [hR] at this
  exact this
theorem iLevelMatrix_v (a b c p q r n v0 v1 v2 v3 : Int) (t : Bool) (w : World) (i0 : I64 a) (i1 : I64 b) (i2 : I64 c) (i3 : I64 p) (i4 : I64 q) (i5 : I64 r) (hR : leM a b c p q r n = ((v0, v1, v2, v3), t)) : Calls Try.prog 9 #[.agg #[.int .i64 a, .int .i64 b, .int .i64 c], .agg #[.int .i64 p, .int .i64 q, .int .i64 r], .int .i64 n] w fun e w' => e = .returned (.tuple #[.agg #[.int .i64 v0, .int .i64 v1, .int .i64 v2, .int .i64 v3], .bool (t)]) ∧ Below w.heap.size w w' := by
  have := iLevelMatrix_c a b c p q r n w i0 i1 i2 i3 i4 i5
  rw [hR] at this
  exact this

set_option maxRecDepth 100000 in
set_option maxHeartbeats 4000000 in
theorem lawAreLevelEquivalent (a b c p q r n : Int) (w : World) (i0 : I64 a) (i1 : I64 b) (i2 : I64 c) (i3 : I64 p) (i4 : I64 q) (i5 : I64 r) : Calls Try.prog 3 #[.agg #[.int .i64 a, .int .i64 b, .int .i64 c], .agg #[.int .i64 p, .int .i64 q, .int .i64 r], .int .i64 n] w fun e w' => e = .returned (.bool true) ∧ Below w.heap.size w w' := by
  go_enter Try.func3, Try.ntmps3
  go_upto_region 1 with fail
  go_cut [7, 8] (fun s7 s8 wx => s7 = .bool (leA a b c p q r n) ∧ s8 = .bool (leOk a b c p q r n) ∧ wx.cell? ⟨w.heap.size, 0, none⟩ = some (.int .i64 a) ∧ wx.cell? ⟨w.heap.size, 1, none⟩ = some (.int .i64 b) ∧ wx.cell? ⟨w.heap.size, 2, none⟩ = some (.int .i64 c) ∧ wx.cell? ⟨w.heap.size + 1, 0, none⟩ = some (.int .i64 p) ∧ wx.cell? ⟨w.heap.size + 1, 1, none⟩ = some (.int .i64 q) ∧ wx.cell? ⟨w.heap.size + 1, 2, none⟩ = some (.int .i64 r) ∧ Below w.heap.size w wx)
  case first =>
    have h1 := trivial
    rename_i K2 h2 h3
    refine region_n0 (by kernel_rfl) (fun j => #[12,13,14,15,16,17,11,18,19,7,8].getD j 0) (fun j => Kd.ok ((fun j => match j with | 0 => Kd.val (.agg #[.int .i64 a, .int .i64 b, .int .i64 c]) | 1 => Kd.val (.agg #[.int .i64 a, .int .i64 b, .int .i64 c]) | 2 => Kd.val (.agg #[.int .i64 p, .int .i64 q, .int .i64 r]) | 3 => Kd.val (.agg #[.int .i64 p, .int .i64 q, .int .i64 r]) | 4 => Kd.val (.int .i64 n) | 5 => Kd.val (.tuple #[.bool (leA a b c p q r n), .bool (leOk a b c p q r n)]) | 6 => Kd.val (.tuple #[.bool (leA a b c p q r n), .bool (leOk a b c p q r n)]) | 7 => Kd.val (.bool (leA a b c p q r n)) | 8 => Kd.val (.bool (leOk a b c p q r n)) | 9 => Kd.val (.bool (leA a b c p q r n)) | 10 => Kd.val (.bool (leOk a b c p q r n)) | _ => Kd.any : Nat → Kd) j)) (Sy w (w.heap.size + 1 + 1) [(⟨w.heap.size, 0, none⟩, .int .i64 a), (⟨w.heap.size, 1, none⟩, .int .i64 b), (⟨w.heap.size, 2, none⟩, .int .i64 c), (⟨w.heap.size + 1, 0, none⟩, .int .i64 p), (⟨w.heap.size + 1, 1, none⟩, .int .i64 q), (⟨w.heap.size + 1, 2, none⟩, .int .i64 r)] []) (by kernel_rfl) (by kernel_rfl) ?_ ?_ ?_ ?_
    · intro j hj
      have hj2 : j < 11 := hj
      have : ∀ j, j < 11 → (#[12,13,14,15,16,17,11,18,19,7,8] : Array Nat).getD j 0 < 37 := by decide
      exact this j hj2
    · refine Sy.drew (Sy.mk_of ?_ ?_ ?_ ?_)
      · first | rfl | (simp; done) | (simp; omega)
      · intro c hc
        simp only [List.mem_cons, List.not_mem_nil, or_false] at hc
        rcases hc with rfl | rfl | rfl | rfl | rfl | rfl <;> exact byCT
      · intro p hp; cases hp
      · (repeat' first | with_reducible (first | exact Below.refl _ _ | assumption | refine gr_alloc ?_ _ | refine below_drewN ?_ _ | refine below_drew ?_ | refine gr_call ?_ (by assumption) | refine Below.setCell ?_ ?_ _) | go_size | omega | (simp; omega))
    · clear h1 h2 h3
      refine ⟨?r16x0, ?r16x1, ?r16x2, ?r16x3, ?r16x4, ?r16x5, ?r16x6, ?r16x7, ?r16x8, ?r16x9, ?r16x10, trivial⟩
      all_goals intro _ aq wx Kq hf hS hdep ev1 ev2 hK
      case' r16x0 =>
        have F3 : aq.eval (.tmp 3) = .pointer (some ⟨w.heap.size, 0, none⟩) := hf 3
        have c0 := hS.cells (⟨w.heap.size, 0, none⟩, .int .i64 a) (by simp)
        have c1 := hS.cells (⟨w.heap.size, 1, none⟩, .int .i64 b) (by simp)
        have c2 := hS.cells (⟨w.heap.size, 2, none⟩, .int .i64 c) (by simp)
      case' r16x1 =>
        have D0 : aq.eval (.tmp 12) = _ := hdep 0
      case' r16x2 =>
        have F4 : aq.eval (.tmp 4) = .pointer (some ⟨w.heap.size + 1, 0, none⟩) := hf 4
        have c0 := hS.cells (⟨w.heap.size + 1, 0, none⟩, .int .i64 p) (by simp)
        have c1 := hS.cells (⟨w.heap.size + 1, 1, none⟩, .int .i64 q) (by simp)
        have c2 := hS.cells (⟨w.heap.size + 1, 2, none⟩, .int .i64 r) (by simp)
      case' r16x3 =>
        have D2 : aq.eval (.tmp 14) = _ := hdep 2
      case' r16x4 =>
        have F2 : aq.eval (.tmp 2) = .int .i64 n := hf 2
      case' r16x5 =>
        have D1 : aq.eval (.tmp 13) = _ := hdep 1
        have D3 : aq.eval (.tmp 15) = _ := hdep 3
        have D4 : aq.eval (.tmp 16) = _ := hdep 4
      case' r16x6 =>
        have D5 : aq.eval (.tmp 17) = _ := hdep 5
      case' r16x7 =>
        have D6 : aq.eval (.tmp 11) = _ := hdep 6
      case' r16x8 =>
        have D6 : aq.eval (.tmp 11) = _ := hdep 6
      case' r16x9 =>
        have D7 : aq.eval (.tmp 18) = _ := hdep 7
      case' r16x10 =>
        have D8 : aq.eval (.tmp 19) = _ := hdep 8
      all_goals (clear hf hdep; unfold Oper.wp; generalize Act.eval _ = ev at *; go_simp)
      case r16x1 =>
        refine ((toForm_q a b c _)).mono ?_
        rintro e w2 ⟨rfl, hb⟩
        refine hK _ _ (hS.call hb) ?_ (fun j u _ h => Kd.ok_below hb h)
        rw [if_pos (by rfl)]
        show (_ : Value) = _
        first | rfl | (refine congrArg (Value.int .i64) ?_; first | rfl | exact int_in (by omega) | exact quo_in (by omega) (by omega) (by omega) | exact rem_in (by omega) (by omega) | omega) | (simp; done) | (simp [*]; done)
      case r16x3 =>
        refine ((toForm_q p q r _)).mono ?_
        rintro e w2 ⟨rfl, hb⟩
        refine hK _ _ (hS.call hb) ?_ (fun j u _ h => Kd.ok_below hb h)
        rw [if_pos (by rfl)]
        show (_ : Value) = _
        first | rfl | (refine congrArg (Value.int .i64) ?_; first | rfl | exact int_in (by omega) | exact quo_in (by omega) (by omega) (by omega) | exact rem_in (by omega) (by omega) | omega) | (simp; done) | (simp [*]; done)
      case r16x5 =>
        refine ((sAreLevelEquivalent_c a b c p q r n _)).mono ?_
        rintro e w2 ⟨rfl, hb⟩
        refine hK _ _ (hS.call hb) ?_ (fun j u _ h => Kd.ok_below hb h)
        rw [if_pos (by rfl)]
        show (_ : Value) = _
        first | rfl | (refine congrArg (Value.int .i64) ?_; first | rfl | exact int_in (by omega) | exact quo_in (by omega) (by omega) (by omega) | exact rem_in (by omega) (by omega) | omega) | (simp; done) | (simp [*]; done)
      all_goals (refine hK _ _ hS ?_ (fun j u _ h => h); rw [if_pos (by rfl)]; show (_ : Value) = _; (first | rfl | (refine congrArg (Value.int .i64) ?_; first | rfl | exact int_in (by omega) | exact quo_in (by omega) (by omega) (by omega) | exact rem_in (by omega) (by omega) | omega) | (simp; done) | (simp [*]; done)))
    · intro aq wx hd hw hf hS hg
      have G7 : tau aq 7 = .bool (leA a b c p q r n) := hg 9 (by decide)
      have G8 : tau aq 8 = .bool (leOk a b c p q r n) := hg 10 (by decide)
      have haq : aq = ⟨#[tau aq 0, tau aq 1, tau aq 2, tau aq 3, tau aq 4, tau aq 5, tau aq 6, tau aq 7, tau aq 8, tau aq 9, tau aq 10, tau aq 11, tau aq 12, tau aq 13, tau aq 14, tau aq 15, tau aq 16, tau aq 17, tau aq 18, tau aq 19, tau aq 20, tau aq 21, tau aq 22, tau aq 23, tau aq 24, tau aq 25, tau aq 26, tau aq 27, tau aq 28, tau aq 29, tau aq 30, tau aq 31, tau aq 32, tau aq 33, tau aq 34, tau aq 35, tau aq 36], []⟩ := by
        obtain ⟨tq, dq⟩ := aq
        have h5 := arr_eq (show tq.size = 37 from hw)
        have h6 : dq = [] := hd
        subst h6
        exact congrArg (fun z => Act.mk z []) h5
      show K2 aq wx
      rw [haq, hf 0, hf 1, hf 2, hf 3, hf 4, hf 5, hf 6, hf 9, hf 10, hf 20, hf 21, hf 22, hf 23, hf 24, hf 25, hf 26, hf 27, hf 28, hf 29, hf 30, hf 31, hf 32, hf 33, hf 34, hf 35, hf 36, G7, G8]
      clear haq hf hd hw
      try dsimp only
      refine h3 _ _ ?_
      go_meet
      exact ⟨rfl, rfl, hS.cells (⟨w.heap.size, 0, none⟩, .int .i64 a) (by simp), hS.cells (⟨w.heap.size, 1, none⟩, .int .i64 b) (by simp), hS.cells (⟨w.heap.size, 2, none⟩, .int .i64 c) (by simp), hS.cells (⟨w.heap.size + 1, 0, none⟩, .int .i64 p) (by simp), hS.cells (⟨w.heap.size + 1, 1, none⟩, .int .i64 q) (by simp), hS.cells (⟨w.heap.size + 1, 2, none⟩, .int .i64 r) (by simp), hS.below⟩
  obtain ⟨rfl, rfl, c00, c01, c02, c10, c11, c12, hb0⟩ := hcut
  have z0 := World.block_lt_of_cell? _ _ c00
  have z1 := World.block_lt_of_cell? _ _ c10
  change w.heap.size < wc.heap.size at z0
  change w.heap.size + 1 < wc.heap.size at z1
  obtain ⟨wl1, rfl⟩ : ∃ wl1 : World, wl1 = wc := ⟨_, rfl⟩
  go_upto_region 2 with fail
  go_cut [9, 10] (fun s9 s10 wx => s9 = .bool (leA a b c p q r n) ∧ s10 = .bool (leOk a b c p q r n) ∧ wx.cell? ⟨w.heap.size, 0, none⟩ = some (.int .i64 a) ∧ wx.cell? ⟨w.heap.size, 1, none⟩ = some (.int .i64 b) ∧ wx.cell? ⟨w.heap.size, 2, none⟩ = some (.int .i64 c) ∧ wx.cell? ⟨w.heap.size + 1, 0, none⟩ = some (.int .i64 p) ∧ wx.cell? ⟨w.heap.size + 1, 1, none⟩ = some (.int .i64 q) ∧ wx.cell? ⟨w.heap.size + 1, 2, none⟩ = some (.int .i64 r) ∧ Below w.heap.size w wx)
  case first =>
    have h1 := trivial
    rename_i K2 h2 h3
    refine region_n0 (by kernel_rfl) (fun j => #[21,22,23,24,25,26,20,27,28,9,10].getD j 0) (fun j => Kd.ok ((fun j => match j with | 0 => Kd.val (.agg #[.int .i64 a, .int .i64 b, .int .i64 c]) | 1 => Kd.val (.agg #[.int .i64 a, .int .i64 b, .int .i64 c]) | 2 => Kd.val (.agg #[.int .i64 p, .int .i64 q, .int .i64 r]) | 3 => Kd.val (.agg #[.int .i64 p, .int .i64 q, .int .i64 r]) | 4 => Kd.val (.int .i64 n) | 5 => Kd.val (.tuple #[.bool (leA a b c p q r n), .bool (leOk a b c p q r n)]) | 6 => Kd.val (.tuple #[.bool (leA a b c p q r n), .bool (leOk a b c p q r n)]) | 7 => Kd.val (.bool (leA a b c p q r n)) | 8 => Kd.val (.bool (leOk a b c p q r n)) | 9 => Kd.val (.bool (leA a b c p q r n)) | 10 => Kd.val (.bool (leOk a b c p q r n)) | _ => Kd.any : Nat → Kd) j)) (Sy w (wl1.heap.size) [(⟨w.heap.size, 0, none⟩, .int .i64 a), (⟨w.heap.size, 1, none⟩, .int .i64 b), (⟨w.heap.size, 2, none⟩, .int .i64 c), (⟨w.heap.size + 1, 0, none⟩, .int .i64 p), (⟨w.heap.size + 1, 1, none⟩, .int .i64 q), (⟨w.heap.size + 1, 2, none⟩, .int .i64 r)] []) (by kernel_rfl) (by kernel_rfl) ?_ ?_ ?_ ?_
    · intro j hj
      have hj2 : j < 11 := hj
      have : ∀ j, j < 11 → (#[21,22,23,24,25,26,20,27,28,9,10] : Array Nat).getD j 0 < 37 := by decide
      exact this j hj2
    · refine Sy.drew (Sy.mk_of ?_ ?_ ?_ ?_)
      · first | rfl | (simp; done) | (simp; omega)
      · intro c hc
        simp only [List.mem_cons, List.not_mem_nil, or_false] at hc
        rcases hc with rfl | rfl | rfl | rfl | rfl | rfl <;> exact byCT
      · intro p hp; cases hp
      · (repeat' first | with_reducible (first | exact Below.refl _ _ | assumption | refine gr_alloc ?_ _ | refine below_drewN ?_ _ | refine below_drew ?_ | refine gr_call ?_ (by assumption) | refine Below.setCell ?_ ?_ _) | go_size | omega | (simp; omega))
    · clear h1 h2 h3
      try clear c00
      try clear c01
      try clear c02
      try clear c10
      try clear c11
      try clear c12
      refine ⟨?r17x0, ?r17x1, ?r17x2, ?r17x3, ?r17x4, ?r17x5, ?r17x6, ?r17x7, ?r17x8, ?r17x9, ?r17x10, trivial⟩
      all_goals intro _ aq wx Kq hf hS hdep ev1 ev2 hK
      case' r17x0 =>
        have F3 : aq.eval (.tmp 3) = .pointer (some ⟨w.heap.size, 0, none⟩) := hf 3
        have c0 := hS.cells (⟨w.heap.size, 0, none⟩, .int .i64 a) (by simp)
        have c1 := hS.cells (⟨w.heap.size, 1, none⟩, .int .i64 b) (by simp)
        have c2 := hS.cells (⟨w.heap.size, 2, none⟩, .int .i64 c) (by simp)
      case' r17x1 =>
        have D0 : aq.eval (.tmp 21) = _ := hdep 0
      case' r17x2 =>
        have F4 : aq.eval (.tmp 4) = .pointer (some ⟨w.heap.size + 1, 0, none⟩) := hf 4
        have c0 := hS.cells (⟨w.heap.size + 1, 0, none⟩, .int .i64 p) (by simp)
        have c1 := hS.cells (⟨w.heap.size + 1, 1, none⟩, .int .i64 q) (by simp)
        have c2 := hS.cells (⟨w.heap.size + 1, 2, none⟩, .int .i64 r) (by simp)
      case' r17x3 =>
        have D2 : aq.eval (.tmp 23) = _ := hdep 2
      case' r17x4 =>
        have F2 : aq.eval (.tmp 2) = .int .i64 n := hf 2
      case' r17x5 =>
        have D1 : aq.eval (.tmp 22) = _ := hdep 1
        have D3 : aq.eval (.tmp 24) = _ := hdep 3
        have D4 : aq.eval (.tmp 25) = _ := hdep 4
      case' r17x6 =>
        have D5 : aq.eval (.tmp 26) = _ := hdep 5
      case' r17x7 =>
        have D6 : aq.eval (.tmp 20) = _ := hdep 6
      case' r17x8 =>
        have D6 : aq.eval (.tmp 20) = _ := hdep 6
      case' r17x9 =>
        have D7 : aq.eval (.tmp 27) = _ := hdep 7
      case' r17x10 =>
        have D8 : aq.eval (.tmp 28) = _ := hdep 8
      all_goals (clear hf hdep; unfold Oper.wp; generalize Act.eval _ = ev at *; go_simp)
      case r17x1 =>
        refine ((toForm_q a b c _)).mono ?_
        rintro e w2 ⟨rfl, hb⟩
        refine hK _ _ (hS.call hb) ?_ (fun j u _ h => Kd.ok_below hb h)
        rw [if_pos (by rfl)]
        show (_ : Value) = _
        first | rfl | (refine congrArg (Value.int .i64) ?_; first | rfl | exact int_in (by omega) | exact quo_in (by omega) (by omega) (by omega) | exact rem_in (by omega) (by omega) | omega) | (simp; done) | (simp [*]; done)
      case r17x3 =>
        refine ((toForm_q p q r _)).mono ?_
        rintro e w2 ⟨rfl, hb⟩
        refine hK _ _ (hS.call hb) ?_ (fun j u _ h => Kd.ok_below hb h)
        rw [if_pos (by rfl)]
        show (_ : Value) = _
        first | rfl | (refine congrArg (Value.int .i64) ?_; first | rfl | exact int_in (by omega) | exact quo_in (by omega) (by omega) (by omega) | exact rem_in (by omega) (by omega) | omega) | (simp; done) | (simp [*]; done)
      case r17x5 =>
        refine ((iAreLevelEquivalent_c a b c p q r n _ i0 i1 i2 i3 i4 i5)).mono ?_
        rintro e w2 ⟨rfl, hb⟩
        refine hK _ _ (hS.call hb) ?_ (fun j u _ h => Kd.ok_below hb h)
        rw [if_pos (by rfl)]
        show (_ : Value) = _
        first | rfl | (refine congrArg (Value.int .i64) ?_; first | rfl | exact int_in (by omega) | exact quo_in (by omega) (by omega) (by omega) | exact rem_in (by omega) (by omega) | omega) | (simp; done) | (simp [*]; done)
      all_goals (refine hK _ _ hS ?_ (fun j u _ h => h); rw [if_pos (by rfl)]; show (_ : Value) = _; (first | rfl | (refine congrArg (Value.int .i64) ?_; first | rfl | exact int_in (by omega) | exact quo_in (by omega) (by omega) (by omega) | exact rem_in (by omega) (by omega) | omega) | (simp; done) | (simp [*]; done)))
    · intro aq wx hd hw hf hS hg
      have G9 : tau aq 9 = .bool (leA a b c p q r n) := hg 9 (by decide)
      have G10 : tau aq 10 = .bool (leOk a b c p q r n) := hg 10 (by decide)
      have haq : aq = ⟨#[tau aq 0, tau aq 1, tau aq 2, tau aq 3, tau aq 4, tau aq 5, tau aq 6, tau aq 7, tau aq 8, tau aq 9, tau aq 10, tau aq 11, tau aq 12, tau aq 13, tau aq 14, tau aq 15, tau aq 16, tau aq 17, tau aq 18, tau aq 19, tau aq 20, tau aq 21, tau aq 22, tau aq 23, tau aq 24, tau aq 25, tau aq 26, tau aq 27, tau aq 28, tau aq 29, tau aq 30, tau aq 31, tau aq 32, tau aq 33, tau aq 34, tau aq 35, tau aq 36], []⟩ := by
        obtain ⟨tq, dq⟩ := aq
        have h5 := arr_eq (show tq.size = 37 from hw)
        have h6 : dq = [] := hd
        subst h6
        exact congrArg (fun z => Act.mk z []) h5
      show K2 aq wx
      rw [haq, hf 0, hf 1, hf 2, hf 3, hf 4, hf 5, hf 6, hf 7, hf 8, hf 11, hf 12, hf 13, hf 14, hf 15, hf 16, hf 17, hf 18, hf 19, hf 29, hf 30, hf 31, hf 32, hf 33, hf 34, hf 35, hf 36, G9, G10]
      clear haq hf hd hw
      try dsimp only
      refine h3 _ _ ?_
      go_meet
      exact ⟨rfl, rfl, hS.cells (⟨w.heap.size, 0, none⟩, .int .i64 a) (by simp), hS.cells (⟨w.heap.size, 1, none⟩, .int .i64 b) (by simp), hS.cells (⟨w.heap.size, 2, none⟩, .int .i64 c) (by simp), hS.cells (⟨w.heap.size + 1, 0, none⟩, .int .i64 p) (by simp), hS.cells (⟨w.heap.size + 1, 1, none⟩, .int .i64 q) (by simp), hS.cells (⟨w.heap.size + 1, 2, none⟩, .int .i64 r) (by simp), hS.below⟩
  try clear c00
  try clear c01
  try clear c02
  try clear c10
  try clear c11
  try clear c12
  obtain ⟨rfl, rfl, c00, c01, c02, c10, c11, c12, hb0⟩ := hcut
  have z0 := World.block_lt_of_cell? _ _ c00
  have z1 := World.block_lt_of_cell? _ _ c10
  change w.heap.size < wc.heap.size at z0
  change w.heap.size + 1 < wc.heap.size at z1
  go_wp2
  go_ret
  exact ⟨rfl, hb0⟩

set_option maxRecDepth 100000 in
set_option maxHeartbeats 4000000 in
theorem lawLevelMatrix (a b c p q r n : Int) (w : World) (i0 : I64 a) (i1 : I64 b) (i2 : I64 c) (i3 : I64 p) (i4 : I64 q) (i5 : I64 r) : Calls Try.prog 4 #[.agg #[.int .i64 a, .int .i64 b, .int .i64 c], .agg #[.int .i64 p, .int .i64 q, .int .i64 r], .int .i64 n] w fun e w' => e = .returned (.bool true) ∧ Below w.heap.size w w' := by
  obtain ⟨v0, v1, v2, v3, t, hR⟩ : ∃ v0 v1 v2 v3 t, leM a b c p q r n = ((v0, v1, v2, v3), t) := ⟨_, _, _, _, _, rfl⟩
  have HR := hide hR
  clear hR
  go_enter Try.func4, Try.ntmps4
  go_upto_region 1 with fail
  go_cut [7, 8] (fun s7 s8 wx => ∃ g7 : Nat, s7 = .pointer (some ⟨g7, 0, none⟩) ∧ s8 = .bool t ∧ wx.cell? ⟨w.heap.size, 0, none⟩ = some (.int .i64 a) ∧ wx.cell? ⟨w.heap.size, 1, none⟩ = some (.int .i64 b) ∧ wx.cell? ⟨w.heap.size, 2, none⟩ = some (.int .i64 c) ∧ wx.cell? ⟨w.heap.size + 1, 0, none⟩ = some (.int .i64 p) ∧ wx.cell? ⟨w.heap.size + 1, 1, none⟩ = some (.int .i64 q) ∧ wx.cell? ⟨w.heap.size + 1, 2, none⟩ = some (.int .i64 r) ∧ wx.cell? ⟨g7, 0, none⟩ = some (.int .i64 v0) ∧ wx.frozen? ⟨g7, 0, none⟩ = false ∧ wx.cell? ⟨g7, 1, none⟩ = some (.int .i64 v1) ∧ wx.frozen? ⟨g7, 1, none⟩ = false ∧ wx.cell? ⟨g7, 2, none⟩ = some (.int .i64 v2) ∧ wx.frozen? ⟨g7, 2, none⟩ = false ∧ wx.cell? ⟨g7, 3, none⟩ = some (.int .i64 v3) ∧ wx.frozen? ⟨g7, 3, none⟩ = false ∧ Below w.heap.size w wx ∧ w.heap.size + 1 + 1 ≤ g7)
  case first =>
    have h1 := trivial
    rename_i K2 h2 h3
    refine region_n0 (by kernel_rfl) (fun j => #[12,13,14,15,16,17,11,18,19,7,7,8].getD j 0) (fun j => Kd.ok ((fun j => match j with | 0 => Kd.val (.agg #[.int .i64 a, .int .i64 b, .int .i64 c]) | 1 => Kd.val (.agg #[.int .i64 a, .int .i64 b, .int .i64 c]) | 2 => Kd.val (.agg #[.int .i64 p, .int .i64 q, .int .i64 r]) | 3 => Kd.val (.agg #[.int .i64 p, .int .i64 q, .int .i64 r]) | 4 => Kd.val (.int .i64 n) | 5 => Kd.val (.tuple #[.agg #[.int .i64 v0, .int .i64 v1, .int .i64 v2, .int .i64 v3], .bool t]) | 6 => Kd.val (.tuple #[.agg #[.int .i64 v0, .int .i64 v1, .int .i64 v2, .int .i64 v3], .bool t]) | 7 => Kd.val (.agg #[.int .i64 v0, .int .i64 v1, .int .i64 v2, .int .i64 v3]) | 8 => Kd.val (.bool t) | 9 => Kd.own (w.heap.size + 1 + 1) 4 | 10 => Kd.held (w.heap.size + 1 + 1) [.int .i64 v0, .int .i64 v1, .int .i64 v2, .int .i64 v3] | 11 => Kd.val (.bool t) | _ => Kd.any : Nat → Kd) j)) (Sy w (w.heap.size + 1 + 1) [(⟨w.heap.size, 0, none⟩, .int .i64 a), (⟨w.heap.size, 1, none⟩, .int .i64 b), (⟨w.heap.size, 2, none⟩, .int .i64 c), (⟨w.heap.size + 1, 0, none⟩, .int .i64 p), (⟨w.heap.size + 1, 1, none⟩, .int .i64 q), (⟨w.heap.size + 1, 2, none⟩, .int .i64 r)] []) (by kernel_rfl) (by kernel_rfl) ?_ ?_ ?_ ?_
    · intro j hj
      have hj2 : j < 12 := hj
      have : ∀ j, j < 12 → (#[12,13,14,15,16,17,11,18,19,7,7,8] : Array Nat).getD j 0 < 38 := by decide
      exact this j hj2
    · refine Sy.drew (Sy.mk_of ?_ ?_ ?_ ?_)
      · first | rfl | (simp; done) | (simp; omega)
      · intro c hc
        simp only [List.mem_cons, List.not_mem_nil, or_false] at hc
        rcases hc with rfl | rfl | rfl | rfl | rfl | rfl <;> exact byCT
      · intro p hp; cases hp
      · (repeat' first | with_reducible (first | exact Below.refl _ _ | assumption | refine gr_alloc ?_ _ | refine below_drewN ?_ _ | refine below_drew ?_ | refine gr_call ?_ (by assumption) | refine Below.setCell ?_ ?_ _) | go_size | omega | (simp; omega))
    · clear h1 h2 h3
      refine ⟨?r18x0, ?r18x1, ?r18x2, ?r18x3, ?r18x4, ?r18x5, ?r18x6, ?r18x7, ?r18x8, ?r18x9, ?r18x10, ?r18x11, trivial⟩
      all_goals intro _ aq wx Kq hf hS hdep ev1 ev2 hK
      case' r18x0 =>
        have F3 : aq.eval (.tmp 3) = .pointer (some ⟨w.heap.size, 0, none⟩) := hf 3
        have c0 := hS.cells (⟨w.heap.size, 0, none⟩, .int .i64 a) (by simp)
        have c1 := hS.cells (⟨w.heap.size, 1, none⟩, .int .i64 b) (by simp)
        have c2 := hS.cells (⟨w.heap.size, 2, none⟩, .int .i64 c) (by simp)
      case' r18x1 =>
        have D0 : aq.eval (.tmp 12) = _ := hdep 0
      case' r18x2 =>
        have F4 : aq.eval (.tmp 4) = .pointer (some ⟨w.heap.size + 1, 0, none⟩) := hf 4
        have c0 := hS.cells (⟨w.heap.size + 1, 0, none⟩, .int .i64 p) (by simp)
        have c1 := hS.cells (⟨w.heap.size + 1, 1, none⟩, .int .i64 q) (by simp)
        have c2 := hS.cells (⟨w.heap.size + 1, 2, none⟩, .int .i64 r) (by simp)
      case' r18x3 =>
        have D2 : aq.eval (.tmp 14) = _ := hdep 2
      case' r18x4 =>
        have F2 : aq.eval (.tmp 2) = .int .i64 n := hf 2
      case' r18x5 =>
        have D1 : aq.eval (.tmp 13) = _ := hdep 1
        have D3 : aq.eval (.tmp 15) = _ := hdep 3
        have D4 : aq.eval (.tmp 16) = _ := hdep 4
      case' r18x6 =>
        have D5 : aq.eval (.tmp 17) = _ := hdep 5
      case' r18x7 =>
        have D6 : aq.eval (.tmp 11) = _ := hdep 6
      case' r18x8 =>
        have D6 : aq.eval (.tmp 11) = _ := hdep 6
      case' r18x10 =>
        have D7 : aq.eval (.tmp 18) = _ := hdep 7
        obtain ⟨gn, D9, r1, r2, r3⟩ := hdep 9
        change aq.eval (.tmp 7) = _ at D9
        obtain ⟨⟨vx0, cx0⟩, cf0⟩ := r3 0 (by decide)
        obtain ⟨⟨vx1, cx1⟩, cf1⟩ := r3 1 (by decide)
        obtain ⟨⟨vx2, cx2⟩, cf2⟩ := r3 2 (by decide)
        obtain ⟨⟨vx3, cx3⟩, cf3⟩ := r3 3 (by decide)
        have D9' : tau aq 7 = _ := D9
      case' r18x11 =>
        have D8 : aq.eval (.tmp 19) = _ := hdep 8
      all_goals (clear hf hdep; unfold Oper.wp; generalize Act.eval _ = ev at *; go_simp)
      case r18x1 =>
        refine ((toForm_q a b c _)).mono ?_
        rintro e w2 ⟨rfl, hb⟩
        refine hK _ _ (hS.call hb) ?_ (fun j u _ h => Kd.ok_below hb h)
        rw [if_pos (by rfl)]
        show (_ : Value) = _
        first | rfl | (refine congrArg (Value.int .i64) ?_; first | rfl | exact int_in (by omega) | exact quo_in (by omega) (by omega) (by omega) | exact rem_in (by omega) (by omega) | omega) | (simp; done) | (simp [*]; done)
      case r18x3 =>
        refine ((toForm_q p q r _)).mono ?_
        rintro e w2 ⟨rfl, hb⟩
        refine hK _ _ (hS.call hb) ?_ (fun j u _ h => Kd.ok_below hb h)
        rw [if_pos (by rfl)]
        show (_ : Value) = _
        first | rfl | (refine congrArg (Value.int .i64) ?_; first | rfl | exact int_in (by omega) | exact quo_in (by omega) (by omega) (by omega) | exact rem_in (by omega) (by omega) | omega) | (simp; done) | (simp [*]; done)
      case r18x5 =>
        refine ((sLevelMatrix_v a b c p q r n v0 v1 v2 v3 t _ (unhide HR))).mono ?_
        rintro e w2 ⟨rfl, hb⟩
        refine hK _ _ (hS.call hb) ?_ (fun j u _ h => Kd.ok_below hb h)
        rw [if_pos (by rfl)]
        show (_ : Value) = _
        first | rfl | (refine congrArg (Value.int .i64) ?_; first | rfl | exact int_in (by omega) | exact quo_in (by omega) (by omega) (by omega) | exact rem_in (by omega) (by omega) | omega) | (simp; done) | (simp [*]; done)
      case r18x9 =>
        refine hK _ _ (hS.call (below_alloc_self _ _)) ?_ (fun j u _ h => Kd.ok_below (below_alloc_self _ _) h)
        rw [if_pos (by rfl)]
        exact kd_new hS.size rfl
      case r18x10 =>
        refine hK undef (setAll gn 0 [.int .i64 v0, .int .i64 v1, .int .i64 v2, .int .i64 v3] wx) (Sy.setAll_new r1 hS) ?_ (fun j u hj h => ?_)
        · rw [if_neg (by decide)]
          exact kd_held r1 r2 D9' r3
        · match j, hj with
          | 0, hj => exact (show (u : Value) = _ from h)
          | 1, hj => exact (show (u : Value) = _ from h)
          | 2, hj => exact (show (u : Value) = _ from h)
          | 3, hj => exact (show (u : Value) = _ from h)
          | 4, hj => exact (show (u : Value) = _ from h)
          | 5, hj => exact (show (u : Value) = _ from h)
          | 6, hj => exact (show (u : Value) = _ from h)
          | 7, hj => exact (show (u : Value) = _ from h)
          | 8, hj => exact (show (u : Value) = _ from h)
          | 9, hj => exact Kd.ok_setAll_new (k := Kd.own (w.heap.size + 1 + 1) 4) rfl (fun B' cs e => by cases e) h
          | 10, hj => exact absurd rfl hj
          | 11, hj => exact (show (u : Value) = _ from h)
          | j + 12, _ => trivial
      all_goals (refine hK _ _ hS ?_ (fun j u _ h => h); rw [if_pos (by rfl)]; show (_ : Value) = _; (first | rfl | (refine congrArg (Value.int .i64) ?_; first | rfl | exact int_in (by omega) | exact quo_in (by omega) (by omega) (by omega) | exact rem_in (by omega) (by omega) | omega) | (simp; done) | (simp [*]; done)))
    · intro aq wx hd hw hf hS hg
      obtain ⟨g7, G7, r1g7, r2g7, r3g7⟩ := hg 10 (by decide)
      change tau aq 7 = _ at G7
      have G8 : tau aq 8 = .bool t := hg 11 (by decide)
      have haq : aq = ⟨#[tau aq 0, tau aq 1, tau aq 2, tau aq 3, tau aq 4, tau aq 5, tau aq 6, tau aq 7, tau aq 8, tau aq 9, tau aq 10, tau aq 11, tau aq 12, tau aq 13, tau aq 14, tau aq 15, tau aq 16, tau aq 17, tau aq 18, tau aq 19, tau aq 20, tau aq 21, tau aq 22, tau aq 23, tau aq 24, tau aq 25, tau aq 26, tau aq 27, tau aq 28, tau aq 29, tau aq 30, tau aq 31, tau aq 32, tau aq 33, tau aq 34, tau aq 35, tau aq 36, tau aq 37], []⟩ := by
        obtain ⟨tq, dq⟩ := aq
        have h5 := arr_eq (show tq.size = 38 from hw)
        have h6 : dq = [] := hd
        subst h6
        exact congrArg (fun z => Act.mk z []) h5
      show K2 aq wx
      rw [haq, hf 0, hf 1, hf 2, hf 3, hf 4, hf 5, hf 6, hf 9, hf 10, hf 20, hf 21, hf 22, hf 23, hf 24, hf 25, hf 26, hf 27, hf 28, hf 29, hf 30, hf 31, hf 32, hf 33, hf 34, hf 35, hf 36, hf 37, G7, G8]
      clear haq hf hd hw
      try dsimp only
      refine h3 _ _ ?_
      go_meet
      exact ⟨g7, rfl, rfl, hS.cells (⟨w.heap.size, 0, none⟩, .int .i64 a) (by simp), hS.cells (⟨w.heap.size, 1, none⟩, .int .i64 b) (by simp), hS.cells (⟨w.heap.size, 2, none⟩, .int .i64 c) (by simp), hS.cells (⟨w.heap.size + 1, 0, none⟩, .int .i64 p) (by simp), hS.cells (⟨w.heap.size + 1, 1, none⟩, .int .i64 q) (by simp), hS.cells (⟨w.heap.size + 1, 2, none⟩, .int .i64 r) (by simp), (r3g7 0 (by simp)).1, (r3g7 0 (by simp)).2, (r3g7 1 (by simp)).1, (r3g7 1 (by simp)).2, (r3g7 2 (by simp)).1, (r3g7 2 (by simp)).2, (r3g7 3 (by simp)).1, (r3g7 3 (by simp)).2, hS.below, r1g7⟩
  obtain ⟨g7, rfl, rfl, c00, c01, c02, c10, c11, c12, c20, f20, c21, f21, c22, f22, c23, f23, hb0, ng7⟩ := hcut
  have z0 := World.block_lt_of_cell? _ _ c00
  have z1 := World.block_lt_of_cell? _ _ c10
  have z2 := World.block_lt_of_cell? _ _ c20
  change w.heap.size < wc.heap.size at z0
  change w.heap.size + 1 < wc.heap.size at z1
  change g7 < wc.heap.size at z2
  obtain ⟨wl1, rfl⟩ : ∃ wl1 : World, wl1 = wc := ⟨_, rfl⟩
  go_upto_region 2 with fail
  go_cut [9, 10] (fun s9 s10 wx => ∃ g9 : Nat, s9 = .pointer (some ⟨g9, 0, none⟩) ∧ s10 = .bool t ∧ wx.cell? ⟨w.heap.size, 0, none⟩ = some (.int .i64 a) ∧ wx.cell? ⟨w.heap.size, 1, none⟩ = some (.int .i64 b) ∧ wx.cell? ⟨w.heap.size, 2, none⟩ = some (.int .i64 c) ∧ wx.cell? ⟨w.heap.size + 1, 0, none⟩ = some (.int .i64 p) ∧ wx.cell? ⟨w.heap.size + 1, 1, none⟩ = some (.int .i64 q) ∧ wx.cell? ⟨w.heap.size + 1, 2, none⟩ = some (.int .i64 r) ∧ wx.cell? ⟨g7, 0, none⟩ = some (.int .i64 v0) ∧ wx.frozen? ⟨g7, 0, none⟩ = false ∧ wx.cell? ⟨g7, 1, none⟩ = some (.int .i64 v1) ∧ wx.frozen? ⟨g7, 1, none⟩ = false ∧ wx.cell? ⟨g7, 2, none⟩ = some (.int .i64 v2) ∧ wx.frozen? ⟨g7, 2, none⟩ = false ∧ wx.cell? ⟨g7, 3, none⟩ = some (.int .i64 v3) ∧ wx.frozen? ⟨g7, 3, none⟩ = false ∧ wx.cell? ⟨g9, 0, none⟩ = some (.int .i64 v0) ∧ wx.frozen? ⟨g9, 0, none⟩ = false ∧ wx.cell? ⟨g9, 1, none⟩ = some (.int .i64 v1) ∧ wx.frozen? ⟨g9, 1, none⟩ = false ∧ wx.cell? ⟨g9, 2, none⟩ = some (.int .i64 v2) ∧ wx.frozen? ⟨g9, 2, none⟩ = false ∧ wx.cell? ⟨g9, 3, none⟩ = some (.int .i64 v3) ∧ wx.frozen? ⟨g9, 3, none⟩ = false ∧ Below w.heap.size w wx ∧ wl1.heap.size ≤ g9)
  case first =>
    have h1 := trivial
    rename_i K2 h2 h3
    refine region_n0 (by kernel_rfl) (fun j => #[21,22,23,24,25,26,20,27,28,9,9,10].getD j 0) (fun j => Kd.ok ((fun j => match j with | 0 => Kd.val (.agg #[.int .i64 a, .int .i64 b, .int .i64 c]) | 1 => Kd.val (.agg #[.int .i64 a, .int .i64 b, .int .i64 c]) | 2 => Kd.val (.agg #[.int .i64 p, .int .i64 q, .int .i64 r]) | 3 => Kd.val (.agg #[.int .i64 p, .int .i64 q, .int .i64 r]) | 4 => Kd.val (.int .i64 n) | 5 => Kd.val (.tuple #[.agg #[.int .i64 v0, .int .i64 v1, .int .i64 v2, .int .i64 v3], .bool t]) | 6 => Kd.val (.tuple #[.agg #[.int .i64 v0, .int .i64 v1, .int .i64 v2, .int .i64 v3], .bool t]) | 7 => Kd.val (.agg #[.int .i64 v0, .int .i64 v1, .int .i64 v2, .int .i64 v3]) | 8 => Kd.val (.bool t) | 9 => Kd.own (wl1.heap.size) 4 | 10 => Kd.held (wl1.heap.size) [.int .i64 v0, .int .i64 v1, .int .i64 v2, .int .i64 v3] | 11 => Kd.val (.bool t) | _ => Kd.any : Nat → Kd) j)) (Sy w (wl1.heap.size) [(⟨w.heap.size, 0, none⟩, .int .i64 a), (⟨w.heap.size, 1, none⟩, .int .i64 b), (⟨w.heap.size, 2, none⟩, .int .i64 c), (⟨w.heap.size + 1, 0, none⟩, .int .i64 p), (⟨w.heap.size + 1, 1, none⟩, .int .i64 q), (⟨w.heap.size + 1, 2, none⟩, .int .i64 r), (⟨g7, 0, none⟩, .int .i64 v0), (⟨g7, 1, none⟩, .int .i64 v1), (⟨g7, 2, none⟩, .int .i64 v2), (⟨g7, 3, none⟩, .int .i64 v3)] [⟨g7, 0, none⟩, ⟨g7, 1, none⟩, ⟨g7, 2, none⟩, ⟨g7, 3, none⟩]) (by kernel_rfl) (by kernel_rfl) ?_ ?_ ?_ ?_
    · intro j hj
      have hj2 : j < 12 := hj
      have : ∀ j, j < 12 → (#[21,22,23,24,25,26,20,27,28,9,9,10] : Array Nat).getD j 0 < 38 := by decide
      exact this j hj2
    · refine Sy.drew (Sy.mk_of ?_ ?_ ?_ ?_)
      · first | rfl | (simp; done) | (simp; omega)
      · intro c hc
        simp only [List.mem_cons, List.not_mem_nil, or_false] at hc
        rcases hc with rfl | rfl | rfl | rfl | rfl | rfl | rfl | rfl | rfl | rfl <;> exact byCT
      · intro p hp
        simp only [List.mem_cons, List.not_mem_nil, or_false] at hp
        rcases hp with rfl | rfl | rfl | rfl <;> exact ⟨by first | ((repeat' with_reducible (first | refine ex_set _ ?_ | refine ex_al _ ?_ | exact ⟨_, by assumption⟩)); done) | first | exact ⟨_, by assumption⟩ | assumption | (go_simp; done) | (go_simp; exact ⟨_, rfl⟩), by first | ((repeat' first | with_reducible (first | assumption | refine frz_al _ ?_ ?_ | refine frz_set _ ?_) | omega | (simp; omega)); done) | assumption | (go_simp; done)⟩
      · (repeat' first | with_reducible (first | exact Below.refl _ _ | assumption | refine gr_alloc ?_ _ | refine below_drewN ?_ _ | refine below_drew ?_ | refine gr_call ?_ (by assumption) | refine Below.setCell ?_ ?_ _) | go_size | omega | (simp; omega))
    · clear h1 h2 h3
      try clear c00
      try clear c01
      try clear c02
      try clear c10
      try clear c11
      try clear c12
      try clear c20
      try clear c21
      try clear c22
      try clear c23
      try clear f20
      try clear f21
      try clear f22
      try clear f23
      refine ⟨?r19x0, ?r19x1, ?r19x2, ?r19x3, ?r19x4, ?r19x5, ?r19x6, ?r19x7, ?r19x8, ?r19x9, ?r19x10, ?r19x11, trivial⟩
      all_goals intro _ aq wx Kq hf hS hdep ev1 ev2 hK
      case' r19x0 =>
        have F3 : aq.eval (.tmp 3) = .pointer (some ⟨w.heap.size, 0, none⟩) := hf 3
        have c0 := hS.cells (⟨w.heap.size, 0, none⟩, .int .i64 a) (by simp)
        have c1 := hS.cells (⟨w.heap.size, 1, none⟩, .int .i64 b) (by simp)
        have c2 := hS.cells (⟨w.heap.size, 2, none⟩, .int .i64 c) (by simp)
      case' r19x1 =>
        have D0 : aq.eval (.tmp 21) = _ := hdep 0
      case' r19x2 =>
        have F4 : aq.eval (.tmp 4) = .pointer (some ⟨w.heap.size + 1, 0, none⟩) := hf 4
        have c0 := hS.cells (⟨w.heap.size + 1, 0, none⟩, .int .i64 p) (by simp)
        have c1 := hS.cells (⟨w.heap.size + 1, 1, none⟩, .int .i64 q) (by simp)
        have c2 := hS.cells (⟨w.heap.size + 1, 2, none⟩, .int .i64 r) (by simp)
      case' r19x3 =>
        have D2 : aq.eval (.tmp 23) = _ := hdep 2
      case' r19x4 =>
        have F2 : aq.eval (.tmp 2) = .int .i64 n := hf 2
      case' r19x5 =>
        have D1 : aq.eval (.tmp 22) = _ := hdep 1
        have D3 : aq.eval (.tmp 24) = _ := hdep 3
        have D4 : aq.eval (.tmp 25) = _ := hdep 4
      case' r19x6 =>
        have D5 : aq.eval (.tmp 26) = _ := hdep 5
      case' r19x7 =>
        have D6 : aq.eval (.tmp 20) = _ := hdep 6
      case' r19x8 =>
        have D6 : aq.eval (.tmp 20) = _ := hdep 6
      case' r19x10 =>
        have D7 : aq.eval (.tmp 27) = _ := hdep 7
        obtain ⟨gn, D9, r1, r2, r3⟩ := hdep 9
        change aq.eval (.tmp 9) = _ at D9
        obtain ⟨⟨vx0, cx0⟩, cf0⟩ := r3 0 (by decide)
        obtain ⟨⟨vx1, cx1⟩, cf1⟩ := r3 1 (by decide)
        obtain ⟨⟨vx2, cx2⟩, cf2⟩ := r3 2 (by decide)
        obtain ⟨⟨vx3, cx3⟩, cf3⟩ := r3 3 (by decide)
        have D9' : tau aq 9 = _ := D9
      case' r19x11 =>
        have D8 : aq.eval (.tmp 28) = _ := hdep 8
      all_goals (clear hf hdep; unfold Oper.wp; generalize Act.eval _ = ev at *; go_simp)
      case r19x1 =>
        refine ((toForm_q a b c _)).mono ?_
        rintro e w2 ⟨rfl, hb⟩
        refine hK _ _ (hS.call hb) ?_ (fun j u _ h => Kd.ok_below hb h)
        rw [if_pos (by rfl)]
        show (_ : Value) = _
        first | rfl | (refine congrArg (Value.int .i64) ?_; first | rfl | exact int_in (by omega) | exact quo_in (by omega) (by omega) (by omega) | exact rem_in (by omega) (by omega) | omega) | (simp; done) | (simp [*]; done)
      case r19x3 =>
        refine ((toForm_q p q r _)).mono ?_
        rintro e w2 ⟨rfl, hb⟩
        refine hK _ _ (hS.call hb) ?_ (fun j u _ h => Kd.ok_below hb h)
        rw [if_pos (by rfl)]
        show (_ : Value) = _
        first | rfl | (refine congrArg (Value.int .i64) ?_; first | rfl | exact int_in (by omega) | exact quo_in (by omega) (by omega) (by omega) | exact rem_in (by omega) (by omega) | omega) | (simp; done) | (simp [*]; done)
      case r19x5 =>
        refine ((iLevelMatrix_v a b c p q r n v0 v1 v2 v3 t _ i0 i1 i2 i3 i4 i5 (unhide HR))).mono ?_
        rintro e w2 ⟨rfl, hb⟩
        refine hK _ _ (hS.call hb) ?_ (fun j u _ h => Kd.ok_below hb h)
        rw [if_pos (by rfl)]
        show (_ : Value) = _
        first | rfl | (refine congrArg (Value.int .i64) ?_; first | rfl | exact int_in (by omega) | exact quo_in (by omega) (by omega) (by omega) | exact rem_in (by omega) (by omega) | omega) | (simp; done) | (simp [*]; done)
      case r19x9 =>
        refine hK _ _ (hS.call (below_alloc_self _ _)) ?_ (fun j u _ h => Kd.ok_below (below_alloc_self _ _) h)
        rw [if_pos (by rfl)]
        exact kd_new hS.size rfl
      case r19x10 =>
        refine hK undef (setAll gn 0 [.int .i64 v0, .int .i64 v1, .int .i64 v2, .int .i64 v3] wx) (Sy.setAll_new r1 hS) ?_ (fun j u hj h => ?_)
        · rw [if_neg (by decide)]
          exact kd_held r1 r2 D9' r3
        · match j, hj with
          | 0, hj => exact (show (u : Value) = _ from h)
          | 1, hj => exact (show (u : Value) = _ from h)
          | 2, hj => exact (show (u : Value) = _ from h)
          | 3, hj => exact (show (u : Value) = _ from h)
          | 4, hj => exact (show (u : Value) = _ from h)
          | 5, hj => exact (show (u : Value) = _ from h)
          | 6, hj => exact (show (u : Value) = _ from h)
          | 7, hj => exact (show (u : Value) = _ from h)
          | 8, hj => exact (show (u : Value) = _ from h)
          | 9, hj => exact Kd.ok_setAll_new (k := Kd.own (wl1.heap.size) 4) rfl (fun B' cs e => by cases e) h
          | 10, hj => exact absurd rfl hj
          | 11, hj => exact (show (u : Value) = _ from h)
          | j + 12, _ => trivial
      all_goals (refine hK _ _ hS ?_ (fun j u _ h => h); rw [if_pos (by rfl)]; show (_ : Value) = _; (first | rfl | (refine congrArg (Value.int .i64) ?_; first | rfl | exact int_in (by omega) | exact quo_in (by omega) (by omega) (by omega) | exact rem_in (by omega) (by omega) | omega) | (simp; done) | (simp [*]; done)))
    · intro aq wx hd hw hf hS hg
      obtain ⟨g9, G9, r1g9, r2g9, r3g9⟩ := hg 10 (by decide)
      change tau aq 9 = _ at G9
      have G10 : tau aq 10 = .bool t := hg 11 (by decide)
      have haq : aq = ⟨#[tau aq 0, tau aq 1, tau aq 2, tau aq 3, tau aq 4, tau aq 5, tau aq 6, tau aq 7, tau aq 8, tau aq 9, tau aq 10, tau aq 11, tau aq 12, tau aq 13, tau aq 14, tau aq 15, tau aq 16, tau aq 17, tau aq 18, tau aq 19, tau aq 20, tau aq 21, tau aq 22, tau aq 23, tau aq 24, tau aq 25, tau aq 26, tau aq 27, tau aq 28, tau aq 29, tau aq 30, tau aq 31, tau aq 32, tau aq 33, tau aq 34, tau aq 35, tau aq 36, tau aq 37], []⟩ := by
        obtain ⟨tq, dq⟩ := aq
        have h5 := arr_eq (show tq.size = 38 from hw)
        have h6 : dq = [] := hd
        subst h6
        exact congrArg (fun z => Act.mk z []) h5
      show K2 aq wx
      rw [haq, hf 0, hf 1, hf 2, hf 3, hf 4, hf 5, hf 6, hf 7, hf 8, hf 11, hf 12, hf 13, hf 14, hf 15, hf 16, hf 17, hf 18, hf 19, hf 29, hf 30, hf 31, hf 32, hf 33, hf 34, hf 35, hf 36, hf 37, G9, G10]
      clear haq hf hd hw
      try dsimp only
      refine h3 _ _ ?_
      go_meet
      exact ⟨g9, rfl, rfl, hS.cells (⟨w.heap.size, 0, none⟩, .int .i64 a) (by simp), hS.cells (⟨w.heap.size, 1, none⟩, .int .i64 b) (by simp), hS.cells (⟨w.heap.size, 2, none⟩, .int .i64 c) (by simp), hS.cells (⟨w.heap.size + 1, 0, none⟩, .int .i64 p) (by simp), hS.cells (⟨w.heap.size + 1, 1, none⟩, .int .i64 q) (by simp), hS.cells (⟨w.heap.size + 1, 2, none⟩, .int .i64 r) (by simp), hS.cells (⟨g7, 0, none⟩, .int .i64 v0) (by simp), (hS.free ⟨g7, 0, none⟩ (by simp)).2, hS.cells (⟨g7, 1, none⟩, .int .i64 v1) (by simp), (hS.free ⟨g7, 1, none⟩ (by simp)).2, hS.cells (⟨g7, 2, none⟩, .int .i64 v2) (by simp), (hS.free ⟨g7, 2, none⟩ (by simp)).2, hS.cells (⟨g7, 3, none⟩, .int .i64 v3) (by simp), (hS.free ⟨g7, 3, none⟩ (by simp)).2, (r3g9 0 (by simp)).1, (r3g9 0 (by simp)).2, (r3g9 1 (by simp)).1, (r3g9 1 (by simp)).2, (r3g9 2 (by simp)).1, (r3g9 2 (by simp)).2, (r3g9 3 (by simp)).1, (r3g9 3 (by simp)).2, hS.below, r1g9⟩
  try clear c00
  try clear c01
  try clear c02
  try clear c10
  try clear c11
  try clear c12
  try clear c20
  try clear c21
  try clear c22
  try clear c23
  try clear f20
  try clear f21
  try clear f22
  try clear f23
  obtain ⟨g9, rfl, rfl, c00, c01, c02, c10, c11, c12, c20, f20, c21, f21, c22, f22, c23, f23, c30, f30, c31, f31, c32, f32, c33, f33, hb0, ng9⟩ := hcut
  have z0 := World.block_lt_of_cell? _ _ c00
  have z1 := World.block_lt_of_cell? _ _ c10
  have z2 := World.block_lt_of_cell? _ _ c20
  have z3 := World.block_lt_of_cell? _ _ c30
  change w.heap.size < wc.heap.size at z0
  change w.heap.size + 1 < wc.heap.size at z1
  change g7 < wc.heap.size at z2
  change g9 < wc.heap.size at z3
  go_wp2_with fail
  refine (eqMatrix_same v0 v1 v2 v3 _).mono ?_
  rintro en w5 ⟨rfl, hb5⟩
  go_wp2
  go_ret
  exact ⟨rfl, byGG⟩
end Go.Proofs.Ytjknkgmmgdfjiaa
