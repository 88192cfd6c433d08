/-
  ParseRow, spec.: a candidate.
-/
import Derived.Test.YtfoofbcmaljmoaaDoorPrr
import Derived.Test.YtfoofbcmaljmoaaDoorRule
namespace Go.Proofs.YtfoofbcmaljmoaaDoor
open Go.RowKit
set_option linter.unusedVariables false
set_option linter.unusedSimpArgs false
attribute [local go_sem] q2 q3 q4 q5 q6 q7 q8 q9 q10 q11 q12

set_option maxRecDepth 100000 in
set_option maxHeartbeats 4000000 in
theorem specPr_3 (s x0 x1 x2 x3 x4 : ByteArray) (e0 e1 e2 e3 : Int) (ys : List ByteArray) (F : List Int) (mi gd te b0 : Bool) (T : ByteArray) (w : World) (HS : Hid (∀ W, Below w.heap.size w W → Calls Tryd.prog 9 #[.string s, .int .u8 32] W fun e w' => ∃ g9 c9, e = .returned (.slice (some ⟨g9, 0, none⟩) 5 c9) ∧ W.heap.size ≤ g9 ∧ SL w' W.heap.size (.slice (some ⟨g9, 0, none⟩) 5 c9) [x0, x1, x2, x3, x4] ∧ Below W.heap.size W w'))
    (HD : Hid (∀ W, Calls Tryd.prog 10 #[.string x0] W fun e w' => e = .returned (.tuple #[.int .i64 e0, .bool b0]) ∧ W = w'))
    (HR1 : Hid (∀ W, Calls Tryd.prog 11 #[.string x1] W fun e w' => e = .returned (.int .i64 e1) ∧ W = w'))
    (HR2 : Hid (∀ W, Calls Tryd.prog 11 #[.string x3] W fun e w' => e = .returned (.int .i64 e2) ∧ W = w'))
    (HR3 : Hid (∀ W, Calls Tryd.prog 11 #[.string x4] W fun e w' => e = .returned (.int .i64 e3) ∧ W = w'))
    (hmi : (x2.toList == [45]) = mi) (hF0 : mi = true → F = []) (hlen : ys.length = F.length) (hyb : ys.length ≤ 2000000)
    (HL : Hid (mi = false → ∀ W, Below w.heap.size w W → Calls Tryd.prog 9 #[.string x2, .int .u8 44] W (RetSL W ys)))
    (HY : Hid (∀ k, k < ys.length → ∀ W, Calls Tryd.prog 11 #[.string (ys.getD k ⟨#[]⟩)] W fun e w' => e = .returned (.int .i64 (F.getD k 0)) ∧ W = w'))
    (HI : Hid (∀ W a c, ArgI W (.slice a F.length c) F.length (fun i => F.getD i 0) → Calls Tryd.prog 12 #[.agg #[.int .i64 e0, .int .i64 e1, .slice a F.length c, .int .i64 e2, .int .i64 e3]] W fun e w' => e = .returned (.bool gd) ∧ Below W.heap.size W w'))
    (HT : Hid (gd = true → ∀ W a c, Below w.heap.size w W → ArgI W (.slice a F.length c) F.length (fun i => F.getD i 0) → Calls Tryd.prog 13 #[.agg #[.int .i64 e0, .int .i64 e1, .slice a F.length c, .int .i64 e2, .int .i64 e3]] W fun e w' => e = .returned (.string T) ∧ Below W.heap.size W w'))
    (hte : (T.toList == s.toList) = te) :
    Calls Tryd.prog 4 #[.string s] w (if gd && te then RetRowB w ⟨e0, e1, e2, e3⟩ F.length (fun i => F.getD i 0) true else RetRowB w ⟨0, 0, 0, 0⟩ 0 (fun _ => 0) false) := by
  have HZ := hide hlen
  clear hlen
  obtain ⟨RET, hRET⟩ : ∃ P : Ending → World → Prop, P = (if gd && te then RetRowB w ⟨e0, e1, e2, e3⟩ F.length (fun i => F.getD i 0) true else RetRowB w ⟨0, 0, 0, 0⟩ 0 (fun _ => 0) false) := ⟨_, rfl⟩
  rw [← hRET]
  have HRET := hide hRET
  clear hRET
  go_enter Tryd.func4, Tryd.ntmps4
  go_wp2_with fail
  refine ((unhide HS) _ byGG).mono ?_
  rintro e w1 ⟨g9, c9, rfl, hg9, hc1, hb1⟩
  have hcs9 := cells_calls hb1 [⟨w.heap.size, 0, none⟩, ⟨w.heap.size, 1, none⟩, ⟨w.heap.size, 2, none⟩, ⟨w.heap.size, 3, none⟩, ⟨w.heap.size, 4, none⟩] [.int .i64 0, .int .i64 0, .slice none 0 0, .int .i64 0, .int .i64 0] (by refine ⟨?_, ?_, ?_, ?_, ?_, trivial⟩ <;> exact byCT)
  have hfs9 := frees_calls hb1 [⟨w.heap.size, 0, none⟩, ⟨w.heap.size, 1, none⟩, ⟨w.heap.size, 2, none⟩, ⟨w.heap.size, 3, none⟩, ⟨w.heap.size, 4, none⟩] (by refine ⟨?_, ?_, ?_, ?_, ?_, trivial⟩ <;> first | with_reducible assumption | omega | (simp; omega) | (simp; done)) (by refine ⟨?_, ?_, ?_, ?_, ?_, trivial⟩ <;> exact byFT)
  have hzs9 := blocks_calls hb1 [w.heap.size] (by refine ⟨?_, trivial⟩ <;> first | with_reducible assumption | omega | (simp; omega) | (simp; done))
  try clear c00 c01 c02 c03 c04 f00 f01 f02 f03 f04
  obtain ⟨c00, c01, c02, c03, c04, -⟩ := hcs9
  obtain ⟨f00, f01, f02, f03, f04, -⟩ := hfs9
  obtain ⟨z0, -⟩ := hzs9
  have s1 := hb1.size
  have hcs := hc1.strs.2
  have sg : ∀ k, k < 5 → w1.cell? ⟨g9, k, none⟩ = some (.string (([x0, x1, x2, x3, x4] : List ByteArray).getD k ⟨#[]⟩)) := by
    intro k hk
    obtain ⟨g, hg, _, hq⟩ := StrsAt.cell hcs (show k < [x0, x1, x2, x3, x4].length from hk)
    injection hg with hg
    injection hg with hg
    subst hg
    simpa using hq
  have d0 : w1.cell? ⟨g9, 0, none⟩ = some (.string x0) := sg 0 (by decide)
  have d1 : w1.cell? ⟨g9, 1, none⟩ = some (.string x1) := sg 1 (by decide)
  have d2 : w1.cell? ⟨g9, 2, none⟩ = some (.string x2) := sg 2 (by decide)
  have d3 : w1.cell? ⟨g9, 3, none⟩ = some (.string x3) := sg 3 (by decide)
  have d4 : w1.cell? ⟨g9, 4, none⟩ = some (.string x4) := sg 4 (by decide)
  clear sg hcs hc1
  have g9w : w.heap.size < g9 := by simp at hg9; omega
  have g9l : g9 < w1.heap.size := World.block_lt_of_cell? _ _ d0
  obtain ⟨wa, hwa⟩ : ∃ wa, wa = w1 := ⟨_, rfl⟩
  subst hwa
  go_upto_region 5 with (go_at_call 10; refine ((unhide HD) _).mono ?_; rintro e w2 ⟨rfl, rfl⟩)
  go_cut [7] (fun s7 wx => ∃ g : Nat, s7 = .pointer (some ⟨g, 0, none⟩) ∧ wx.cell? ⟨w.heap.size, 0, none⟩ = some (.int .i64 0) ∧ wx.frozen? ⟨w.heap.size, 0, none⟩ = false ∧ wx.cell? ⟨w.heap.size, 1, none⟩ = some (.int .i64 0) ∧ wx.frozen? ⟨w.heap.size, 1, none⟩ = false ∧ wx.cell? ⟨w.heap.size, 2, none⟩ = some (.slice none 0 0) ∧ wx.frozen? ⟨w.heap.size, 2, none⟩ = false ∧ wx.cell? ⟨w.heap.size, 3, none⟩ = some (.int .i64 0) ∧ wx.frozen? ⟨w.heap.size, 3, none⟩ = false ∧ wx.cell? ⟨w.heap.size, 4, none⟩ = some (.int .i64 0) ∧ wx.frozen? ⟨w.heap.size, 4, none⟩ = false ∧ wx.cell? ⟨g9, 1, none⟩ = some (.string x1) ∧ wx.cell? ⟨g9, 2, none⟩ = some (.string x2) ∧ wx.cell? ⟨g9, 3, none⟩ = some (.string x3) ∧ wx.cell? ⟨g9, 4, none⟩ = some (.string x4) ∧ wx.cell? ⟨g, 0, none⟩ = some (.int .i64 e0) ∧ wx.frozen? ⟨g, 0, none⟩ = false ∧ wx.cell? ⟨g, 1, none⟩ = some (.int .i64 e1) ∧ wx.frozen? ⟨g, 1, none⟩ = false ∧ wx.cell? ⟨g, 2, none⟩ = some (.slice none 0 0) ∧ wx.frozen? ⟨g, 2, none⟩ = false ∧ wx.cell? ⟨g, 3, none⟩ = some (.int .i64 e2) ∧ wx.frozen? ⟨g, 3, none⟩ = false ∧ wx.cell? ⟨g, 4, none⟩ = some (.int .i64 e3) ∧ wx.frozen? ⟨g, 4, none⟩ = false ∧ Below wa.heap.size wa wx ∧ wa.heap.size ≤ g)
  case first =>
    have h1 := trivial
    rename_i K2 h2 h3
    refine region_n0 (by kernel_rfl) (fun j => #[23,24,25,26,27,28,29,30,31,32,33,34,35,36,7,7].getD j 0) (fun j => Kd.ok ((fun j => match j with | 0 => Kd.val (.int .i64 e0) | 1 => Kd.val (.slice (some ⟨g9, 0, none⟩) 5 c9) | 2 => Kd.val (.pointer (some ⟨g9, 1, none⟩)) | 3 => Kd.val (.string x1) | 4 => Kd.val (.int .i64 e1) | 5 => Kd.val (.slice (some ⟨g9, 0, none⟩) 5 c9) | 6 => Kd.val (.pointer (some ⟨g9, 3, none⟩)) | 7 => Kd.val (.string x3) | 8 => Kd.val (.int .i64 e2) | 9 => Kd.val (.slice (some ⟨g9, 0, none⟩) 5 c9) | 10 => Kd.val (.pointer (some ⟨g9, 4, none⟩)) | 11 => Kd.val (.string x4) | 12 => Kd.val (.int .i64 e3) | 13 => Kd.val (.agg #[.int .i64 e0, .int .i64 e1, .slice none 0 0, .int .i64 e2, .int .i64 e3]) | 14 => Kd.own (wa.heap.size) 5 | 15 => Kd.held (wa.heap.size) [.int .i64 e0, .int .i64 e1, .slice none 0 0, .int .i64 e2, .int .i64 e3] | _ => Kd.any : Nat → Kd) j)) (Sy wa (wa.heap.size) [(⟨w.heap.size, 0, none⟩, .int .i64 0), (⟨w.heap.size, 1, none⟩, .int .i64 0), (⟨w.heap.size, 2, none⟩, .slice none 0 0), (⟨w.heap.size, 3, none⟩, .int .i64 0), (⟨w.heap.size, 4, none⟩, .int .i64 0), (⟨g9, 1, none⟩, .string x1), (⟨g9, 2, none⟩, .string x2), (⟨g9, 3, none⟩, .string x3), (⟨g9, 4, none⟩, .string x4)] [⟨w.heap.size, 0, none⟩, ⟨w.heap.size, 1, none⟩, ⟨w.heap.size, 2, none⟩, ⟨w.heap.size, 3, none⟩, ⟨w.heap.size, 4, none⟩]) (by kernel_rfl) (by kernel_rfl) ?_ ?_ ?_ ?_
    · intro j hj
      have hj2 : j < 16 := hj
      have : ∀ j, j < 16 → (#[23,24,25,26,27,28,29,30,31,32,33,34,35,36,7,7] : Array Nat).getD j 0 < 69 := by decide
      exact this j hj2
    · refine Sy.drew (Sy.mk_of ?_ ?_ ?_ ?_)
      · first | rfl | (simp; done) | (simp; omega)
      · intro c hc
        simp only [List.mem_cons, List.not_mem_nil, or_false] at hc
        rcases hc with rfl | rfl | rfl | rfl | rfl | rfl | rfl | rfl | rfl <;> exact byCT
      · intro p hp
        simp only [List.mem_cons, List.not_mem_nil, or_false] at hp
        rcases hp with rfl | rfl | rfl | rfl | rfl <;> exact ⟨by first | ((repeat' with_reducible (first | refine ex_set _ ?_ | refine ex_al _ ?_ | exact ⟨_, by assumption⟩)); done) | first | exact ⟨_, by assumption⟩ | assumption | (go_simp; done) | (go_simp; exact ⟨_, rfl⟩), by first | ((repeat' first | with_reducible (first | assumption | refine frz_al _ ?_ ?_ | refine frz_set _ ?_) | omega | (simp; omega)); done) | assumption | (go_simp; done)⟩
      · (repeat' first | with_reducible (first | exact Below.refl _ _ | assumption | refine gr_alloc ?_ _ | refine below_drewN ?_ _ | refine below_drew ?_ | refine gr_call ?_ (by assumption) | refine Below.setCell ?_ ?_ _) | go_size | omega | (simp; omega))
    · clear h1 h2 h3
      refine ⟨?r1x0, ?r1x1, ?r1x2, ?r1x3, ?r1x4, ?r1x5, ?r1x6, ?r1x7, ?r1x8, ?r1x9, ?r1x10, ?r1x11, ?r1x12, ?r1x13, ?r1x14, ?r1x15, trivial⟩
      all_goals intro _ aq wx Kq hf hS hdep ev1 ev2 hK
      case' r1x0 =>
        have F5 : aq.eval (.tmp 5) = .int .i64 e0 := hf 5
      case' r1x1 =>
        have F4 : aq.eval (.tmp 4) = .slice (some ⟨g9, 0, none⟩) 5 c9 := hf 4
      case' r1x2 =>
        have D1 : aq.eval (.tmp 24) = _ := hdep 1
      case' r1x3 =>
        have D2 : aq.eval (.tmp 25) = _ := hdep 2
        have c0 := hS.cells (⟨g9, 1, none⟩, .string x1) (by simp)
      case' r1x4 =>
        have D3 : aq.eval (.tmp 26) = _ := hdep 3
      case' r1x5 =>
        have F4 : aq.eval (.tmp 4) = .slice (some ⟨g9, 0, none⟩) 5 c9 := hf 4
      case' r1x6 =>
        have D5 : aq.eval (.tmp 28) = _ := hdep 5
      case' r1x7 =>
        have D6 : aq.eval (.tmp 29) = _ := hdep 6
        have c0 := hS.cells (⟨g9, 3, none⟩, .string x3) (by simp)
      case' r1x8 =>
        have D7 : aq.eval (.tmp 30) = _ := hdep 7
      case' r1x9 =>
        have F4 : aq.eval (.tmp 4) = .slice (some ⟨g9, 0, none⟩) 5 c9 := hf 4
      case' r1x10 =>
        have D9 : aq.eval (.tmp 32) = _ := hdep 9
      case' r1x11 =>
        have D10 : aq.eval (.tmp 33) = _ := hdep 10
        have c0 := hS.cells (⟨g9, 4, none⟩, .string x4) (by simp)
      case' r1x12 =>
        have D11 : aq.eval (.tmp 34) = _ := hdep 11
      case' r1x13 =>
        have D0 : aq.eval (.tmp 23) = _ := hdep 0
        have D4 : aq.eval (.tmp 27) = _ := hdep 4
        have D8 : aq.eval (.tmp 31) = _ := hdep 8
        have D12 : aq.eval (.tmp 35) = _ := hdep 12
      case' r1x15 =>
        have D13 : aq.eval (.tmp 36) = _ := hdep 13
        obtain ⟨gn, D14, r1, r2, r3⟩ := hdep 14
        change aq.eval (.tmp 7) = _ at D14
        obtain ⟨⟨vx0, cx0⟩, cf0⟩ := r3 0 (by decide)
        obtain ⟨⟨vx1, cx1⟩, cf1⟩ := r3 1 (by decide)
        obtain ⟨⟨vx2, cx2⟩, cf2⟩ := r3 2 (by decide)
        obtain ⟨⟨vx3, cx3⟩, cf3⟩ := r3 3 (by decide)
        obtain ⟨⟨vx4, cx4⟩, cf4⟩ := r3 4 (by decide)
        have D14' : tau aq 7 = _ := D14
      all_goals (clear hf hdep; unfold Oper.wp; generalize Act.eval _ = ev at *; go_simp)
      case' r1x2 =>
        try rw [if_pos (by omega), Oper.upon_value]
      case r1x4 =>
        refine (((unhide HR1) _)).mono ?_
        rintro e w2 ⟨rfl, rfl⟩
        refine hK _ _ (hS.call (below_refl_self _)) ?_ (fun j u _ h => Kd.ok_below (below_refl_self _) h)
        rw [if_pos (by rfl)]
        show (_ : Value) = _
        first | rfl | (refine congrArg (Value.int .i64) ?_; first | rfl | exact int_in (by omega) | exact quo_in (by omega) (by omega) (by omega) | exact rem_in (by omega) (by omega) | omega) | (simp; done) | (simp [*]; done)
      case' r1x6 =>
        try rw [if_pos (by omega), Oper.upon_value]
      case r1x8 =>
        refine (((unhide HR2) _)).mono ?_
        rintro e w2 ⟨rfl, rfl⟩
        refine hK _ _ (hS.call (below_refl_self _)) ?_ (fun j u _ h => Kd.ok_below (below_refl_self _) h)
        rw [if_pos (by rfl)]
        show (_ : Value) = _
        first | rfl | (refine congrArg (Value.int .i64) ?_; first | rfl | exact int_in (by omega) | exact quo_in (by omega) (by omega) (by omega) | exact rem_in (by omega) (by omega) | omega) | (simp; done) | (simp [*]; done)
      case' r1x10 =>
        try rw [if_pos (by omega), Oper.upon_value]
      case r1x12 =>
        refine (((unhide HR3) _)).mono ?_
        rintro e w2 ⟨rfl, rfl⟩
        refine hK _ _ (hS.call (below_refl_self _)) ?_ (fun j u _ h => Kd.ok_below (below_refl_self _) h)
        rw [if_pos (by rfl)]
        show (_ : Value) = _
        first | rfl | (refine congrArg (Value.int .i64) ?_; first | rfl | exact int_in (by omega) | exact quo_in (by omega) (by omega) (by omega) | exact rem_in (by omega) (by omega) | omega) | (simp; done) | (simp [*]; done)
      case r1x14 =>
        refine hK _ _ (hS.call (below_alloc_self _ _)) ?_ (fun j u _ h => Kd.ok_below (below_alloc_self _ _) h)
        rw [if_pos (by rfl)]
        exact kd_new hS.size rfl
      case r1x15 =>
        refine hK undef (setAll gn 0 [.int .i64 e0, .int .i64 e1, .slice none 0 0, .int .i64 e2, .int .i64 e3] wx) (Sy.setAll_new r1 hS) ?_ (fun j u hj h => ?_)
        · rw [if_neg (by decide)]
          exact kd_held r1 r2 D14' r3
        · match j, hj with
          | 0, hj | 1, hj | 2, hj | 3, hj | 4, hj | 5, hj | 6, hj | 7, hj | 8, hj | 9, hj | 10, hj | 11, hj | 12, hj | 13, hj => exact (show (u : Value) = _ from h)
          | 14, hj => exact Kd.ok_setAll_new (k := Kd.own (wa.heap.size) 5) rfl (fun B' cs e => by cases e) h
          | 15, hj => exact absurd rfl hj
          | j + 16, _ => trivial
      all_goals (refine hK _ _ hS ?_ (fun j u _ h => h); rw [if_pos (by rfl)]; show (_ : Value) = _; (first | rfl | (refine congrArg (Value.int .i64) ?_; first | rfl | exact int_in (by omega) | exact quo_in (by omega) (by omega) (by omega) | exact rem_in (by omega) (by omega) | omega) | (simp; done) | (simp [*]; done)))
    · intro aq wx hd hw hf hS hg
      obtain ⟨g, G7, r1g, r2g, r3g⟩ := hg 15 (by decide)
      change tau aq 7 = _ at G7
      have haq : aq = ⟨#[tau aq 0, tau aq 1, tau aq 2, tau aq 3, tau aq 4, tau aq 5, tau aq 6, tau aq 7, tau aq 8, tau aq 9, tau aq 10, tau aq 11, tau aq 12, tau aq 13, tau aq 14, tau aq 15, tau aq 16, tau aq 17, tau aq 18, tau aq 19, tau aq 20, tau aq 21, tau aq 22, tau aq 23, tau aq 24, tau aq 25, tau aq 26, tau aq 27, tau aq 28, tau aq 29, tau aq 30, tau aq 31, tau aq 32, tau aq 33, tau aq 34, tau aq 35, tau aq 36, tau aq 37, tau aq 38, tau aq 39, tau aq 40, tau aq 41, tau aq 42, tau aq 43, tau aq 44, tau aq 45, tau aq 46, tau aq 47, tau aq 48, tau aq 49, tau aq 50, tau aq 51, tau aq 52, tau aq 53, tau aq 54, tau aq 55, tau aq 56, tau aq 57, tau aq 58, tau aq 59, tau aq 60, tau aq 61, tau aq 62, tau aq 63, tau aq 64, tau aq 65, tau aq 66, tau aq 67, tau aq 68], []⟩ := by
        obtain ⟨tq, dq⟩ := aq
        have h5 := arr_eq (show tq.size = 69 from hw)
        have h6 : dq = [] := hd
        subst h6
        exact congrArg (fun z => Act.mk z []) h5
      show K2 aq wx
      rw [haq, hf 0, hf 1, hf 2, hf 3, hf 4, hf 5, hf 6, hf 8, hf 9, hf 10, hf 11, hf 12, hf 13, hf 14, hf 15, hf 16, hf 17, hf 18, hf 19, hf 20, hf 21, hf 22, hf 37, hf 38, hf 39, hf 40, hf 41, hf 42, hf 43, hf 44, hf 45, hf 46, hf 47, hf 48, hf 49, hf 50, hf 51, hf 52, hf 53, hf 54, hf 55, hf 56, hf 57, hf 58, hf 59, hf 60, hf 61, hf 62, hf 63, hf 64, hf 65, hf 66, hf 67, hf 68, G7]
      clear haq hf hd hw
      try dsimp only
      refine h3 _ _ ?_
      go_meet
      refine ⟨g, rfl, ?_, ?_, ?_, ?_, ?_, ?_, ?_, ?_, ?_, ?_, ?_, ?_, ?_, ?_, (r3g 0 (by simp)).1, (r3g 0 (by simp)).2, (r3g 1 (by simp)).1, (r3g 1 (by simp)).2, (r3g 2 (by simp)).1, (r3g 2 (by simp)).2, (r3g 3 (by simp)).1, (r3g 3 (by simp)).2, (r3g 4 (by simp)).1, (r3g 4 (by simp)).2, hS.below, r1g⟩
      all_goals first | exact hS.cells (_, _) (by simp) | exact (hS.free _ (by simp)).2
  obtain ⟨g, rfl, c00, f00, c01, f01, c02, f02, c03, f03, c04, f04, c10, c11, c12, c13, c20, f20, c21, f21, c22, f22, c23, f23, c24, f24, hb0, ng⟩ := hcut
  have z0 := World.block_lt_of_cell? _ _ c00
  change w.heap.size < wc.heap.size at z0
  have z1 := World.block_lt_of_cell? _ _ c10
  change g9 < wc.heap.size at z1
  have z2 := World.block_lt_of_cell? _ _ c20
  change g < wc.heap.size at z2
  have hgw : w.heap.size < g := by omega
  clear HS HD HR1 HR2 HR3 d0 d1 d2 d3 d4
  have gBc : Below w.heap.size w wc := byGG
  cases mi
  case true =>
    have hm9 : (!(x2.toList == [45])) = false := by rw [hmi]; rfl
    obtain rfl : F = [] := hF0 rfl
    clear hF0 HL HY
    cases gd
    · go_wp2_with (go_at_call 12; refine ((unhide HI) _ _ _ (.inl ⟨rfl, _, _, rfl⟩)).mono ?_; rintro e w6 ⟨rfl, hb6⟩; have hcs9 := cells_calls hb6 [⟨w.heap.size, 0, none⟩, ⟨w.heap.size, 1, none⟩, ⟨w.heap.size, 2, none⟩, ⟨w.heap.size, 3, none⟩, ⟨w.heap.size, 4, none⟩, ⟨g, 0, none⟩, ⟨g, 1, none⟩, ⟨g, 2, none⟩, ⟨g, 3, none⟩, ⟨g, 4, none⟩] [.int .i64 0, .int .i64 0, .slice none 0 0, .int .i64 0, .int .i64 0, .int .i64 e0, .int .i64 e1, .slice none 0 0, .int .i64 e2, .int .i64 e3] (by refine ⟨?_, ?_, ?_, ?_, ?_, ?_, ?_, ?_, ?_, ?_, trivial⟩ <;> exact byCT); have hfs9 := frees_calls hb6 [⟨w.heap.size, 0, none⟩, ⟨w.heap.size, 1, none⟩, ⟨w.heap.size, 2, none⟩, ⟨w.heap.size, 3, none⟩, ⟨w.heap.size, 4, none⟩] (by refine ⟨?_, ?_, ?_, ?_, ?_, trivial⟩ <;> first | with_reducible assumption | omega | (simp; omega) | (simp; done)) (by refine ⟨?_, ?_, ?_, ?_, ?_, trivial⟩ <;> exact byFT); have hzs9 := blocks_calls hb6 [w.heap.size, g] (by refine ⟨?_, ?_, trivial⟩ <;> first | with_reducible assumption | omega | (simp; omega) | (simp; done)); (try clear c00 c01 c02 c03 c04 f00 f01 f02 f03 f04); (try clear c10 c11 c12 c13 c14); obtain ⟨c00, c01, c02, c03, c04, c10, c11, c12, c13, c14, -⟩ := hcs9; obtain ⟨f00, f01, f02, f03, f04, -⟩ := hfs9; obtain ⟨z0, z1, -⟩ := hzs9; have s6 := hb6.size)
      refine bodyPost_ret (v := .tuple #[rwv ⟨0, 0, 0, 0⟩ (.slice none 0 0), .bool false]) (by simp [results, Tryd.results4, go_sem, *]) rfl ?_
      rw [unhide HRET]
      exact ⟨none, 0, rfl, .inl rfl, byGG⟩
    · cases te
      · have ht9 : (!(T.toList == s.toList)) = true := by rw [hte]; rfl
        go_wp2_with (first | (go_at_call 12; refine ((unhide HI) _ _ _ (.inl ⟨rfl, _, _, rfl⟩)).mono ?_; rintro e w6 ⟨rfl, hb6⟩; have hcs9 := cells_calls hb6 [⟨w.heap.size, 0, none⟩, ⟨w.heap.size, 1, none⟩, ⟨w.heap.size, 2, none⟩, ⟨w.heap.size, 3, none⟩, ⟨w.heap.size, 4, none⟩, ⟨g, 0, none⟩, ⟨g, 1, none⟩, ⟨g, 2, none⟩, ⟨g, 3, none⟩, ⟨g, 4, none⟩] [.int .i64 0, .int .i64 0, .slice none 0 0, .int .i64 0, .int .i64 0, .int .i64 e0, .int .i64 e1, .slice none 0 0, .int .i64 e2, .int .i64 e3] (by refine ⟨?_, ?_, ?_, ?_, ?_, ?_, ?_, ?_, ?_, ?_, trivial⟩ <;> exact byCT); have hfs9 := frees_calls hb6 [⟨w.heap.size, 0, none⟩, ⟨w.heap.size, 1, none⟩, ⟨w.heap.size, 2, none⟩, ⟨w.heap.size, 3, none⟩, ⟨w.heap.size, 4, none⟩] (by refine ⟨?_, ?_, ?_, ?_, ?_, trivial⟩ <;> first | with_reducible assumption | omega | (simp; omega) | (simp; done)) (by refine ⟨?_, ?_, ?_, ?_, ?_, trivial⟩ <;> exact byFT); have hzs9 := blocks_calls hb6 [w.heap.size, g] (by refine ⟨?_, ?_, trivial⟩ <;> first | with_reducible assumption | omega | (simp; omega) | (simp; done)); (try clear c00 c01 c02 c03 c04 f00 f01 f02 f03 f04); (try clear c10 c11 c12 c13 c14); obtain ⟨c00, c01, c02, c03, c04, c10, c11, c12, c13, c14, -⟩ := hcs9; obtain ⟨f00, f01, f02, f03, f04, -⟩ := hfs9; obtain ⟨z0, z1, -⟩ := hzs9; have s6 := hb6.size) | (go_at_call 13; refine ((unhide HT) (by first | rfl | trivial) _ _ _ byGG (.inl ⟨rfl, _, _, rfl⟩)).mono ?_; rintro e w7 ⟨rfl, hb7⟩; have hcs9 := cells_calls hb7 [⟨w.heap.size, 0, none⟩, ⟨w.heap.size, 1, none⟩, ⟨w.heap.size, 2, none⟩, ⟨w.heap.size, 3, none⟩, ⟨w.heap.size, 4, none⟩, ⟨g, 0, none⟩, ⟨g, 1, none⟩, ⟨g, 2, none⟩, ⟨g, 3, none⟩, ⟨g, 4, none⟩] [.int .i64 0, .int .i64 0, .slice none 0 0, .int .i64 0, .int .i64 0, .int .i64 e0, .int .i64 e1, .slice none 0 0, .int .i64 e2, .int .i64 e3] (by refine ⟨?_, ?_, ?_, ?_, ?_, ?_, ?_, ?_, ?_, ?_, trivial⟩ <;> exact byCT); have hfs9 := frees_calls hb7 [⟨w.heap.size, 0, none⟩, ⟨w.heap.size, 1, none⟩, ⟨w.heap.size, 2, none⟩, ⟨w.heap.size, 3, none⟩, ⟨w.heap.size, 4, none⟩] (by refine ⟨?_, ?_, ?_, ?_, ?_, trivial⟩ <;> first | with_reducible assumption | omega | (simp; omega) | (simp; done)) (by refine ⟨?_, ?_, ?_, ?_, ?_, trivial⟩ <;> exact byFT); have hzs9 := blocks_calls hb7 [w.heap.size, g] (by refine ⟨?_, ?_, trivial⟩ <;> first | with_reducible assumption | omega | (simp; omega) | (simp; done)); (try clear c00 c01 c02 c03 c04 f00 f01 f02 f03 f04); (try clear c10 c11 c12 c13 c14); obtain ⟨c00, c01, c02, c03, c04, c10, c11, c12, c13, c14, -⟩ := hcs9; obtain ⟨f00, f01, f02, f03, f04, -⟩ := hfs9; obtain ⟨z0, z1, -⟩ := hzs9; have s7 := hb7.size))
        refine bodyPost_ret (v := .tuple #[rwv ⟨0, 0, 0, 0⟩ (.slice none 0 0), .bool false]) (by simp [results, Tryd.results4, go_sem, *]) rfl ?_
        rw [unhide HRET]
        exact ⟨none, 0, rfl, .inl rfl, byGG⟩
      · have ht9 : (!(T.toList == s.toList)) = false := by rw [hte]; rfl
        go_wp2_with (first | (go_at_call 12; refine ((unhide HI) _ _ _ (.inl ⟨rfl, _, _, rfl⟩)).mono ?_; rintro e w6 ⟨rfl, hb6⟩; have hcs9 := cells_calls hb6 [⟨w.heap.size, 0, none⟩, ⟨w.heap.size, 1, none⟩, ⟨w.heap.size, 2, none⟩, ⟨w.heap.size, 3, none⟩, ⟨w.heap.size, 4, none⟩, ⟨g, 0, none⟩, ⟨g, 1, none⟩, ⟨g, 2, none⟩, ⟨g, 3, none⟩, ⟨g, 4, none⟩] [.int .i64 0, .int .i64 0, .slice none 0 0, .int .i64 0, .int .i64 0, .int .i64 e0, .int .i64 e1, .slice none 0 0, .int .i64 e2, .int .i64 e3] (by refine ⟨?_, ?_, ?_, ?_, ?_, ?_, ?_, ?_, ?_, ?_, trivial⟩ <;> exact byCT); have hfs9 := frees_calls hb6 [⟨w.heap.size, 0, none⟩, ⟨w.heap.size, 1, none⟩, ⟨w.heap.size, 2, none⟩, ⟨w.heap.size, 3, none⟩, ⟨w.heap.size, 4, none⟩] (by refine ⟨?_, ?_, ?_, ?_, ?_, trivial⟩ <;> first | with_reducible assumption | omega | (simp; omega) | (simp; done)) (by refine ⟨?_, ?_, ?_, ?_, ?_, trivial⟩ <;> exact byFT); have hzs9 := blocks_calls hb6 [w.heap.size, g] (by refine ⟨?_, ?_, trivial⟩ <;> first | with_reducible assumption | omega | (simp; omega) | (simp; done)); (try clear c00 c01 c02 c03 c04 f00 f01 f02 f03 f04); (try clear c10 c11 c12 c13 c14); obtain ⟨c00, c01, c02, c03, c04, c10, c11, c12, c13, c14, -⟩ := hcs9; obtain ⟨f00, f01, f02, f03, f04, -⟩ := hfs9; obtain ⟨z0, z1, -⟩ := hzs9; have s6 := hb6.size) | (go_at_call 13; refine ((unhide HT) (by first | rfl | trivial) _ _ _ byGG (.inl ⟨rfl, _, _, rfl⟩)).mono ?_; rintro e w7 ⟨rfl, hb7⟩; have hcs9 := cells_calls hb7 [⟨w.heap.size, 0, none⟩, ⟨w.heap.size, 1, none⟩, ⟨w.heap.size, 2, none⟩, ⟨w.heap.size, 3, none⟩, ⟨w.heap.size, 4, none⟩, ⟨g, 0, none⟩, ⟨g, 1, none⟩, ⟨g, 2, none⟩, ⟨g, 3, none⟩, ⟨g, 4, none⟩] [.int .i64 0, .int .i64 0, .slice none 0 0, .int .i64 0, .int .i64 0, .int .i64 e0, .int .i64 e1, .slice none 0 0, .int .i64 e2, .int .i64 e3] (by refine ⟨?_, ?_, ?_, ?_, ?_, ?_, ?_, ?_, ?_, ?_, trivial⟩ <;> exact byCT); have hfs9 := frees_calls hb7 [⟨w.heap.size, 0, none⟩, ⟨w.heap.size, 1, none⟩, ⟨w.heap.size, 2, none⟩, ⟨w.heap.size, 3, none⟩, ⟨w.heap.size, 4, none⟩] (by refine ⟨?_, ?_, ?_, ?_, ?_, trivial⟩ <;> first | with_reducible assumption | omega | (simp; omega) | (simp; done)) (by refine ⟨?_, ?_, ?_, ?_, ?_, trivial⟩ <;> exact byFT); have hzs9 := blocks_calls hb7 [w.heap.size, g] (by refine ⟨?_, ?_, trivial⟩ <;> first | with_reducible assumption | omega | (simp; omega) | (simp; done)); (try clear c00 c01 c02 c03 c04 f00 f01 f02 f03 f04); (try clear c10 c11 c12 c13 c14); obtain ⟨c00, c01, c02, c03, c04, c10, c11, c12, c13, c14, -⟩ := hcs9; obtain ⟨f00, f01, f02, f03, f04, -⟩ := hfs9; obtain ⟨z0, z1, -⟩ := hzs9; have s7 := hb7.size))
        have k09 : (((((w7.setCell ⟨w.heap.size, 0, none⟩ (.int .i64 e0)).setCell ⟨w.heap.size, 1, none⟩ (.int .i64 e1)).setCell ⟨w.heap.size, 2, none⟩ (.slice none 0 0)).setCell ⟨w.heap.size, 3, none⟩ (.int .i64 e2)).setCell ⟨w.heap.size, 4, none⟩ (.int .i64 e3)).cell? ⟨w.heap.size, 0, none⟩ = some (.int .i64 e0) := byCT
        have k19 : (((((w7.setCell ⟨w.heap.size, 0, none⟩ (.int .i64 e0)).setCell ⟨w.heap.size, 1, none⟩ (.int .i64 e1)).setCell ⟨w.heap.size, 2, none⟩ (.slice none 0 0)).setCell ⟨w.heap.size, 3, none⟩ (.int .i64 e2)).setCell ⟨w.heap.size, 4, none⟩ (.int .i64 e3)).cell? ⟨w.heap.size, 1, none⟩ = some (.int .i64 e1) := byCT
        have k29 : (((((w7.setCell ⟨w.heap.size, 0, none⟩ (.int .i64 e0)).setCell ⟨w.heap.size, 1, none⟩ (.int .i64 e1)).setCell ⟨w.heap.size, 2, none⟩ (.slice none 0 0)).setCell ⟨w.heap.size, 3, none⟩ (.int .i64 e2)).setCell ⟨w.heap.size, 4, none⟩ (.int .i64 e3)).cell? ⟨w.heap.size, 2, none⟩ = some (.slice none 0 0) := byCT
        have k39 : (((((w7.setCell ⟨w.heap.size, 0, none⟩ (.int .i64 e0)).setCell ⟨w.heap.size, 1, none⟩ (.int .i64 e1)).setCell ⟨w.heap.size, 2, none⟩ (.slice none 0 0)).setCell ⟨w.heap.size, 3, none⟩ (.int .i64 e2)).setCell ⟨w.heap.size, 4, none⟩ (.int .i64 e3)).cell? ⟨w.heap.size, 3, none⟩ = some (.int .i64 e2) := byCT
        have k49 : (((((w7.setCell ⟨w.heap.size, 0, none⟩ (.int .i64 e0)).setCell ⟨w.heap.size, 1, none⟩ (.int .i64 e1)).setCell ⟨w.heap.size, 2, none⟩ (.slice none 0 0)).setCell ⟨w.heap.size, 3, none⟩ (.int .i64 e2)).setCell ⟨w.heap.size, 4, none⟩ (.int .i64 e3)).cell? ⟨w.heap.size, 4, none⟩ = some (.int .i64 e3) := byCT
        refine bodyPost_ret (v := .tuple #[rwv ⟨e0, e1, e2, e3⟩ (.slice none 0 0), .bool true]) (by first | (simp [results, Tryd.results4, go_sem, k09, k19, k29, k39, k49]; done) | (simp [results, Tryd.results4, go_sem, k09, k19, k29, k39, k49]; rfl)) rfl ?_
        rw [unhide HRET]
        refine ⟨_, 0, rfl, ?_, byGG⟩
        exact .inl rfl
  case false =>
    have hm9 : (!(x2.toList == [45])) = true := by rw [hmi]; rfl
    clear hF0
    go_upto_region 8 with (go_at_call 9; refine ((unhide HL) (by first | rfl | trivial) _ byGG).mono ?_; rintro e w5 ⟨a5, c5, rfl, hl5, hb5⟩; have hcs9 := cells_calls hb5 [⟨w.heap.size, 0, none⟩, ⟨w.heap.size, 1, none⟩, ⟨w.heap.size, 2, none⟩, ⟨w.heap.size, 3, none⟩, ⟨w.heap.size, 4, none⟩, ⟨g, 0, none⟩, ⟨g, 1, none⟩, ⟨g, 2, none⟩, ⟨g, 3, none⟩, ⟨g, 4, none⟩] [.int .i64 0, .int .i64 0, .slice none 0 0, .int .i64 0, .int .i64 0, .int .i64 e0, .int .i64 e1, .slice none 0 0, .int .i64 e2, .int .i64 e3] (by refine ⟨?_, ?_, ?_, ?_, ?_, ?_, ?_, ?_, ?_, ?_, trivial⟩ <;> exact byCT); have hfs9 := frees_calls hb5 [⟨w.heap.size, 0, none⟩, ⟨w.heap.size, 1, none⟩, ⟨w.heap.size, 2, none⟩, ⟨w.heap.size, 3, none⟩, ⟨w.heap.size, 4, none⟩, ⟨g, 0, none⟩, ⟨g, 1, none⟩, ⟨g, 2, none⟩, ⟨g, 3, none⟩, ⟨g, 4, none⟩] (by refine ⟨?_, ?_, ?_, ?_, ?_, ?_, ?_, ?_, ?_, ?_, trivial⟩ <;> first | with_reducible assumption | omega | (simp; omega) | (simp; done)) (by refine ⟨?_, ?_, ?_, ?_, ?_, ?_, ?_, ?_, ?_, ?_, trivial⟩ <;> exact byFT); have hzs9 := blocks_calls hb5 [w.heap.size, g] (by refine ⟨?_, ?_, trivial⟩ <;> first | with_reducible assumption | omega | (simp; omega) | (simp; done)); (try clear c00 c01 c02 c03 c04 f00 f01 f02 f03 f04); (try clear c10 c11 c12 c13 c14 f10 f11 f12 f13 f14); obtain ⟨c00, c01, c02, c03, c04, c10, c11, c12, c13, c14, -⟩ := hcs9; obtain ⟨f00, f01, f02, f03, f04, f10, f11, f12, f13, f14, -⟩ := hfs9; obtain ⟨z0, z1, -⟩ := hzs9; have hs5 := hl5.strs.2; obtain ⟨lo5, hlo5⟩ : ∃ lo, lo = wc.heap.size := ⟨_, rfl⟩; rw [← hlo5] at hs5; have hglo : g < lo5 := (by omega); clear hl5)
    have gw5 : g < w5.heap.size := z1
    have sw5 : w.heap.size < w5.heap.size := z0
    have hgB : Below w.heap.size w w5 := byGG
    obtain ⟨LO, hLO⟩ : ∃ LO, w5.heap.size = LO := ⟨_, rfl⟩
    rw [hLO] at gw5 sw5
    have HS5 : Hid (StrsAt w5 lo5 LO a5 ys.length (fun i => ys.getD i ⟨#[]⟩)) := hide (by rw [← hLO]; exact hs5)
    clear hs5
    go_loopw [46] (fun is wr => ∃ (k n9 c : Nat) (a : Option Addr) (l : List Int), is = .int .i64 (k : Int) ∧ k ≤ ys.length ∧ n9 ≤ k ∧ Hid (n9 = l.length) ∧ Hid (l = F.take k) ∧ IL wr LO (.slice a n9 c) l ∧ Hid (wr.heap[w.heap.size]? = w5.heap[w.heap.size]?) ∧ wr.cell? ⟨g, 0, none⟩ = some (.int .i64 e0) ∧ wr.cell? ⟨g, 1, none⟩ = some (.int .i64 e1) ∧ wr.cell? ⟨g, 2, none⟩ = some (.slice a n9 c) ∧ wr.cell? ⟨g, 3, none⟩ = some (.int .i64 e2) ∧ wr.cell? ⟨g, 4, none⟩ = some (.int .i64 e3) ∧ wr.frozen? ⟨g, 2, none⟩ = false ∧ LO ≤ wr.heap.size ∧ Hid (StrsAt wr lo5 LO a5 ys.length (fun i => ys.getD i ⟨#[]⟩)) ∧ Hid (Below w.heap.size w wr)) (fun is _ => ys.length - (intOf is).toNat)
    case atStart => exact ⟨0, 0, 0, none, [], rfl, by omega, by omega, hide rfl, hide rfl, IL.nil _ _, hide rfl, c10, c11, c12, c13, c14, f12, by omega, HS5, hide hgB⟩
    case round =>
      obtain ⟨C0, hC0⟩ : ∃ P : Prop, P = (w5.cell? ⟨w.heap.size, 0, none⟩ = some (.int .i64 0) ∧ w5.cell? ⟨w.heap.size, 1, none⟩ = some (.int .i64 0) ∧ w5.cell? ⟨w.heap.size, 2, none⟩ = some (.slice none 0 0) ∧ w5.cell? ⟨w.heap.size, 3, none⟩ = some (.int .i64 0) ∧ w5.cell? ⟨w.heap.size, 4, none⟩ = some (.int .i64 0)) := ⟨_, rfl⟩
      obtain ⟨C1, hC1⟩ : ∃ P : Prop, P = (w5.frozen? ⟨w.heap.size, 0, none⟩ = false ∧ w5.frozen? ⟨w.heap.size, 1, none⟩ = false ∧ w5.frozen? ⟨w.heap.size, 2, none⟩ = false ∧ w5.frozen? ⟨w.heap.size, 3, none⟩ = false ∧ w5.frozen? ⟨w.heap.size, 4, none⟩ = false) := ⟨_, rfl⟩
      have HC0 : Hid C0 := hide (by rw [hC0]; exact ⟨c00, c01, c02, c03, c04⟩)
      have HC1 : Hid C1 := hide (by rw [hC1]; exact ⟨f00, f01, f02, f03, f04⟩)
      clear c00 c01 c02 c03 c04 f00 f01 f02 f03 f04 c10 c11 c12 c13 c14 f10 f11 f12 f13 f14
      obtain ⟨k, n9, c, a, l, rfl, hk, hnk, hnl, hl, hil, hB0, p0, p1, p2, p3, p4, pf, hLw, hst, hbw⟩ := hrel
      obtain ⟨w1, rfl⟩ : ∃ w1 : World, w1 = wr := ⟨_, rfl⟩
      have gw1 : g < w1.heap.size := by omega
      by_cases q : k < ys.length
      · have hci : (k : Int) < (ys.length : Int) := by omega
        obtain ⟨g0, hg0, hg2, dw⟩ := StrsAt.cell (unhide hst) q
        subst hg0
        have hY := (unhide HY) k q
        have hzl : F.take (k + 1) = F.take k ++ [F.getD k 0] := by
          have : k < F.length := by have := unhide HZ; omega
          rw [List.take_succ_eq_append_getElem this, List.getD_eq_getElem?_getD, List.getElem?_eq_getElem this]; rfl
        obtain ⟨y, hy⟩ : ∃ y, ys.getD k ⟨#[]⟩ = y := ⟨_, rfl⟩
        obtain ⟨z, hz⟩ : ∃ z, F.getD k 0 = z := ⟨_, rfl⟩
        rw [hy] at dw hY
        rw [hz] at hY hzl
        have YES : Hid (l ++ [z] = F.take (k + 1)) := hide (by rw [hzl, unhide hl])
        have HY9 := hide hY
        have HIL : Hid (∀ W, Below w1.heap.size w1 W → IL W LO (.slice a n9 c) l) := hide fun W hb => hil.below hb
        have HOB : Hid (∀ b, (Value.slice a n9 c).ownBlock = some b → LO ≤ b) := hide fun b hb => (hil.lt b hb).1
        clear hY hzl hy hz
        go_wp2_with fail
        go_region_law (first | (refine step_app_int rfl (.tmp 51) (.tmp 54) rfl LO (.slice a n9 c) n9 l z w1.heap.size hnl (by simp [Act.eval, Act.put]) (by simp [Act.eval, Act.put]) ((unhide HIL) _ byGG) (by go_simp) (by omega) (by first | (simp; omega) | omega) ?_; intro g7 cap w3 hown hgrow hat hlt; have hB : Hid (∀ b, b < LO → w3.heap[b]? = w1.heap[b]?) := hide (fun b h1 => (hgrow.block b (by simp; omega) (fun e => by first | (have := (unhide HOB) _ e; omega) | (have := (unhide HOB) _ e.symm; omega))).trans (heap_alloc_old _ _ (by first | omega | (simp; omega)))); have r2 := cell_heq ((unhide hB) g gw5) p2; have rf := frz_heq ((unhide hB) g gw5) pf) | (rw [if_pos (by rfl)]; unfold Oper.wp; go_simp; refine ((unhide HY9) _).mono ?_; rintro e w2 ⟨rfl, rfl⟩))
        all_goals
          go_wp2
          have hlt3 : LO ≤ w3.heap.size := by have := hgrow.size; simp at this; omega
          have hg7 : LO ≤ g7 := (hown.lt g7 rfl).1
          have hsc : w3.grownBy (w3.setCell ⟨g, 2, none⟩ (.slice (some ⟨g7, 0, none⟩) (n9 + 1) cap)) (some g) := ⟨rfl, rfl, rfl, by simp [World.setCell], fun j hj hne => Below.heap_setCell _ _ _ _ (fun e => hne (by rw [e]))⟩
          have hown4 : IL (w3.setCell ⟨g, 2, none⟩ (.slice (some ⟨g7, 0, none⟩) (n9 + 1) cap)) LO (.slice (some ⟨g7, 0, none⟩) (n9 + 1) cap) (l ++ [z]) := hown.kept hsc (.inr (fun e => by simp [Value.ownBlock] at e; omega))
          have r0 := cell_heq ((unhide hB) g gw5) p0
          have r1 := cell_heq ((unhide hB) g gw5) p1
          have r3 := cell_heq ((unhide hB) g gw5) p3
          have r4 := cell_heq ((unhide hB) g gw5) p4
          have hb3 : Below w.heap.size w w3 := ((below_drew (unhide hbw)).alloc (by simp; omega) _).grown hgrow (by simp; omega) (fun k hk => by have := (unhide HOB) k hk; omega)
          have HST := hide ((unhide hst).keep (w' := w3.setCell ⟨g, 2, none⟩ (.slice (some ⟨g7, 0, none⟩) (n9 + 1) cap)) (fun k k1 k2 => (Below.heap_setCell _ _ _ _ (show k ≠ g by omega)).trans ((unhide hB) k k2)))
          have HBB := hide ((Below.heap_setCell w3 ⟨g, 2, none⟩ (.slice (some ⟨g7, 0, none⟩) (n9 + 1) cap) _ (show w.heap.size ≠ g by omega)).trans (((unhide hB) _ sw5).trans (unhide hB0)))
          go_roundw
          case rel => exact ⟨k + 1, n9 + 1, cap, some ⟨g7, 0, none⟩, l ++ [z], by first | rfl | go_num, by omega, by omega, hide (by have := unhide hnl; simp; omega), YES, hown4, HBB, byCT, byCT, byCT, byCT, byCT, byFT, by simp [World.setCell]; omega, HST, hide byGG⟩
          case measure => simp [intOf]; omega
      · obtain rfl : k = ys.length := by omega
        have hlF : l = F := by
          have h1 := unhide hl
          have h2 := unhide HZ
          rw [h2, List.take_length] at h1
          exact h1
        rw [hlF] at hil hnl
        clear hl hlF
        obtain rfl : n9 = F.length := unhide hnl
        have eB := unhide hB0
        have h0 := unhide HC0
        rw [hC0] at h0
        obtain ⟨c00, c01, c02, c03, c04⟩ := h0
        have h1 := unhide HC1
        rw [hC1] at h1
        obtain ⟨f00, f01, f02, f03, f04⟩ := h1
        replace c00 := cell_heq eB c00
        replace c01 := cell_heq eB c01
        replace c02 := cell_heq eB c02
        replace c03 := cell_heq eB c03
        replace c04 := cell_heq eB c04
        replace f00 := frz_heq eB f00
        replace f01 := frz_heq eB f01
        replace f02 := frz_heq eB f02
        replace f03 := frz_heq eB f03
        replace f04 := frz_heq eB f04
        have gBw := unhide hbw
        have HJ := hide hil.ints.2
        have HA9 := hide (hil.ints.2.arg2 (c := c) (Nat.le_refl _))
        clear hB0 eB hC0 hC1 HC0 HC1 hil hst hbw
        cases gd
        · go_wp2_with (go_at_call 12; refine ((unhide HI) _ _ _ (unhide HA9)).mono ?_; rintro e w6 ⟨rfl, hb6⟩; have hcs9 := cells_calls hb6 [⟨w.heap.size, 0, none⟩, ⟨w.heap.size, 1, none⟩, ⟨w.heap.size, 2, none⟩, ⟨w.heap.size, 3, none⟩, ⟨w.heap.size, 4, none⟩, ⟨g, 0, none⟩, ⟨g, 1, none⟩, ⟨g, 2, none⟩, ⟨g, 3, none⟩, ⟨g, 4, none⟩] [.int .i64 0, .int .i64 0, .slice none 0 0, .int .i64 0, .int .i64 0, .int .i64 e0, .int .i64 e1, .slice a F.length c, .int .i64 e2, .int .i64 e3] (by refine ⟨?_, ?_, ?_, ?_, ?_, ?_, ?_, ?_, ?_, ?_, trivial⟩ <;> exact byCT); have hfs9 := frees_calls hb6 [⟨w.heap.size, 0, none⟩, ⟨w.heap.size, 1, none⟩, ⟨w.heap.size, 2, none⟩, ⟨w.heap.size, 3, none⟩, ⟨w.heap.size, 4, none⟩] (by refine ⟨?_, ?_, ?_, ?_, ?_, trivial⟩ <;> first | with_reducible assumption | omega | (simp; omega) | (simp; done)) (by refine ⟨?_, ?_, ?_, ?_, ?_, trivial⟩ <;> exact byFT); have hzs9 := blocks_calls hb6 [w.heap.size, g] (by refine ⟨?_, ?_, trivial⟩ <;> first | with_reducible assumption | omega | (simp; omega) | (simp; done)); (try clear c00 c01 c02 c03 c04 f00 f01 f02 f03 f04); (try clear c10 c11 c12 c13 c14); obtain ⟨c00, c01, c02, c03, c04, c10, c11, c12, c13, c14, -⟩ := hcs9; obtain ⟨f00, f01, f02, f03, f04, -⟩ := hfs9; obtain ⟨z0, z1, -⟩ := hzs9; have s6 := hb6.size; have HA6 := hide ((unhide HA9).below hb6))
          refine bodyPost_ret (v := .tuple #[rwv ⟨0, 0, 0, 0⟩ (.slice none 0 0), .bool false]) (by simp [results, Tryd.results4, go_sem, *]) rfl ?_
          rw [unhide HRET]
          exact ⟨none, 0, rfl, .inl rfl, byGG⟩
        · cases te
          · have ht9 : (!(T.toList == s.toList)) = true := by rw [hte]; rfl
            go_wp2_with (first | (go_at_call 12; refine ((unhide HI) _ _ _ (unhide HA9)).mono ?_; rintro e w6 ⟨rfl, hb6⟩; have hcs9 := cells_calls hb6 [⟨w.heap.size, 0, none⟩, ⟨w.heap.size, 1, none⟩, ⟨w.heap.size, 2, none⟩, ⟨w.heap.size, 3, none⟩, ⟨w.heap.size, 4, none⟩, ⟨g, 0, none⟩, ⟨g, 1, none⟩, ⟨g, 2, none⟩, ⟨g, 3, none⟩, ⟨g, 4, none⟩] [.int .i64 0, .int .i64 0, .slice none 0 0, .int .i64 0, .int .i64 0, .int .i64 e0, .int .i64 e1, .slice a F.length c, .int .i64 e2, .int .i64 e3] (by refine ⟨?_, ?_, ?_, ?_, ?_, ?_, ?_, ?_, ?_, ?_, trivial⟩ <;> exact byCT); have hfs9 := frees_calls hb6 [⟨w.heap.size, 0, none⟩, ⟨w.heap.size, 1, none⟩, ⟨w.heap.size, 2, none⟩, ⟨w.heap.size, 3, none⟩, ⟨w.heap.size, 4, none⟩] (by refine ⟨?_, ?_, ?_, ?_, ?_, trivial⟩ <;> first | with_reducible assumption | omega | (simp; omega) | (simp; done)) (by refine ⟨?_, ?_, ?_, ?_, ?_, trivial⟩ <;> exact byFT); have hzs9 := blocks_calls hb6 [w.heap.size, g] (by refine ⟨?_, ?_, trivial⟩ <;> first | with_reducible assumption | omega | (simp; omega) | (simp; done)); (try clear c00 c01 c02 c03 c04 f00 f01 f02 f03 f04); (try clear c10 c11 c12 c13 c14); obtain ⟨c00, c01, c02, c03, c04, c10, c11, c12, c13, c14, -⟩ := hcs9; obtain ⟨f00, f01, f02, f03, f04, -⟩ := hfs9; obtain ⟨z0, z1, -⟩ := hzs9; have s6 := hb6.size; have HA6 := hide ((unhide HA9).below hb6)) | (go_at_call 13; refine ((unhide HT) (by first | rfl | trivial) _ _ _ byGG (unhide HA6)).mono ?_; rintro e w7 ⟨rfl, hb7⟩; have hcs9 := cells_calls hb7 [⟨w.heap.size, 0, none⟩, ⟨w.heap.size, 1, none⟩, ⟨w.heap.size, 2, none⟩, ⟨w.heap.size, 3, none⟩, ⟨w.heap.size, 4, none⟩, ⟨g, 0, none⟩, ⟨g, 1, none⟩, ⟨g, 2, none⟩, ⟨g, 3, none⟩, ⟨g, 4, none⟩] [.int .i64 0, .int .i64 0, .slice none 0 0, .int .i64 0, .int .i64 0, .int .i64 e0, .int .i64 e1, .slice a F.length c, .int .i64 e2, .int .i64 e3] (by refine ⟨?_, ?_, ?_, ?_, ?_, ?_, ?_, ?_, ?_, ?_, trivial⟩ <;> exact byCT); have hfs9 := frees_calls hb7 [⟨w.heap.size, 0, none⟩, ⟨w.heap.size, 1, none⟩, ⟨w.heap.size, 2, none⟩, ⟨w.heap.size, 3, none⟩, ⟨w.heap.size, 4, none⟩] (by refine ⟨?_, ?_, ?_, ?_, ?_, trivial⟩ <;> first | with_reducible assumption | omega | (simp; omega) | (simp; done)) (by refine ⟨?_, ?_, ?_, ?_, ?_, trivial⟩ <;> exact byFT); have hzs9 := blocks_calls hb7 [w.heap.size, g] (by refine ⟨?_, ?_, trivial⟩ <;> first | with_reducible assumption | omega | (simp; omega) | (simp; done)); (try clear c00 c01 c02 c03 c04 f00 f01 f02 f03 f04); (try clear c10 c11 c12 c13 c14); obtain ⟨c00, c01, c02, c03, c04, c10, c11, c12, c13, c14, -⟩ := hcs9; obtain ⟨f00, f01, f02, f03, f04, -⟩ := hfs9; obtain ⟨z0, z1, -⟩ := hzs9; have s7 := hb7.size))
            refine bodyPost_ret (v := .tuple #[rwv ⟨0, 0, 0, 0⟩ (.slice none 0 0), .bool false]) (by simp [results, Tryd.results4, go_sem, *]) rfl ?_
            rw [unhide HRET]
            exact ⟨none, 0, rfl, .inl rfl, byGG⟩
          · have ht9 : (!(T.toList == s.toList)) = false := by rw [hte]; rfl
            go_wp2_with (first | (go_at_call 12; refine ((unhide HI) _ _ _ (unhide HA9)).mono ?_; rintro e w6 ⟨rfl, hb6⟩; have hcs9 := cells_calls hb6 [⟨w.heap.size, 0, none⟩, ⟨w.heap.size, 1, none⟩, ⟨w.heap.size, 2, none⟩, ⟨w.heap.size, 3, none⟩, ⟨w.heap.size, 4, none⟩, ⟨g, 0, none⟩, ⟨g, 1, none⟩, ⟨g, 2, none⟩, ⟨g, 3, none⟩, ⟨g, 4, none⟩] [.int .i64 0, .int .i64 0, .slice none 0 0, .int .i64 0, .int .i64 0, .int .i64 e0, .int .i64 e1, .slice a F.length c, .int .i64 e2, .int .i64 e3] (by refine ⟨?_, ?_, ?_, ?_, ?_, ?_, ?_, ?_, ?_, ?_, trivial⟩ <;> exact byCT); have hfs9 := frees_calls hb6 [⟨w.heap.size, 0, none⟩, ⟨w.heap.size, 1, none⟩, ⟨w.heap.size, 2, none⟩, ⟨w.heap.size, 3, none⟩, ⟨w.heap.size, 4, none⟩] (by refine ⟨?_, ?_, ?_, ?_, ?_, trivial⟩ <;> first | with_reducible assumption | omega | (simp; omega) | (simp; done)) (by refine ⟨?_, ?_, ?_, ?_, ?_, trivial⟩ <;> exact byFT); have hzs9 := blocks_calls hb6 [w.heap.size, g] (by refine ⟨?_, ?_, trivial⟩ <;> first | with_reducible assumption | omega | (simp; omega) | (simp; done)); (try clear c00 c01 c02 c03 c04 f00 f01 f02 f03 f04); (try clear c10 c11 c12 c13 c14); obtain ⟨c00, c01, c02, c03, c04, c10, c11, c12, c13, c14, -⟩ := hcs9; obtain ⟨f00, f01, f02, f03, f04, -⟩ := hfs9; obtain ⟨z0, z1, -⟩ := hzs9; have s6 := hb6.size; have HA6 := hide ((unhide HA9).below hb6)) | (go_at_call 13; refine ((unhide HT) (by first | rfl | trivial) _ _ _ byGG (unhide HA6)).mono ?_; rintro e w7 ⟨rfl, hb7⟩; have hcs9 := cells_calls hb7 [⟨w.heap.size, 0, none⟩, ⟨w.heap.size, 1, none⟩, ⟨w.heap.size, 2, none⟩, ⟨w.heap.size, 3, none⟩, ⟨w.heap.size, 4, none⟩, ⟨g, 0, none⟩, ⟨g, 1, none⟩, ⟨g, 2, none⟩, ⟨g, 3, none⟩, ⟨g, 4, none⟩] [.int .i64 0, .int .i64 0, .slice none 0 0, .int .i64 0, .int .i64 0, .int .i64 e0, .int .i64 e1, .slice a F.length c, .int .i64 e2, .int .i64 e3] (by refine ⟨?_, ?_, ?_, ?_, ?_, ?_, ?_, ?_, ?_, ?_, trivial⟩ <;> exact byCT); have hfs9 := frees_calls hb7 [⟨w.heap.size, 0, none⟩, ⟨w.heap.size, 1, none⟩, ⟨w.heap.size, 2, none⟩, ⟨w.heap.size, 3, none⟩, ⟨w.heap.size, 4, none⟩] (by refine ⟨?_, ?_, ?_, ?_, ?_, trivial⟩ <;> first | with_reducible assumption | omega | (simp; omega) | (simp; done)) (by refine ⟨?_, ?_, ?_, ?_, ?_, trivial⟩ <;> exact byFT); have hzs9 := blocks_calls hb7 [w.heap.size, g] (by refine ⟨?_, ?_, trivial⟩ <;> first | with_reducible assumption | omega | (simp; omega) | (simp; done)); (try clear c00 c01 c02 c03 c04 f00 f01 f02 f03 f04); (try clear c10 c11 c12 c13 c14); obtain ⟨c00, c01, c02, c03, c04, c10, c11, c12, c13, c14, -⟩ := hcs9; obtain ⟨f00, f01, f02, f03, f04, -⟩ := hfs9; obtain ⟨z0, z1, -⟩ := hzs9; have s7 := hb7.size))
            have k09 : (((((w7.setCell ⟨w.heap.size, 0, none⟩ (.int .i64 e0)).setCell ⟨w.heap.size, 1, none⟩ (.int .i64 e1)).setCell ⟨w.heap.size, 2, none⟩ (.slice a F.length c)).setCell ⟨w.heap.size, 3, none⟩ (.int .i64 e2)).setCell ⟨w.heap.size, 4, none⟩ (.int .i64 e3)).cell? ⟨w.heap.size, 0, none⟩ = some (.int .i64 e0) := byCT
            have k19 : (((((w7.setCell ⟨w.heap.size, 0, none⟩ (.int .i64 e0)).setCell ⟨w.heap.size, 1, none⟩ (.int .i64 e1)).setCell ⟨w.heap.size, 2, none⟩ (.slice a F.length c)).setCell ⟨w.heap.size, 3, none⟩ (.int .i64 e2)).setCell ⟨w.heap.size, 4, none⟩ (.int .i64 e3)).cell? ⟨w.heap.size, 1, none⟩ = some (.int .i64 e1) := byCT
            have k29 : (((((w7.setCell ⟨w.heap.size, 0, none⟩ (.int .i64 e0)).setCell ⟨w.heap.size, 1, none⟩ (.int .i64 e1)).setCell ⟨w.heap.size, 2, none⟩ (.slice a F.length c)).setCell ⟨w.heap.size, 3, none⟩ (.int .i64 e2)).setCell ⟨w.heap.size, 4, none⟩ (.int .i64 e3)).cell? ⟨w.heap.size, 2, none⟩ = some (.slice a F.length c) := byCT
            have k39 : (((((w7.setCell ⟨w.heap.size, 0, none⟩ (.int .i64 e0)).setCell ⟨w.heap.size, 1, none⟩ (.int .i64 e1)).setCell ⟨w.heap.size, 2, none⟩ (.slice a F.length c)).setCell ⟨w.heap.size, 3, none⟩ (.int .i64 e2)).setCell ⟨w.heap.size, 4, none⟩ (.int .i64 e3)).cell? ⟨w.heap.size, 3, none⟩ = some (.int .i64 e2) := byCT
            have k49 : (((((w7.setCell ⟨w.heap.size, 0, none⟩ (.int .i64 e0)).setCell ⟨w.heap.size, 1, none⟩ (.int .i64 e1)).setCell ⟨w.heap.size, 2, none⟩ (.slice a F.length c)).setCell ⟨w.heap.size, 3, none⟩ (.int .i64 e2)).setCell ⟨w.heap.size, 4, none⟩ (.int .i64 e3)).cell? ⟨w.heap.size, 4, none⟩ = some (.int .i64 e3) := byCT
            refine bodyPost_ret (v := .tuple #[rwv ⟨e0, e1, e2, e3⟩ (.slice a F.length c), .bool true]) (by first | (simp [results, Tryd.results4, go_sem, k09, k19, k29, k39, k49]; done) | (simp [results, Tryd.results4, go_sem, k09, k19, k29, k39, k49]; rfl)) rfl ?_
            rw [unhide HRET]
            refine ⟨_, c, rfl, ?_, byGG⟩
            have J7 := ((unhide HJ).below hb6 (Nat.le_refl _)).below hb7 s6
            refine IntsAt.weak (lo := LO) (hi := w1.heap.size) (IntsAt.keep J7 fun k k1 k2 => ?_) (by omega) (by simp [World.setCell]; omega)
            have hne : k ≠ w.heap.size := by omega
            exact (Below.heap_setCell _ _ _ _ hne).trans ((Below.heap_setCell _ _ _ _ hne).trans ((Below.heap_setCell _ _ _ _ hne).trans ((Below.heap_setCell _ _ _ _ hne).trans (Below.heap_setCell _ _ _ _ hne))))
end Go.Proofs.YtfoofbcmaljmoaaDoor
