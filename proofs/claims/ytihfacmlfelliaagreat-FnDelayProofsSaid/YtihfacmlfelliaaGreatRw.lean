/- Rows of class forms on both sides. -/
import Derived.Test.YtihfacmlfelliaaGreatPr
import Derived.Test.YtihfacmlfelliaaGreatRule
namespace Go.Proofs.YtihfacmlfelliaaGreat
open Go.RowKit
set_option linter.unusedVariables false
set_option linter.unusedSimpArgs false
attribute [local go_sem] q2 q3 q4 q5 q6 q7 q8 q9 q10 q11 q12

def FsAt (w : World) (g n : Nat) (L : Nat → T3) : Prop := ∀ i, i < n → w.cell? ⟨g, i * 3, none⟩ = some (.int .i64 (L i).1) ∧ w.cell? ⟨g, i * 3 + 1, none⟩ = some (.int .i64 (L i).2.1) ∧ w.cell? ⟨g, i * 3 + 2, none⟩ = some (.int .i64 (L i).2.2)
theorem FsAt.below {w w' : World} {g n : Nat} {L : Nat → T3} (h : FsAt w g n L) (hb : Below w.heap.size w w') : FsAt w' g n L := fun i hi => ⟨cell_call hb (h i hi).1, cell_call hb (h i hi).2.1, cell_call hb (h i hi).2.2⟩
def onB (L : Nat → T3) : Nat → Bool
 | 0 => true
 | n + 1 => onB L n && prB (L 0) (L n)
theorem on_false {L : Nat → T3} {i : Nat} (h : prB (L 0) (L i) = false) : ∀ n, i < n → onB L n = false
 | n + 1, hi => by
  rw [onB]
  by_cases q : i < n
  ·rw [on_false h n q]; rfl
  ·obtain rfl : i = n := by omega
   rw [h]; simp
theorem on_true {L : Nat → T3} : ∀ n, onB L n = true → ∀ i, i < n → prB (L 0) (L i) = true
 | n + 1, h, i, hi => by
  rw [onB, Bool.and_eq_true] at h
  by_cases q : i < n
  ·exact on_true n h.1 i q
  ·obtain rfl : i = n := by omega
   exact h.2

set_option maxRecDepth 100000 in
set_option maxHeartbeats 8000000 in
theorem areOne_l (L : Nat → T3) (g nn cc : Nat) (w : World) (hn : nn ≤ 1000000000) (hL : FsAt w g nn L) (hi64 : ∀ i, i < nn → I64T (L i)) : Calls Tryz.prog 51 #[.slice (some ⟨g, 0, none⟩) nn cc] w fun e w' => e = .returned (.bool (onB L nn)) ∧ Below w.heap.size w w' := by
 go_enter Tryz.func51, Tryz.ntmps51
 go_wp2
 go_loopw [7] (fun is wr => ∃ jx : Nat, jx ≤ nn ∧ is = .int .i64 (jx : Int) ∧ Hid (onB L jx = true) ∧ Below w.heap.size w wr) (fun is _ => nn - (intOf is).toNat)
 case atStart => exact ⟨0, by omega, rfl, hide rfl, Below.refl _ _⟩
 case round =>
  obtain ⟨jx, hi, rfl, HO, hb⟩ := hrel
  obtain ⟨wl, rfl⟩ : ∃ wl : World, wl = wr := ⟨_, rfl⟩
  have hzl := hb.size
  by_cases q : jx < nn
  ·have hci : (jx : Int) < (nn : Int) := by omega
   have hl2 := hL.below hb
   obtain ⟨c00, c01, c02⟩ := hl2 0 (by omega)
   obtain ⟨c10, c11, c12⟩ := hl2 jx q
   have e0 : 0 * 3 = 0 := rfl
   try rw [Nat.zero_mul] at c00
   try simp only [Nat.zero_mul, Nat.zero_add] at c00 c01 c02
   have zg := World.block_lt_of_cell? _ _ c00
   change g < wl.heap.size at zg
   have ng : ¬ g = wl.heap.size := by omega
   cases k : prB (L 0) (L jx)
   ·have HF := hide (on_false k nn q)
    skip
    go_upto_region 4 with fail
    go_cut [16] (fun s16 wx => s16 = .bool true ∧ Ri3 wx g ((L 0).1) ((L 0).2.1) ((L 0).2.2) ∧ Wi3 wx wl.heap.size ((L jx).1) ((L jx).2.1) ((L jx).2.2) ∧ Below w.heap.size w wx)
    case first =>
     have h1 := trivial
     rename_i K2 h2 h3
     refine region_n0 (by kernel_rfl) (fun j => #[11,12,13,14,15,16].getD j 0) (fun j => Kd.ok ((fun j => match j with | 0 => Kd.val (.slice (some ⟨g, 0, none⟩) nn cc) | 1 => Kd.val (.pointer (some ⟨g, 0, none⟩)) | 2 => Kd.val (.agg #[.int .i64 ((L 0).1), .int .i64 ((L 0).2.1), .int .i64 ((L 0).2.2)]) | 3 => Kd.val (.agg #[.int .i64 ((L jx).1), .int .i64 ((L jx).2.1), .int .i64 ((L jx).2.2)]) | 4 => Kd.val (.bool false) | 5 => Kd.val (.bool true) | _ => Kd.any : Nat → Kd) j)) (Sy w (wl.heap.size + 1) [(⟨g, 0, none⟩, .int .i64 ((L 0).1)), (⟨g, 1, none⟩, .int .i64 ((L 0).2.1)), (⟨g, 2, none⟩, .int .i64 ((L 0).2.2)), (⟨wl.heap.size, 0, none⟩, .int .i64 ((L jx).1)), (⟨wl.heap.size, 1, none⟩, .int .i64 ((L jx).2.1)), (⟨wl.heap.size, 2, none⟩, .int .i64 ((L jx).2.2))] [⟨wl.heap.size, 0, none⟩, ⟨wl.heap.size, 1, none⟩, ⟨wl.heap.size, 2, none⟩]) (by kernel_rfl) (by kernel_rfl) ?_ ?_ ?_ ?_
     ·intro j hj
      have hj2 : j < 6 := hj
      have : ∀ j, j < 6 → (#[11,12,13,14,15,16] : Array Nat).getD j 0 < 18 := by decide
      exact this j hj2
     ·refine Sy.drew (Sy.mk_of ?_ ?_ ?_ ?_)
      ·first | rfl | (simp; done) | (simp; omega)
      ·intro c hc
       simp only [List.mem_cons, List.not_mem_nil, or_false] at hc
       rcases hc with rfl | rfl | rfl | rfl | rfl | rfl <;> exact byCT
      ·intro p hp
       simp only [List.mem_cons, List.not_mem_nil, or_false] at hp
       rcases hp with rfl | rfl | rfl <;> exact ⟨by first | ((repeat' with_reducible (first | refine ex_set _ ?_ | refine ex_al _ ?_ | exact ⟨_, by assumption⟩)); done) | first | exact ⟨_, by assumption⟩ | assumption | (go_simp; done) | (go_simp; exact ⟨_, rfl⟩), by first | ((repeat' first | with_reducible (first | assumption | refine frz_al _ ?_ ?_ | refine frz_set _ ?_) | omega | (simp; omega)); done) | assumption | (go_simp; done)⟩
      ·(repeat' first | with_reducible (first | exact Below.refl _ _ | assumption | refine gr_alloc ?_ _ | refine below_drewN ?_ _ | refine below_drew ?_ | refine gr_call ?_ (by assumption) | refine Below.setCell ?_ ?_ _) | go_size | omega | (simp; omega))
     ·clear h1 h2 h3
      refine ⟨?r29x0, ?r29x1, ?r29x2, ?r29x3, ?r29x4, ?r29x5, trivial⟩
      all_goals intro _ aq wx Kq hf hS hdep ev1 ev2 hK
      case' r29x0 =>
       have F0 : aq.eval (.tmp 0) = .slice (some ⟨g, 0, none⟩) nn cc := hf 0
      case' r29x1 =>
       have D0 : aq.eval (.tmp 11) = _ := hdep 0
      case' r29x2 =>
       have D1 : aq.eval (.tmp 12) = _ := hdep 1
       have c0 := hS.cells (⟨g, 0, none⟩, .int .i64 ((L 0).1)) (by simp)
       have c1 := hS.cells (⟨g, 1, none⟩, .int .i64 ((L 0).2.1)) (by simp)
       have c2 := hS.cells (⟨g, 2, none⟩, .int .i64 ((L 0).2.2)) (by simp)
      case' r29x3 =>
       have F4 : aq.eval (.tmp 4) = .pointer (some ⟨wl.heap.size, 0, none⟩) := hf 4
       have c0 := hS.cells (⟨wl.heap.size, 0, none⟩, .int .i64 ((L jx).1)) (by simp)
       have c1 := hS.cells (⟨wl.heap.size, 1, none⟩, .int .i64 ((L jx).2.1)) (by simp)
       have c2 := hS.cells (⟨wl.heap.size, 2, none⟩, .int .i64 ((L jx).2.2)) (by simp)
      case' r29x4 =>
       have D2 : aq.eval (.tmp 13) = _ := hdep 2
       have D3 : aq.eval (.tmp 14) = _ := hdep 3
      case' r29x5 =>
       have D4 : aq.eval (.tmp 15) = _ := hdep 4
      all_goals (clear hf hdep; unfold Oper.wp; generalize Act.eval _ = ev at *; go_simp)
      case' r29x1 =>
       try rw [if_pos (by omega), Oper.upon_value]
      case r29x4 =>
       refine ((arePair_p (L 0) (L jx) _ (hi64 0 (by omega)) (hi64 jx q))).mono ?_
       rintro e w2 ⟨rfl, hb⟩
       refine hK _ _ (hS.call hb) ?_ (fun j u _ h => Kd.ok_below hb h)
       rw [if_pos (by rfl)]
       show (_ : Value) = _
       first | rfl | (refine congrArg (Value.int .i64) ?_; first | rfl | exact int_in (by omega) | exact quo_in (by omega) (by omega) (by omega) | exact rem_in (by omega) (by omega) | omega | (simp [*]; done)) | (simp; done) | (simp [*]; done)
      all_goals (refine hK _ _ hS ?_ (fun j u _ h => h); rw [if_pos (by rfl)]; show (_ : Value) = _; (first | rfl | (refine congrArg (Value.int .i64) ?_; first | rfl | exact int_in (by omega) | exact quo_in (by omega) (by omega) (by omega) | exact rem_in (by omega) (by omega) | omega | (simp [*]; done)) | (simp; done) | (simp [*]; done)))
     ·intro aq wx hd hw hf hS hg
      have G16 : tau aq 16 = .bool true := hg 5 (by decide)
      have haq : aq = ⟨#[tau aq 0, tau aq 1, tau aq 2, tau aq 3, tau aq 4, tau aq 5, tau aq 6, tau aq 7, tau aq 8, tau aq 9, tau aq 10, tau aq 11, tau aq 12, tau aq 13, tau aq 14, tau aq 15, tau aq 16, tau aq 17], []⟩ := by
       obtain ⟨tq, dq⟩ := aq
       have h5 := arr_eq (show tq.size = 18 from hw)
       have h6 : dq = [] := hd
       subst h6
       exact congrArg (fun z => Act.mk z []) h5
      show K2 aq wx
      rw [haq, hf 0, hf 1, hf 2, hf 3, hf 4, hf 5, hf 6, hf 7, hf 8, hf 9, hf 10, hf 17, G16]
      clear haq hf hd hw
      try dsimp only
      refine h3 _ _ ?_
      go_meet
      refine ⟨rfl, Ri3.m ?_ ?_ ?_, Wi3.m ?_ ?_ ?_ ?_ ?_ ?_, hS.below⟩
      all_goals first | exact hS.cells (_, _) (by simp) | exact (hS.free _ (by simp)).2
    obtain ⟨rfl, ⟨c00, c01, c02, z0⟩, ⟨c10, c11, c12, f10, f11, f12, z1⟩, hb0⟩ := hcut
    go_wp2
    go_ret
    exact ⟨by rw [unhide HF]; rfl, hb0⟩
   ·have HT : Hid (onB L (jx + 1) = true) := hide (by rw [onB, unhide HO, k]; rfl)
    skip
    go_upto_region 4 with fail
    go_cut [16] (fun s16 wx => s16 = .bool false ∧ Ri3 wx g ((L 0).1) ((L 0).2.1) ((L 0).2.2) ∧ Wi3 wx wl.heap.size ((L jx).1) ((L jx).2.1) ((L jx).2.2) ∧ Below w.heap.size w wx)
    case first =>
     have h1 := trivial
     rename_i K2 h2 h3
     refine region_n0 (by kernel_rfl) (fun j => #[11,12,13,14,15,16].getD j 0) (fun j => Kd.ok ((fun j => match j with | 0 => Kd.val (.slice (some ⟨g, 0, none⟩) nn cc) | 1 => Kd.val (.pointer (some ⟨g, 0, none⟩)) | 2 => Kd.val (.agg #[.int .i64 ((L 0).1), .int .i64 ((L 0).2.1), .int .i64 ((L 0).2.2)]) | 3 => Kd.val (.agg #[.int .i64 ((L jx).1), .int .i64 ((L jx).2.1), .int .i64 ((L jx).2.2)]) | 4 => Kd.val (.bool true) | 5 => Kd.val (.bool false) | _ => Kd.any : Nat → Kd) j)) (Sy w (wl.heap.size + 1) [(⟨g, 0, none⟩, .int .i64 ((L 0).1)), (⟨g, 1, none⟩, .int .i64 ((L 0).2.1)), (⟨g, 2, none⟩, .int .i64 ((L 0).2.2)), (⟨wl.heap.size, 0, none⟩, .int .i64 ((L jx).1)), (⟨wl.heap.size, 1, none⟩, .int .i64 ((L jx).2.1)), (⟨wl.heap.size, 2, none⟩, .int .i64 ((L jx).2.2))] [⟨wl.heap.size, 0, none⟩, ⟨wl.heap.size, 1, none⟩, ⟨wl.heap.size, 2, none⟩]) (by kernel_rfl) (by kernel_rfl) ?_ ?_ ?_ ?_
     ·intro j hj
      have hj2 : j < 6 := hj
      have : ∀ j, j < 6 → (#[11,12,13,14,15,16] : Array Nat).getD j 0 < 18 := by decide
      exact this j hj2
     ·refine Sy.drew (Sy.mk_of ?_ ?_ ?_ ?_)
      ·first | rfl | (simp; done) | (simp; omega)
      ·intro c hc
       simp only [List.mem_cons, List.not_mem_nil, or_false] at hc
       rcases hc with rfl | rfl | rfl | rfl | rfl | rfl <;> exact byCT
      ·intro p hp
       simp only [List.mem_cons, List.not_mem_nil, or_false] at hp
       rcases hp with rfl | rfl | rfl <;> exact ⟨by first | ((repeat' with_reducible (first | refine ex_set _ ?_ | refine ex_al _ ?_ | exact ⟨_, by assumption⟩)); done) | first | exact ⟨_, by assumption⟩ | assumption | (go_simp; done) | (go_simp; exact ⟨_, rfl⟩), by first | ((repeat' first | with_reducible (first | assumption | refine frz_al _ ?_ ?_ | refine frz_set _ ?_) | omega | (simp; omega)); done) | assumption | (go_simp; done)⟩
      ·(repeat' first | with_reducible (first | exact Below.refl _ _ | assumption | refine gr_alloc ?_ _ | refine below_drewN ?_ _ | refine below_drew ?_ | refine gr_call ?_ (by assumption) | refine Below.setCell ?_ ?_ _) | go_size | omega | (simp; omega))
     ·clear h1 h2 h3
      refine ⟨?r30x0, ?r30x1, ?r30x2, ?r30x3, ?r30x4, ?r30x5, trivial⟩
      all_goals intro _ aq wx Kq hf hS hdep ev1 ev2 hK
      case' r30x0 =>
       have F0 : aq.eval (.tmp 0) = .slice (some ⟨g, 0, none⟩) nn cc := hf 0
      case' r30x1 =>
       have D0 : aq.eval (.tmp 11) = _ := hdep 0
      case' r30x2 =>
       have D1 : aq.eval (.tmp 12) = _ := hdep 1
       have c0 := hS.cells (⟨g, 0, none⟩, .int .i64 ((L 0).1)) (by simp)
       have c1 := hS.cells (⟨g, 1, none⟩, .int .i64 ((L 0).2.1)) (by simp)
       have c2 := hS.cells (⟨g, 2, none⟩, .int .i64 ((L 0).2.2)) (by simp)
      case' r30x3 =>
       have F4 : aq.eval (.tmp 4) = .pointer (some ⟨wl.heap.size, 0, none⟩) := hf 4
       have c0 := hS.cells (⟨wl.heap.size, 0, none⟩, .int .i64 ((L jx).1)) (by simp)
       have c1 := hS.cells (⟨wl.heap.size, 1, none⟩, .int .i64 ((L jx).2.1)) (by simp)
       have c2 := hS.cells (⟨wl.heap.size, 2, none⟩, .int .i64 ((L jx).2.2)) (by simp)
      case' r30x4 =>
       have D2 : aq.eval (.tmp 13) = _ := hdep 2
       have D3 : aq.eval (.tmp 14) = _ := hdep 3
      case' r30x5 =>
       have D4 : aq.eval (.tmp 15) = _ := hdep 4
      all_goals (clear hf hdep; unfold Oper.wp; generalize Act.eval _ = ev at *; go_simp)
      case' r30x1 =>
       try rw [if_pos (by omega), Oper.upon_value]
      case r30x4 =>
       refine ((arePair_p (L 0) (L jx) _ (hi64 0 (by omega)) (hi64 jx q))).mono ?_
       rintro e w2 ⟨rfl, hb⟩
       refine hK _ _ (hS.call hb) ?_ (fun j u _ h => Kd.ok_below hb h)
       rw [if_pos (by rfl)]
       show (_ : Value) = _
       first | rfl | (refine congrArg (Value.int .i64) ?_; first | rfl | exact int_in (by omega) | exact quo_in (by omega) (by omega) (by omega) | exact rem_in (by omega) (by omega) | omega | (simp [*]; done)) | (simp; done) | (simp [*]; done)
      all_goals (refine hK _ _ hS ?_ (fun j u _ h => h); rw [if_pos (by rfl)]; show (_ : Value) = _; (first | rfl | (refine congrArg (Value.int .i64) ?_; first | rfl | exact int_in (by omega) | exact quo_in (by omega) (by omega) (by omega) | exact rem_in (by omega) (by omega) | omega | (simp [*]; done)) | (simp; done) | (simp [*]; done)))
     ·intro aq wx hd hw hf hS hg
      have G16 : tau aq 16 = .bool false := hg 5 (by decide)
      have haq : aq = ⟨#[tau aq 0, tau aq 1, tau aq 2, tau aq 3, tau aq 4, tau aq 5, tau aq 6, tau aq 7, tau aq 8, tau aq 9, tau aq 10, tau aq 11, tau aq 12, tau aq 13, tau aq 14, tau aq 15, tau aq 16, tau aq 17], []⟩ := by
       obtain ⟨tq, dq⟩ := aq
       have h5 := arr_eq (show tq.size = 18 from hw)
       have h6 : dq = [] := hd
       subst h6
       exact congrArg (fun z => Act.mk z []) h5
      show K2 aq wx
      rw [haq, hf 0, hf 1, hf 2, hf 3, hf 4, hf 5, hf 6, hf 7, hf 8, hf 9, hf 10, hf 17, G16]
      clear haq hf hd hw
      try dsimp only
      refine h3 _ _ ?_
      go_meet
      refine ⟨rfl, Ri3.m ?_ ?_ ?_, Wi3.m ?_ ?_ ?_ ?_ ?_ ?_, hS.below⟩
      all_goals first | exact hS.cells (_, _) (by simp) | exact (hS.free _ (by simp)).2
    obtain ⟨rfl, ⟨c00, c01, c02, z0⟩, ⟨c10, c11, c12, f10, f11, f12, z1⟩, hb0⟩ := hcut
    go_wp2
    go_roundw
    case rel => first | exact ⟨jx + 1, by omega, by first | rfl | go_num, HT, hb0⟩ | ((repeat apply Exists.intro); exact ⟨⟨jx + 1, by omega, by first | rfl | go_num, HT, hb0⟩, rfl⟩)
    case measure => (simp [intOf] <;> omega)
  ·obtain rfl : jx = nn := by omega
   go_wp2
   go_ret
   exact ⟨by rw [unhide HO]; rfl, hb⟩

set_option maxRecDepth 100000 in
set_option maxHeartbeats 8000000 in
theorem dlAll_l (L : Nat → T3) (g nn cc : Nat) (w : World) (hn : nn ≤ 1000000000) (hL : FsAt w g nn L)  : Calls Tryz.prog 38 #[.slice (some ⟨g, 0, none⟩) nn cc] w fun e w' => e = .returned (.bool (onB L nn)) ∧ Below w.heap.size w w' := by
 go_enter Tryz.func38, Tryz.ntmps38
 go_wp2
 go_loopw [7] (fun is wr => ∃ jx : Nat, jx ≤ nn ∧ is = .int .i64 (jx : Int) ∧ Hid (onB L jx = true) ∧ Below w.heap.size w wr) (fun is _ => nn - (intOf is).toNat)
 case atStart => exact ⟨0, by omega, rfl, hide rfl, Below.refl _ _⟩
 case round =>
  obtain ⟨jx, hi, rfl, HO, hb⟩ := hrel
  obtain ⟨wl, rfl⟩ : ∃ wl : World, wl = wr := ⟨_, rfl⟩
  have hzl := hb.size
  by_cases q : jx < nn
  ·have hci : (jx : Int) < (nn : Int) := by omega
   have hl2 := hL.below hb
   obtain ⟨c00, c01, c02⟩ := hl2 0 (by omega)
   obtain ⟨c10, c11, c12⟩ := hl2 jx q
   have e0 : 0 * 3 = 0 := rfl
   try rw [Nat.zero_mul] at c00
   try simp only [Nat.zero_mul, Nat.zero_add] at c00 c01 c02
   have zg := World.block_lt_of_cell? _ _ c00
   change g < wl.heap.size at zg
   have ng : ¬ g = wl.heap.size := by omega
   cases k : prB (L 0) (L jx)
   ·have HF := hide (on_false k nn q)
    rw [pr_comm] at k
    go_upto_region 4 with fail
    go_cut [16] (fun s16 wx => s16 = .bool true ∧ Ri3 wx g ((L 0).1) ((L 0).2.1) ((L 0).2.2) ∧ Wi3 wx wl.heap.size ((L jx).1) ((L jx).2.1) ((L jx).2.2) ∧ Below w.heap.size w wx)
    case first =>
     have h1 := trivial
     rename_i K2 h2 h3
     refine region_n0 (by kernel_rfl) (fun j => #[11,12,13,14,15,16].getD j 0) (fun j => Kd.ok ((fun j => match j with | 0 => Kd.val (.agg #[.int .i64 ((L jx).1), .int .i64 ((L jx).2.1), .int .i64 ((L jx).2.2)]) | 1 => Kd.val (.slice (some ⟨g, 0, none⟩) nn cc) | 2 => Kd.val (.pointer (some ⟨g, 0, none⟩)) | 3 => Kd.val (.agg #[.int .i64 ((L 0).1), .int .i64 ((L 0).2.1), .int .i64 ((L 0).2.2)]) | 4 => Kd.val (.bool false) | 5 => Kd.val (.bool true) | _ => Kd.any : Nat → Kd) j)) (Sy w (wl.heap.size + 1) [(⟨g, 0, none⟩, .int .i64 ((L 0).1)), (⟨g, 1, none⟩, .int .i64 ((L 0).2.1)), (⟨g, 2, none⟩, .int .i64 ((L 0).2.2)), (⟨wl.heap.size, 0, none⟩, .int .i64 ((L jx).1)), (⟨wl.heap.size, 1, none⟩, .int .i64 ((L jx).2.1)), (⟨wl.heap.size, 2, none⟩, .int .i64 ((L jx).2.2))] [⟨wl.heap.size, 0, none⟩, ⟨wl.heap.size, 1, none⟩, ⟨wl.heap.size, 2, none⟩]) (by kernel_rfl) (by kernel_rfl) ?_ ?_ ?_ ?_
     ·intro j hj
      have hj2 : j < 6 := hj
      have : ∀ j, j < 6 → (#[11,12,13,14,15,16] : Array Nat).getD j 0 < 18 := by decide
      exact this j hj2
     ·refine Sy.drew (Sy.mk_of ?_ ?_ ?_ ?_)
      ·first | rfl | (simp; done) | (simp; omega)
      ·intro c hc
       simp only [List.mem_cons, List.not_mem_nil, or_false] at hc
       rcases hc with rfl | rfl | rfl | rfl | rfl | rfl <;> exact byCT
      ·intro p hp
       simp only [List.mem_cons, List.not_mem_nil, or_false] at hp
       rcases hp with rfl | rfl | rfl <;> exact ⟨by first | ((repeat' with_reducible (first | refine ex_set _ ?_ | refine ex_al _ ?_ | exact ⟨_, by assumption⟩)); done) | first | exact ⟨_, by assumption⟩ | assumption | (go_simp; done) | (go_simp; exact ⟨_, rfl⟩), by first | ((repeat' first | with_reducible (first | assumption | refine frz_al _ ?_ ?_ | refine frz_set _ ?_) | omega | (simp; omega)); done) | assumption | (go_simp; done)⟩
      ·(repeat' first | with_reducible (first | exact Below.refl _ _ | assumption | refine gr_alloc ?_ _ | refine below_drewN ?_ _ | refine below_drew ?_ | refine gr_call ?_ (by assumption) | refine Below.setCell ?_ ?_ _) | go_size | omega | (simp; omega))
     ·clear h1 h2 h3
      refine ⟨?r31x0, ?r31x1, ?r31x2, ?r31x3, ?r31x4, ?r31x5, trivial⟩
      all_goals intro _ aq wx Kq hf hS hdep ev1 ev2 hK
      case' r31x0 =>
       have F4 : aq.eval (.tmp 4) = .pointer (some ⟨wl.heap.size, 0, none⟩) := hf 4
       have c0 := hS.cells (⟨wl.heap.size, 0, none⟩, .int .i64 ((L jx).1)) (by simp)
       have c1 := hS.cells (⟨wl.heap.size, 1, none⟩, .int .i64 ((L jx).2.1)) (by simp)
       have c2 := hS.cells (⟨wl.heap.size, 2, none⟩, .int .i64 ((L jx).2.2)) (by simp)
      case' r31x1 =>
       have F0 : aq.eval (.tmp 0) = .slice (some ⟨g, 0, none⟩) nn cc := hf 0
      case' r31x2 =>
       have D1 : aq.eval (.tmp 12) = _ := hdep 1
      case' r31x3 =>
       have D2 : aq.eval (.tmp 13) = _ := hdep 2
       have c0 := hS.cells (⟨g, 0, none⟩, .int .i64 ((L 0).1)) (by simp)
       have c1 := hS.cells (⟨g, 1, none⟩, .int .i64 ((L 0).2.1)) (by simp)
       have c2 := hS.cells (⟨g, 2, none⟩, .int .i64 ((L 0).2.2)) (by simp)
      case' r31x4 =>
       have D0 : aq.eval (.tmp 11) = _ := hdep 0
       have D3 : aq.eval (.tmp 14) = _ := hdep 3
      case' r31x5 =>
       have D4 : aq.eval (.tmp 15) = _ := hdep 4
      all_goals (clear hf hdep; unfold Oper.wp; generalize Act.eval _ = ev at *; go_simp)
      case' r31x2 =>
       try rw [if_pos (by omega), Oper.upon_value]
      case r31x4 =>
       refine ((coTwo_p (L jx) (L 0) _)).mono ?_
       rintro e w2 ⟨rfl, hb⟩
       refine hK _ _ (hS.call hb) ?_ (fun j u _ h => Kd.ok_below hb h)
       rw [if_pos (by rfl)]
       show (_ : Value) = _
       first | rfl | (refine congrArg (Value.int .i64) ?_; first | rfl | exact int_in (by omega) | exact quo_in (by omega) (by omega) (by omega) | exact rem_in (by omega) (by omega) | omega | (simp [*]; done)) | (simp; done) | (simp [*]; done)
      all_goals (refine hK _ _ hS ?_ (fun j u _ h => h); rw [if_pos (by rfl)]; show (_ : Value) = _; (first | rfl | (refine congrArg (Value.int .i64) ?_; first | rfl | exact int_in (by omega) | exact quo_in (by omega) (by omega) (by omega) | exact rem_in (by omega) (by omega) | omega | (simp [*]; done)) | (simp; done) | (simp [*]; done)))
     ·intro aq wx hd hw hf hS hg
      have G16 : tau aq 16 = .bool true := hg 5 (by decide)
      have haq : aq = ⟨#[tau aq 0, tau aq 1, tau aq 2, tau aq 3, tau aq 4, tau aq 5, tau aq 6, tau aq 7, tau aq 8, tau aq 9, tau aq 10, tau aq 11, tau aq 12, tau aq 13, tau aq 14, tau aq 15, tau aq 16, tau aq 17], []⟩ := by
       obtain ⟨tq, dq⟩ := aq
       have h5 := arr_eq (show tq.size = 18 from hw)
       have h6 : dq = [] := hd
       subst h6
       exact congrArg (fun z => Act.mk z []) h5
      show K2 aq wx
      rw [haq, hf 0, hf 1, hf 2, hf 3, hf 4, hf 5, hf 6, hf 7, hf 8, hf 9, hf 10, hf 17, G16]
      clear haq hf hd hw
      try dsimp only
      refine h3 _ _ ?_
      go_meet
      refine ⟨rfl, Ri3.m ?_ ?_ ?_, Wi3.m ?_ ?_ ?_ ?_ ?_ ?_, hS.below⟩
      all_goals first | exact hS.cells (_, _) (by simp) | exact (hS.free _ (by simp)).2
    obtain ⟨rfl, ⟨c00, c01, c02, z0⟩, ⟨c10, c11, c12, f10, f11, f12, z1⟩, hb0⟩ := hcut
    go_wp2
    go_ret
    exact ⟨by rw [unhide HF]; rfl, hb0⟩
   ·have HT : Hid (onB L (jx + 1) = true) := hide (by rw [onB, unhide HO, k]; rfl)
    rw [pr_comm] at k
    go_upto_region 4 with fail
    go_cut [16] (fun s16 wx => s16 = .bool false ∧ Ri3 wx g ((L 0).1) ((L 0).2.1) ((L 0).2.2) ∧ Wi3 wx wl.heap.size ((L jx).1) ((L jx).2.1) ((L jx).2.2) ∧ Below w.heap.size w wx)
    case first =>
     have h1 := trivial
     rename_i K2 h2 h3
     refine region_n0 (by kernel_rfl) (fun j => #[11,12,13,14,15,16].getD j 0) (fun j => Kd.ok ((fun j => match j with | 0 => Kd.val (.agg #[.int .i64 ((L jx).1), .int .i64 ((L jx).2.1), .int .i64 ((L jx).2.2)]) | 1 => Kd.val (.slice (some ⟨g, 0, none⟩) nn cc) | 2 => Kd.val (.pointer (some ⟨g, 0, none⟩)) | 3 => Kd.val (.agg #[.int .i64 ((L 0).1), .int .i64 ((L 0).2.1), .int .i64 ((L 0).2.2)]) | 4 => Kd.val (.bool true) | 5 => Kd.val (.bool false) | _ => Kd.any : Nat → Kd) j)) (Sy w (wl.heap.size + 1) [(⟨g, 0, none⟩, .int .i64 ((L 0).1)), (⟨g, 1, none⟩, .int .i64 ((L 0).2.1)), (⟨g, 2, none⟩, .int .i64 ((L 0).2.2)), (⟨wl.heap.size, 0, none⟩, .int .i64 ((L jx).1)), (⟨wl.heap.size, 1, none⟩, .int .i64 ((L jx).2.1)), (⟨wl.heap.size, 2, none⟩, .int .i64 ((L jx).2.2))] [⟨wl.heap.size, 0, none⟩, ⟨wl.heap.size, 1, none⟩, ⟨wl.heap.size, 2, none⟩]) (by kernel_rfl) (by kernel_rfl) ?_ ?_ ?_ ?_
     ·intro j hj
      have hj2 : j < 6 := hj
      have : ∀ j, j < 6 → (#[11,12,13,14,15,16] : Array Nat).getD j 0 < 18 := by decide
      exact this j hj2
     ·refine Sy.drew (Sy.mk_of ?_ ?_ ?_ ?_)
      ·first | rfl | (simp; done) | (simp; omega)
      ·intro c hc
       simp only [List.mem_cons, List.not_mem_nil, or_false] at hc
       rcases hc with rfl | rfl | rfl | rfl | rfl | rfl <;> exact byCT
      ·intro p hp
       simp only [List.mem_cons, List.not_mem_nil, or_false] at hp
       rcases hp with rfl | rfl | rfl <;> exact ⟨by first | ((repeat' with_reducible (first | refine ex_set _ ?_ | refine ex_al _ ?_ | exact ⟨_, by assumption⟩)); done) | first | exact ⟨_, by assumption⟩ | assumption | (go_simp; done) | (go_simp; exact ⟨_, rfl⟩), by first | ((repeat' first | with_reducible (first | assumption | refine frz_al _ ?_ ?_ | refine frz_set _ ?_) | omega | (simp; omega)); done) | assumption | (go_simp; done)⟩
      ·(repeat' first | with_reducible (first | exact Below.refl _ _ | assumption | refine gr_alloc ?_ _ | refine below_drewN ?_ _ | refine below_drew ?_ | refine gr_call ?_ (by assumption) | refine Below.setCell ?_ ?_ _) | go_size | omega | (simp; omega))
     ·clear h1 h2 h3
      refine ⟨?r32x0, ?r32x1, ?r32x2, ?r32x3, ?r32x4, ?r32x5, trivial⟩
      all_goals intro _ aq wx Kq hf hS hdep ev1 ev2 hK
      case' r32x0 =>
       have F4 : aq.eval (.tmp 4) = .pointer (some ⟨wl.heap.size, 0, none⟩) := hf 4
       have c0 := hS.cells (⟨wl.heap.size, 0, none⟩, .int .i64 ((L jx).1)) (by simp)
       have c1 := hS.cells (⟨wl.heap.size, 1, none⟩, .int .i64 ((L jx).2.1)) (by simp)
       have c2 := hS.cells (⟨wl.heap.size, 2, none⟩, .int .i64 ((L jx).2.2)) (by simp)
      case' r32x1 =>
       have F0 : aq.eval (.tmp 0) = .slice (some ⟨g, 0, none⟩) nn cc := hf 0
      case' r32x2 =>
       have D1 : aq.eval (.tmp 12) = _ := hdep 1
      case' r32x3 =>
       have D2 : aq.eval (.tmp 13) = _ := hdep 2
       have c0 := hS.cells (⟨g, 0, none⟩, .int .i64 ((L 0).1)) (by simp)
       have c1 := hS.cells (⟨g, 1, none⟩, .int .i64 ((L 0).2.1)) (by simp)
       have c2 := hS.cells (⟨g, 2, none⟩, .int .i64 ((L 0).2.2)) (by simp)
      case' r32x4 =>
       have D0 : aq.eval (.tmp 11) = _ := hdep 0
       have D3 : aq.eval (.tmp 14) = _ := hdep 3
      case' r32x5 =>
       have D4 : aq.eval (.tmp 15) = _ := hdep 4
      all_goals (clear hf hdep; unfold Oper.wp; generalize Act.eval _ = ev at *; go_simp)
      case' r32x2 =>
       try rw [if_pos (by omega), Oper.upon_value]
      case r32x4 =>
       refine ((coTwo_p (L jx) (L 0) _)).mono ?_
       rintro e w2 ⟨rfl, hb⟩
       refine hK _ _ (hS.call hb) ?_ (fun j u _ h => Kd.ok_below hb h)
       rw [if_pos (by rfl)]
       show (_ : Value) = _
       first | rfl | (refine congrArg (Value.int .i64) ?_; first | rfl | exact int_in (by omega) | exact quo_in (by omega) (by omega) (by omega) | exact rem_in (by omega) (by omega) | omega | (simp [*]; done)) | (simp; done) | (simp [*]; done)
      all_goals (refine hK _ _ hS ?_ (fun j u _ h => h); rw [if_pos (by rfl)]; show (_ : Value) = _; (first | rfl | (refine congrArg (Value.int .i64) ?_; first | rfl | exact int_in (by omega) | exact quo_in (by omega) (by omega) (by omega) | exact rem_in (by omega) (by omega) | omega | (simp [*]; done)) | (simp; done) | (simp [*]; done)))
     ·intro aq wx hd hw hf hS hg
      have G16 : tau aq 16 = .bool false := hg 5 (by decide)
      have haq : aq = ⟨#[tau aq 0, tau aq 1, tau aq 2, tau aq 3, tau aq 4, tau aq 5, tau aq 6, tau aq 7, tau aq 8, tau aq 9, tau aq 10, tau aq 11, tau aq 12, tau aq 13, tau aq 14, tau aq 15, tau aq 16, tau aq 17], []⟩ := by
       obtain ⟨tq, dq⟩ := aq
       have h5 := arr_eq (show tq.size = 18 from hw)
       have h6 : dq = [] := hd
       subst h6
       exact congrArg (fun z => Act.mk z []) h5
      show K2 aq wx
      rw [haq, hf 0, hf 1, hf 2, hf 3, hf 4, hf 5, hf 6, hf 7, hf 8, hf 9, hf 10, hf 17, G16]
      clear haq hf hd hw
      try dsimp only
      refine h3 _ _ ?_
      go_meet
      refine ⟨rfl, Ri3.m ?_ ?_ ?_, Wi3.m ?_ ?_ ?_ ?_ ?_ ?_, hS.below⟩
      all_goals first | exact hS.cells (_, _) (by simp) | exact (hS.free _ (by simp)).2
    obtain ⟨rfl, ⟨c00, c01, c02, z0⟩, ⟨c10, c11, c12, f10, f11, f12, z1⟩, hb0⟩ := hcut
    go_wp2
    go_roundw
    case rel => first | exact ⟨jx + 1, by omega, by first | rfl | go_num, HT, hb0⟩ | ((repeat apply Exists.intro); exact ⟨⟨jx + 1, by omega, by first | rfl | go_num, HT, hb0⟩, rfl⟩)
    case measure => (simp [intOf] <;> omega)
  ·obtain rfl : jx = nn := by omega
   go_wp2
   go_ret
   exact ⟨by rw [unhide HO]; rfl, hb⟩
end Go.Proofs.YtihfacmlfelliaaGreat
