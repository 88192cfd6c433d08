/- The Jacobi symbol, the reference's side. -/
import Derived.Test.YtaeabefbohlcpaaGreatJac
import Derived.Test.YtaeabefbohlcpaaGreatRule
namespace Go.Proofs.YtaeabefbohlcpaaGreat
open Go.RowKit
set_option linter.unusedVariables false
set_option linter.unusedSimpArgs false
attribute [local go_sem] q2 q3 q4 q5 q6 q7 q8 q9 q10 q11 q12

theorem syTwo_a (n : Int) (w : World) (h0 : -4611686018427387904 ≤ n ∧ n ≤ 4611686018427387904) (hodd : n % 2 = 1) : Calls Tryz.prog 111 #[.int .i64 n] w fun e w' => e = .returned (.int .i64 (two8 n)) ∧ w = w' := by
 obtain ⟨r, hr⟩ : ∃ r, n % 8 = r := ⟨_, rfl⟩
 have hE : Hid (two8 n = if r = 1 ∨ r = 7 then 1 else -1) := hide (by unfold two8; rw [hr])
 have HM : ∀ W, Calls Tryz.prog 38 #[.int .i64 n, .int .i64 8] W fun e w' => e = .returned (.int .i64 r) ∧ W = w' := fun W => by rw [← hr]; exact nuMod_a n 8 W h0 (by omega) (by omega)
 have HM := hide HM
 have hc : r = 1 ∨ r = 7 ∨ r = 3 ∨ r = 5 := by omega
 clear hr
 rcases hc with rfl | rfl | rfl | rfl
 all_goals
  go_enter Tryz.func111, Tryz.ntmps111
  go_wp2_with (go_at_call 38; refine ((unhide HM) _).mono ?_; rintro e w' ⟨rfl, rfl⟩)
  go_ret
  exact ⟨by rw [unhide hE]; rfl, rfl⟩

set_option maxRecDepth 100000 in
set_option maxHeartbeats 2000000 in
theorem sySucc_mod (T B S : Int) (w : World) (h0 : -4611686018427387904 ≤ T ∧ T ≤ 4611686018427387904) (h1 : 1 ≤ B ∧ B ≤ 1000000) (hn : T < 0 ∨ B ≤ T) : Calls Tryz.prog 127 #[.agg #[.int .i64 T, .int .i64 B, .int .i64 S]] w fun e w' => e = .returned (.agg #[.int .i64 (T % B), .int .i64 B, .int .i64 S]) ∧ Below w.heap.size w w' := by
 obtain ⟨r, hr⟩ : ∃ r, T % B = r := ⟨_, rfl⟩
 have HM : ∀ W, Calls Tryz.prog 38 #[.int .i64 T, .int .i64 B] W fun e w' => e = .returned (.int .i64 r) ∧ W = w' := fun W => by rw [← hr]; exact nuMod_a T B W h0 (by omega) (by omega)
 have HM := hide HM
 have HI : ∀ W, Calls Tryz.prog 37 #[.int .i64 (T), .int .i64 0, .int .i64 (B - 1)] W fun e w' => e = .returned (.bool false) ∧ W = w' := fun W => by
  have h9 : inB (T) 0 (B - 1) = false := by unfold inB; simp; omega
  rw [← h9]; exact l1In_any _ _ _ W
 have HI := hide HI
 rw [hr]
 clear hr
 go_enter Tryz.func127, Tryz.ntmps127
 go_wp2_with (first | (go_at_call 37; refine ((unhide HI) _).mono ?_; rintro e w' ⟨rfl, rfl⟩) | (go_at_call 38; refine ((unhide HM) _).mono ?_; rintro e w' ⟨rfl, rfl⟩))
 refine bodyPost_ret (v := .agg #[.int .i64 r, .int .i64 B, .int .i64 S]) (by simp [results, Tryz.results127, go_sem, *]) rfl ?_
 exact ⟨rfl, byGG⟩
set_option maxRecDepth 100000 in
set_option maxHeartbeats 2000000 in
theorem sySucc_odd (T B S : Int) (w : World) (h1 : 1 ≤ T ∧ T < B ∧ B ≤ 1000000) (ho : T % 2 = 1) (hs : -1 ≤ S ∧ S ≤ 1) : Calls Tryz.prog 127 #[.agg #[.int .i64 T, .int .i64 B, .int .i64 S]] w fun e w' => e = .returned (.agg #[.int .i64 B, .int .i64 T, .int .i64 (if T % 4 = 3 ∧ B % 4 = 3 then -S else S)]) ∧ Below w.heap.size w w' := by
 have HI : ∀ W, Calls Tryz.prog 37 #[.int .i64 (T), .int .i64 0, .int .i64 (B - 1)] W fun e w' => e = .returned (.bool true) ∧ W = w' := fun W => by
  have h9 : inB (T) 0 (B - 1) = true := by unfold inB; simp; omega
  rw [← h9]; exact l1In_any _ _ _ W
 have HI := hide HI
 have h2 : Int.tmod T 2 = 1 := by rw [Int.tmod_eq_emod_of_nonneg (by omega)]; omega
 by_cases c4 : T % 4 = 3
 ·have h4 : Int.tmod T 4 = 3 := by rw [Int.tmod_eq_emod_of_nonneg (by omega)]; omega
  by_cases d4 : B % 4 = 3
  ·have h5 : Int.tmod B 4 = 3 := by rw [Int.tmod_eq_emod_of_nonneg (by omega)]; omega
   rw [if_pos ⟨c4, d4⟩]
   clear c4 d4
   go_enter Tryz.func127, Tryz.ntmps127
   go_wp2_with (go_at_call 37; refine ((unhide HI) _).mono ?_; rintro e w' ⟨rfl, rfl⟩)
   refine bodyPost_ret (v := .agg #[.int .i64 B, .int .i64 T, .int .i64 (-S)]) (by simp [results, Tryz.results127, go_sem, *]) rfl ?_
   exact ⟨rfl, byGG⟩
  ·obtain ⟨r5, hr5⟩ : ∃ r : Int, Int.tmod B 4 = r := ⟨_, rfl⟩
   have h5 : ¬ r5 = 3 := by rw [Int.tmod_eq_emod_of_nonneg (by omega)] at hr5; omega
   rw [if_neg (fun h => d4 h.2)]
   clear c4 d4
   go_enter Tryz.func127, Tryz.ntmps127
   go_wp2_with (go_at_call 37; refine ((unhide HI) _).mono ?_; rintro e w' ⟨rfl, rfl⟩)
   refine bodyPost_ret (v := .agg #[.int .i64 B, .int .i64 T, .int .i64 S]) (by simp [results, Tryz.results127, go_sem, *]) rfl ?_
   exact ⟨rfl, byGG⟩
 ·obtain ⟨r4, hr4⟩ : ∃ r : Int, Int.tmod T 4 = r := ⟨_, rfl⟩
  have h4 : ¬ r4 = 3 := by rw [Int.tmod_eq_emod_of_nonneg (by omega)] at hr4; omega
  rw [if_neg (fun h => c4 h.1)]
  clear c4
  go_enter Tryz.func127, Tryz.ntmps127
  go_wp2_with (go_at_call 37; refine ((unhide HI) _).mono ?_; rintro e w' ⟨rfl, rfl⟩)
  refine bodyPost_ret (v := .agg #[.int .i64 B, .int .i64 T, .int .i64 S]) (by simp [results, Tryz.results127, go_sem, *]) rfl ?_
  exact ⟨rfl, byGG⟩
set_option maxRecDepth 100000 in
set_option maxHeartbeats 2000000 in
theorem sySucc_even (T B S : Int) (w : World) (h1 : 2 ≤ T ∧ T < B ∧ B ≤ 1000000) (he : T % 2 = 0) (hb : B % 2 = 1) (hs : -1 ≤ S ∧ S ≤ 1) : Calls Tryz.prog 127 #[.agg #[.int .i64 T, .int .i64 B, .int .i64 S]] w fun e w' => e = .returned (.agg #[.int .i64 (T / 2), .int .i64 B, .int .i64 (S * two8 B)]) ∧ Below w.heap.size w w' := by
 have HI : ∀ W, Calls Tryz.prog 37 #[.int .i64 (T), .int .i64 0, .int .i64 (B - 1)] W fun e w' => e = .returned (.bool true) ∧ W = w' := fun W => by
  have h9 : inB (T) 0 (B - 1) = true := by unfold inB; simp; omega
  rw [← h9]; exact l1In_any _ _ _ W
 have HI := hide HI
 have h2 : Int.tmod T 2 = 0 := by rw [Int.tmod_eq_emod_of_nonneg (by omega)]; omega
 obtain ⟨u, hu⟩ : ∃ u, T / 2 = u := ⟨_, rfl⟩
 have h3 : Int.tdiv T 2 = u := by rw [Int.tdiv_eq_ediv_of_nonneg (by omega)]; omega
 obtain ⟨y, hy⟩ : ∃ y, two8 B = y := ⟨_, rfl⟩
 have hy1 := two8_pm B
 rw [hy] at hy1
 have HY : ∀ W, Calls Tryz.prog 111 #[.int .i64 B] W fun e w' => e = .returned (.int .i64 y) ∧ W = w' := fun W => by rw [← hy]; exact syTwo_a B W (by omega) hb
 have HY := hide HY
 obtain ⟨z, hz⟩ : ∃ z, S * y = z := ⟨_, rfl⟩
 have hz1 : -1 ≤ z ∧ z ≤ 1 := by rw [← hz]; rcases hy1 with rfl | rfl <;> omega
 have hub : 1 ≤ u ∧ u ≤ 1000000 := by omega
 rw [hu, hy, hz]
 clear hu hy hy1 he hb
 go_enter Tryz.func127, Tryz.ntmps127
 go_upto_region 10 with (go_at_call 37; refine ((unhide HI) _).mono ?_; rintro e w' ⟨rfl, rfl⟩)
 skip
 refine region_n3 (by kernel_rfl) (fun j => #[48,49,50,51,52,53,54,54].getD j 0) (fun j => Kd.ok ((fun j => match j with | 0 => Kd.val (.pointer (some ⟨w.heap.size, 2, none⟩)) | 1 => Kd.val (.int .i64 S) | 2 => Kd.val (.pointer (some ⟨w.heap.size, 1, none⟩)) | 3 => Kd.val (.int .i64 B) | 4 => Kd.val (.int .i64 y) | 5 => Kd.val (.int .i64 z) | 6 => Kd.val (.pointer (some ⟨w.heap.size, 2, none⟩)) | 7 => Kd.old (w.heap.size + 1 + 1) [(⟨w.heap.size, 2, none⟩, .int .i64 z)] | _ => Kd.any : Nat → Kd) j)) (Sy w (w.heap.size + 1 + 1) [(⟨w.heap.size, 0, none⟩, .int .i64 u), (⟨w.heap.size, 1, none⟩, .int .i64 B), (⟨w.heap.size + 1, 0, none⟩, .int .i64 0), (⟨w.heap.size + 1, 1, none⟩, .int .i64 0), (⟨w.heap.size + 1, 2, none⟩, .int .i64 0)] [⟨w.heap.size, 0, none⟩, ⟨w.heap.size, 1, none⟩, ⟨w.heap.size, 2, none⟩, ⟨w.heap.size + 1, 0, none⟩, ⟨w.heap.size + 1, 1, none⟩, ⟨w.heap.size + 1, 2, none⟩]) (fun j wq9 => Kd.ok ((fun j => match j with | 0 => Kd.any | 1 => Kd.any | 2 => Kd.any | 3 => Kd.any | 4 => Kd.any | 5 => Kd.any | 6 => Kd.any | 7 => Kd.old (w.heap.size + 1 + 1) [(⟨w.heap.size, 2, none⟩, .int .i64 S)] | _ => Kd.any : Nat → Kd) j) wq9 undef) (fun _ => true) (by kernel_rfl) ?_ (hrun_none (by kernel_rfl)) (fun i o ho h => by cases h) ?_ ?_ ?_ ?_
 ·intro j hj
  have hj2 : j < 8 := hj
  have : ∀ j, j < 8 → (#[48,49,50,51,52,53,54,54] : Array Nat).getD j 0 < 56 := by decide
  exact this j hj2
 ·refine Sy.drew (Sy.mk_of ?_ ?_ ?_ ?_)
  ·first | rfl | (simp; done) | (simp; omega)
  ·intro c hc
   simp only [List.mem_cons, List.not_mem_nil, or_false] at hc
   rcases hc with rfl | rfl | rfl | rfl | rfl <;> exact byCT
  ·intro p hp
   simp only [List.mem_cons, List.not_mem_nil, or_false] at hp
   rcases hp with rfl | rfl | rfl | rfl | rfl | rfl <;> exact ⟨by first | ((repeat' with_reducible (first | refine ex_set _ ?_ | refine ex_al _ ?_ | exact ⟨_, by assumption⟩)); done) | first | exact ⟨_, by assumption⟩ | assumption | (go_simp; done) | (go_simp; exact ⟨_, rfl⟩), by first | ((repeat' first | with_reducible (first | assumption | refine frz_al _ ?_ ?_ | refine frz_set _ ?_) | omega | (simp; omega)); done) | assumption | (go_simp; done)⟩
  ·(repeat' first | with_reducible (first | exact Below.refl _ _ | assumption | refine gr_alloc ?_ _ | refine below_drewN ?_ _ | refine below_drew ?_ | refine gr_call ?_ (by assumption) | refine Below.setCell ?_ ?_ _) | go_size | omega | (simp; omega))
 ·intro j hj
  match j, hj with
  | 0, _ => trivial
  | 1, _ => trivial
  | 2, _ => trivial
  | 3, _ => trivial
  | 4, _ => trivial
  | 5, _ => trivial
  | 6, _ => trivial
  | 7, _ =>
   intro c hc
   simp only [List.mem_cons, List.not_mem_nil, or_false] at hc
   rcases hc with rfl <;> exact ⟨byCT, (by first | omega | (simp; omega) | (simp; done))⟩
  | j + 8, hj => exact absurd (show j + 8 < 8 from hj) (by omega)
 ·skip
  refine ⟨?r1x0, ?r1x1, ?r1x2, ?r1x3, ?r1x4, ?r1x5, ?r1x6, ?r1x7, trivial⟩
  all_goals intro _ aq wx Kq hf hS hdep ev1 ev2 _ hpr hK
  case' r1x0 =>
   have F1 : aq.eval (.tmp 1) = .pointer (some ⟨w.heap.size, 0, none⟩) := hf 1
  case' r1x1 =>
   have D0 : aq.eval (.tmp 48) = _ := hdep 0
   have c0 := (hpr 7 (by decide +kernel) (⟨w.heap.size, 2, none⟩, .int .i64 S) (by simp)).1
  case' r1x2 =>
   have F1 : aq.eval (.tmp 1) = .pointer (some ⟨w.heap.size, 0, none⟩) := hf 1
  case' r1x3 =>
   have D2 : aq.eval (.tmp 50) = _ := hdep 2
   have c0 := hS.cells (⟨w.heap.size, 1, none⟩, .int .i64 B) (by simp)
  case' r1x4 =>
   have D3 : aq.eval (.tmp 51) = _ := hdep 3
  case' r1x5 =>
   have D1 : aq.eval (.tmp 49) = _ := hdep 1
   have D4 : aq.eval (.tmp 52) = _ := hdep 4
  case' r1x6 =>
   have F1 : aq.eval (.tmp 1) = .pointer (some ⟨w.heap.size, 0, none⟩) := hf 1
  case' r1x7 =>
   have D5 : aq.eval (.tmp 53) = _ := hdep 5
   have D6 : aq.eval (.tmp 54) = _ := hdep 6
   obtain ⟨⟨vx0, cx0⟩, cf0⟩ := hS.free ⟨w.heap.size, 2, none⟩ (by simp)
  all_goals (clear hf hdep hpr; unfold Oper.wp; generalize Act.eval _ = ev at *; go_simp)
  case r1x4 =>
   refine (((unhide HY) _)).mono ?_
   rintro e w2 ⟨rfl, rfl⟩
   refine hK _ _ (hS.call (below_refl_self _)) ?_ (fun j u _ h => Kd.ok_below (below_refl_self _) h) (fun j _ h => Kd.ok_below (below_refl_self _) h)
   rw [if_pos (by rfl)]
   show (_ : Value) = _
   first | rfl | (refine congrArg (Value.int .i64) ?_; first | rfl | exact int_in (by omega) | exact quo_in (by omega) (by omega) (by omega) | exact rem_in (by omega) (by omega) | omega) | (simp; done) | (simp [*]; done)
  case r1x7 =>
   refine hK undef (setAll w.heap.size 2 [.int .i64 z] wx) (Sy.setAll (by first | omega | (simp; omega) | (simp; done)) (fa (far_off (show 0 < 2 ∨ 2 + 1 ≤ 0 by decide)) (fa (far_off (show 1 < 2 ∨ 2 + 1 ≤ 1 by decide)) (fa (far_blk (by first | (with_reducible assumption) | omega)) (fa (far_blk (by first | (with_reducible assumption) | omega)) (fa (far_blk (by first | (with_reducible assumption) | omega)) (fa0)))))) hS) ?_ (fun j u hj h => ?_) (fun j hj h => ?_)
   ·rw [if_neg (by decide)]
    exact fa ⟨setAll_at w.heap.size [.int .i64 z] 2 wx 0 (show 0 < 1 by decide) ⟨vx0, cx0⟩, (by first | omega | (simp; omega) | (simp; done))⟩ (fa0)
   ·match j, hj with
    | 0, hj | 1, hj | 2, hj | 3, hj | 4, hj | 5, hj | 6, hj => exact (show (u : Value) = _ from h)
    | 7, hj => exact absurd rfl hj
    | j + 8, _ => trivial
   ·match j, hj with
    | 0, hj | 1, hj | 2, hj | 3, hj | 4, hj | 5, hj | 6, hj => trivial
    | 7, hj => exact absurd rfl hj
    | j + 8, _ => exact h
  all_goals (refine hK _ _ hS ?_ (fun j u _ h => h) (fun j _ h => h); rw [if_pos (by rfl)]; show (_ : Value) = _; (first | rfl | (refine congrArg (Value.int .i64) ?_; first | rfl | exact int_in (by omega) | exact quo_in (by omega) (by omega) (by omega) | exact rem_in (by omega) (by omega) | omega) | (simp; done) | (simp [*]; done)))
 ·intro aq wx hd hw hf hS hg
  have haq : aq = ⟨#[tau aq 0, tau aq 1, tau aq 2, tau aq 3, tau aq 4, tau aq 5, tau aq 6, tau aq 7, tau aq 8, tau aq 9, tau aq 10, tau aq 11, tau aq 12, tau aq 13, tau aq 14, tau aq 15, tau aq 16, tau aq 17, tau aq 18, tau aq 19, tau aq 20, tau aq 21, tau aq 22, tau aq 23, tau aq 24, tau aq 25, tau aq 26, tau aq 27, tau aq 28, tau aq 29, tau aq 30, tau aq 31, tau aq 32, tau aq 33, tau aq 34, tau aq 35, tau aq 36, tau aq 37, tau aq 38, tau aq 39, tau aq 40, tau aq 41, tau aq 42, tau aq 43, tau aq 44, tau aq 45, tau aq 46, tau aq 47, tau aq 48, tau aq 49, tau aq 50, tau aq 51, tau aq 52, tau aq 53, tau aq 54, tau aq 55], []⟩ := by
   obtain ⟨tq, dq⟩ := aq
   have h5 := arr_eq (show tq.size = 56 from hw)
   have h6 : dq = [] := hd
   subst h6
   exact congrArg (fun z => Act.mk z []) h5
  rw [haq, hf 0, hf 1, hf 2, hf 3, hf 4, hf 5, hf 6, hf 7, hf 8, hf 9, hf 10, hf 11, hf 12, hf 13, hf 14, hf 15, hf 16, hf 17, hf 18, hf 19, hf 20, hf 21, hf 22, hf 23, hf 24, hf 25, hf 26, hf 27, hf 28, hf 29, hf 30, hf 31, hf 32, hf 33, hf 34, hf 35, hf 36, hf 37, hf 38, hf 39, hf 40, hf 41, hf 42, hf 43, hf 44, hf 45, hf 46, hf 47, hf 55]
  clear haq hf hd hw
  try dsimp only
  have c00 : wx.cell? ⟨w.heap.size, 0, none⟩ = some (.int .i64 u) := hS.cells (⟨w.heap.size, 0, none⟩, .int .i64 u) (by simp)
  have f00 : wx.frozen? ⟨w.heap.size, 0, none⟩ = false := (hS.free ⟨w.heap.size, 0, none⟩ (by simp)).2
  have c01 : wx.cell? ⟨w.heap.size, 1, none⟩ = some (.int .i64 B) := hS.cells (⟨w.heap.size, 1, none⟩, .int .i64 B) (by simp)
  have f01 : wx.frozen? ⟨w.heap.size, 1, none⟩ = false := (hS.free ⟨w.heap.size, 1, none⟩ (by simp)).2
  have c02 : wx.cell? ⟨w.heap.size, 2, none⟩ = some (.int .i64 z) := (hg 7 (by decide) (⟨w.heap.size, 2, none⟩, .int .i64 z) (by simp)).1
  have f02 : wx.frozen? ⟨w.heap.size, 2, none⟩ = false := (hS.free ⟨w.heap.size, 2, none⟩ (by simp)).2
  have c10 : wx.cell? ⟨w.heap.size + 1, 0, none⟩ = some (.int .i64 0) := hS.cells (⟨w.heap.size + 1, 0, none⟩, .int .i64 0) (by simp)
  have f10 : wx.frozen? ⟨w.heap.size + 1, 0, none⟩ = false := (hS.free ⟨w.heap.size + 1, 0, none⟩ (by simp)).2
  have c11 : wx.cell? ⟨w.heap.size + 1, 1, none⟩ = some (.int .i64 0) := hS.cells (⟨w.heap.size + 1, 1, none⟩, .int .i64 0) (by simp)
  have f11 : wx.frozen? ⟨w.heap.size + 1, 1, none⟩ = false := (hS.free ⟨w.heap.size + 1, 1, none⟩ (by simp)).2
  have c12 : wx.cell? ⟨w.heap.size + 1, 2, none⟩ = some (.int .i64 0) := hS.cells (⟨w.heap.size + 1, 2, none⟩, .int .i64 0) (by simp)
  have f12 : wx.frozen? ⟨w.heap.size + 1, 2, none⟩ = false := (hS.free ⟨w.heap.size + 1, 2, none⟩ (by simp)).2
  have hb0 : Below w.heap.size w wx := hS.below
  have z0 := World.block_lt_of_cell? _ _ c00
  change w.heap.size < wx.heap.size at z0
  have z1 := World.block_lt_of_cell? _ _ c10
  change w.heap.size + 1 < wx.heap.size at z1
  clear hS hg
  unfold tau
  go_wp2
  refine bodyPost_ret (v := .agg #[.int .i64 u, .int .i64 B, .int .i64 z]) (by simp [results, Tryz.results127, go_sem, *]) rfl ?_
  exact ⟨rfl, by first | exact hb0 | exact hb0.trans byGG | (repeat' first | with_reducible (first | exact Below.refl _ _ | assumption | refine gr_alloc ?_ _ | refine below_drewN ?_ _ | refine below_drew ?_ | refine gr_call ?_ (by assumption) | refine Below.setCell ?_ ?_ _) | go_size | omega | (simp; omega))⟩
end Go.Proofs.YtaeabefbohlcpaaGreat
