/- lgRead: four words. -/
import Derived.Test.YtfoofbcmaljmoaaGreatDoorPct
import Derived.Test.YtfoofbcmaljmoaaGreatDoorPch
import Derived.Test.YtfoofbcmaljmoaaGreatDoorCmd
namespace Go.Proofs.YtfoofbcmaljmoaaGreatDoor
open Go.RowKit
set_option linter.unusedVariables false
set_option linter.unusedSimpArgs false
attribute [local go_sem] q2 q3 q4 q5 q6 q7 q8 q9 q10 q11 q12

set_option maxRecDepth 100000 in
set_option maxHeartbeats 4000000 in
theorem sr_n4 (s x0 x1 x2 x3 : ByteArray) (k : Int) (gd te : Bool) (T : ByteArray) (w : World) (hk : Hid (kdV x0 = k)) (hfk : hfB k = false) (HI : Hid (∀ W, Calls Tryz.prog 18 #[cmv (⟨k, x1, x2, x3, (0, 0, 0)⟩ : Cmd)] W fun e w' => e = .returned (.bool gd) ∧ Below W.heap.size W w')) (HT : Hid (gd = true → ∀ W, Below w.heap.size w W → Calls Tryz.prog 19 #[cmv (⟨k, x1, x2, x3, (0, 0, 0)⟩ : Cmd)] W fun e w' => e = .returned (.string T) ∧ Below W.heap.size W w')) (hte : (T.toList == s.toList) = te)
  (HS : Hid (∀ W, Below w.heap.size w W → Calls Tryz.prog 13 #[.string s, .int .u8 32] W fun e w' => ∃ g9 c9, e = .returned (.slice (some ⟨g9, 0, none⟩) 4 c9) ∧ W.heap.size ≤ g9 ∧ g9 < w'.heap.size ∧ w'.cell? ⟨g9, 0, none⟩ = some (.string x0) ∧ w'.cell? ⟨g9, 1, none⟩ = some (.string x1) ∧ w'.cell? ⟨g9, 2, none⟩ = some (.string x2) ∧ w'.cell? ⟨g9, 3, none⟩ = some (.string x3) ∧ Below W.heap.size W w')) :
  Calls Tryz.prog 7 #[.string s] w (if gd && te then RetCm w (⟨k, x1, x2, x3, (0, 0, 0)⟩ : Cmd) true else RetCm w cm0 false) := by
 obtain ⟨RET, hRET⟩ : ∃ P : Ending → World → Prop, P = (if gd && te then RetCm w (⟨k, x1, x2, x3, (0, 0, 0)⟩ : Cmd) true else RetCm w cm0 false) := ⟨_, rfl⟩
 rw [← hRET]
 have HRET := hide hRET
 clear hRET
 go_enter Tryz.func7, Tryz.ntmps7
 go_wp2_with fail
 refine ((unhide HS) _ byGG).mono ?_
 rintro e w1 ⟨g9, c9, rfl, hg1, hg2, d0, d1, d2, d3, hb1⟩
 have hg3 : w.heap.size < g9 := by have := hg1; simp at this; omega
 have hcs9 := cells_calls hb1 [⟨w.heap.size, 0, none⟩, ⟨w.heap.size, 1, none⟩, ⟨w.heap.size, 2, none⟩, ⟨w.heap.size, 3, none⟩, ⟨w.heap.size, 4, none⟩, ⟨w.heap.size, 5, none⟩, ⟨w.heap.size, 6, none⟩] [.int .i64 0, .string ⟨#[]⟩, .string ⟨#[]⟩, .string ⟨#[]⟩, .int .i64 0, .int .i64 0, .int .i64 0] (by refine ⟨?_, ?_, ?_, ?_, ?_, ?_, ?_, trivial⟩ <;> exact byCT)
 have hfs9 := frees_calls hb1 [⟨w.heap.size, 0, none⟩, ⟨w.heap.size, 1, none⟩, ⟨w.heap.size, 2, none⟩, ⟨w.heap.size, 3, none⟩, ⟨w.heap.size, 4, none⟩, ⟨w.heap.size, 5, none⟩, ⟨w.heap.size, 6, none⟩] (by refine ⟨?_, ?_, ?_, ?_, ?_, ?_, ?_, trivial⟩ <;> first | with_reducible assumption | omega | (simp; omega) | (simp; done)) (by refine ⟨?_, ?_, ?_, ?_, ?_, ?_, ?_, trivial⟩ <;> exact byFT)
 have hzs9 := blocks_calls hb1 [w.heap.size] (by refine ⟨?_, trivial⟩ <;> first | with_reducible assumption | omega | (simp; omega) | (simp; done))
 try clear c00 c01 c02 c03 c04 c05 c06 f00 f01 f02 f03 f04 f05 f06
 obtain ⟨c00, c01, c02, c03, c04, c05, c06, -⟩ := hcs9
 obtain ⟨f00, f01, f02, f03, f04, f05, f06, -⟩ := hfs9
 obtain ⟨z0, -⟩ := hzs9
 have s1 := hb1.size
 go_wp2_with fail
 refine (l1In_any _ _ _ _).mono ?_
 rintro e w2 ⟨rfl, rfl⟩
 have hb : inB (4 : Int) 2 4 = true := by decide
 go_wp2_with fail
 refine (lgWords_a _).mono ?_
 rintro e w3 ⟨v9, rfl, ⟨gw, rfl, hcw⟩, hb3⟩
 have hcs9 := cells_calls hb3 [⟨w.heap.size, 0, none⟩, ⟨w.heap.size, 1, none⟩, ⟨w.heap.size, 2, none⟩, ⟨w.heap.size, 3, none⟩, ⟨w.heap.size, 4, none⟩, ⟨w.heap.size, 5, none⟩, ⟨w.heap.size, 6, none⟩, ⟨w1.heap.size, 0, none⟩, ⟨w1.heap.size, 1, none⟩, ⟨w1.heap.size, 2, none⟩, ⟨w1.heap.size, 3, none⟩, ⟨w1.heap.size, 4, none⟩, ⟨w1.heap.size, 5, none⟩, ⟨w1.heap.size, 6, none⟩, ⟨g9, 0, none⟩, ⟨g9, 1, none⟩, ⟨g9, 2, none⟩, ⟨g9, 3, none⟩] [.int .i64 0, .string ⟨#[]⟩, .string ⟨#[]⟩, .string ⟨#[]⟩, .int .i64 0, .int .i64 0, .int .i64 0, .int .i64 0, .string x1, .string ⟨#[]⟩, .string ⟨#[]⟩, .int .i64 0, .int .i64 0, .int .i64 0, .string x0, .string x1, .string x2, .string x3] (by refine ⟨?_, ?_, ?_, ?_, ?_, ?_, ?_, ?_, ?_, ?_, ?_, ?_, ?_, ?_, ?_, ?_, ?_, ?_, trivial⟩ <;> exact byCT)
 have hfs9 := frees_calls hb3 [⟨w.heap.size, 0, none⟩, ⟨w.heap.size, 1, none⟩, ⟨w.heap.size, 2, none⟩, ⟨w.heap.size, 3, none⟩, ⟨w.heap.size, 4, none⟩, ⟨w.heap.size, 5, none⟩, ⟨w.heap.size, 6, none⟩, ⟨w1.heap.size, 0, none⟩, ⟨w1.heap.size, 1, none⟩, ⟨w1.heap.size, 2, none⟩, ⟨w1.heap.size, 3, none⟩, ⟨w1.heap.size, 4, none⟩, ⟨w1.heap.size, 5, none⟩, ⟨w1.heap.size, 6, none⟩] (by refine ⟨?_, ?_, ?_, ?_, ?_, ?_, ?_, ?_, ?_, ?_, ?_, ?_, ?_, ?_, trivial⟩ <;> first | with_reducible assumption | omega | (simp; omega) | (simp; done)) (by refine ⟨?_, ?_, ?_, ?_, ?_, ?_, ?_, ?_, ?_, ?_, ?_, ?_, ?_, ?_, trivial⟩ <;> exact byFT)
 have hzs9 := blocks_calls hb3 [w.heap.size, w1.heap.size, g9] (by refine ⟨?_, ?_, ?_, trivial⟩ <;> first | with_reducible assumption | omega | (simp; omega) | (simp; done))
 try clear c00 c01 c02 c03 c04 c05 c06 f00 f01 f02 f03 f04 f05 f06
 try clear c10 c11 c12 c13 c14 c15 c16 f10 f11 f12 f13 f14 f15 f16
 try clear c20 c21 c22 c23
 obtain ⟨c00, c01, c02, c03, c04, c05, c06, c10, c11, c12, c13, c14, c15, c16, c20, c21, c22, c23, -⟩ := hcs9
 obtain ⟨f00, f01, f02, f03, f04, f05, f06, f10, f11, f12, f13, f14, f15, f16, -⟩ := hfs9
 obtain ⟨z0, z1, z2, -⟩ := hzs9
 have s3 := hb3.size
 have zw : w1.heap.size < w3.heap.size := by simp at s3; omega
 have zg : g9 < w3.heap.size := by simp at s3; omega
 have zg3 : g9 < w1.heap.size := by omega
 have zz : w.heap.size < w1.heap.size := by omega
 have g3 : Below w.heap.size w w3 := byGG
 have hcw9 : Hid (∀ j, j < 6 → w3.cell? ⟨gw, j, none⟩ = some (.string (kws6.getD j ⟨#[]⟩))) := hide hcw
 have hgw : gw ≠ w1.heap.size := by
  intro e
  have := hcw 0 (by decide)
  rw [e, c10] at this
  simp at this
 have hkA := kdA_kdV x0
 rw [unhide hk] at hkA
 have HKA := hide hkA
 clear hcw hkA hk hb3 hb1 HS
 rw [show kws6.length = 6 from rfl]
 go_wp2_with fail
 go_loopw [23] (fun is wr => ∃ i : Nat, is = .int .i64 (i : Int) ∧ i ≤ 6 ∧ wr.cell? ⟨w1.heap.size, 0, none⟩ = some (.int .i64 (kdA x0 i)) ∧ wr.cell? ⟨w1.heap.size, 1, none⟩ = some (.string x1) ∧ wr.cell? ⟨w1.heap.size, 2, none⟩ = some (.string ⟨#[]⟩) ∧ wr.cell? ⟨w1.heap.size, 3, none⟩ = some (.string ⟨#[]⟩) ∧ wr.cell? ⟨w1.heap.size, 4, none⟩ = some (.int .i64 0) ∧ wr.cell? ⟨w1.heap.size, 5, none⟩ = some (.int .i64 0) ∧ wr.cell? ⟨w1.heap.size, 6, none⟩ = some (.int .i64 0) ∧ wr.frozen? ⟨w1.heap.size, 0, none⟩ = false ∧ wr.frozen? ⟨w1.heap.size, 1, none⟩ = false ∧ wr.frozen? ⟨w1.heap.size, 2, none⟩ = false ∧ wr.frozen? ⟨w1.heap.size, 3, none⟩ = false ∧ wr.frozen? ⟨w1.heap.size, 4, none⟩ = false ∧ wr.frozen? ⟨w1.heap.size, 5, none⟩ = false ∧ wr.frozen? ⟨w1.heap.size, 6, none⟩ = false ∧ Hid (wr.heap[w.heap.size]? = w3.heap[w.heap.size]?) ∧ Hid (wr.heap[gw]? = w3.heap[gw]?) ∧ Hid (wr.heap[g9]? = w3.heap[g9]?) ∧ Hid (Below w.heap.size w wr) ∧ w1.heap.size < wr.heap.size) (fun is _ => 6 - (intOf is).toNat)
 case atStart => exact ⟨0, rfl, by omega, by (rw [show kdA x0 0 = 0 from rfl]; (first | with_reducible assumption | ((repeat' first | with_reducible (first | assumption | refine cell_al _ ?_ | refine cell_eq _ ?_ | refine cell_ne _ ?_ ?_ | refine ex_set _ ?_ | refine ex_al _ ?_ | exact ⟨_, by assumption⟩) | (intro hh; injection hh with hh1 hh2; omega)); done) | go_simp)), byCT, byCT, byCT, byCT, byCT, byCT, byFT, byFT, byFT, byFT, byFT, byFT, byFT, hide rfl, hide rfl, hide rfl, hide g3, zw⟩
 case round =>
  obtain ⟨C0, hC0⟩ : ∃ P : Prop, P = (w3.cell? ⟨w.heap.size, 0, none⟩ = some (.int .i64 0) ∧ w3.cell? ⟨w.heap.size, 1, none⟩ = some (.string ⟨#[]⟩) ∧ w3.cell? ⟨w.heap.size, 2, none⟩ = some (.string ⟨#[]⟩) ∧ w3.cell? ⟨w.heap.size, 3, none⟩ = some (.string ⟨#[]⟩) ∧ w3.cell? ⟨w.heap.size, 4, none⟩ = some (.int .i64 0) ∧ w3.cell? ⟨w.heap.size, 5, none⟩ = some (.int .i64 0) ∧ w3.cell? ⟨w.heap.size, 6, none⟩ = some (.int .i64 0)) := ⟨_, rfl⟩
  obtain ⟨C1, hC1⟩ : ∃ P : Prop, P = (w3.frozen? ⟨w.heap.size, 0, none⟩ = false ∧ w3.frozen? ⟨w.heap.size, 1, none⟩ = false ∧ w3.frozen? ⟨w.heap.size, 2, none⟩ = false ∧ w3.frozen? ⟨w.heap.size, 3, none⟩ = false ∧ w3.frozen? ⟨w.heap.size, 4, none⟩ = false ∧ w3.frozen? ⟨w.heap.size, 5, none⟩ = false ∧ w3.frozen? ⟨w.heap.size, 6, none⟩ = false) := ⟨_, rfl⟩
  have HC0 : Hid C0 := hide (by rw [hC0]; exact ⟨c00, c01, c02, c03, c04, c05, c06⟩)
  have HC1 : Hid C1 := hide (by rw [hC1]; exact ⟨f00, f01, f02, f03, f04, f05, f06⟩)
  clear c00 c01 c02 c03 c04 c05 c06 f00 f01 f02 f03 f04 f05 f06
  clear c10 c11 c12 c13 c14 c15 c16 f10 f11 f12 f13 f14 f15 f16
  try clear d0
  try clear d1
  try clear d2
  try clear d3
  have d0 := c20
  clear c20
  have d1 := c21
  clear c21
  have d2 := c22
  clear c22
  have d3 := c23
  clear c23
  obtain ⟨i, rfl, hi, r0, r1, r2, r3, r4, r5, r6, s0, s1, s2, s3, s4, s5, s6, eB, eW, eP, hbw, hBw⟩ := hrel
  obtain ⟨wl, rfl⟩ : ∃ wl : World, wl = wr := ⟨_, rfl⟩
  have gW := unhide hbw
  by_cases q : i < 6
  ·have hci : (i : Int) < 6 := by omega
   have dw := cell_hq (unhide eW) ((unhide hcw9) i q)
   have dp := cell_hq (unhide eP) d0
   have zl : g9 < wl.heap.size := by omega
   have NK0 := kdA_next x0 i
   obtain ⟨y, hy⟩ : ∃ y, kws6.getD i ⟨#[]⟩ = y := ⟨_, rfl⟩
   rw [hy] at dw NK0
   by_cases ip : 0 < i
   ·have ip2 : (i : Int) > 0 := by omega
    by_cases qe : y.toList = x0.toList
    ·have NK : Hid (kdA x0 (i + 1) = (i : Int)) := hide (by rw [NK0, if_pos ⟨ip, qe⟩])
     have qe2 : (y.toList == x0.toList) = true := by rw [qe]; simp
     clear NK0 hy
     go_wp2_with fail
     go_roundw
     case rel =>
      have NK := unhide NK
      exact ⟨i + 1, by first | rfl | go_num, by omega, by rw [NK]; (first | with_reducible assumption | ((repeat' first | with_reducible (first | assumption | refine cell_al _ ?_ | refine cell_eq _ ?_ | refine cell_ne _ ?_ ?_ | refine ex_set _ ?_ | refine ex_al _ ?_ | exact ⟨_, by assumption⟩) | (intro hh; injection hh with hh1 hh2; omega)); done) | go_simp), byCT, byCT, byCT, byCT, byCT, byCT, byFT, byFT, byFT, byFT, byFT, byFT, byFT, hide ((Below.heap_setCell _ _ _ _ (show w.heap.size ≠ w1.heap.size by omega)).trans (unhide eB)), hide ((Below.heap_setCell _ _ _ _ (show gw ≠ w1.heap.size by omega)).trans (unhide eW)), hide ((Below.heap_setCell _ _ _ _ (show g9 ≠ w1.heap.size by omega)).trans (unhide eP)), hide byGG, by simp [World.setCell]; omega⟩
     case measure => simp [intOf]; omega
    ·have NK : Hid (kdA x0 (i + 1) = kdA x0 i) := hide (by rw [NK0, if_neg (fun h => qe h.2)])
     have qe2 : (y.toList == x0.toList) = false := by simpa using qe
     clear NK0 hy
     go_wp2_with fail
     go_roundw
     case rel =>
      have NK := unhide NK
      exact ⟨i + 1, by first | rfl | go_num, by omega, by rw [NK]; exact r0, r1, r2, r3, r4, r5, r6, s0, s1, s2, s3, s4, s5, s6, eB, eW, eP, hide byGG, hBw⟩
     case measure => simp [intOf]; omega
   ·have ip2 : ¬ (i : Int) > 0 := by omega
    have NK : Hid (kdA x0 (i + 1) = kdA x0 i) := hide (by rw [NK0, if_neg (fun h => ip h.1)])
    clear NK0 hy
    go_wp2_with fail
    go_roundw
    case rel =>
     have NK := unhide NK
     exact ⟨i + 1, by first | rfl | go_num, by omega, by rw [NK]; exact r0, r1, r2, r3, r4, r5, r6, s0, s1, s2, s3, s4, s5, s6, eB, eW, eP, hide byGG, hBw⟩
    case measure => simp [intOf]; omega
  ·obtain rfl : i = 6 := by omega
   rw [unhide HKA] at r0
   have hc9 := unhide HC0
   have hf9 := unhide HC1
   rw [hC0] at hc9
   rw [hC1] at hf9
   obtain ⟨c00, c01, c02, c03, c04, c05, c06⟩ := hc9
   obtain ⟨f00, f01, f02, f03, f04, f05, f06⟩ := hf9
   replace c00 := cell_hq (unhide eB) c00
   replace c01 := cell_hq (unhide eB) c01
   replace c02 := cell_hq (unhide eB) c02
   replace c03 := cell_hq (unhide eB) c03
   replace c04 := cell_hq (unhide eB) c04
   replace c05 := cell_hq (unhide eB) c05
   replace c06 := cell_hq (unhide eB) c06
   replace f00 := frz_hq (unhide eB) f00
   replace f01 := frz_hq (unhide eB) f01
   replace f02 := frz_hq (unhide eB) f02
   replace f03 := frz_hq (unhide eB) f03
   replace f04 := frz_hq (unhide eB) f04
   replace f05 := frz_hq (unhide eB) f05
   replace f06 := frz_hq (unhide eB) f06
   replace d0 := cell_hq (unhide eP) d0
   replace d1 := cell_hq (unhide eP) d1
   replace d2 := cell_hq (unhide eP) d2
   replace d3 := cell_hq (unhide eP) d3
   have zl : g9 < wl.heap.size := by omega
   have zl0 : w.heap.size < wl.heap.size := by omega
   clear hC0 hC1 HC0 HC1 eB eW eP HKA hcw9
   cases gd
   ·go_wp2_with (first | (go_at_call 16; refine (hasForm_a _ _).mono ?_; rintro e w4 ⟨rfl, rfl⟩) | (go_at_call 18; refine ((unhide HI) _).mono ?_; rintro e w6 ⟨rfl, hb6⟩; have hcs9 := cells_calls hb6 [⟨w.heap.size, 0, none⟩, ⟨w.heap.size, 1, none⟩, ⟨w.heap.size, 2, none⟩, ⟨w.heap.size, 3, none⟩, ⟨w.heap.size, 4, none⟩, ⟨w.heap.size, 5, none⟩, ⟨w.heap.size, 6, none⟩, ⟨w1.heap.size, 0, none⟩, ⟨w1.heap.size, 1, none⟩, ⟨w1.heap.size, 2, none⟩, ⟨w1.heap.size, 3, none⟩, ⟨w1.heap.size, 4, none⟩, ⟨w1.heap.size, 5, none⟩, ⟨w1.heap.size, 6, none⟩] [.int .i64 0, .string ⟨#[]⟩, .string ⟨#[]⟩, .string ⟨#[]⟩, .int .i64 0, .int .i64 0, .int .i64 0, .int .i64 k, .string x1, .string x2, .string x3, .int .i64 0, .int .i64 0, .int .i64 0] (by refine ⟨?_, ?_, ?_, ?_, ?_, ?_, ?_, ?_, ?_, ?_, ?_, ?_, ?_, ?_, trivial⟩ <;> (first | with_reducible assumption | ((repeat' first | with_reducible (first | (go_at_call 16; refine (hasForm_a _ _).mono ?_; rintro e w4 ⟨rfl, rfl⟩) | assumption | refine cell_al _ ?_ | refine cell_eq _ ?_ | refine cell_ne _ ?_ ?_ | refine ex_set _ ?_ | refine ex_al _ ?_ | exact ⟨_, by assumption⟩) | (intro hh; injection hh with hh1 hh2; omega)); done) | go_simp)); have hfs9 := frees_calls hb6 [⟨w.heap.size, 0, none⟩, ⟨w.heap.size, 1, none⟩, ⟨w.heap.size, 2, none⟩, ⟨w.heap.size, 3, none⟩, ⟨w.heap.size, 4, none⟩, ⟨w.heap.size, 5, none⟩, ⟨w.heap.size, 6, none⟩, ⟨w1.heap.size, 0, none⟩, ⟨w1.heap.size, 1, none⟩, ⟨w1.heap.size, 2, none⟩, ⟨w1.heap.size, 3, none⟩, ⟨w1.heap.size, 4, none⟩, ⟨w1.heap.size, 5, none⟩, ⟨w1.heap.size, 6, none⟩] (by refine ⟨?_, ?_, ?_, ?_, ?_, ?_, ?_, ?_, ?_, ?_, ?_, ?_, ?_, ?_, trivial⟩ <;> first | with_reducible assumption | omega | (simp; omega) | (simp; done)) (by refine ⟨?_, ?_, ?_, ?_, ?_, ?_, ?_, ?_, ?_, ?_, ?_, ?_, ?_, ?_, trivial⟩ <;> (first | with_reducible assumption | ((repeat' first | with_reducible (first | (go_at_call 16; refine (hasForm_a _ _).mono ?_; rintro e w4 ⟨rfl, rfl⟩) | assumption | refine frz_al _ ?_ ?_ | refine frz_set _ ?_) | omega | (simp; omega)); done) | go_simp)); have hzs9 := blocks_calls hb6 [w.heap.size, w1.heap.size] (by refine ⟨?_, ?_, trivial⟩ <;> first | with_reducible assumption | omega | (simp; omega) | (simp; done)); (try clear c00 c01 c02 c03 c04 c05 c06 f00 f01 f02 f03 f04 f05 f06); (try clear c10 c11 c12 c13 c14 c15 c16 f10 f11 f12 f13 f14 f15 f16); obtain ⟨c00, c01, c02, c03, c04, c05, c06, c10, c11, c12, c13, c14, c15, c16, -⟩ := hcs9; obtain ⟨f00, f01, f02, f03, f04, f05, f06, f10, f11, f12, f13, f14, f15, f16, -⟩ := hfs9; obtain ⟨z0, z1, -⟩ := hzs9; have s6 := hb6.size))
    refine bodyPost_ret (v := .tuple #[cmv cm0, .bool false]) (by simp [results, Tryz.results7, go_sem, cm0, tx, *]) rfl ?_
    rw [unhide HRET]
    exact ⟨rfl, by (repeat' first | with_reducible (first | (go_at_call 16; refine (hasForm_a _ _).mono ?_; rintro e w4 ⟨rfl, rfl⟩) | exact Below.refl _ _ | assumption | refine gr_alloc ?_ _ | refine below_drewN ?_ _ | refine below_drew ?_ | refine gr_call ?_ (by assumption) | refine Below.setCell ?_ ?_ _) | go_size | omega | (simp; omega))⟩
   ·cases te
    ·have qt : (!(T.toList == s.toList)) = true := by rw [hte]; rfl
     go_wp2_with (first | (go_at_call 16; refine (hasForm_a _ _).mono ?_; rintro e w4 ⟨rfl, rfl⟩) | (go_at_call 18; refine ((unhide HI) _).mono ?_; rintro e w6 ⟨rfl, hb6⟩; have hcs9 := cells_calls hb6 [⟨w.heap.size, 0, none⟩, ⟨w.heap.size, 1, none⟩, ⟨w.heap.size, 2, none⟩, ⟨w.heap.size, 3, none⟩, ⟨w.heap.size, 4, none⟩, ⟨w.heap.size, 5, none⟩, ⟨w.heap.size, 6, none⟩, ⟨w1.heap.size, 0, none⟩, ⟨w1.heap.size, 1, none⟩, ⟨w1.heap.size, 2, none⟩, ⟨w1.heap.size, 3, none⟩, ⟨w1.heap.size, 4, none⟩, ⟨w1.heap.size, 5, none⟩, ⟨w1.heap.size, 6, none⟩] [.int .i64 0, .string ⟨#[]⟩, .string ⟨#[]⟩, .string ⟨#[]⟩, .int .i64 0, .int .i64 0, .int .i64 0, .int .i64 k, .string x1, .string x2, .string x3, .int .i64 0, .int .i64 0, .int .i64 0] (by refine ⟨?_, ?_, ?_, ?_, ?_, ?_, ?_, ?_, ?_, ?_, ?_, ?_, ?_, ?_, trivial⟩ <;> (first | with_reducible assumption | ((repeat' first | with_reducible (first | (go_at_call 16; refine (hasForm_a _ _).mono ?_; rintro e w4 ⟨rfl, rfl⟩) | assumption | refine cell_al _ ?_ | refine cell_eq _ ?_ | refine cell_ne _ ?_ ?_ | refine ex_set _ ?_ | refine ex_al _ ?_ | exact ⟨_, by assumption⟩) | (intro hh; injection hh with hh1 hh2; omega)); done) | go_simp)); have hfs9 := frees_calls hb6 [⟨w.heap.size, 0, none⟩, ⟨w.heap.size, 1, none⟩, ⟨w.heap.size, 2, none⟩, ⟨w.heap.size, 3, none⟩, ⟨w.heap.size, 4, none⟩, ⟨w.heap.size, 5, none⟩, ⟨w.heap.size, 6, none⟩, ⟨w1.heap.size, 0, none⟩, ⟨w1.heap.size, 1, none⟩, ⟨w1.heap.size, 2, none⟩, ⟨w1.heap.size, 3, none⟩, ⟨w1.heap.size, 4, none⟩, ⟨w1.heap.size, 5, none⟩, ⟨w1.heap.size, 6, none⟩] (by refine ⟨?_, ?_, ?_, ?_, ?_, ?_, ?_, ?_, ?_, ?_, ?_, ?_, ?_, ?_, trivial⟩ <;> first | with_reducible assumption | omega | (simp; omega) | (simp; done)) (by refine ⟨?_, ?_, ?_, ?_, ?_, ?_, ?_, ?_, ?_, ?_, ?_, ?_, ?_, ?_, trivial⟩ <;> (first | with_reducible assumption | ((repeat' first | with_reducible (first | (go_at_call 16; refine (hasForm_a _ _).mono ?_; rintro e w4 ⟨rfl, rfl⟩) | assumption | refine frz_al _ ?_ ?_ | refine frz_set _ ?_) | omega | (simp; omega)); done) | go_simp)); have hzs9 := blocks_calls hb6 [w.heap.size, w1.heap.size] (by refine ⟨?_, ?_, trivial⟩ <;> first | with_reducible assumption | omega | (simp; omega) | (simp; done)); (try clear c00 c01 c02 c03 c04 c05 c06 f00 f01 f02 f03 f04 f05 f06); (try clear c10 c11 c12 c13 c14 c15 c16 f10 f11 f12 f13 f14 f15 f16); obtain ⟨c00, c01, c02, c03, c04, c05, c06, c10, c11, c12, c13, c14, c15, c16, -⟩ := hcs9; obtain ⟨f00, f01, f02, f03, f04, f05, f06, f10, f11, f12, f13, f14, f15, f16, -⟩ := hfs9; obtain ⟨z0, z1, -⟩ := hzs9; have s6 := hb6.size) | (go_at_call 19; refine ((unhide HT) (by first | rfl | trivial) _ byGG).mono ?_; rintro e w7 ⟨rfl, hb7⟩; have hcs9 := cells_calls hb7 [⟨w.heap.size, 0, none⟩, ⟨w.heap.size, 1, none⟩, ⟨w.heap.size, 2, none⟩, ⟨w.heap.size, 3, none⟩, ⟨w.heap.size, 4, none⟩, ⟨w.heap.size, 5, none⟩, ⟨w.heap.size, 6, none⟩, ⟨w1.heap.size, 0, none⟩, ⟨w1.heap.size, 1, none⟩, ⟨w1.heap.size, 2, none⟩, ⟨w1.heap.size, 3, none⟩, ⟨w1.heap.size, 4, none⟩, ⟨w1.heap.size, 5, none⟩, ⟨w1.heap.size, 6, none⟩] [.int .i64 0, .string ⟨#[]⟩, .string ⟨#[]⟩, .string ⟨#[]⟩, .int .i64 0, .int .i64 0, .int .i64 0, .int .i64 k, .string x1, .string x2, .string x3, .int .i64 0, .int .i64 0, .int .i64 0] (by refine ⟨?_, ?_, ?_, ?_, ?_, ?_, ?_, ?_, ?_, ?_, ?_, ?_, ?_, ?_, trivial⟩ <;> (first | with_reducible assumption | ((repeat' first | with_reducible (first | (go_at_call 16; refine (hasForm_a _ _).mono ?_; rintro e w4 ⟨rfl, rfl⟩) | assumption | refine cell_al _ ?_ | refine cell_eq _ ?_ | refine cell_ne _ ?_ ?_ | refine ex_set _ ?_ | refine ex_al _ ?_ | exact ⟨_, by assumption⟩) | (intro hh; injection hh with hh1 hh2; omega)); done) | go_simp)); have hfs9 := frees_calls hb7 [⟨w.heap.size, 0, none⟩, ⟨w.heap.size, 1, none⟩, ⟨w.heap.size, 2, none⟩, ⟨w.heap.size, 3, none⟩, ⟨w.heap.size, 4, none⟩, ⟨w.heap.size, 5, none⟩, ⟨w.heap.size, 6, none⟩, ⟨w1.heap.size, 0, none⟩, ⟨w1.heap.size, 1, none⟩, ⟨w1.heap.size, 2, none⟩, ⟨w1.heap.size, 3, none⟩, ⟨w1.heap.size, 4, none⟩, ⟨w1.heap.size, 5, none⟩, ⟨w1.heap.size, 6, none⟩] (by refine ⟨?_, ?_, ?_, ?_, ?_, ?_, ?_, ?_, ?_, ?_, ?_, ?_, ?_, ?_, trivial⟩ <;> first | with_reducible assumption | omega | (simp; omega) | (simp; done)) (by refine ⟨?_, ?_, ?_, ?_, ?_, ?_, ?_, ?_, ?_, ?_, ?_, ?_, ?_, ?_, trivial⟩ <;> (first | with_reducible assumption | ((repeat' first | with_reducible (first | (go_at_call 16; refine (hasForm_a _ _).mono ?_; rintro e w4 ⟨rfl, rfl⟩) | assumption | refine frz_al _ ?_ ?_ | refine frz_set _ ?_) | omega | (simp; omega)); done) | go_simp)); have hzs9 := blocks_calls hb7 [w.heap.size, w1.heap.size] (by refine ⟨?_, ?_, trivial⟩ <;> first | with_reducible assumption | omega | (simp; omega) | (simp; done)); (try clear c00 c01 c02 c03 c04 c05 c06 f00 f01 f02 f03 f04 f05 f06); (try clear c10 c11 c12 c13 c14 c15 c16 f10 f11 f12 f13 f14 f15 f16); obtain ⟨c00, c01, c02, c03, c04, c05, c06, c10, c11, c12, c13, c14, c15, c16, -⟩ := hcs9; obtain ⟨f00, f01, f02, f03, f04, f05, f06, f10, f11, f12, f13, f14, f15, f16, -⟩ := hfs9; obtain ⟨z0, z1, -⟩ := hzs9; have s7 := hb7.size))
     refine bodyPost_ret (v := .tuple #[cmv cm0, .bool false]) (by simp [results, Tryz.results7, go_sem, cm0, tx, *]) rfl ?_
     rw [unhide HRET]
     exact ⟨rfl, by (repeat' first | with_reducible (first | (go_at_call 16; refine (hasForm_a _ _).mono ?_; rintro e w4 ⟨rfl, rfl⟩) | exact Below.refl _ _ | assumption | refine gr_alloc ?_ _ | refine below_drewN ?_ _ | refine below_drew ?_ | refine gr_call ?_ (by assumption) | refine Below.setCell ?_ ?_ _) | go_size | omega | (simp; omega))⟩
    ·have qt : (!(T.toList == s.toList)) = false := by rw [hte]; rfl
     go_wp2_with (first | (go_at_call 16; refine (hasForm_a _ _).mono ?_; rintro e w4 ⟨rfl, rfl⟩) | (go_at_call 18; refine ((unhide HI) _).mono ?_; rintro e w6 ⟨rfl, hb6⟩; have hcs9 := cells_calls hb6 [⟨w.heap.size, 0, none⟩, ⟨w.heap.size, 1, none⟩, ⟨w.heap.size, 2, none⟩, ⟨w.heap.size, 3, none⟩, ⟨w.heap.size, 4, none⟩, ⟨w.heap.size, 5, none⟩, ⟨w.heap.size, 6, none⟩, ⟨w1.heap.size, 0, none⟩, ⟨w1.heap.size, 1, none⟩, ⟨w1.heap.size, 2, none⟩, ⟨w1.heap.size, 3, none⟩, ⟨w1.heap.size, 4, none⟩, ⟨w1.heap.size, 5, none⟩, ⟨w1.heap.size, 6, none⟩] [.int .i64 0, .string ⟨#[]⟩, .string ⟨#[]⟩, .string ⟨#[]⟩, .int .i64 0, .int .i64 0, .int .i64 0, .int .i64 k, .string x1, .string x2, .string x3, .int .i64 0, .int .i64 0, .int .i64 0] (by refine ⟨?_, ?_, ?_, ?_, ?_, ?_, ?_, ?_, ?_, ?_, ?_, ?_, ?_, ?_, trivial⟩ <;> (first | with_reducible assumption | ((repeat' first | with_reducible (first | (go_at_call 16; refine (hasForm_a _ _).mono ?_; rintro e w4 ⟨rfl, rfl⟩) | assumption | refine cell_al _ ?_ | refine cell_eq _ ?_ | refine cell_ne _ ?_ ?_ | refine ex_set _ ?_ | refine ex_al _ ?_ | exact ⟨_, by assumption⟩) | (intro hh; injection hh with hh1 hh2; omega)); done) | go_simp)); have hfs9 := frees_calls hb6 [⟨w.heap.size, 0, none⟩, ⟨w.heap.size, 1, none⟩, ⟨w.heap.size, 2, none⟩, ⟨w.heap.size, 3, none⟩, ⟨w.heap.size, 4, none⟩, ⟨w.heap.size, 5, none⟩, ⟨w.heap.size, 6, none⟩, ⟨w1.heap.size, 0, none⟩, ⟨w1.heap.size, 1, none⟩, ⟨w1.heap.size, 2, none⟩, ⟨w1.heap.size, 3, none⟩, ⟨w1.heap.size, 4, none⟩, ⟨w1.heap.size, 5, none⟩, ⟨w1.heap.size, 6, none⟩] (by refine ⟨?_, ?_, ?_, ?_, ?_, ?_, ?_, ?_, ?_, ?_, ?_, ?_, ?_, ?_, trivial⟩ <;> first | with_reducible assumption | omega | (simp; omega) | (simp; done)) (by refine ⟨?_, ?_, ?_, ?_, ?_, ?_, ?_, ?_, ?_, ?_, ?_, ?_, ?_, ?_, trivial⟩ <;> (first | with_reducible assumption | ((repeat' first | with_reducible (first | (go_at_call 16; refine (hasForm_a _ _).mono ?_; rintro e w4 ⟨rfl, rfl⟩) | assumption | refine frz_al _ ?_ ?_ | refine frz_set _ ?_) | omega | (simp; omega)); done) | go_simp)); have hzs9 := blocks_calls hb6 [w.heap.size, w1.heap.size] (by refine ⟨?_, ?_, trivial⟩ <;> first | with_reducible assumption | omega | (simp; omega) | (simp; done)); (try clear c00 c01 c02 c03 c04 c05 c06 f00 f01 f02 f03 f04 f05 f06); (try clear c10 c11 c12 c13 c14 c15 c16 f10 f11 f12 f13 f14 f15 f16); obtain ⟨c00, c01, c02, c03, c04, c05, c06, c10, c11, c12, c13, c14, c15, c16, -⟩ := hcs9; obtain ⟨f00, f01, f02, f03, f04, f05, f06, f10, f11, f12, f13, f14, f15, f16, -⟩ := hfs9; obtain ⟨z0, z1, -⟩ := hzs9; have s6 := hb6.size) | (go_at_call 19; refine ((unhide HT) (by first | rfl | trivial) _ byGG).mono ?_; rintro e w7 ⟨rfl, hb7⟩; have hcs9 := cells_calls hb7 [⟨w.heap.size, 0, none⟩, ⟨w.heap.size, 1, none⟩, ⟨w.heap.size, 2, none⟩, ⟨w.heap.size, 3, none⟩, ⟨w.heap.size, 4, none⟩, ⟨w.heap.size, 5, none⟩, ⟨w.heap.size, 6, none⟩, ⟨w1.heap.size, 0, none⟩, ⟨w1.heap.size, 1, none⟩, ⟨w1.heap.size, 2, none⟩, ⟨w1.heap.size, 3, none⟩, ⟨w1.heap.size, 4, none⟩, ⟨w1.heap.size, 5, none⟩, ⟨w1.heap.size, 6, none⟩] [.int .i64 0, .string ⟨#[]⟩, .string ⟨#[]⟩, .string ⟨#[]⟩, .int .i64 0, .int .i64 0, .int .i64 0, .int .i64 k, .string x1, .string x2, .string x3, .int .i64 0, .int .i64 0, .int .i64 0] (by refine ⟨?_, ?_, ?_, ?_, ?_, ?_, ?_, ?_, ?_, ?_, ?_, ?_, ?_, ?_, trivial⟩ <;> (first | with_reducible assumption | ((repeat' first | with_reducible (first | (go_at_call 16; refine (hasForm_a _ _).mono ?_; rintro e w4 ⟨rfl, rfl⟩) | assumption | refine cell_al _ ?_ | refine cell_eq _ ?_ | refine cell_ne _ ?_ ?_ | refine ex_set _ ?_ | refine ex_al _ ?_ | exact ⟨_, by assumption⟩) | (intro hh; injection hh with hh1 hh2; omega)); done) | go_simp)); have hfs9 := frees_calls hb7 [⟨w.heap.size, 0, none⟩, ⟨w.heap.size, 1, none⟩, ⟨w.heap.size, 2, none⟩, ⟨w.heap.size, 3, none⟩, ⟨w.heap.size, 4, none⟩, ⟨w.heap.size, 5, none⟩, ⟨w.heap.size, 6, none⟩, ⟨w1.heap.size, 0, none⟩, ⟨w1.heap.size, 1, none⟩, ⟨w1.heap.size, 2, none⟩, ⟨w1.heap.size, 3, none⟩, ⟨w1.heap.size, 4, none⟩, ⟨w1.heap.size, 5, none⟩, ⟨w1.heap.size, 6, none⟩] (by refine ⟨?_, ?_, ?_, ?_, ?_, ?_, ?_, ?_, ?_, ?_, ?_, ?_, ?_, ?_, trivial⟩ <;> first | with_reducible assumption | omega | (simp; omega) | (simp; done)) (by refine ⟨?_, ?_, ?_, ?_, ?_, ?_, ?_, ?_, ?_, ?_, ?_, ?_, ?_, ?_, trivial⟩ <;> (first | with_reducible assumption | ((repeat' first | with_reducible (first | (go_at_call 16; refine (hasForm_a _ _).mono ?_; rintro e w4 ⟨rfl, rfl⟩) | assumption | refine frz_al _ ?_ ?_ | refine frz_set _ ?_) | omega | (simp; omega)); done) | go_simp)); have hzs9 := blocks_calls hb7 [w.heap.size, w1.heap.size] (by refine ⟨?_, ?_, trivial⟩ <;> first | with_reducible assumption | omega | (simp; omega) | (simp; done)); (try clear c00 c01 c02 c03 c04 c05 c06 f00 f01 f02 f03 f04 f05 f06); (try clear c10 c11 c12 c13 c14 c15 c16 f10 f11 f12 f13 f14 f15 f16); obtain ⟨c00, c01, c02, c03, c04, c05, c06, c10, c11, c12, c13, c14, c15, c16, -⟩ := hcs9; obtain ⟨f00, f01, f02, f03, f04, f05, f06, f10, f11, f12, f13, f14, f15, f16, -⟩ := hfs9; obtain ⟨z0, z1, -⟩ := hzs9; have s7 := hb7.size))
     have k09 : (((((((w7.setCell ⟨w.heap.size, 0, none⟩ (.int .i64 k)).setCell ⟨w.heap.size, 1, none⟩ (.string x1)).setCell ⟨w.heap.size, 2, none⟩ (.string x2)).setCell ⟨w.heap.size, 3, none⟩ (.string x3)).setCell ⟨w.heap.size, 4, none⟩ (.int .i64 0)).setCell ⟨w.heap.size, 5, none⟩ (.int .i64 0)).setCell ⟨w.heap.size, 6, none⟩ (.int .i64 0)).cell? ⟨w.heap.size, 0, none⟩ = some (.int .i64 k) := by (first | with_reducible assumption | ((repeat' first | with_reducible (first | (go_at_call 16; refine (hasForm_a _ _).mono ?_; rintro e w4 ⟨rfl, rfl⟩) | assumption | refine cell_al _ ?_ | refine cell_eq _ ?_ | refine cell_ne _ ?_ ?_ | refine ex_set _ ?_ | refine ex_al _ ?_ | exact ⟨_, by assumption⟩) | (intro hh; injection hh with hh1 hh2; omega)); done) | go_simp)
     have k19 : (((((((w7.setCell ⟨w.heap.size, 0, none⟩ (.int .i64 k)).setCell ⟨w.heap.size, 1, none⟩ (.string x1)).setCell ⟨w.heap.size, 2, none⟩ (.string x2)).setCell ⟨w.heap.size, 3, none⟩ (.string x3)).setCell ⟨w.heap.size, 4, none⟩ (.int .i64 0)).setCell ⟨w.heap.size, 5, none⟩ (.int .i64 0)).setCell ⟨w.heap.size, 6, none⟩ (.int .i64 0)).cell? ⟨w.heap.size, 1, none⟩ = some (.string x1) := by (first | with_reducible assumption | ((repeat' first | with_reducible (first | (go_at_call 16; refine (hasForm_a _ _).mono ?_; rintro e w4 ⟨rfl, rfl⟩) | assumption | refine cell_al _ ?_ | refine cell_eq _ ?_ | refine cell_ne _ ?_ ?_ | refine ex_set _ ?_ | refine ex_al _ ?_ | exact ⟨_, by assumption⟩) | (intro hh; injection hh with hh1 hh2; omega)); done) | go_simp)
     have k29 : (((((((w7.setCell ⟨w.heap.size, 0, none⟩ (.int .i64 k)).setCell ⟨w.heap.size, 1, none⟩ (.string x1)).setCell ⟨w.heap.size, 2, none⟩ (.string x2)).setCell ⟨w.heap.size, 3, none⟩ (.string x3)).setCell ⟨w.heap.size, 4, none⟩ (.int .i64 0)).setCell ⟨w.heap.size, 5, none⟩ (.int .i64 0)).setCell ⟨w.heap.size, 6, none⟩ (.int .i64 0)).cell? ⟨w.heap.size, 2, none⟩ = some (.string x2) := by (first | with_reducible assumption | ((repeat' first | with_reducible (first | (go_at_call 16; refine (hasForm_a _ _).mono ?_; rintro e w4 ⟨rfl, rfl⟩) | assumption | refine cell_al _ ?_ | refine cell_eq _ ?_ | refine cell_ne _ ?_ ?_ | refine ex_set _ ?_ | refine ex_al _ ?_ | exact ⟨_, by assumption⟩) | (intro hh; injection hh with hh1 hh2; omega)); done) | go_simp)
     have k39 : (((((((w7.setCell ⟨w.heap.size, 0, none⟩ (.int .i64 k)).setCell ⟨w.heap.size, 1, none⟩ (.string x1)).setCell ⟨w.heap.size, 2, none⟩ (.string x2)).setCell ⟨w.heap.size, 3, none⟩ (.string x3)).setCell ⟨w.heap.size, 4, none⟩ (.int .i64 0)).setCell ⟨w.heap.size, 5, none⟩ (.int .i64 0)).setCell ⟨w.heap.size, 6, none⟩ (.int .i64 0)).cell? ⟨w.heap.size, 3, none⟩ = some (.string x3) := by (first | with_reducible assumption | ((repeat' first | with_reducible (first | (go_at_call 16; refine (hasForm_a _ _).mono ?_; rintro e w4 ⟨rfl, rfl⟩) | assumption | refine cell_al _ ?_ | refine cell_eq _ ?_ | refine cell_ne _ ?_ ?_ | refine ex_set _ ?_ | refine ex_al _ ?_ | exact ⟨_, by assumption⟩) | (intro hh; injection hh with hh1 hh2; omega)); done) | go_simp)
     have k49 : (((((((w7.setCell ⟨w.heap.size, 0, none⟩ (.int .i64 k)).setCell ⟨w.heap.size, 1, none⟩ (.string x1)).setCell ⟨w.heap.size, 2, none⟩ (.string x2)).setCell ⟨w.heap.size, 3, none⟩ (.string x3)).setCell ⟨w.heap.size, 4, none⟩ (.int .i64 0)).setCell ⟨w.heap.size, 5, none⟩ (.int .i64 0)).setCell ⟨w.heap.size, 6, none⟩ (.int .i64 0)).cell? ⟨w.heap.size, 4, none⟩ = some (.int .i64 0) := by (first | with_reducible assumption | ((repeat' first | with_reducible (first | (go_at_call 16; refine (hasForm_a _ _).mono ?_; rintro e w4 ⟨rfl, rfl⟩) | assumption | refine cell_al _ ?_ | refine cell_eq _ ?_ | refine cell_ne _ ?_ ?_ | refine ex_set _ ?_ | refine ex_al _ ?_ | exact ⟨_, by assumption⟩) | (intro hh; injection hh with hh1 hh2; omega)); done) | go_simp)
     have k59 : (((((((w7.setCell ⟨w.heap.size, 0, none⟩ (.int .i64 k)).setCell ⟨w.heap.size, 1, none⟩ (.string x1)).setCell ⟨w.heap.size, 2, none⟩ (.string x2)).setCell ⟨w.heap.size, 3, none⟩ (.string x3)).setCell ⟨w.heap.size, 4, none⟩ (.int .i64 0)).setCell ⟨w.heap.size, 5, none⟩ (.int .i64 0)).setCell ⟨w.heap.size, 6, none⟩ (.int .i64 0)).cell? ⟨w.heap.size, 5, none⟩ = some (.int .i64 0) := by (first | with_reducible assumption | ((repeat' first | with_reducible (first | (go_at_call 16; refine (hasForm_a _ _).mono ?_; rintro e w4 ⟨rfl, rfl⟩) | assumption | refine cell_al _ ?_ | refine cell_eq _ ?_ | refine cell_ne _ ?_ ?_ | refine ex_set _ ?_ | refine ex_al _ ?_ | exact ⟨_, by assumption⟩) | (intro hh; injection hh with hh1 hh2; omega)); done) | go_simp)
     have k69 : (((((((w7.setCell ⟨w.heap.size, 0, none⟩ (.int .i64 k)).setCell ⟨w.heap.size, 1, none⟩ (.string x1)).setCell ⟨w.heap.size, 2, none⟩ (.string x2)).setCell ⟨w.heap.size, 3, none⟩ (.string x3)).setCell ⟨w.heap.size, 4, none⟩ (.int .i64 0)).setCell ⟨w.heap.size, 5, none⟩ (.int .i64 0)).setCell ⟨w.heap.size, 6, none⟩ (.int .i64 0)).cell? ⟨w.heap.size, 6, none⟩ = some (.int .i64 0) := by (first | with_reducible assumption | ((repeat' first | with_reducible (first | (go_at_call 16; refine (hasForm_a _ _).mono ?_; rintro e w4 ⟨rfl, rfl⟩) | assumption | refine cell_al _ ?_ | refine cell_eq _ ?_ | refine cell_ne _ ?_ ?_ | refine ex_set _ ?_ | refine ex_al _ ?_ | exact ⟨_, by assumption⟩) | (intro hh; injection hh with hh1 hh2; omega)); done) | go_simp)
     refine bodyPost_ret (v := .tuple #[cmv (⟨k, x1, x2, x3, (0, 0, 0)⟩ : Cmd), .bool true]) (by first | (simp [results, Tryz.results7, go_sem, k09, k19, k29, k39, k49, k59, k69]; done) | (simp [results, Tryz.results7, go_sem, k09, k19, k29, k39, k49, k59, k69]; rfl)) rfl ?_
     rw [unhide HRET]
     exact ⟨rfl, by (repeat' first | with_reducible (first | (go_at_call 16; refine (hasForm_a _ _).mono ?_; rintro e w4 ⟨rfl, rfl⟩) | exact Below.refl _ _ | assumption | refine gr_alloc ?_ _ | refine below_drewN ?_ _ | refine below_drew ?_ | refine gr_call ?_ (by assumption) | refine Below.setCell ?_ ?_ _) | go_size | omega | (simp; omega))⟩
end Go.Proofs.YtfoofbcmaljmoaaGreatDoor
