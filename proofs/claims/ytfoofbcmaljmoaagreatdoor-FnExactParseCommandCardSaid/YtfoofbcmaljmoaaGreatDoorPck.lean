/- ParseCommand, impl. -/
import Derived.Test.YtfoofbcmaljmoaaGreatDoorPct
import Derived.Deep.RegionHeld3
namespace Go.Proofs.YtfoofbcmaljmoaaGreatDoor
open Go.RowKit
set_option linter.unusedVariables false
set_option linter.unusedSimpArgs false
attribute [local go_sem] q2 q3 q4 q5 q6 q7 q8 q9 q10 q11 q12

def foI9 (ws : List ByteArray) (k : Int) (x1 : ByteArray) (j : Nat) : Cmd := ((ws.drop 2).take j).foldl (stI k) ⟨k, x1, tx [], tx [], (0, 0, 0)⟩
theorem fo_next {ws : List ByteArray} {k : Int} {x1 : ByteArray} {j : Nat} (h : j + 2 < ws.length) : foI9 ws k x1 (j + 1) = stI k (foI9 ws k x1 j) (ws.getD (j + 2) ⟨#[]⟩) := by
 unfold foI9
 have hl : j < (ws.drop 2).length := by rw [List.length_drop]; omega
 rw [List.take_succ_eq_append_getElem hl, List.foldl_append]
 have : (ws.drop 2)[j] = ws.getD (j + 2) ⟨#[]⟩ := by
  rw [List.getElem_drop, List.getD_eq_getElem?_getD, List.getElem?_eq_getElem h]
  simp only [Option.getD_some]
  congr 1; omega
 rw [this]; rfl
set_option maxRecDepth 100000 in
set_option maxHeartbeats 4000000 in
theorem pc_3 (s : ByteArray) (ws : List ByteArray) (n : Nat) (x0 x1 : ByteArray) (k : Int) (C : Cmd) (gd te : Bool) (T : ByteArray) (w : World) (hn : Hid (ws.length = n)) (hmb : n ≤ 8000000) (hn2 : 2 ≤ n)
  (h0 : Hid (ws.getD 0 ⟨#[]⟩ = x0)) (h1 : Hid (ws.getD 1 ⟨#[]⟩ = x1)) (hk : Hid (kdV x0 = k)) (hkb : -10 ≤ k ∧ k ≤ 10) (hx0 : x0.size ≤ 9000000) (hC : Hid (foI9 ws k x1 (n - 2) = C))
  (HS : Hid (∀ W, Below w.heap.size w W → Calls Tryz.prog 8 #[.string s, .string (tx [32])] W fun e w' => e = .returned (.slice (some ⟨W.heap.size, 0, none⟩) n n) ∧ SL w' W.heap.size (.slice (some ⟨W.heap.size, 0, none⟩) n n) ws ∧ Below W.heap.size W w'))
  (HP : Hid (∀ j W, j < n → Below w.heap.size w W → Calls Tryz.prog 9 #[.string (ws.getD j ⟨#[]⟩)] W (RetPF W (pfV (ws.getD j ⟨#[]⟩)) (pfB (ws.getD j ⟨#[]⟩)))))
  (HI : Hid (∀ W, Calls Tryz.prog 10 #[cmv C] W fun e w' => e = .returned (.bool gd) ∧ Below W.heap.size W w'))
  (HT : Hid (gd = true → ∀ W, Below w.heap.size w W → Calls Tryz.prog 11 #[cmv C] W fun e w' => e = .returned (.string T) ∧ Below W.heap.size W w'))
  (hte : (T.toList == s.toList) = te) :
  Calls Tryz.prog 5 #[.string s] w (if gd && te then RetCm w C true else RetCm w cm0 false) := by
 obtain ⟨RET, hRET⟩ : ∃ P : Ending → World → Prop, P = (if gd && te then RetCm w C true else RetCm w cm0 false) := ⟨_, rfl⟩
 rw [← hRET]
 have HRET := hide hRET
 clear hRET
 have hmm := @run_makeMap Tryz.prog
 go_enter Tryz.func5, Tryz.ntmps5
 go_wp2_with fail
 refine ((unhide HS) _ byGG).mono ?_
 rintro e w1 ⟨rfl, hl1, hb1⟩
 have hcs9 := cells_calls hb1 [⟨w.heap.size, 0, none⟩, ⟨w.heap.size, 1, none⟩, ⟨w.heap.size, 2, none⟩, ⟨w.heap.size, 3, none⟩, ⟨w.heap.size, 4, none⟩, ⟨w.heap.size, 5, none⟩, ⟨w.heap.size, 6, none⟩] [.int .i64 0, .string ⟨#[]⟩, .string ⟨#[]⟩, .string ⟨#[]⟩, .int .i64 0, .int .i64 0, .int .i64 0] (by refine ⟨?_, ?_, ?_, ?_, ?_, ?_, ?_, trivial⟩ <;> exact byCT)
 have hfs9 := frees_calls hb1 [⟨w.heap.size, 0, none⟩, ⟨w.heap.size, 1, none⟩, ⟨w.heap.size, 2, none⟩, ⟨w.heap.size, 3, none⟩, ⟨w.heap.size, 4, none⟩, ⟨w.heap.size, 5, none⟩, ⟨w.heap.size, 6, none⟩] (by refine ⟨?_, ?_, ?_, ?_, ?_, ?_, ?_, trivial⟩ <;> first | with_reducible assumption | omega | (simp; omega) | (simp; done)) (by refine ⟨?_, ?_, ?_, ?_, ?_, ?_, ?_, trivial⟩ <;> exact byFT)
 have hzs9 := blocks_calls hb1 [w.heap.size] (by refine ⟨?_, trivial⟩ <;> first | with_reducible assumption | omega | (simp; omega) | (simp; done))
 try clear c00 c01 c02 c03 c04 c05 c06 f00 f01 f02 f03 f04 f05 f06
 obtain ⟨c00, c01, c02, c03, c04, c05, c06, -⟩ := hcs9
 obtain ⟨f00, f01, f02, f03, f04, f05, f06, -⟩ := hfs9
 obtain ⟨z0, -⟩ := hzs9
 have s1 := hb1.size
 have hst := hl1.strs.2
 have sg : ∀ j, j < n → w1.cell? ⟨w.heap.size + 1, j, none⟩ = some (.string (ws.getD j ⟨#[]⟩)) := by
  intro j hj
  obtain ⟨g, hg, _, hq⟩ := StrsAt.cell hst (show j < ws.length by rw [unhide hn]; exact hj)
  injection hg with hg
  injection hg with hg
  subst hg
  simpa using hq
 obtain ⟨m1, m2, m3, m4, m5, r1, r2, r3, r4, r5, hms, hbm⟩ := ms_all w1
 have hcs9 := cells_calls hbm [⟨w.heap.size, 0, none⟩, ⟨w.heap.size, 1, none⟩, ⟨w.heap.size, 2, none⟩, ⟨w.heap.size, 3, none⟩, ⟨w.heap.size, 4, none⟩, ⟨w.heap.size, 5, none⟩, ⟨w.heap.size, 6, none⟩] [.int .i64 0, .string ⟨#[]⟩, .string ⟨#[]⟩, .string ⟨#[]⟩, .int .i64 0, .int .i64 0, .int .i64 0] (by refine ⟨?_, ?_, ?_, ?_, ?_, ?_, ?_, trivial⟩ <;> exact byCT)
 have hfs9 := frees_calls hbm [⟨w.heap.size, 0, none⟩, ⟨w.heap.size, 1, none⟩, ⟨w.heap.size, 2, none⟩, ⟨w.heap.size, 3, none⟩, ⟨w.heap.size, 4, none⟩, ⟨w.heap.size, 5, none⟩, ⟨w.heap.size, 6, none⟩] (by refine ⟨?_, ?_, ?_, ?_, ?_, ?_, ?_, trivial⟩ <;> first | with_reducible assumption | omega | (simp; omega) | (simp; done)) (by refine ⟨?_, ?_, ?_, ?_, ?_, ?_, ?_, trivial⟩ <;> exact byFT)
 have hzs9 := blocks_calls hbm [w.heap.size] (by refine ⟨?_, trivial⟩ <;> first | with_reducible assumption | omega | (simp; omega) | (simp; done))
 try clear c00 c01 c02 c03 c04 c05 c06 f00 f01 f02 f03 f04 f05 f06
 obtain ⟨c00, c01, c02, c03, c04, c05, c06, -⟩ := hcs9
 obtain ⟨f00, f01, f02, f03, f04, f05, f06, -⟩ := hfs9
 obtain ⟨z0, -⟩ := hzs9
 have sm := hbm.size
 have gB : Below w.heap.size w w1 := byGG
 have gM : Below w.heap.size w m5 := gB.trans (hbm.mono gB.size)
 have SG : Hid (∀ j, j < n → m5.cell? ⟨w.heap.size + 1, j, none⟩ = some (.string (ws.getD j ⟨#[]⟩))) := hide fun j hj => cell_call hbm (sg j hj)
 have d0 : m5.cell? ⟨w.heap.size + 1, 0, none⟩ = some (.string x0) := by rw [← unhide h0]; exact (unhide SG) 0 (by omega)
 have d1 : m5.cell? ⟨w.heap.size + 1, 1, none⟩ = some (.string x1) := by rw [← unhide h1]; exact (unhide SG) 1 (by omega)
 have zg : w.heap.size + 1 < m5.heap.size := World.block_lt_of_cell? _ _ d0
 have HL : Hid (∀ W, Below m5.heap.size m5 W → (Instr.lookup 32 (.map (some w1.heap.size)) (.string x0) false).run Tryz.prog W = .ok (.int .i64 k) W) := hide fun W hb => by rw [← unhide hk]; exact ms_look (ms_below hms hb) hx0
 have q2 : ¬ (n : Int) < 2 := by omega
 have q3 : (0 : Int) < (n : Int) := by omega
 have q4 : (1 : Int) < (n : Int) := by omega
 have q5 : (2 : Int) ≤ (n : Int) := by omega
 have q6 : 0 < n := by omega
 have q7 : 1 < n := by omega
 clear sg hst hl1 hms hbm hb1 HS
 go_wp2_with fail
 go_region_held3 (fun W => W.cell? ⟨w.heap.size + 1, 0, none⟩ = some (.string x0) ∧ W.cell? ⟨w.heap.size + 1, 1, none⟩ = some (.string x1) ∧ (Instr.lookup 32 (.map (some w1.heap.size)) (.string x0) false).run Tryz.prog W = .ok (.int .i64 k) W) (first | exact ⟨d0, d1, (unhide HL) _ byGG⟩ | exact ⟨by go_simp, by go_simp, (unhide HL) _ byGG⟩) (fail)
 all_goals
  have zB : w.heap.size < m5.heap.size := by omega
  clear r1 r2 r3 r4 r5 hmm HL d0 d1
  obtain ⟨Bc, hBc⟩ : ∃ B, m5.heap.size = B := ⟨_, rfl⟩
  have HBC := hide hBc
  clear hBc
  rcases Nat.lt_or_ge 2 n with p3 | p3
  ·have p4 : (2 : Int) < (n : Int) := by omega
   have p5 : ¬ n = 2 := by omega
   have hfrz : ∀ o j, j < 7 → ((m5.alloc (.cells o 25)).drew).frozen? ⟨m5.heap.size, j, none⟩ = false := fun o j _ => by go_simp
   clear hfrz
   go_wp2_with fail
   generalize hm : n - 2 = m at *
   have hBc := unhide HBC
   have zB2 : w.heap.size < Bc := by omega
   have zG2 : w.heap.size + 1 < Bc := by omega
   rw [hBc]
   go_loopw [29] (fun is wr => ∃ (j : Nat) (a b : ByteArray) (f0 f1 f2 : Int), is = .int .i64 (j : Int) ∧ j ≤ m ∧ Hid (foI9 ws k x1 j = ⟨k, x1, a, b, (f0, f1, f2)⟩) ∧ wr.cell? ⟨Bc, 0, none⟩ = some (.int .i64 k) ∧ wr.cell? ⟨Bc, 1, none⟩ = some (.string x1) ∧ wr.cell? ⟨Bc, 2, none⟩ = some (.string a) ∧ wr.cell? ⟨Bc, 3, none⟩ = some (.string b) ∧ wr.cell? ⟨Bc, 4, none⟩ = some (.int .i64 f0) ∧ wr.cell? ⟨Bc, 5, none⟩ = some (.int .i64 f1) ∧ wr.cell? ⟨Bc, 6, none⟩ = some (.int .i64 f2) ∧ wr.frozen? ⟨Bc, 0, none⟩ = false ∧ wr.frozen? ⟨Bc, 1, none⟩ = false ∧ wr.frozen? ⟨Bc, 2, none⟩ = false ∧ wr.frozen? ⟨Bc, 3, none⟩ = false ∧ wr.frozen? ⟨Bc, 4, none⟩ = false ∧ wr.frozen? ⟨Bc, 5, none⟩ = false ∧ wr.frozen? ⟨Bc, 6, none⟩ = false ∧ Hid (wr.heap[w.heap.size]? = m5.heap[w.heap.size]?) ∧ Hid (wr.heap[w.heap.size + 1]? = m5.heap[w.heap.size + 1]?) ∧ Hid (Below w.heap.size w wr) ∧ Bc < wr.heap.size) (fun is _ => m - (intOf is).toNat)
   case atStart =>
    subst hBc
    exact ⟨0, ⟨#[]⟩, ⟨#[]⟩, 0, 0, 0, rfl, by omega, hide rfl, by go_simp, by go_simp, by go_simp, by go_simp, by go_simp, by go_simp, by go_simp, by go_simp, by go_simp, by go_simp, by go_simp, by go_simp, by go_simp, by go_simp, hide (heap_alloc_old _ _ (by omega)), hide (heap_alloc_old _ _ (by omega)), hide byGG, by simp⟩
   case round =>
    obtain ⟨C0, hC0⟩ : ∃ P : Prop, P = (m5.cell? ⟨w.heap.size, 0, none⟩ = some (.int .i64 0) ∧ m5.cell? ⟨w.heap.size, 1, none⟩ = some (.string ⟨#[]⟩) ∧ m5.cell? ⟨w.heap.size, 2, none⟩ = some (.string ⟨#[]⟩) ∧ m5.cell? ⟨w.heap.size, 3, none⟩ = some (.string ⟨#[]⟩) ∧ m5.cell? ⟨w.heap.size, 4, none⟩ = some (.int .i64 0) ∧ m5.cell? ⟨w.heap.size, 5, none⟩ = some (.int .i64 0) ∧ m5.cell? ⟨w.heap.size, 6, none⟩ = some (.int .i64 0)) := ⟨_, rfl⟩
    obtain ⟨C1, hC1⟩ : ∃ P : Prop, P = (m5.frozen? ⟨w.heap.size, 0, none⟩ = false ∧ m5.frozen? ⟨w.heap.size, 1, none⟩ = false ∧ m5.frozen? ⟨w.heap.size, 2, none⟩ = false ∧ m5.frozen? ⟨w.heap.size, 3, none⟩ = false ∧ m5.frozen? ⟨w.heap.size, 4, none⟩ = false ∧ m5.frozen? ⟨w.heap.size, 5, none⟩ = false ∧ m5.frozen? ⟨w.heap.size, 6, none⟩ = false) := ⟨_, rfl⟩
    have HC0 : Hid C0 := hide (by rw [hC0]; exact ⟨c00, c01, c02, c03, c04, c05, c06⟩)
    have HC1 : Hid C1 := hide (by rw [hC1]; exact ⟨f00, f01, f02, f03, f04, f05, f06⟩)
    clear c00 c01 c02 c03 c04 c05 c06 f00 f01 f02 f03 f04 f05 f06 hBc
    obtain ⟨j, a, b, f0, f1, f2, rfl, hj, hfo, c10, c11, c12, c13, c14, c15, c16, f10, f11, f12, f13, f14, f15, f16, eB, eG, hbw, hBw⟩ := hrel
    obtain ⟨wl, rfl⟩ : ∃ wl : World, wl = wr := ⟨_, rfl⟩
    have gW := unhide hbw
    by_cases q : j < m
    ·have hci : (j : Int) < (m : Int) := by omega
     have dw0 := cell_hq (unhide eG) ((unhide SG) (j + 2) (by omega))
     rw [show j + 2 = 2 + j by omega] at dw0
     have NX0 := fo_next (k := k) (x1 := x1) (show j + 2 < ws.length by rw [unhide hn]; omega)
     rw [show j + 2 = 2 + j by omega, unhide hfo] at NX0
     have hy := (unhide HP) (2 + j)
     obtain ⟨y, hyy⟩ : ∃ y, ws.getD (2 + j) ⟨#[]⟩ = y := ⟨_, rfl⟩
     rw [hyy] at dw0 NX0 hy
     by_cases k1 : k = 1 ∨ k = 5
     ·obtain ⟨⟨g0, g1, g2⟩, hF⟩ : ∃ F, pfV y = F := ⟨_, rfl⟩
      obtain ⟨ok9, hok9⟩ : ∃ F, pfB y = F := ⟨_, rfl⟩
      have NX : Hid (foI9 ws k x1 (j + 1) = ⟨k, x1, a, b, (g0, g1, g2)⟩) := hide (by rw [NX0]; unfold stI; rw [if_pos k1, hF])
      have hy2 := fun W hb => hy W (by omega) hb
      unfold RetPF at hy2
      rw [hF, hok9] at hy2
      have HY := hide hy2
      clear hy hy2 NX0 hyy hF hok9
      rcases k1 with rfl | rfl
      ·go_wp2_with fail
       refine ((unhide HY) _ byGG).mono ?_
       rintro e w2 ⟨rfl, hb2⟩
       have hcs9 := cells_calls hb2 [⟨Bc, 0, none⟩, ⟨Bc, 1, none⟩, ⟨Bc, 2, none⟩, ⟨Bc, 3, none⟩, ⟨Bc, 4, none⟩, ⟨Bc, 5, none⟩, ⟨Bc, 6, none⟩] [.int .i64 1, .string x1, .string a, .string b, .int .i64 f0, .int .i64 f1, .int .i64 f2] (by refine ⟨?_, ?_, ?_, ?_, ?_, ?_, ?_, trivial⟩ <;> exact byCT)
       have hfs9 := frees_calls hb2 [⟨Bc, 0, none⟩, ⟨Bc, 1, none⟩, ⟨Bc, 2, none⟩, ⟨Bc, 3, none⟩, ⟨Bc, 4, none⟩, ⟨Bc, 5, none⟩, ⟨Bc, 6, none⟩] (by refine ⟨?_, ?_, ?_, ?_, ?_, ?_, ?_, trivial⟩ <;> first | with_reducible assumption | omega | (simp; omega) | (simp; done)) (by refine ⟨?_, ?_, ?_, ?_, ?_, ?_, ?_, trivial⟩ <;> exact byFT)
       have hzs9 := blocks_calls hb2 [Bc] (by refine ⟨?_, trivial⟩ <;> first | with_reducible assumption | omega | (simp; omega) | (simp; done))
       try clear c00 c01 c02 c03 c04 c05 c06 f00 f01 f02 f03 f04 f05 f06
       obtain ⟨c00, c01, c02, c03, c04, c05, c06, -⟩ := hcs9
       obtain ⟨f00, f01, f02, f03, f04, f05, f06, -⟩ := hfs9
       obtain ⟨z0, -⟩ := hzs9
       have s2 := hb2.size
       go_wp2_with fail
       go_roundw
       case rel => exact ⟨j + 1, a, b, g0, g1, g2, by first | rfl | go_num, by omega, NX, byCT, byCT, byCT, byCT, byCT, byCT, byCT, byFT, byFT, byFT, byFT, byFT, byFT, byFT, hide ((Below.heap_setCell _ _ _ _ (show w.heap.size ≠ Bc by omega)).trans ((Below.heap_setCell _ _ _ _ (show w.heap.size ≠ Bc by omega)).trans ((Below.heap_setCell _ _ _ _ (show w.heap.size ≠ Bc by omega)).trans ((hb2.block _ (by omega)).trans (unhide eB))))), hide ((Below.heap_setCell _ _ _ _ (show w.heap.size + 1 ≠ Bc by omega)).trans ((Below.heap_setCell _ _ _ _ (show w.heap.size + 1 ≠ Bc by omega)).trans ((Below.heap_setCell _ _ _ _ (show w.heap.size + 1 ≠ Bc by omega)).trans ((hb2.block _ (by omega)).trans (unhide eG))))), hide byGG, by simp [World.setCell]; omega⟩
       case measure => simp [intOf]; omega
      ·go_wp2_with fail
       refine ((unhide HY) _ byGG).mono ?_
       rintro e w2 ⟨rfl, hb2⟩
       have hcs9 := cells_calls hb2 [⟨Bc, 0, none⟩, ⟨Bc, 1, none⟩, ⟨Bc, 2, none⟩, ⟨Bc, 3, none⟩, ⟨Bc, 4, none⟩, ⟨Bc, 5, none⟩, ⟨Bc, 6, none⟩] [.int .i64 5, .string x1, .string a, .string b, .int .i64 f0, .int .i64 f1, .int .i64 f2] (by refine ⟨?_, ?_, ?_, ?_, ?_, ?_, ?_, trivial⟩ <;> exact byCT)
       have hfs9 := frees_calls hb2 [⟨Bc, 0, none⟩, ⟨Bc, 1, none⟩, ⟨Bc, 2, none⟩, ⟨Bc, 3, none⟩, ⟨Bc, 4, none⟩, ⟨Bc, 5, none⟩, ⟨Bc, 6, none⟩] (by refine ⟨?_, ?_, ?_, ?_, ?_, ?_, ?_, trivial⟩ <;> first | with_reducible assumption | omega | (simp; omega) | (simp; done)) (by refine ⟨?_, ?_, ?_, ?_, ?_, ?_, ?_, trivial⟩ <;> exact byFT)
       have hzs9 := blocks_calls hb2 [Bc] (by refine ⟨?_, trivial⟩ <;> first | with_reducible assumption | omega | (simp; omega) | (simp; done))
       try clear c00 c01 c02 c03 c04 c05 c06 f00 f01 f02 f03 f04 f05 f06
       obtain ⟨c00, c01, c02, c03, c04, c05, c06, -⟩ := hcs9
       obtain ⟨f00, f01, f02, f03, f04, f05, f06, -⟩ := hfs9
       obtain ⟨z0, -⟩ := hzs9
       have s2 := hb2.size
       go_wp2_with fail
       go_roundw
       case rel => exact ⟨j + 1, a, b, g0, g1, g2, by first | rfl | go_num, by omega, NX, byCT, byCT, byCT, byCT, byCT, byCT, byCT, byFT, byFT, byFT, byFT, byFT, byFT, byFT, hide ((Below.heap_setCell _ _ _ _ (show w.heap.size ≠ Bc by omega)).trans ((Below.heap_setCell _ _ _ _ (show w.heap.size ≠ Bc by omega)).trans ((Below.heap_setCell _ _ _ _ (show w.heap.size ≠ Bc by omega)).trans ((hb2.block _ (by omega)).trans (unhide eB))))), hide ((Below.heap_setCell _ _ _ _ (show w.heap.size + 1 ≠ Bc by omega)).trans ((Below.heap_setCell _ _ _ _ (show w.heap.size + 1 ≠ Bc by omega)).trans ((Below.heap_setCell _ _ _ _ (show w.heap.size + 1 ≠ Bc by omega)).trans ((hb2.block _ (by omega)).trans (unhide eG))))), hide byGG, by simp [World.setCell]; omega⟩
       case measure => simp [intOf]; omega
     ·have k2 : (k == 1) = false := by simp; omega
      have k3 : (k == 5) = false := by simp; omega
      have hkk : ¬ (k = 1 ∨ k = 5) := k1
      have k4 : ¬ k = 1 := fun h => k1 (.inl h)
      have k5 : ¬ k = 5 := fun h => k1 (.inr h)
      clear hy
      by_cases ea : a.toList = []
      ·have NX : Hid (foI9 ws k x1 (j + 1) = ⟨k, x1, y, b, (f0, f1, f2)⟩) := hide (by rw [NX0]; unfold stI; rw [if_neg hkk, if_pos ea])
       have ea2 : (a.toList == []) = true := by rw [ea]; rfl
       clear NX0 hyy k1 hkk
       go_wp2_with fail
       go_roundw
       case rel => exact ⟨j + 1, y, b, f0, f1, f2, by first | rfl | go_num, by omega, NX, byCT, byCT, byCT, byCT, byCT, byCT, byCT, byFT, byFT, byFT, byFT, byFT, byFT, byFT, hide ((Below.heap_setCell _ _ _ _ (show w.heap.size ≠ Bc by omega)).trans (unhide eB)), hide ((Below.heap_setCell _ _ _ _ (show w.heap.size + 1 ≠ Bc by omega)).trans (unhide eG)), hide byGG, by simp [World.setCell]; omega⟩
       case measure => simp [intOf]; omega
      ·have NX : Hid (foI9 ws k x1 (j + 1) = ⟨k, x1, a, y, (f0, f1, f2)⟩) := hide (by rw [NX0]; unfold stI; rw [if_neg hkk, if_neg ea])
       have ea2 : (a.toList == []) = false := by
        cases hh : a.toList with
        | nil => exact absurd hh ea
        | cons x l => rfl
       clear NX0 hyy k1 hkk
       go_wp2_with fail
       go_roundw
       case rel => exact ⟨j + 1, a, y, f0, f1, f2, by first | rfl | go_num, by omega, NX, byCT, byCT, byCT, byCT, byCT, byCT, byCT, byFT, byFT, byFT, byFT, byFT, byFT, byFT, hide ((Below.heap_setCell _ _ _ _ (show w.heap.size ≠ Bc by omega)).trans (unhide eB)), hide ((Below.heap_setCell _ _ _ _ (show w.heap.size + 1 ≠ Bc by omega)).trans (unhide eG)), hide byGG, by simp [World.setCell]; omega⟩
       case measure => simp [intOf]; omega
    ·obtain rfl : j = m := by omega
     have hci : ¬ (j : Int) < (j : Int) := by omega
     have hC2 := (unhide hfo).symm.trans (unhide hC)
     subst hC2
     have hc9 := unhide HC0
     have hf9 := unhide HC1
     rw [hC0] at hc9
     rw [hC1] at hf9
     obtain ⟨c00, c01, c02, c03, c04, c05, c06⟩ := hc9
     obtain ⟨f00, f01, f02, f03, f04, f05, f06⟩ := hf9
     replace c00 := cell_hq (unhide eB) c00
     replace c01 := cell_hq (unhide eB) c01
     replace c02 := cell_hq (unhide eB) c02
     replace c03 := cell_hq (unhide eB) c03
     replace c04 := cell_hq (unhide eB) c04
     replace c05 := cell_hq (unhide eB) c05
     replace c06 := cell_hq (unhide eB) c06
     replace f00 := frz_hq (unhide eB) f00
     replace f01 := frz_hq (unhide eB) f01
     replace f02 := frz_hq (unhide eB) f02
     replace f03 := frz_hq (unhide eB) f03
     replace f04 := frz_hq (unhide eB) f04
     replace f05 := frz_hq (unhide eB) f05
     replace f06 := frz_hq (unhide eB) f06
     clear hC0 hC1 HC0 HC1 hfo hC eB eG SG HP
     cases gd
     ·go_wp2_with (first | (go_at_call 10; refine ((unhide HI) _).mono ?_; rintro e w6 ⟨rfl, hb6⟩; have hcs9 := cells_calls hb6 [⟨w.heap.size, 0, none⟩, ⟨w.heap.size, 1, none⟩, ⟨w.heap.size, 2, none⟩, ⟨w.heap.size, 3, none⟩, ⟨w.heap.size, 4, none⟩, ⟨w.heap.size, 5, none⟩, ⟨w.heap.size, 6, none⟩, ⟨Bc, 0, none⟩, ⟨Bc, 1, none⟩, ⟨Bc, 2, none⟩, ⟨Bc, 3, none⟩, ⟨Bc, 4, none⟩, ⟨Bc, 5, none⟩, ⟨Bc, 6, none⟩] [.int .i64 0, .string ⟨#[]⟩, .string ⟨#[]⟩, .string ⟨#[]⟩, .int .i64 0, .int .i64 0, .int .i64 0, .int .i64 k, .string x1, .string a, .string b, .int .i64 f0, .int .i64 f1, .int .i64 f2] (by refine ⟨?_, ?_, ?_, ?_, ?_, ?_, ?_, ?_, ?_, ?_, ?_, ?_, ?_, ?_, trivial⟩ <;> exact byCT); have hfs9 := frees_calls hb6 [⟨w.heap.size, 0, none⟩, ⟨w.heap.size, 1, none⟩, ⟨w.heap.size, 2, none⟩, ⟨w.heap.size, 3, none⟩, ⟨w.heap.size, 4, none⟩, ⟨w.heap.size, 5, none⟩, ⟨w.heap.size, 6, none⟩, ⟨Bc, 0, none⟩, ⟨Bc, 1, none⟩, ⟨Bc, 2, none⟩, ⟨Bc, 3, none⟩, ⟨Bc, 4, none⟩, ⟨Bc, 5, none⟩, ⟨Bc, 6, none⟩] (by refine ⟨?_, ?_, ?_, ?_, ?_, ?_, ?_, ?_, ?_, ?_, ?_, ?_, ?_, ?_, trivial⟩ <;> first | with_reducible assumption | omega | (simp; omega) | (simp; done)) (by refine ⟨?_, ?_, ?_, ?_, ?_, ?_, ?_, ?_, ?_, ?_, ?_, ?_, ?_, ?_, trivial⟩ <;> exact byFT); have hzs9 := blocks_calls hb6 [w.heap.size, Bc] (by refine ⟨?_, ?_, trivial⟩ <;> first | with_reducible assumption | omega | (simp; omega) | (simp; done)); (try clear c00 c01 c02 c03 c04 c05 c06 f00 f01 f02 f03 f04 f05 f06); (try clear c10 c11 c12 c13 c14 c15 c16 f10 f11 f12 f13 f14 f15 f16); obtain ⟨c00, c01, c02, c03, c04, c05, c06, c10, c11, c12, c13, c14, c15, c16, -⟩ := hcs9; obtain ⟨f00, f01, f02, f03, f04, f05, f06, f10, f11, f12, f13, f14, f15, f16, -⟩ := hfs9; obtain ⟨z0, z1, -⟩ := hzs9; have s6 := hb6.size))
      refine bodyPost_ret (v := .tuple #[cmv cm0, .bool false]) (by simp [results, Tryz.results5, go_sem, cm0, tx, *]) rfl ?_
      rw [unhide HRET]
      exact ⟨rfl, byGG⟩
     ·cases te
      ·have qt : (!(T.toList == s.toList)) = true := by rw [hte]; rfl
       go_wp2_with (first | (go_at_call 10; refine ((unhide HI) _).mono ?_; rintro e w6 ⟨rfl, hb6⟩; have hcs9 := cells_calls hb6 [⟨w.heap.size, 0, none⟩, ⟨w.heap.size, 1, none⟩, ⟨w.heap.size, 2, none⟩, ⟨w.heap.size, 3, none⟩, ⟨w.heap.size, 4, none⟩, ⟨w.heap.size, 5, none⟩, ⟨w.heap.size, 6, none⟩, ⟨Bc, 0, none⟩, ⟨Bc, 1, none⟩, ⟨Bc, 2, none⟩, ⟨Bc, 3, none⟩, ⟨Bc, 4, none⟩, ⟨Bc, 5, none⟩, ⟨Bc, 6, none⟩] [.int .i64 0, .string ⟨#[]⟩, .string ⟨#[]⟩, .string ⟨#[]⟩, .int .i64 0, .int .i64 0, .int .i64 0, .int .i64 k, .string x1, .string a, .string b, .int .i64 f0, .int .i64 f1, .int .i64 f2] (by refine ⟨?_, ?_, ?_, ?_, ?_, ?_, ?_, ?_, ?_, ?_, ?_, ?_, ?_, ?_, trivial⟩ <;> exact byCT); have hfs9 := frees_calls hb6 [⟨w.heap.size, 0, none⟩, ⟨w.heap.size, 1, none⟩, ⟨w.heap.size, 2, none⟩, ⟨w.heap.size, 3, none⟩, ⟨w.heap.size, 4, none⟩, ⟨w.heap.size, 5, none⟩, ⟨w.heap.size, 6, none⟩, ⟨Bc, 0, none⟩, ⟨Bc, 1, none⟩, ⟨Bc, 2, none⟩, ⟨Bc, 3, none⟩, ⟨Bc, 4, none⟩, ⟨Bc, 5, none⟩, ⟨Bc, 6, none⟩] (by refine ⟨?_, ?_, ?_, ?_, ?_, ?_, ?_, ?_, ?_, ?_, ?_, ?_, ?_, ?_, trivial⟩ <;> first | with_reducible assumption | omega | (simp; omega) | (simp; done)) (by refine ⟨?_, ?_, ?_, ?_, ?_, ?_, ?_, ?_, ?_, ?_, ?_, ?_, ?_, ?_, trivial⟩ <;> exact byFT); have hzs9 := blocks_calls hb6 [w.heap.size, Bc] (by refine ⟨?_, ?_, trivial⟩ <;> first | with_reducible assumption | omega | (simp; omega) | (simp; done)); (try clear c00 c01 c02 c03 c04 c05 c06 f00 f01 f02 f03 f04 f05 f06); (try clear c10 c11 c12 c13 c14 c15 c16 f10 f11 f12 f13 f14 f15 f16); obtain ⟨c00, c01, c02, c03, c04, c05, c06, c10, c11, c12, c13, c14, c15, c16, -⟩ := hcs9; obtain ⟨f00, f01, f02, f03, f04, f05, f06, f10, f11, f12, f13, f14, f15, f16, -⟩ := hfs9; obtain ⟨z0, z1, -⟩ := hzs9; have s6 := hb6.size) | (go_at_call 11; refine ((unhide HT) (by first | rfl | trivial) _ byGG).mono ?_; rintro e w7 ⟨rfl, hb7⟩; have hcs9 := cells_calls hb7 [⟨w.heap.size, 0, none⟩, ⟨w.heap.size, 1, none⟩, ⟨w.heap.size, 2, none⟩, ⟨w.heap.size, 3, none⟩, ⟨w.heap.size, 4, none⟩, ⟨w.heap.size, 5, none⟩, ⟨w.heap.size, 6, none⟩, ⟨Bc, 0, none⟩, ⟨Bc, 1, none⟩, ⟨Bc, 2, none⟩, ⟨Bc, 3, none⟩, ⟨Bc, 4, none⟩, ⟨Bc, 5, none⟩, ⟨Bc, 6, none⟩] [.int .i64 0, .string ⟨#[]⟩, .string ⟨#[]⟩, .string ⟨#[]⟩, .int .i64 0, .int .i64 0, .int .i64 0, .int .i64 k, .string x1, .string a, .string b, .int .i64 f0, .int .i64 f1, .int .i64 f2] (by refine ⟨?_, ?_, ?_, ?_, ?_, ?_, ?_, ?_, ?_, ?_, ?_, ?_, ?_, ?_, trivial⟩ <;> exact byCT); have hfs9 := frees_calls hb7 [⟨w.heap.size, 0, none⟩, ⟨w.heap.size, 1, none⟩, ⟨w.heap.size, 2, none⟩, ⟨w.heap.size, 3, none⟩, ⟨w.heap.size, 4, none⟩, ⟨w.heap.size, 5, none⟩, ⟨w.heap.size, 6, none⟩, ⟨Bc, 0, none⟩, ⟨Bc, 1, none⟩, ⟨Bc, 2, none⟩, ⟨Bc, 3, none⟩, ⟨Bc, 4, none⟩, ⟨Bc, 5, none⟩, ⟨Bc, 6, none⟩] (by refine ⟨?_, ?_, ?_, ?_, ?_, ?_, ?_, ?_, ?_, ?_, ?_, ?_, ?_, ?_, trivial⟩ <;> first | with_reducible assumption | omega | (simp; omega) | (simp; done)) (by refine ⟨?_, ?_, ?_, ?_, ?_, ?_, ?_, ?_, ?_, ?_, ?_, ?_, ?_, ?_, trivial⟩ <;> exact byFT); have hzs9 := blocks_calls hb7 [w.heap.size, Bc] (by refine ⟨?_, ?_, trivial⟩ <;> first | with_reducible assumption | omega | (simp; omega) | (simp; done)); (try clear c00 c01 c02 c03 c04 c05 c06 f00 f01 f02 f03 f04 f05 f06); (try clear c10 c11 c12 c13 c14 c15 c16 f10 f11 f12 f13 f14 f15 f16); obtain ⟨c00, c01, c02, c03, c04, c05, c06, c10, c11, c12, c13, c14, c15, c16, -⟩ := hcs9; obtain ⟨f00, f01, f02, f03, f04, f05, f06, f10, f11, f12, f13, f14, f15, f16, -⟩ := hfs9; obtain ⟨z0, z1, -⟩ := hzs9; have s7 := hb7.size))
       refine bodyPost_ret (v := .tuple #[cmv cm0, .bool false]) (by simp [results, Tryz.results5, go_sem, cm0, tx, *]) rfl ?_
       rw [unhide HRET]
       exact ⟨rfl, byGG⟩
      ·have qt : (!(T.toList == s.toList)) = false := by rw [hte]; rfl
       go_wp2_with (first | (go_at_call 10; refine ((unhide HI) _).mono ?_; rintro e w6 ⟨rfl, hb6⟩; have hcs9 := cells_calls hb6 [⟨w.heap.size, 0, none⟩, ⟨w.heap.size, 1, none⟩, ⟨w.heap.size, 2, none⟩, ⟨w.heap.size, 3, none⟩, ⟨w.heap.size, 4, none⟩, ⟨w.heap.size, 5, none⟩, ⟨w.heap.size, 6, none⟩, ⟨Bc, 0, none⟩, ⟨Bc, 1, none⟩, ⟨Bc, 2, none⟩, ⟨Bc, 3, none⟩, ⟨Bc, 4, none⟩, ⟨Bc, 5, none⟩, ⟨Bc, 6, none⟩] [.int .i64 0, .string ⟨#[]⟩, .string ⟨#[]⟩, .string ⟨#[]⟩, .int .i64 0, .int .i64 0, .int .i64 0, .int .i64 k, .string x1, .string a, .string b, .int .i64 f0, .int .i64 f1, .int .i64 f2] (by refine ⟨?_, ?_, ?_, ?_, ?_, ?_, ?_, ?_, ?_, ?_, ?_, ?_, ?_, ?_, trivial⟩ <;> exact byCT); have hfs9 := frees_calls hb6 [⟨w.heap.size, 0, none⟩, ⟨w.heap.size, 1, none⟩, ⟨w.heap.size, 2, none⟩, ⟨w.heap.size, 3, none⟩, ⟨w.heap.size, 4, none⟩, ⟨w.heap.size, 5, none⟩, ⟨w.heap.size, 6, none⟩, ⟨Bc, 0, none⟩, ⟨Bc, 1, none⟩, ⟨Bc, 2, none⟩, ⟨Bc, 3, none⟩, ⟨Bc, 4, none⟩, ⟨Bc, 5, none⟩, ⟨Bc, 6, none⟩] (by refine ⟨?_, ?_, ?_, ?_, ?_, ?_, ?_, ?_, ?_, ?_, ?_, ?_, ?_, ?_, trivial⟩ <;> first | with_reducible assumption | omega | (simp; omega) | (simp; done)) (by refine ⟨?_, ?_, ?_, ?_, ?_, ?_, ?_, ?_, ?_, ?_, ?_, ?_, ?_, ?_, trivial⟩ <;> exact byFT); have hzs9 := blocks_calls hb6 [w.heap.size, Bc] (by refine ⟨?_, ?_, trivial⟩ <;> first | with_reducible assumption | omega | (simp; omega) | (simp; done)); (try clear c00 c01 c02 c03 c04 c05 c06 f00 f01 f02 f03 f04 f05 f06); (try clear c10 c11 c12 c13 c14 c15 c16 f10 f11 f12 f13 f14 f15 f16); obtain ⟨c00, c01, c02, c03, c04, c05, c06, c10, c11, c12, c13, c14, c15, c16, -⟩ := hcs9; obtain ⟨f00, f01, f02, f03, f04, f05, f06, f10, f11, f12, f13, f14, f15, f16, -⟩ := hfs9; obtain ⟨z0, z1, -⟩ := hzs9; have s6 := hb6.size) | (go_at_call 11; refine ((unhide HT) (by first | rfl | trivial) _ byGG).mono ?_; rintro e w7 ⟨rfl, hb7⟩; have hcs9 := cells_calls hb7 [⟨w.heap.size, 0, none⟩, ⟨w.heap.size, 1, none⟩, ⟨w.heap.size, 2, none⟩, ⟨w.heap.size, 3, none⟩, ⟨w.heap.size, 4, none⟩, ⟨w.heap.size, 5, none⟩, ⟨w.heap.size, 6, none⟩, ⟨Bc, 0, none⟩, ⟨Bc, 1, none⟩, ⟨Bc, 2, none⟩, ⟨Bc, 3, none⟩, ⟨Bc, 4, none⟩, ⟨Bc, 5, none⟩, ⟨Bc, 6, none⟩] [.int .i64 0, .string ⟨#[]⟩, .string ⟨#[]⟩, .string ⟨#[]⟩, .int .i64 0, .int .i64 0, .int .i64 0, .int .i64 k, .string x1, .string a, .string b, .int .i64 f0, .int .i64 f1, .int .i64 f2] (by refine ⟨?_, ?_, ?_, ?_, ?_, ?_, ?_, ?_, ?_, ?_, ?_, ?_, ?_, ?_, trivial⟩ <;> exact byCT); have hfs9 := frees_calls hb7 [⟨w.heap.size, 0, none⟩, ⟨w.heap.size, 1, none⟩, ⟨w.heap.size, 2, none⟩, ⟨w.heap.size, 3, none⟩, ⟨w.heap.size, 4, none⟩, ⟨w.heap.size, 5, none⟩, ⟨w.heap.size, 6, none⟩, ⟨Bc, 0, none⟩, ⟨Bc, 1, none⟩, ⟨Bc, 2, none⟩, ⟨Bc, 3, none⟩, ⟨Bc, 4, none⟩, ⟨Bc, 5, none⟩, ⟨Bc, 6, none⟩] (by refine ⟨?_, ?_, ?_, ?_, ?_, ?_, ?_, ?_, ?_, ?_, ?_, ?_, ?_, ?_, trivial⟩ <;> first | with_reducible assumption | omega | (simp; omega) | (simp; done)) (by refine ⟨?_, ?_, ?_, ?_, ?_, ?_, ?_, ?_, ?_, ?_, ?_, ?_, ?_, ?_, trivial⟩ <;> exact byFT); have hzs9 := blocks_calls hb7 [w.heap.size, Bc] (by refine ⟨?_, ?_, trivial⟩ <;> first | with_reducible assumption | omega | (simp; omega) | (simp; done)); (try clear c00 c01 c02 c03 c04 c05 c06 f00 f01 f02 f03 f04 f05 f06); (try clear c10 c11 c12 c13 c14 c15 c16 f10 f11 f12 f13 f14 f15 f16); obtain ⟨c00, c01, c02, c03, c04, c05, c06, c10, c11, c12, c13, c14, c15, c16, -⟩ := hcs9; obtain ⟨f00, f01, f02, f03, f04, f05, f06, f10, f11, f12, f13, f14, f15, f16, -⟩ := hfs9; obtain ⟨z0, z1, -⟩ := hzs9; have s7 := hb7.size))
       have k09 : (((((((w7.setCell ⟨w.heap.size, 0, none⟩ (.int .i64 k)).setCell ⟨w.heap.size, 1, none⟩ (.string x1)).setCell ⟨w.heap.size, 2, none⟩ (.string a)).setCell ⟨w.heap.size, 3, none⟩ (.string b)).setCell ⟨w.heap.size, 4, none⟩ (.int .i64 f0)).setCell ⟨w.heap.size, 5, none⟩ (.int .i64 f1)).setCell ⟨w.heap.size, 6, none⟩ (.int .i64 f2)).cell? ⟨w.heap.size, 0, none⟩ = some (.int .i64 k) := byCT
       have k19 : (((((((w7.setCell ⟨w.heap.size, 0, none⟩ (.int .i64 k)).setCell ⟨w.heap.size, 1, none⟩ (.string x1)).setCell ⟨w.heap.size, 2, none⟩ (.string a)).setCell ⟨w.heap.size, 3, none⟩ (.string b)).setCell ⟨w.heap.size, 4, none⟩ (.int .i64 f0)).setCell ⟨w.heap.size, 5, none⟩ (.int .i64 f1)).setCell ⟨w.heap.size, 6, none⟩ (.int .i64 f2)).cell? ⟨w.heap.size, 1, none⟩ = some (.string x1) := byCT
       have k29 : (((((((w7.setCell ⟨w.heap.size, 0, none⟩ (.int .i64 k)).setCell ⟨w.heap.size, 1, none⟩ (.string x1)).setCell ⟨w.heap.size, 2, none⟩ (.string a)).setCell ⟨w.heap.size, 3, none⟩ (.string b)).setCell ⟨w.heap.size, 4, none⟩ (.int .i64 f0)).setCell ⟨w.heap.size, 5, none⟩ (.int .i64 f1)).setCell ⟨w.heap.size, 6, none⟩ (.int .i64 f2)).cell? ⟨w.heap.size, 2, none⟩ = some (.string a) := byCT
       have k39 : (((((((w7.setCell ⟨w.heap.size, 0, none⟩ (.int .i64 k)).setCell ⟨w.heap.size, 1, none⟩ (.string x1)).setCell ⟨w.heap.size, 2, none⟩ (.string a)).setCell ⟨w.heap.size, 3, none⟩ (.string b)).setCell ⟨w.heap.size, 4, none⟩ (.int .i64 f0)).setCell ⟨w.heap.size, 5, none⟩ (.int .i64 f1)).setCell ⟨w.heap.size, 6, none⟩ (.int .i64 f2)).cell? ⟨w.heap.size, 3, none⟩ = some (.string b) := byCT
       have k49 : (((((((w7.setCell ⟨w.heap.size, 0, none⟩ (.int .i64 k)).setCell ⟨w.heap.size, 1, none⟩ (.string x1)).setCell ⟨w.heap.size, 2, none⟩ (.string a)).setCell ⟨w.heap.size, 3, none⟩ (.string b)).setCell ⟨w.heap.size, 4, none⟩ (.int .i64 f0)).setCell ⟨w.heap.size, 5, none⟩ (.int .i64 f1)).setCell ⟨w.heap.size, 6, none⟩ (.int .i64 f2)).cell? ⟨w.heap.size, 4, none⟩ = some (.int .i64 f0) := byCT
       have k59 : (((((((w7.setCell ⟨w.heap.size, 0, none⟩ (.int .i64 k)).setCell ⟨w.heap.size, 1, none⟩ (.string x1)).setCell ⟨w.heap.size, 2, none⟩ (.string a)).setCell ⟨w.heap.size, 3, none⟩ (.string b)).setCell ⟨w.heap.size, 4, none⟩ (.int .i64 f0)).setCell ⟨w.heap.size, 5, none⟩ (.int .i64 f1)).setCell ⟨w.heap.size, 6, none⟩ (.int .i64 f2)).cell? ⟨w.heap.size, 5, none⟩ = some (.int .i64 f1) := byCT
       have k69 : (((((((w7.setCell ⟨w.heap.size, 0, none⟩ (.int .i64 k)).setCell ⟨w.heap.size, 1, none⟩ (.string x1)).setCell ⟨w.heap.size, 2, none⟩ (.string a)).setCell ⟨w.heap.size, 3, none⟩ (.string b)).setCell ⟨w.heap.size, 4, none⟩ (.int .i64 f0)).setCell ⟨w.heap.size, 5, none⟩ (.int .i64 f1)).setCell ⟨w.heap.size, 6, none⟩ (.int .i64 f2)).cell? ⟨w.heap.size, 6, none⟩ = some (.int .i64 f2) := byCT
       refine bodyPost_ret (v := .tuple #[cmv ⟨k, x1, a, b, (f0, f1, f2)⟩, .bool true]) (by first | (simp [results, Tryz.results5, go_sem, k09, k19, k29, k39, k49, k59, k69]; done) | (simp [results, Tryz.results5, go_sem, k09, k19, k29, k39, k49, k59, k69]; rfl)) rfl ?_
       rw [unhide HRET]
       exact ⟨rfl, byGG⟩
  ·obtain rfl : n = 2 := by omega
   go_wp2_with fail
   have hBc := unhide HBC
   have zB2 : w.heap.size < Bc := by omega
   have zG2 : w.heap.size + 1 < Bc := by omega
   rw [hBc]
   go_loopw [29] (fun is wr => is = .int .i64 0 ∧ wr.cell? ⟨Bc, 0, none⟩ = some (.int .i64 k) ∧ wr.cell? ⟨Bc, 1, none⟩ = some (.string x1) ∧ wr.cell? ⟨Bc, 2, none⟩ = some (.string ⟨#[]⟩) ∧ wr.cell? ⟨Bc, 3, none⟩ = some (.string ⟨#[]⟩) ∧ wr.cell? ⟨Bc, 4, none⟩ = some (.int .i64 0) ∧ wr.cell? ⟨Bc, 5, none⟩ = some (.int .i64 0) ∧ wr.cell? ⟨Bc, 6, none⟩ = some (.int .i64 0) ∧ wr.frozen? ⟨Bc, 0, none⟩ = false ∧ wr.frozen? ⟨Bc, 1, none⟩ = false ∧ wr.frozen? ⟨Bc, 2, none⟩ = false ∧ wr.frozen? ⟨Bc, 3, none⟩ = false ∧ wr.frozen? ⟨Bc, 4, none⟩ = false ∧ wr.frozen? ⟨Bc, 5, none⟩ = false ∧ wr.frozen? ⟨Bc, 6, none⟩ = false ∧ Hid (wr.heap[w.heap.size]? = m5.heap[w.heap.size]?) ∧ Hid (wr.heap[w.heap.size + 1]? = m5.heap[w.heap.size + 1]?) ∧ Hid (Below w.heap.size w wr) ∧ Bc < wr.heap.size) (fun _ _ => 0)
   case atStart =>
    subst hBc
    exact ⟨rfl, by go_simp, by go_simp, by go_simp, by go_simp, by go_simp, by go_simp, by go_simp, by go_simp, by go_simp, by go_simp, by go_simp, by go_simp, by go_simp, by go_simp, hide (heap_alloc_old _ _ (by omega)), hide (heap_alloc_old _ _ (by omega)), hide byGG, by simp⟩
   case round =>
    obtain ⟨C0, hC0⟩ : ∃ P : Prop, P = (m5.cell? ⟨w.heap.size, 0, none⟩ = some (.int .i64 0) ∧ m5.cell? ⟨w.heap.size, 1, none⟩ = some (.string ⟨#[]⟩) ∧ m5.cell? ⟨w.heap.size, 2, none⟩ = some (.string ⟨#[]⟩) ∧ m5.cell? ⟨w.heap.size, 3, none⟩ = some (.string ⟨#[]⟩) ∧ m5.cell? ⟨w.heap.size, 4, none⟩ = some (.int .i64 0) ∧ m5.cell? ⟨w.heap.size, 5, none⟩ = some (.int .i64 0) ∧ m5.cell? ⟨w.heap.size, 6, none⟩ = some (.int .i64 0)) := ⟨_, rfl⟩
    obtain ⟨C1, hC1⟩ : ∃ P : Prop, P = (m5.frozen? ⟨w.heap.size, 0, none⟩ = false ∧ m5.frozen? ⟨w.heap.size, 1, none⟩ = false ∧ m5.frozen? ⟨w.heap.size, 2, none⟩ = false ∧ m5.frozen? ⟨w.heap.size, 3, none⟩ = false ∧ m5.frozen? ⟨w.heap.size, 4, none⟩ = false ∧ m5.frozen? ⟨w.heap.size, 5, none⟩ = false ∧ m5.frozen? ⟨w.heap.size, 6, none⟩ = false) := ⟨_, rfl⟩
    have HC0 : Hid C0 := hide (by rw [hC0]; exact ⟨c00, c01, c02, c03, c04, c05, c06⟩)
    have HC1 : Hid C1 := hide (by rw [hC1]; exact ⟨f00, f01, f02, f03, f04, f05, f06⟩)
    clear c00 c01 c02 c03 c04 c05 c06 f00 f01 f02 f03 f04 f05 f06 hBc
    obtain ⟨rfl, c10, c11, c12, c13, c14, c15, c16, f10, f11, f12, f13, f14, f15, f16, eB, eG, hbw, hBw⟩ := hrel
    obtain ⟨wl, rfl⟩ : ∃ wl : World, wl = wr := ⟨_, rfl⟩
    have gW := unhide hbw
    have hC2 := unhide hC
    subst hC2
    have hc9 := unhide HC0
    have hf9 := unhide HC1
    rw [hC0] at hc9
    rw [hC1] at hf9
    obtain ⟨c00, c01, c02, c03, c04, c05, c06⟩ := hc9
    obtain ⟨f00, f01, f02, f03, f04, f05, f06⟩ := hf9
    replace c00 := cell_hq (unhide eB) c00
    replace c01 := cell_hq (unhide eB) c01
    replace c02 := cell_hq (unhide eB) c02
    replace c03 := cell_hq (unhide eB) c03
    replace c04 := cell_hq (unhide eB) c04
    replace c05 := cell_hq (unhide eB) c05
    replace c06 := cell_hq (unhide eB) c06
    replace f00 := frz_hq (unhide eB) f00
    replace f01 := frz_hq (unhide eB) f01
    replace f02 := frz_hq (unhide eB) f02
    replace f03 := frz_hq (unhide eB) f03
    replace f04 := frz_hq (unhide eB) f04
    replace f05 := frz_hq (unhide eB) f05
    replace f06 := frz_hq (unhide eB) f06
    clear hC0 hC1 HC0 HC1 hC eB eG SG HP
    cases gd
    ·go_wp2_with (first | (go_at_call 10; refine ((unhide HI) _).mono ?_; rintro e w6 ⟨rfl, hb6⟩; have hcs9 := cells_calls hb6 [⟨w.heap.size, 0, none⟩, ⟨w.heap.size, 1, none⟩, ⟨w.heap.size, 2, none⟩, ⟨w.heap.size, 3, none⟩, ⟨w.heap.size, 4, none⟩, ⟨w.heap.size, 5, none⟩, ⟨w.heap.size, 6, none⟩, ⟨Bc, 0, none⟩, ⟨Bc, 1, none⟩, ⟨Bc, 2, none⟩, ⟨Bc, 3, none⟩, ⟨Bc, 4, none⟩, ⟨Bc, 5, none⟩, ⟨Bc, 6, none⟩] [.int .i64 0, .string ⟨#[]⟩, .string ⟨#[]⟩, .string ⟨#[]⟩, .int .i64 0, .int .i64 0, .int .i64 0, .int .i64 k, .string x1, .string ⟨#[]⟩, .string ⟨#[]⟩, .int .i64 0, .int .i64 0, .int .i64 0] (by refine ⟨?_, ?_, ?_, ?_, ?_, ?_, ?_, ?_, ?_, ?_, ?_, ?_, ?_, ?_, trivial⟩ <;> exact byCT); have hfs9 := frees_calls hb6 [⟨w.heap.size, 0, none⟩, ⟨w.heap.size, 1, none⟩, ⟨w.heap.size, 2, none⟩, ⟨w.heap.size, 3, none⟩, ⟨w.heap.size, 4, none⟩, ⟨w.heap.size, 5, none⟩, ⟨w.heap.size, 6, none⟩, ⟨Bc, 0, none⟩, ⟨Bc, 1, none⟩, ⟨Bc, 2, none⟩, ⟨Bc, 3, none⟩, ⟨Bc, 4, none⟩, ⟨Bc, 5, none⟩, ⟨Bc, 6, none⟩] (by refine ⟨?_, ?_, ?_, ?_, ?_, ?_, ?_, ?_, ?_, ?_, ?_, ?_, ?_, ?_, trivial⟩ <;> first | with_reducible assumption | omega | (simp; omega) | (simp; done)) (by refine ⟨?_, ?_, ?_, ?_, ?_, ?_, ?_, ?_, ?_, ?_, ?_, ?_, ?_, ?_, trivial⟩ <;> exact byFT); have hzs9 := blocks_calls hb6 [w.heap.size, Bc] (by refine ⟨?_, ?_, trivial⟩ <;> first | with_reducible assumption | omega | (simp; omega) | (simp; done)); (try clear c00 c01 c02 c03 c04 c05 c06 f00 f01 f02 f03 f04 f05 f06); (try clear c10 c11 c12 c13 c14 c15 c16 f10 f11 f12 f13 f14 f15 f16); obtain ⟨c00, c01, c02, c03, c04, c05, c06, c10, c11, c12, c13, c14, c15, c16, -⟩ := hcs9; obtain ⟨f00, f01, f02, f03, f04, f05, f06, f10, f11, f12, f13, f14, f15, f16, -⟩ := hfs9; obtain ⟨z0, z1, -⟩ := hzs9; have s6 := hb6.size))
     refine bodyPost_ret (v := .tuple #[cmv cm0, .bool false]) (by simp [results, Tryz.results5, go_sem, cm0, tx, *]) rfl ?_
     rw [unhide HRET]
     exact ⟨rfl, byGG⟩
    ·cases te
     ·have qt : (!(T.toList == s.toList)) = true := by rw [hte]; rfl
      go_wp2_with (first | (go_at_call 10; refine ((unhide HI) _).mono ?_; rintro e w6 ⟨rfl, hb6⟩; have hcs9 := cells_calls hb6 [⟨w.heap.size, 0, none⟩, ⟨w.heap.size, 1, none⟩, ⟨w.heap.size, 2, none⟩, ⟨w.heap.size, 3, none⟩, ⟨w.heap.size, 4, none⟩, ⟨w.heap.size, 5, none⟩, ⟨w.heap.size, 6, none⟩, ⟨Bc, 0, none⟩, ⟨Bc, 1, none⟩, ⟨Bc, 2, none⟩, ⟨Bc, 3, none⟩, ⟨Bc, 4, none⟩, ⟨Bc, 5, none⟩, ⟨Bc, 6, none⟩] [.int .i64 0, .string ⟨#[]⟩, .string ⟨#[]⟩, .string ⟨#[]⟩, .int .i64 0, .int .i64 0, .int .i64 0, .int .i64 k, .string x1, .string ⟨#[]⟩, .string ⟨#[]⟩, .int .i64 0, .int .i64 0, .int .i64 0] (by refine ⟨?_, ?_, ?_, ?_, ?_, ?_, ?_, ?_, ?_, ?_, ?_, ?_, ?_, ?_, trivial⟩ <;> exact byCT); have hfs9 := frees_calls hb6 [⟨w.heap.size, 0, none⟩, ⟨w.heap.size, 1, none⟩, ⟨w.heap.size, 2, none⟩, ⟨w.heap.size, 3, none⟩, ⟨w.heap.size, 4, none⟩, ⟨w.heap.size, 5, none⟩, ⟨w.heap.size, 6, none⟩, ⟨Bc, 0, none⟩, ⟨Bc, 1, none⟩, ⟨Bc, 2, none⟩, ⟨Bc, 3, none⟩, ⟨Bc, 4, none⟩, ⟨Bc, 5, none⟩, ⟨Bc, 6, none⟩] (by refine ⟨?_, ?_, ?_, ?_, ?_, ?_, ?_, ?_, ?_, ?_, ?_, ?_, ?_, ?_, trivial⟩ <;> first | with_reducible assumption | omega | (simp; omega) | (simp; done)) (by refine ⟨?_, ?_, ?_, ?_, ?_, ?_, ?_, ?_, ?_, ?_, ?_, ?_, ?_, ?_, trivial⟩ <;> exact byFT); have hzs9 := blocks_calls hb6 [w.heap.size, Bc] (by refine ⟨?_, ?_, trivial⟩ <;> first | with_reducible assumption | omega | (simp; omega) | (simp; done)); (try clear c00 c01 c02 c03 c04 c05 c06 f00 f01 f02 f03 f04 f05 f06); (try clear c10 c11 c12 c13 c14 c15 c16 f10 f11 f12 f13 f14 f15 f16); obtain ⟨c00, c01, c02, c03, c04, c05, c06, c10, c11, c12, c13, c14, c15, c16, -⟩ := hcs9; obtain ⟨f00, f01, f02, f03, f04, f05, f06, f10, f11, f12, f13, f14, f15, f16, -⟩ := hfs9; obtain ⟨z0, z1, -⟩ := hzs9; have s6 := hb6.size) | (go_at_call 11; refine ((unhide HT) (by first | rfl | trivial) _ byGG).mono ?_; rintro e w7 ⟨rfl, hb7⟩; have hcs9 := cells_calls hb7 [⟨w.heap.size, 0, none⟩, ⟨w.heap.size, 1, none⟩, ⟨w.heap.size, 2, none⟩, ⟨w.heap.size, 3, none⟩, ⟨w.heap.size, 4, none⟩, ⟨w.heap.size, 5, none⟩, ⟨w.heap.size, 6, none⟩, ⟨Bc, 0, none⟩, ⟨Bc, 1, none⟩, ⟨Bc, 2, none⟩, ⟨Bc, 3, none⟩, ⟨Bc, 4, none⟩, ⟨Bc, 5, none⟩, ⟨Bc, 6, none⟩] [.int .i64 0, .string ⟨#[]⟩, .string ⟨#[]⟩, .string ⟨#[]⟩, .int .i64 0, .int .i64 0, .int .i64 0, .int .i64 k, .string x1, .string ⟨#[]⟩, .string ⟨#[]⟩, .int .i64 0, .int .i64 0, .int .i64 0] (by refine ⟨?_, ?_, ?_, ?_, ?_, ?_, ?_, ?_, ?_, ?_, ?_, ?_, ?_, ?_, trivial⟩ <;> exact byCT); have hfs9 := frees_calls hb7 [⟨w.heap.size, 0, none⟩, ⟨w.heap.size, 1, none⟩, ⟨w.heap.size, 2, none⟩, ⟨w.heap.size, 3, none⟩, ⟨w.heap.size, 4, none⟩, ⟨w.heap.size, 5, none⟩, ⟨w.heap.size, 6, none⟩, ⟨Bc, 0, none⟩, ⟨Bc, 1, none⟩, ⟨Bc, 2, none⟩, ⟨Bc, 3, none⟩, ⟨Bc, 4, none⟩, ⟨Bc, 5, none⟩, ⟨Bc, 6, none⟩] (by refine ⟨?_, ?_, ?_, ?_, ?_, ?_, ?_, ?_, ?_, ?_, ?_, ?_, ?_, ?_, trivial⟩ <;> first | with_reducible assumption | omega | (simp; omega) | (simp; done)) (by refine ⟨?_, ?_, ?_, ?_, ?_, ?_, ?_, ?_, ?_, ?_, ?_, ?_, ?_, ?_, trivial⟩ <;> exact byFT); have hzs9 := blocks_calls hb7 [w.heap.size, Bc] (by refine ⟨?_, ?_, trivial⟩ <;> first | with_reducible assumption | omega | (simp; omega) | (simp; done)); (try clear c00 c01 c02 c03 c04 c05 c06 f00 f01 f02 f03 f04 f05 f06); (try clear c10 c11 c12 c13 c14 c15 c16 f10 f11 f12 f13 f14 f15 f16); obtain ⟨c00, c01, c02, c03, c04, c05, c06, c10, c11, c12, c13, c14, c15, c16, -⟩ := hcs9; obtain ⟨f00, f01, f02, f03, f04, f05, f06, f10, f11, f12, f13, f14, f15, f16, -⟩ := hfs9; obtain ⟨z0, z1, -⟩ := hzs9; have s7 := hb7.size))
      refine bodyPost_ret (v := .tuple #[cmv cm0, .bool false]) (by simp [results, Tryz.results5, go_sem, cm0, tx, *]) rfl ?_
      rw [unhide HRET]
      exact ⟨rfl, byGG⟩
     ·have qt : (!(T.toList == s.toList)) = false := by rw [hte]; rfl
      go_wp2_with (first | (go_at_call 10; refine ((unhide HI) _).mono ?_; rintro e w6 ⟨rfl, hb6⟩; have hcs9 := cells_calls hb6 [⟨w.heap.size, 0, none⟩, ⟨w.heap.size, 1, none⟩, ⟨w.heap.size, 2, none⟩, ⟨w.heap.size, 3, none⟩, ⟨w.heap.size, 4, none⟩, ⟨w.heap.size, 5, none⟩, ⟨w.heap.size, 6, none⟩, ⟨Bc, 0, none⟩, ⟨Bc, 1, none⟩, ⟨Bc, 2, none⟩, ⟨Bc, 3, none⟩, ⟨Bc, 4, none⟩, ⟨Bc, 5, none⟩, ⟨Bc, 6, none⟩] [.int .i64 0, .string ⟨#[]⟩, .string ⟨#[]⟩, .string ⟨#[]⟩, .int .i64 0, .int .i64 0, .int .i64 0, .int .i64 k, .string x1, .string ⟨#[]⟩, .string ⟨#[]⟩, .int .i64 0, .int .i64 0, .int .i64 0] (by refine ⟨?_, ?_, ?_, ?_, ?_, ?_, ?_, ?_, ?_, ?_, ?_, ?_, ?_, ?_, trivial⟩ <;> exact byCT); have hfs9 := frees_calls hb6 [⟨w.heap.size, 0, none⟩, ⟨w.heap.size, 1, none⟩, ⟨w.heap.size, 2, none⟩, ⟨w.heap.size, 3, none⟩, ⟨w.heap.size, 4, none⟩, ⟨w.heap.size, 5, none⟩, ⟨w.heap.size, 6, none⟩, ⟨Bc, 0, none⟩, ⟨Bc, 1, none⟩, ⟨Bc, 2, none⟩, ⟨Bc, 3, none⟩, ⟨Bc, 4, none⟩, ⟨Bc, 5, none⟩, ⟨Bc, 6, none⟩] (by refine ⟨?_, ?_, ?_, ?_, ?_, ?_, ?_, ?_, ?_, ?_, ?_, ?_, ?_, ?_, trivial⟩ <;> first | with_reducible assumption | omega | (simp; omega) | (simp; done)) (by refine ⟨?_, ?_, ?_, ?_, ?_, ?_, ?_, ?_, ?_, ?_, ?_, ?_, ?_, ?_, trivial⟩ <;> exact byFT); have hzs9 := blocks_calls hb6 [w.heap.size, Bc] (by refine ⟨?_, ?_, trivial⟩ <;> first | with_reducible assumption | omega | (simp; omega) | (simp; done)); (try clear c00 c01 c02 c03 c04 c05 c06 f00 f01 f02 f03 f04 f05 f06); (try clear c10 c11 c12 c13 c14 c15 c16 f10 f11 f12 f13 f14 f15 f16); obtain ⟨c00, c01, c02, c03, c04, c05, c06, c10, c11, c12, c13, c14, c15, c16, -⟩ := hcs9; obtain ⟨f00, f01, f02, f03, f04, f05, f06, f10, f11, f12, f13, f14, f15, f16, -⟩ := hfs9; obtain ⟨z0, z1, -⟩ := hzs9; have s6 := hb6.size) | (go_at_call 11; refine ((unhide HT) (by first | rfl | trivial) _ byGG).mono ?_; rintro e w7 ⟨rfl, hb7⟩; have hcs9 := cells_calls hb7 [⟨w.heap.size, 0, none⟩, ⟨w.heap.size, 1, none⟩, ⟨w.heap.size, 2, none⟩, ⟨w.heap.size, 3, none⟩, ⟨w.heap.size, 4, none⟩, ⟨w.heap.size, 5, none⟩, ⟨w.heap.size, 6, none⟩, ⟨Bc, 0, none⟩, ⟨Bc, 1, none⟩, ⟨Bc, 2, none⟩, ⟨Bc, 3, none⟩, ⟨Bc, 4, none⟩, ⟨Bc, 5, none⟩, ⟨Bc, 6, none⟩] [.int .i64 0, .string ⟨#[]⟩, .string ⟨#[]⟩, .string ⟨#[]⟩, .int .i64 0, .int .i64 0, .int .i64 0, .int .i64 k, .string x1, .string ⟨#[]⟩, .string ⟨#[]⟩, .int .i64 0, .int .i64 0, .int .i64 0] (by refine ⟨?_, ?_, ?_, ?_, ?_, ?_, ?_, ?_, ?_, ?_, ?_, ?_, ?_, ?_, trivial⟩ <;> exact byCT); have hfs9 := frees_calls hb7 [⟨w.heap.size, 0, none⟩, ⟨w.heap.size, 1, none⟩, ⟨w.heap.size, 2, none⟩, ⟨w.heap.size, 3, none⟩, ⟨w.heap.size, 4, none⟩, ⟨w.heap.size, 5, none⟩, ⟨w.heap.size, 6, none⟩, ⟨Bc, 0, none⟩, ⟨Bc, 1, none⟩, ⟨Bc, 2, none⟩, ⟨Bc, 3, none⟩, ⟨Bc, 4, none⟩, ⟨Bc, 5, none⟩, ⟨Bc, 6, none⟩] (by refine ⟨?_, ?_, ?_, ?_, ?_, ?_, ?_, ?_, ?_, ?_, ?_, ?_, ?_, ?_, trivial⟩ <;> first | with_reducible assumption | omega | (simp; omega) | (simp; done)) (by refine ⟨?_, ?_, ?_, ?_, ?_, ?_, ?_, ?_, ?_, ?_, ?_, ?_, ?_, ?_, trivial⟩ <;> exact byFT); have hzs9 := blocks_calls hb7 [w.heap.size, Bc] (by refine ⟨?_, ?_, trivial⟩ <;> first | with_reducible assumption | omega | (simp; omega) | (simp; done)); (try clear c00 c01 c02 c03 c04 c05 c06 f00 f01 f02 f03 f04 f05 f06); (try clear c10 c11 c12 c13 c14 c15 c16 f10 f11 f12 f13 f14 f15 f16); obtain ⟨c00, c01, c02, c03, c04, c05, c06, c10, c11, c12, c13, c14, c15, c16, -⟩ := hcs9; obtain ⟨f00, f01, f02, f03, f04, f05, f06, f10, f11, f12, f13, f14, f15, f16, -⟩ := hfs9; obtain ⟨z0, z1, -⟩ := hzs9; have s7 := hb7.size))
      have k09 : (((((((w7.setCell ⟨w.heap.size, 0, none⟩ (.int .i64 k)).setCell ⟨w.heap.size, 1, none⟩ (.string x1)).setCell ⟨w.heap.size, 2, none⟩ (.string ⟨#[]⟩)).setCell ⟨w.heap.size, 3, none⟩ (.string ⟨#[]⟩)).setCell ⟨w.heap.size, 4, none⟩ (.int .i64 0)).setCell ⟨w.heap.size, 5, none⟩ (.int .i64 0)).setCell ⟨w.heap.size, 6, none⟩ (.int .i64 0)).cell? ⟨w.heap.size, 0, none⟩ = some (.int .i64 k) := byCT
      have k19 : (((((((w7.setCell ⟨w.heap.size, 0, none⟩ (.int .i64 k)).setCell ⟨w.heap.size, 1, none⟩ (.string x1)).setCell ⟨w.heap.size, 2, none⟩ (.string ⟨#[]⟩)).setCell ⟨w.heap.size, 3, none⟩ (.string ⟨#[]⟩)).setCell ⟨w.heap.size, 4, none⟩ (.int .i64 0)).setCell ⟨w.heap.size, 5, none⟩ (.int .i64 0)).setCell ⟨w.heap.size, 6, none⟩ (.int .i64 0)).cell? ⟨w.heap.size, 1, none⟩ = some (.string x1) := byCT
      have k29 : (((((((w7.setCell ⟨w.heap.size, 0, none⟩ (.int .i64 k)).setCell ⟨w.heap.size, 1, none⟩ (.string x1)).setCell ⟨w.heap.size, 2, none⟩ (.string ⟨#[]⟩)).setCell ⟨w.heap.size, 3, none⟩ (.string ⟨#[]⟩)).setCell ⟨w.heap.size, 4, none⟩ (.int .i64 0)).setCell ⟨w.heap.size, 5, none⟩ (.int .i64 0)).setCell ⟨w.heap.size, 6, none⟩ (.int .i64 0)).cell? ⟨w.heap.size, 2, none⟩ = some (.string ⟨#[]⟩) := byCT
      have k39 : (((((((w7.setCell ⟨w.heap.size, 0, none⟩ (.int .i64 k)).setCell ⟨w.heap.size, 1, none⟩ (.string x1)).setCell ⟨w.heap.size, 2, none⟩ (.string ⟨#[]⟩)).setCell ⟨w.heap.size, 3, none⟩ (.string ⟨#[]⟩)).setCell ⟨w.heap.size, 4, none⟩ (.int .i64 0)).setCell ⟨w.heap.size, 5, none⟩ (.int .i64 0)).setCell ⟨w.heap.size, 6, none⟩ (.int .i64 0)).cell? ⟨w.heap.size, 3, none⟩ = some (.string ⟨#[]⟩) := byCT
      have k49 : (((((((w7.setCell ⟨w.heap.size, 0, none⟩ (.int .i64 k)).setCell ⟨w.heap.size, 1, none⟩ (.string x1)).setCell ⟨w.heap.size, 2, none⟩ (.string ⟨#[]⟩)).setCell ⟨w.heap.size, 3, none⟩ (.string ⟨#[]⟩)).setCell ⟨w.heap.size, 4, none⟩ (.int .i64 0)).setCell ⟨w.heap.size, 5, none⟩ (.int .i64 0)).setCell ⟨w.heap.size, 6, none⟩ (.int .i64 0)).cell? ⟨w.heap.size, 4, none⟩ = some (.int .i64 0) := byCT
      have k59 : (((((((w7.setCell ⟨w.heap.size, 0, none⟩ (.int .i64 k)).setCell ⟨w.heap.size, 1, none⟩ (.string x1)).setCell ⟨w.heap.size, 2, none⟩ (.string ⟨#[]⟩)).setCell ⟨w.heap.size, 3, none⟩ (.string ⟨#[]⟩)).setCell ⟨w.heap.size, 4, none⟩ (.int .i64 0)).setCell ⟨w.heap.size, 5, none⟩ (.int .i64 0)).setCell ⟨w.heap.size, 6, none⟩ (.int .i64 0)).cell? ⟨w.heap.size, 5, none⟩ = some (.int .i64 0) := byCT
      have k69 : (((((((w7.setCell ⟨w.heap.size, 0, none⟩ (.int .i64 k)).setCell ⟨w.heap.size, 1, none⟩ (.string x1)).setCell ⟨w.heap.size, 2, none⟩ (.string ⟨#[]⟩)).setCell ⟨w.heap.size, 3, none⟩ (.string ⟨#[]⟩)).setCell ⟨w.heap.size, 4, none⟩ (.int .i64 0)).setCell ⟨w.heap.size, 5, none⟩ (.int .i64 0)).setCell ⟨w.heap.size, 6, none⟩ (.int .i64 0)).cell? ⟨w.heap.size, 6, none⟩ = some (.int .i64 0) := byCT
      refine bodyPost_ret (v := .tuple #[cmv ⟨k, x1, ⟨#[]⟩, ⟨#[]⟩, (0, 0, 0)⟩, .bool true]) (by first | (simp [results, Tryz.results5, go_sem, k09, k19, k29, k39, k49, k59, k69]; done) | (simp [results, Tryz.results5, go_sem, k09, k19, k29, k39, k49, k59, k69]; rfl)) rfl ?_
      rw [unhide HRET]
      exact ⟨rfl, byGG⟩
end Go.Proofs.YtfoofbcmaljmoaaGreatDoor
