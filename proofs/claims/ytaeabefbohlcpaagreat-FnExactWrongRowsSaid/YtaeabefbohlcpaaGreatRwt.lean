/- The row of a discriminant: tbGroup, tbRow. -/
import Derived.Test.YtaeabefbohlcpaaGreatRwo
namespace Go.Proofs.YtaeabefbohlcpaaGreat
open Go.RowKit
set_option linter.unusedVariables false
set_option linter.unusedSimpArgs false
attribute [local go_sem] q2 q3 q4 q5 q6 q7 q8 q9 q10 q11 q12

theorem rowEx0 {d : Int} (h : (rowFL d).length = 0) : (rowV d).ex = 1 := by
 unfold rowFL at h
 rw [nI_len, List.length_reverse] at h
 have e : fsL (orL d) = [] := List.length_eq_zero_iff.1 h
 simp [rowV, e]
theorem rowEx1 {d : Int} (h : 0 < (rowFL d).length) : (rowFL d).getD ((rowFL d).length - 1) 0 = (rowV d).ex := by
 have h0 : (rowFL d).length = (fsL (orL d)).length := by unfold rowFL; rw [nI_len, List.length_reverse]
 rw [h0] at h ⊢
 unfold rowFL
 cases hf : fsL (orL d) with
 | nil => rw [hf] at h; simp at h
 | cons x xs => simp [nI, rowV, hf]
set_option maxHeartbeats 1000000 in
theorem tbGroup_a (d : Int) (w : World) (hd : negB d = true) : Calls Tryz.prog 39 #[.int .i64 d] w (RetIL w (rowFL d)) := by
 have hR := rfs hd
 obtain ⟨T, HT⟩ := gtt_T hR
 have HQ := hide (os_q hd)
 have h1 := grTable_a d w hd HT
 have H2 : Hid (∀ (W : World) (g : Nat), tabS W.heap.size g (rfL d).length T W → Calls Tryz.prog 56 #[.slice (some ⟨g, 0, none⟩) (rfL d).length (rfL d).length] W (RetIL W (orL d))) := hide fun W g hT => grOrders_a d W.heap.size g _ T W hd hT (Nat.le_refl _) (hide rfl) HT
 have H3 : Hid (∀ (W : World) (a : Option Addr) (c lo hi : Nat), hi ≤ W.heap.size → IntsAt W lo hi a (orL d).length (fun i => (orL d).getD i 0) → Calls Tryz.prog 55 #[.slice a (orL d).length c] W (RetIL W (rowFL d))) := hide fun W a c lo hi h1 h2 => grFactors_a (orL d) a _ c lo hi W (unhide HQ) (hide rfl) h1 h2
 have H1 := hide h1
 clear h1 HT hR HQ
 generalize rowFL d = FL9 at *
 generalize (orL d) = os at *
 generalize (rfL d).length = n9 at *
 go_enter Tryz.func39, Tryz.ntmps39
 go_wp2_with fail
 refine ((unhide H1)).mono ?_
 rintro e w1 ⟨g, rfl, hT, hb1⟩
 have hs1 := hb1.size
 have HH := hide hT
 clear hT
 go_wp2_with fail
 refine ((unhide H2) _ _ (unhide HH)).mono ?_
 rintro e w2 ⟨a2, c2, rfl, hl2, hb2⟩
 have hs2 := hb2.size
 have hO2 := hl2.ints.2
 go_wp2_with fail
 refine ((unhide H3) _ _ _ _ _ (Nat.le_refl _) hO2).mono ?_
 rintro e w3 ⟨a3, c3, rfl, hl3, hb3⟩
 have hs3 := hb3.size
 go_wp2
 go_ret
 exact ⟨a3, c3, rfl, hl3.raise (by omega), byGG⟩
def RetI (w : World) (n : Nat) (f : Nat → Int) (e : Ending) (w' : World) : Prop := ∃ a c, e = .returned (.slice a n c) ∧ IntsAt w' w.heap.size w'.heap.size a n f ∧ Below w.heap.size w w'
def RetRowI (w : World) (r : RowV) (n : Nat) (f : Nat → Int) (e : Ending) (w' : World) : Prop := ∃ a c, e = .returned (rwv r (.slice a n c)) ∧ IntsAt w' w.heap.size w'.heap.size a n f ∧ Below w.heap.size w w'
set_option maxHeartbeats 2000000 in
theorem tbRow_0 (d : Int) (w : World) (r : RowV) (n9 gn : Nat) (f : Nat → Int) (hlen : 0 ≤ 700) (H1 : Hid (∀ W, Calls Tryz.prog 39 #[.int .i64 d] W (RetI W 0 f))) (H2 : Hid (∀ W, Calls Tryz.prog 40 #[.int .i64 d] W (RetLen W n9))) (H3 : Hid (∀ W, Calls Tryz.prog 41 #[.int .i64 d] W (RetLen W gn)))
  (hrl : n9 ≤ 676) (hgs : gn ≤ 676) (HLN : Hid ((n9 : Int) = r.num)) (HGE : Hid ((gn : Int) = r.ge)) (HDD : Hid (d = r.d)) (HEX : Hid ((1 : Int) = r.ex)) :
  Calls Tryz.prog 24 #[.int .i64 d] w (RetRowI w r 0 f) := by
 go_enter Tryz.func24, Tryz.ntmps24
 go_wp2_with fail
 refine ((unhide H1) _).mono ?_
 rintro e w1 ⟨a1, d1, rfl, hO1, hb1⟩
 have hs1 := hb1.size
 simp only [World.size_alloc] at hs1 hO1
 have z1 : w.heap.size < w1.heap.size := by omega
 have y0 := cell_call hb1 (a := ⟨w.heap.size, 0, none⟩) (v := .int .i64 0) (by go_simp)
 have x0 := frz_call hb1 (a := ⟨w.heap.size, 0, none⟩) (by simp) (by go_simp)
 have y1 := cell_call hb1 (a := ⟨w.heap.size, 1, none⟩) (v := .int .i64 0) (by go_simp)
 have x1 := frz_call hb1 (a := ⟨w.heap.size, 1, none⟩) (by simp) (by go_simp)
 have y2 := cell_call hb1 (a := ⟨w.heap.size, 2, none⟩) (v := .slice none 0 0) (by go_simp)
 have x2 := frz_call hb1 (a := ⟨w.heap.size, 2, none⟩) (by simp) (by go_simp)
 have y3 := cell_call hb1 (a := ⟨w.heap.size, 3, none⟩) (v := .int .i64 0) (by go_simp)
 have x3 := frz_call hb1 (a := ⟨w.heap.size, 3, none⟩) (by simp) (by go_simp)
 have y4 := cell_call hb1 (a := ⟨w.heap.size, 4, none⟩) (v := .int .i64 0) (by go_simp)
 have x4 := frz_call hb1 (a := ⟨w.heap.size, 4, none⟩) (by simp) (by go_simp)
 go_wp2_with fail
 refine ((unhide H2) _).mono ?_
 rintro e w2 ⟨a2, d2, rfl, hb2⟩
 have hs2 := hb2.size
 have z2 : w.heap.size < w2.heap.size := by omega
 go_wp2_with fail
 refine ((unhide H3) _).mono ?_
 rintro e w3 ⟨a3, d3, rfl, hb3⟩
 have hs3 := hb3.size
 have z3 : w.heap.size < w3.heap.size := by omega
 have f0 := cell_call hb3 (cell_call hb2 y0)
 have g0 := frz_call hb3 z2 (frz_call hb2 z1 x0)
 have f1 := cell_call hb3 (cell_call hb2 y1)
 have g1 := frz_call hb3 z2 (frz_call hb2 z1 x1)
 have f2 := cell_call hb3 (cell_call hb2 y2)
 have g2 := frz_call hb3 z2 (frz_call hb2 z1 x2)
 have f3 := cell_call hb3 (cell_call hb2 y3)
 have g3 := frz_call hb3 z2 (frz_call hb2 z1 x3)
 have f4 := cell_call hb3 (cell_call hb2 y4)
 have g4 := frz_call hb3 z2 (frz_call hb2 z1 x4)
 have hI := (hO1.below hb2 (Nat.le_refl _)).below hb3 hs2
 clear hO1 y0 x0 y1 x1 y2 x2 y3 x3 y4 x4
 go_wp2
 have k0 : ∀ o, ((((((w3.setCell ⟨w.heap.size, 0, none⟩ (.int .i64 d)).setCell ⟨w.heap.size, 1, none⟩ (.int .i64 (n9 : Int))).setCell ⟨w.heap.size, 2, none⟩ (.slice a1 0 d1)).setCell ⟨w.heap.size, 3, none⟩ (.int .i64 (gn : Int))).setCell ⟨w.heap.size, 4, none⟩ (.int .i64 1)).alloc o).cell? ⟨w.heap.size, 0, none⟩ = some (.int .i64 d) := fun o => cell_call (below_alloc_self _ _) byCT
 have k1 : ∀ o, ((((((w3.setCell ⟨w.heap.size, 0, none⟩ (.int .i64 d)).setCell ⟨w.heap.size, 1, none⟩ (.int .i64 (n9 : Int))).setCell ⟨w.heap.size, 2, none⟩ (.slice a1 0 d1)).setCell ⟨w.heap.size, 3, none⟩ (.int .i64 (gn : Int))).setCell ⟨w.heap.size, 4, none⟩ (.int .i64 1)).alloc o).cell? ⟨w.heap.size, 1, none⟩ = some (.int .i64 (n9 : Int)) := fun o => cell_call (below_alloc_self _ _) byCT
 have k2 : ∀ o, ((((((w3.setCell ⟨w.heap.size, 0, none⟩ (.int .i64 d)).setCell ⟨w.heap.size, 1, none⟩ (.int .i64 (n9 : Int))).setCell ⟨w.heap.size, 2, none⟩ (.slice a1 0 d1)).setCell ⟨w.heap.size, 3, none⟩ (.int .i64 (gn : Int))).setCell ⟨w.heap.size, 4, none⟩ (.int .i64 1)).alloc o).cell? ⟨w.heap.size, 2, none⟩ = some (.slice a1 0 d1) := fun o => cell_call (below_alloc_self _ _) byCT
 have k3 : ∀ o, ((((((w3.setCell ⟨w.heap.size, 0, none⟩ (.int .i64 d)).setCell ⟨w.heap.size, 1, none⟩ (.int .i64 (n9 : Int))).setCell ⟨w.heap.size, 2, none⟩ (.slice a1 0 d1)).setCell ⟨w.heap.size, 3, none⟩ (.int .i64 (gn : Int))).setCell ⟨w.heap.size, 4, none⟩ (.int .i64 1)).alloc o).cell? ⟨w.heap.size, 3, none⟩ = some (.int .i64 (gn : Int)) := fun o => cell_call (below_alloc_self _ _) byCT
 have k4 : ∀ o, ((((((w3.setCell ⟨w.heap.size, 0, none⟩ (.int .i64 d)).setCell ⟨w.heap.size, 1, none⟩ (.int .i64 (n9 : Int))).setCell ⟨w.heap.size, 2, none⟩ (.slice a1 0 d1)).setCell ⟨w.heap.size, 3, none⟩ (.int .i64 (gn : Int))).setCell ⟨w.heap.size, 4, none⟩ (.int .i64 1)).alloc o).cell? ⟨w.heap.size, 4, none⟩ = some (.int .i64 1) := fun o => cell_call (below_alloc_self _ _) byCT
 refine bodyPost_ret (v := rwv r (.slice a1 0 d1)) ?_ rfl ?_
 ·have e1 := unhide HLN
  have e2 := unhide HGE
  have e3 := unhide HDD
  have e4 := unhide HEX
  have hrv : rwv r (.slice a1 0 d1) = .agg #[.int .i64 d, .int .i64 (n9 : Int), .slice a1 0 d1, .int .i64 (gn : Int), .int .i64 1] := by simp [rwv, e1, e2, e4, ← e3]
  rw [hrv]
  clear hrv e1 e2 e3 e4
  simp [results, Tryz.results24, go_sem, k0, k1, k2, k3, k4]
 ·refine ⟨_, d1, rfl, ?_, byGG⟩
  refine IntsAt.weak (lo := w.heap.size + 1) (hi := w1.heap.size) (IntsAt.below (IntsAt.keep hI fun k k1 k2 => ?_) (below_alloc_self _ _) (by simp [World.setCell]; omega)) (by omega) (by simp [World.setCell]; omega)
  have hne : k ≠ w.heap.size := by omega
  exact (Below.heap_setCell _ _ _ _ hne).trans ((Below.heap_setCell _ _ _ _ hne).trans ((Below.heap_setCell _ _ _ _ hne).trans ((Below.heap_setCell _ _ _ _ hne).trans (Below.heap_setCell _ _ _ _ hne))))
set_option maxHeartbeats 2000000 in
theorem tbRow_s (d : Int) (w : World) (r : RowV) (p9 n9 gn : Nat) (f : Nat → Int) (hlen : (p9 + 1) ≤ 700) (H1 : Hid (∀ W, Calls Tryz.prog 39 #[.int .i64 d] W (RetI W (p9 + 1) f))) (H2 : Hid (∀ W, Calls Tryz.prog 40 #[.int .i64 d] W (RetLen W n9))) (H3 : Hid (∀ W, Calls Tryz.prog 41 #[.int .i64 d] W (RetLen W gn)))
  (hrl : n9 ≤ 676) (hgs : gn ≤ 676) (HLN : Hid ((n9 : Int) = r.num)) (HGE : Hid ((gn : Int) = r.ge)) (HDD : Hid (d = r.d)) (HEX : Hid (f p9 = r.ex)) :
  Calls Tryz.prog 24 #[.int .i64 d] w (RetRowI w r (p9 + 1) f) := by
 go_enter Tryz.func24, Tryz.ntmps24
 go_wp2_with fail
 refine ((unhide H1) _).mono ?_
 rintro e w1 ⟨a1, d1, rfl, hO1, hb1⟩
 have hs1 := hb1.size
 simp only [World.size_alloc] at hs1 hO1
 have z1 : w.heap.size < w1.heap.size := by omega
 have y0 := cell_call hb1 (a := ⟨w.heap.size, 0, none⟩) (v := .int .i64 0) (by go_simp)
 have x0 := frz_call hb1 (a := ⟨w.heap.size, 0, none⟩) (by simp) (by go_simp)
 have y1 := cell_call hb1 (a := ⟨w.heap.size, 1, none⟩) (v := .int .i64 0) (by go_simp)
 have x1 := frz_call hb1 (a := ⟨w.heap.size, 1, none⟩) (by simp) (by go_simp)
 have y2 := cell_call hb1 (a := ⟨w.heap.size, 2, none⟩) (v := .slice none 0 0) (by go_simp)
 have x2 := frz_call hb1 (a := ⟨w.heap.size, 2, none⟩) (by simp) (by go_simp)
 have y3 := cell_call hb1 (a := ⟨w.heap.size, 3, none⟩) (v := .int .i64 0) (by go_simp)
 have x3 := frz_call hb1 (a := ⟨w.heap.size, 3, none⟩) (by simp) (by go_simp)
 have y4 := cell_call hb1 (a := ⟨w.heap.size, 4, none⟩) (v := .int .i64 0) (by go_simp)
 have x4 := frz_call hb1 (a := ⟨w.heap.size, 4, none⟩) (by simp) (by go_simp)
 go_wp2_with fail
 refine ((unhide H2) _).mono ?_
 rintro e w2 ⟨a2, d2, rfl, hb2⟩
 have hs2 := hb2.size
 have z2 : w.heap.size < w2.heap.size := by omega
 go_wp2_with fail
 refine ((unhide H3) _).mono ?_
 rintro e w3 ⟨a3, d3, rfl, hb3⟩
 have hs3 := hb3.size
 have z3 : w.heap.size < w3.heap.size := by omega
 have f0 := cell_call hb3 (cell_call hb2 y0)
 have g0 := frz_call hb3 z2 (frz_call hb2 z1 x0)
 have f1 := cell_call hb3 (cell_call hb2 y1)
 have g1 := frz_call hb3 z2 (frz_call hb2 z1 x1)
 have f2 := cell_call hb3 (cell_call hb2 y2)
 have g2 := frz_call hb3 z2 (frz_call hb2 z1 x2)
 have f3 := cell_call hb3 (cell_call hb2 y3)
 have g3 := frz_call hb3 z2 (frz_call hb2 z1 x3)
 have f4 := cell_call hb3 (cell_call hb2 y4)
 have g4 := frz_call hb3 z2 (frz_call hb2 z1 x4)
 have hI := (hO1.below hb2 (Nat.le_refl _)).below hb3 hs2
 clear hO1 y0 x0 y1 x1 y2 x2 y3 x3 y4 x4
 have ci : (0 : Int) < ((p9 + 1 : Nat) : Int) := by omega
 obtain ⟨g9, rfl, hg8, d9⟩ := IntsAt.cell (i := p9) hI (by omega)
 go_wp2
 have k0 : ∀ o, ((((((w3.setCell ⟨w.heap.size, 0, none⟩ (.int .i64 d)).setCell ⟨w.heap.size, 1, none⟩ (.int .i64 (n9 : Int))).setCell ⟨w.heap.size, 2, none⟩ (.slice (some ⟨g9, 0, none⟩) (p9 + 1) d1)).setCell ⟨w.heap.size, 3, none⟩ (.int .i64 (gn : Int))).setCell ⟨w.heap.size, 4, none⟩ (.int .i64 (f p9))).alloc o).cell? ⟨w.heap.size, 0, none⟩ = some (.int .i64 d) := fun o => cell_call (below_alloc_self _ _) byCT
 have k1 : ∀ o, ((((((w3.setCell ⟨w.heap.size, 0, none⟩ (.int .i64 d)).setCell ⟨w.heap.size, 1, none⟩ (.int .i64 (n9 : Int))).setCell ⟨w.heap.size, 2, none⟩ (.slice (some ⟨g9, 0, none⟩) (p9 + 1) d1)).setCell ⟨w.heap.size, 3, none⟩ (.int .i64 (gn : Int))).setCell ⟨w.heap.size, 4, none⟩ (.int .i64 (f p9))).alloc o).cell? ⟨w.heap.size, 1, none⟩ = some (.int .i64 (n9 : Int)) := fun o => cell_call (below_alloc_self _ _) byCT
 have k2 : ∀ o, ((((((w3.setCell ⟨w.heap.size, 0, none⟩ (.int .i64 d)).setCell ⟨w.heap.size, 1, none⟩ (.int .i64 (n9 : Int))).setCell ⟨w.heap.size, 2, none⟩ (.slice (some ⟨g9, 0, none⟩) (p9 + 1) d1)).setCell ⟨w.heap.size, 3, none⟩ (.int .i64 (gn : Int))).setCell ⟨w.heap.size, 4, none⟩ (.int .i64 (f p9))).alloc o).cell? ⟨w.heap.size, 2, none⟩ = some (.slice (some ⟨g9, 0, none⟩) (p9 + 1) d1) := fun o => cell_call (below_alloc_self _ _) byCT
 have k3 : ∀ o, ((((((w3.setCell ⟨w.heap.size, 0, none⟩ (.int .i64 d)).setCell ⟨w.heap.size, 1, none⟩ (.int .i64 (n9 : Int))).setCell ⟨w.heap.size, 2, none⟩ (.slice (some ⟨g9, 0, none⟩) (p9 + 1) d1)).setCell ⟨w.heap.size, 3, none⟩ (.int .i64 (gn : Int))).setCell ⟨w.heap.size, 4, none⟩ (.int .i64 (f p9))).alloc o).cell? ⟨w.heap.size, 3, none⟩ = some (.int .i64 (gn : Int)) := fun o => cell_call (below_alloc_self _ _) byCT
 have k4 : ∀ o, ((((((w3.setCell ⟨w.heap.size, 0, none⟩ (.int .i64 d)).setCell ⟨w.heap.size, 1, none⟩ (.int .i64 (n9 : Int))).setCell ⟨w.heap.size, 2, none⟩ (.slice (some ⟨g9, 0, none⟩) (p9 + 1) d1)).setCell ⟨w.heap.size, 3, none⟩ (.int .i64 (gn : Int))).setCell ⟨w.heap.size, 4, none⟩ (.int .i64 (f p9))).alloc o).cell? ⟨w.heap.size, 4, none⟩ = some (.int .i64 (f p9)) := fun o => cell_call (below_alloc_self _ _) byCT
 refine bodyPost_ret (v := rwv r (.slice (some ⟨g9, 0, none⟩) (p9 + 1) d1)) ?_ rfl ?_
 ·have e1 := unhide HLN
  have e2 := unhide HGE
  have e3 := unhide HDD
  have e4 := unhide HEX
  have hrv : rwv r (.slice (some ⟨g9, 0, none⟩) (p9 + 1) d1) = .agg #[.int .i64 d, .int .i64 (n9 : Int), .slice (some ⟨g9, 0, none⟩) (p9 + 1) d1, .int .i64 (gn : Int), .int .i64 (f p9)] := by simp [rwv, e1, e2, e4, ← e3]
  rw [hrv]
  clear hrv e1 e2 e3 e4
  simp [results, Tryz.results24, go_sem, k0, k1, k2, k3, k4]
 ·refine ⟨_, d1, rfl, ?_, byGG⟩
  refine IntsAt.weak (lo := w.heap.size + 1) (hi := w1.heap.size) (IntsAt.below (IntsAt.keep hI fun k k1 k2 => ?_) (below_alloc_self _ _) (by simp [World.setCell]; omega)) (by omega) (by simp [World.setCell]; omega)
  have hne : k ≠ w.heap.size := by omega
  exact (Below.heap_setCell _ _ _ _ hne).trans ((Below.heap_setCell _ _ _ _ hne).trans ((Below.heap_setCell _ _ _ _ hne).trans ((Below.heap_setCell _ _ _ _ hne).trans (Below.heap_setCell _ _ _ _ hne))))
set_option maxHeartbeats 1000000 in
theorem tbRow_a (d : Int) (w : World) (hd : negB d = true) : Calls Tryz.prog 24 #[.int .i64 d] w (RetRowV w (rowV d) (rowFL d)) := by
 have hlen := rowFL_len hd
 have H1 : ∀ W, Calls Tryz.prog 39 #[.int .i64 d] W (RetI W (rowFL d).length (fun i => (rowFL d).getD i 0)) := fun W => (tbGroup_a d W hd).mono fun e w' ⟨a, c, he, hl, hb⟩ => ⟨a, c, he, hl.ints.2, hb⟩
 have H2 : Hid (∀ W, Calls Tryz.prog 40 #[.int .i64 d] W (RetLen W (rfL d).length)) := hide fun W => reList_len d W (neg_true hd).1 (neg_true hd).2 rfl
 have H3 : Hid (∀ W, Calls Tryz.prog 41 #[.int .i64 d] W (RetLen W (gsN d))) := hide fun W => chGenera_a d W hd
 have hrl := rfL_len (neg_true hd).1 (neg_true hd).2
 have hgs : gsN d ≤ 676 := by have := gsK_le (rfL d) (rfL d).length; unfold gsN; omega
 have h9 : Calls Tryz.prog 24 #[.int .i64 d] w (RetRowI w (rowV d) (rowFL d).length (fun i => (rowFL d).getD i 0)) := by
  rcases Nat.eq_zero_or_pos (rowFL d).length with hz | hz
  ·have ex := rowEx0 hz
   rw [hz] at H1 ⊢
   exact tbRow_0 d w (rowV d) _ _ _ (by omega) (hide H1) H2 H3 hrl hgs (hide rfl) (hide rfl) (hide rfl) (hide ex.symm)
  ·have ex := rowEx1 hz
   obtain ⟨p, hp⟩ : ∃ p, (rowFL d).length = p + 1 := ⟨(rowFL d).length - 1, by omega⟩
   rw [hp] at H1 hlen ex ⊢
   exact tbRow_s d w (rowV d) p _ _ _ hlen (hide H1) H2 H3 hrl hgs (hide rfl) (hide rfl) (hide rfl) (hide ex)
 exact h9
end Go.Proofs.YtaeabefbohlcpaaGreat
