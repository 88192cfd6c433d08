/- Squares over triples, on both sides. -/
import Derived.Test.YtihfacmlfelliaaGreatGc
namespace Go.Proofs.YtihfacmlfelliaaGreat
open Go.RowKit
set_option linter.unusedVariables false
set_option linter.unusedSimpArgs false
attribute [local go_sem] q2 q3 q4 q5 q6 q7 q8 q9 q10 q11 q12

set_option maxRecDepth 100000 in
set_option maxHeartbeats 8000000 in
theorem square_D {D : Int} (F : T3) (t : Int) (w : World) (h0 : InD D F) (h1 : 0 ≤ t) (h2 : t ≤ 1000000) :
  Calls Tryz.prog 31 #[frm F, .int .i64 t] w fun e w' => e = .returned (frm (sqN (rdT F) t.toNat)) ∧ Below w.heap.size w w' := by
 go_enter Tryz.func31, Tryz.ntmps31
 go_wp2_with fail
 refine (reduced_D F _ h0).mono ?_
 rintro en w1 ⟨rfl, hb1⟩
 have tq0 := Wi3.c hb1 w.heap.size F.1 F.2.1 F.2.2
 have tq1 := Wi3.c hb1 (w.heap.size + 1) 0 0 0
 try clear c00 c01 c02 f00 f01 f02
 try clear c10 c11 c12 f10 f11 f12
 obtain ⟨c00, c01, c02, f00, f01, f02, z0⟩ := tq0
 obtain ⟨c10, c11, c12, f10, f11, f12, z1⟩ := tq1
 have hs1 := hb1.size
 have o10 := z0
 have o11 := z1
 go_wp2

 go_loopw [1] (fun s1 wr => ∃ n : Int, ∃ G : T3, s1 = .int .i64 n ∧ 0 ≤ n ∧ n ≤ 1000000 ∧ InD D G ∧ Hid (sqN G n.toNat = sqN (rdT F) t.toNat) ∧ wr.cell? ⟨w.heap.size, 0, none⟩ = some (.int .i64 (G.1)) ∧ wr.cell? ⟨w.heap.size, 1, none⟩ = some (.int .i64 (G.2.1)) ∧ wr.cell? ⟨w.heap.size, 2, none⟩ = some (.int .i64 (G.2.2)) ∧ wr.cell? ⟨w.heap.size + 1, 0, none⟩ = some (.int .i64 0) ∧ wr.cell? ⟨w.heap.size + 1, 1, none⟩ = some (.int .i64 0) ∧ wr.cell? ⟨w.heap.size + 1, 2, none⟩ = some (.int .i64 0) ∧ wr.frozen? ⟨w.heap.size, 0, none⟩ = false ∧ wr.frozen? ⟨w.heap.size, 1, none⟩ = false ∧ wr.frozen? ⟨w.heap.size, 2, none⟩ = false ∧ wr.frozen? ⟨w.heap.size + 1, 0, none⟩ = false ∧ wr.frozen? ⟨w.heap.size + 1, 1, none⟩ = false ∧ wr.frozen? ⟨w.heap.size + 1, 2, none⟩ = false ∧ Below w.heap.size w wr) (fun s1 _ => (intOf s1).toNat)
 case atStart =>
  refine ⟨t, rdT F, rfl, h1, h2, h0.rd, hide rfl, ?_, ?_, ?_, ?_, ?_, ?_, ?_, ?_, ?_, ?_, ?_, ?_, ?_⟩
  all_goals (first | (with_reducible assumption) | ((first | with_reducible assumption | ((repeat' first | with_reducible (first | assumption | refine cell_al _ ?_ | refine cell_eq _ ?_ | refine cell_ne _ ?_ ?_ | refine ex_set _ ?_ | refine ex_al _ ?_ | exact ⟨_, by assumption⟩) | (intro hh; injection hh with hh1 hh2; omega)); done) | go_simp); done) | ((first | with_reducible assumption | ((repeat' first | with_reducible (first | assumption | refine frz_al _ ?_ ?_ | refine frz_set _ ?_) | omega | (simp; omega)); done) | go_simp); done) | (repeat' first | with_reducible (first | exact Below.refl _ _ | assumption | refine gr_alloc ?_ _ | refine below_drewN ?_ _ | refine below_drew ?_ | refine gr_call ?_ (by assumption) | refine Below.setCell ?_ ?_ _) | go_size | omega | (simp; omega)))
 case round =>
  try clear c00; try clear c01; try clear c02; try clear c10; try clear c11; try clear c12; try clear f00; try clear f01; try clear f02; try clear f10; try clear f11; try clear f12
  try clear hb9
  obtain ⟨n, G, rfl, hn0, hn1, hG, HS, c00, c01, c02, c10, c11, c12, f00, f01, f02, f10, f11, f12, hb9⟩ := hrel
  obtain ⟨wl, rfl⟩ : ∃ wl : World, wl = wr := ⟨_, rfl⟩
  have z0 := World.block_lt_of_cell? _ _ c00
  change w.heap.size < wl.heap.size at z0
  have z1 := World.block_lt_of_cell? _ _ c10
  change w.heap.size + 1 < wl.heap.size at z1
  by_cases q : n = 0
  ·subst q
   have HE : G = sqN (rdT F) t.toNat := by have := unhide HS; simpa [sqN] using this
   go_wp2
   refine bodyPost_ret (v := frm G) (by simp [results, Tryz.results31, go_sem, *]) rfl ?_
   exact ⟨by rw [HE], byGG⟩
  ·have HE : Hid (sqN (cmp G G) (n - 1).toNat = sqN (rdT F) t.toNat) := hide (by
    have := unhide HS
    rw [show n.toNat = (n - 1).toNat + 1 by omega, sqN] at this
    exact this)
   clear HS
   go_wp2_with fail
   refine (compose_D G G _ hG hG).mono ?_
   rintro en w2 ⟨rfl, hb2⟩
   have tq0 := Wi3.c hb2 w.heap.size G.1 G.2.1 G.2.2
   have tq1 := Wi3.c hb2 (w.heap.size + 1) 0 0 0
   try clear c00 c01 c02 f00 f01 f02
   try clear c10 c11 c12 f10 f11 f12
   obtain ⟨c00, c01, c02, f00, f01, f02, z0⟩ := tq0
   obtain ⟨c10, c11, c12, f10, f11, f12, z1⟩ := tq1
   have hs2 := hb2.size
   have o20 := z0
   have o21 := z1
   go_wp2
   go_roundw
   case rel =>
    first
    | (refine ⟨n - 1, cmp G G, rfl, by omega, by omega, hG.cp hG, HE, ?_, ?_, ?_, ?_, ?_, ?_, ?_, ?_, ?_, ?_, ?_, ?_, ?_⟩ <;> (first | (with_reducible assumption) | ((first | with_reducible assumption | ((repeat' first | with_reducible (first | assumption | refine cell_al _ ?_ | refine cell_eq _ ?_ | refine cell_ne _ ?_ ?_ | refine ex_set _ ?_ | refine ex_al _ ?_ | exact ⟨_, by assumption⟩) | (intro hh; injection hh with hh1 hh2; omega)); done) | go_simp); done) | ((first | with_reducible assumption | ((repeat' first | with_reducible (first | assumption | refine frz_al _ ?_ ?_ | refine frz_set _ ?_) | omega | (simp; omega)); done) | go_simp); done) | (repeat' first | with_reducible (first | exact Below.refl _ _ | assumption | refine gr_alloc ?_ _ | refine below_drewN ?_ _ | refine below_drew ?_ | refine gr_call ?_ (by assumption) | refine Below.setCell ?_ ?_ _) | go_size | omega | (simp; omega))))
    | ((repeat apply Exists.intro); refine ⟨?_, rfl⟩; (refine ⟨n - 1, cmp G G, rfl, by omega, by omega, hG.cp hG, HE, ?_, ?_, ?_, ?_, ?_, ?_, ?_, ?_, ?_, ?_, ?_, ?_, ?_⟩ <;> (first | (with_reducible assumption) | ((first | with_reducible assumption | ((repeat' first | with_reducible (first | assumption | refine cell_al _ ?_ | refine cell_eq _ ?_ | refine cell_ne _ ?_ ?_ | refine ex_set _ ?_ | refine ex_al _ ?_ | exact ⟨_, by assumption⟩) | (intro hh; injection hh with hh1 hh2; omega)); done) | go_simp); done) | ((first | with_reducible assumption | ((repeat' first | with_reducible (first | assumption | refine frz_al _ ?_ ?_ | refine frz_set _ ?_) | omega | (simp; omega)); done) | go_simp); done) | (repeat' first | with_reducible (first | exact Below.refl _ _ | assumption | refine gr_alloc ?_ _ | refine below_drewN ?_ _ | refine below_drew ?_ | refine gr_call ?_ (by assumption) | refine Below.setCell ?_ ?_ _) | go_size | omega | (simp; omega)))))
   case measure => (simp [intOf] <;> omega)

set_option maxRecDepth 100000 in
set_option maxHeartbeats 8000000 in
theorem dlSquare_D {D : Int} (F : T3) (t : Int) (w : World) (h0 : InD D F) (h1 : 0 ≤ t) (h2 : t ≤ 1000000) :
  Calls Tryz.prog 44 #[frm F, .int .i64 t] w fun e w' => e = .returned (frm (sqN (rdT F) t.toNat)) ∧ Below w.heap.size w w' := by
 go_enter Tryz.func44, Tryz.ntmps44
 go_wp2_with fail
 refine (reClass_D F _ h0).mono ?_
 rintro en w1 ⟨rfl, hb1⟩
 have tq0 := Ri3.c hb1 w.heap.size F.1 F.2.1 F.2.2
 have tq1 := Wi3.c hb1 (w.heap.size + 1) 0 0 0
 try clear c00 c01 c02
 try clear c10 c11 c12 f10 f11 f12
 obtain ⟨c00, c01, c02, z0⟩ := tq0
 obtain ⟨c10, c11, c12, f10, f11, f12, z1⟩ := tq1
 have hs1 := hb1.size
 have o10 := z0
 have o11 := z1
 go_wp2
 have n01 : ¬ w.heap.size + 1 = w1.heap.size := by omega
 have n10 : ¬ w1.heap.size = w.heap.size + 1 := by omega
 go_loopw [1] (fun s1 wr => ∃ n : Int, ∃ G : T3, s1 = .int .i64 n ∧ 0 ≤ n ∧ n ≤ 1000000 ∧ InD D G ∧ Hid (sqN G n.toNat = sqN (rdT F) t.toNat) ∧ wr.cell? ⟨w.heap.size + 1, 0, none⟩ = some (.int .i64 0) ∧ wr.cell? ⟨w.heap.size + 1, 1, none⟩ = some (.int .i64 0) ∧ wr.cell? ⟨w.heap.size + 1, 2, none⟩ = some (.int .i64 0) ∧ wr.cell? ⟨w1.heap.size, 0, none⟩ = some (.int .i64 (G.1)) ∧ wr.cell? ⟨w1.heap.size, 1, none⟩ = some (.int .i64 (G.2.1)) ∧ wr.cell? ⟨w1.heap.size, 2, none⟩ = some (.int .i64 (G.2.2)) ∧ wr.frozen? ⟨w.heap.size + 1, 0, none⟩ = false ∧ wr.frozen? ⟨w.heap.size + 1, 1, none⟩ = false ∧ wr.frozen? ⟨w.heap.size + 1, 2, none⟩ = false ∧ wr.frozen? ⟨w1.heap.size, 0, none⟩ = false ∧ wr.frozen? ⟨w1.heap.size, 1, none⟩ = false ∧ wr.frozen? ⟨w1.heap.size, 2, none⟩ = false ∧ Below w.heap.size w wr) (fun s1 _ => (intOf s1).toNat)
 case atStart =>
  refine ⟨t, rdT F, rfl, h1, h2, h0.rd, hide rfl, ?_, ?_, ?_, ?_, ?_, ?_, ?_, ?_, ?_, ?_, ?_, ?_, ?_⟩
  all_goals (first | (with_reducible assumption) | ((first | with_reducible assumption | ((repeat' first | with_reducible (first | assumption | refine cell_al _ ?_ | refine cell_eq _ ?_ | refine cell_ne _ ?_ ?_ | refine ex_set _ ?_ | refine ex_al _ ?_ | exact ⟨_, by assumption⟩) | (intro hh; injection hh with hh1 hh2; omega)); done) | go_simp); done) | ((first | with_reducible assumption | ((repeat' first | with_reducible (first | assumption | refine frz_al _ ?_ ?_ | refine frz_set _ ?_) | omega | (simp; omega)); done) | go_simp); done) | (repeat' first | with_reducible (first | exact Below.refl _ _ | assumption | refine gr_alloc ?_ _ | refine below_drewN ?_ _ | refine below_drew ?_ | refine gr_call ?_ (by assumption) | refine Below.setCell ?_ ?_ _) | go_size | omega | (simp; omega)))
 case round =>
  try clear c00; try clear c01; try clear c02; try clear c10; try clear c11; try clear c12; try clear f00; try clear f01; try clear f02; try clear f10; try clear f11; try clear f12
  try clear hb9
  obtain ⟨n, G, rfl, hn0, hn1, hG, HS, c00, c01, c02, c10, c11, c12, f00, f01, f02, f10, f11, f12, hb9⟩ := hrel
  obtain ⟨wl, rfl⟩ : ∃ wl : World, wl = wr := ⟨_, rfl⟩
  have z0 := World.block_lt_of_cell? _ _ c00
  change w.heap.size + 1 < wl.heap.size at z0
  have z1 := World.block_lt_of_cell? _ _ c10
  change w1.heap.size < wl.heap.size at z1
  by_cases q : n = 0
  ·subst q
   have HE : G = sqN (rdT F) t.toNat := by have := unhide HS; simpa [sqN] using this
   go_wp2
   refine bodyPost_ret (v := frm G) (by simp [results, Tryz.results44, go_sem, *]) rfl ?_
   exact ⟨by rw [HE], byGG⟩
  ·have HE : Hid (sqN (cmp G G) (n - 1).toNat = sqN (rdT F) t.toNat) := hide (by
    have := unhide HS
    rw [show n.toNat = (n - 1).toNat + 1 by omega, sqN] at this
    exact this)
   clear HS
   go_wp2_with fail
   refine (coMul_D G G _ hG hG).mono ?_
   rintro en w2 ⟨rfl, hb2⟩
   have tq0 := Wi3.c hb2 (w.heap.size + 1) 0 0 0
   have tq1 := Wi3.c hb2 w1.heap.size G.1 G.2.1 G.2.2
   try clear c00 c01 c02 f00 f01 f02
   try clear c10 c11 c12 f10 f11 f12
   obtain ⟨c00, c01, c02, f00, f01, f02, z0⟩ := tq0
   obtain ⟨c10, c11, c12, f10, f11, f12, z1⟩ := tq1
   have hs2 := hb2.size
   have o20 := z0
   have o21 := z1
   go_wp2
   go_roundw
   case rel =>
    first
    | (refine ⟨n - 1, cmp G G, rfl, by omega, by omega, hG.cp hG, HE, ?_, ?_, ?_, ?_, ?_, ?_, ?_, ?_, ?_, ?_, ?_, ?_, ?_⟩ <;> (first | (with_reducible assumption) | ((first | with_reducible assumption | ((repeat' first | with_reducible (first | assumption | refine cell_al _ ?_ | refine cell_eq _ ?_ | refine cell_ne _ ?_ ?_ | refine ex_set _ ?_ | refine ex_al _ ?_ | exact ⟨_, by assumption⟩) | (intro hh; injection hh with hh1 hh2; omega)); done) | go_simp); done) | ((first | with_reducible assumption | ((repeat' first | with_reducible (first | assumption | refine frz_al _ ?_ ?_ | refine frz_set _ ?_) | omega | (simp; omega)); done) | go_simp); done) | (repeat' first | with_reducible (first | exact Below.refl _ _ | assumption | refine gr_alloc ?_ _ | refine below_drewN ?_ _ | refine below_drew ?_ | refine gr_call ?_ (by assumption) | refine Below.setCell ?_ ?_ _) | go_size | omega | (simp; omega))))
    | ((repeat apply Exists.intro); refine ⟨?_, rfl⟩; (refine ⟨n - 1, cmp G G, rfl, by omega, by omega, hG.cp hG, HE, ?_, ?_, ?_, ?_, ?_, ?_, ?_, ?_, ?_, ?_, ?_, ?_, ?_⟩ <;> (first | (with_reducible assumption) | ((first | with_reducible assumption | ((repeat' first | with_reducible (first | assumption | refine cell_al _ ?_ | refine cell_eq _ ?_ | refine cell_ne _ ?_ ?_ | refine ex_set _ ?_ | refine ex_al _ ?_ | exact ⟨_, by assumption⟩) | (intro hh; injection hh with hh1 hh2; omega)); done) | go_simp); done) | ((first | with_reducible assumption | ((repeat' first | with_reducible (first | assumption | refine frz_al _ ?_ ?_ | refine frz_set _ ?_) | omega | (simp; omega)); done) | go_simp); done) | (repeat' first | with_reducible (first | exact Below.refl _ _ | assumption | refine gr_alloc ?_ _ | refine below_drewN ?_ _ | refine below_drew ?_ | refine gr_call ?_ (by assumption) | refine Below.setCell ?_ ?_ _) | go_size | omega | (simp; omega)))))
   case measure => (simp [intOf] <;> omega)

end Go.Proofs.YtihfacmlfelliaaGreat
