/- Quotients' powers over triples, on both sides. -/
import Derived.Test.YtihfacmlfelliaaGreatGc
namespace Go.Proofs.YtihfacmlfelliaaGreat
open Go.RowKit
set_option linter.unusedVariables false
set_option linter.unusedSimpArgs false
attribute [local go_sem] q2 q3 q4 q5 q6 q7 q8 q9 q10 q11 q12

set_option maxRecDepth 100000 in
set_option maxHeartbeats 16000000 in
theorem quotientPower_D {D : Int} (F : T3) (t l : Int) (w : World) (h0 : Frm D F) (h1 : 0 ≤ t) (h2 : t ≤ 1000000) (h3 : 2 ≤ l) (h4 : l ≤ 1000) :
  Calls Tryz.prog 35 #[frm F, .int .i64 t, .int .i64 l] w fun e w' => e = .returned (frm (quD D F t l)) ∧ Below w.heap.size w w' := by
 have hdd := h0.dd
 go_enter Tryz.func35, Tryz.ntmps35
 go_wp2_with fail
 refine (disc_D F _ h0.i h0.f).mono ?_
 rintro en w1 ⟨rfl, hb1⟩
 have tq0 := Ri3.c hb1 w.heap.size F.1 F.2.1 F.2.2
 have tq1 := Wi3.c hb1 (w.heap.size + 1) 0 0 0
 try clear c00 c01 c02
 try clear c10 c11 c12 f10 f11 f12
 obtain ⟨c00, c01, c02, z0⟩ := tq0
 obtain ⟨c10, c11, c12, f10, f11, f12, z1⟩ := tq1
 have hs1 := hb1.size
 have o10 := z0
 have o11 := z1
 go_wp2_with fail
 refine (principal_D D _ hdd.1 hdd.2).mono ?_
 rintro en w2 ⟨rfl, hb2⟩
 have tq0 := Ri3.c hb2 w.heap.size F.1 F.2.1 F.2.2
 have tq1 := Wi3.c hb2 (w.heap.size + 1) 0 0 0
 try clear c00 c01 c02
 try clear c10 c11 c12 f10 f11 f12
 obtain ⟨c00, c01, c02, z0⟩ := tq0
 obtain ⟨c10, c11, c12, f10, f11, f12, z1⟩ := tq1
 have hs2 := hb2.size
 have o20 := z0
 have o21 := z1
 go_wp2_with fail
 refine (reduced_D (onT D) _ h0.on.1.i).mono ?_
 rintro en w3 ⟨rfl, hb3⟩
 have tq0 := Ri3.c hb3 w.heap.size F.1 F.2.1 F.2.2
 have tq1 := Wi3.c hb3 (w.heap.size + 1) 0 0 0
 try clear c00 c01 c02
 try clear c10 c11 c12 f10 f11 f12
 obtain ⟨c00, c01, c02, z0⟩ := tq0
 obtain ⟨c10, c11, c12, f10, f11, f12, z1⟩ := tq1
 have hs3 := hb3.size
 have o30 := z0
 have o31 := z1
 have E1 := on_rd h0
 rw [E1]
 clear E1
 go_wp2
 have n02 : ¬ w.heap.size = w3.heap.size := by omega
 have n12 : ¬ w.heap.size + 1 = w3.heap.size := by omega
 have n20 : ¬ w3.heap.size = w.heap.size := by omega
 have n21 : ¬ w3.heap.size = w.heap.size + 1 := by omega
 go_loopw [1, 8] (fun s1 s8 wr => ∃ n : Int, ∃ r : Int, ∃ p : T3, s1 = .int .i64 n ∧ s8 = .int .i64 r ∧ 0 ≤ n ∧ n ≤ 1000000 ∧ 0 ≤ r ∧ r < l ∧ InD D p ∧ Hid (quL F l p r n.toNat = quD D F t l) ∧ wr.cell? ⟨w.heap.size, 0, none⟩ = some (.int .i64 (F.1)) ∧ wr.cell? ⟨w.heap.size, 1, none⟩ = some (.int .i64 (F.2.1)) ∧ wr.cell? ⟨w.heap.size, 2, none⟩ = some (.int .i64 (F.2.2)) ∧ wr.cell? ⟨w.heap.size + 1, 0, none⟩ = some (.int .i64 0) ∧ wr.cell? ⟨w.heap.size + 1, 1, none⟩ = some (.int .i64 0) ∧ wr.cell? ⟨w.heap.size + 1, 2, none⟩ = some (.int .i64 0) ∧ wr.cell? ⟨w3.heap.size, 0, none⟩ = some (.int .i64 (p.1)) ∧ wr.cell? ⟨w3.heap.size, 1, none⟩ = some (.int .i64 (p.2.1)) ∧ wr.cell? ⟨w3.heap.size, 2, none⟩ = some (.int .i64 (p.2.2)) ∧ wr.frozen? ⟨w.heap.size + 1, 0, none⟩ = false ∧ wr.frozen? ⟨w.heap.size + 1, 1, none⟩ = false ∧ wr.frozen? ⟨w.heap.size + 1, 2, none⟩ = false ∧ wr.frozen? ⟨w3.heap.size, 0, none⟩ = false ∧ wr.frozen? ⟨w3.heap.size, 1, none⟩ = false ∧ wr.frozen? ⟨w3.heap.size, 2, none⟩ = false ∧ Below w.heap.size w wr) (fun s1 s8 _ => (intOf s1).toNat)
 case atStart =>
  refine ⟨t, 1, onT D, rfl, rfl, h1, h2, by omega, by omega, h0.on.1.i, hide rfl, ?_, ?_, ?_, ?_, ?_, ?_, ?_, ?_, ?_, ?_, ?_, ?_, ?_, ?_, ?_, ?_⟩
  all_goals (first | (with_reducible assumption) | ((first | with_reducible assumption | ((repeat' first | with_reducible (first | assumption | refine cell_al _ ?_ | refine cell_eq _ ?_ | refine cell_ne _ ?_ ?_ | refine ex_set _ ?_ | refine ex_al _ ?_ | exact ⟨_, by assumption⟩) | (intro hh; injection hh with hh1 hh2; omega)); done) | go_simp); done) | ((first | with_reducible assumption | ((repeat' first | with_reducible (first | assumption | refine frz_al _ ?_ ?_ | refine frz_set _ ?_) | omega | (simp; omega)); done) | go_simp); done) | (repeat' first | with_reducible (first | exact Below.refl _ _ | assumption | refine gr_alloc ?_ _ | refine below_drewN ?_ _ | refine below_drew ?_ | refine gr_call ?_ (by assumption) | refine Below.setCell ?_ ?_ _) | go_size | omega | (simp; omega)))
 case round =>
  try clear c00; try clear c01; try clear c02; try clear c10; try clear c11; try clear c12; try clear c20; try clear c21; try clear c22; try clear f10; try clear f11; try clear f12; try clear f20; try clear f21; try clear f22
  try clear hb9
  obtain ⟨n, r, p, rfl, rfl, hn0, hn1, hr0, hr1, hp, HS, c00, c01, c02, c10, c11, c12, c20, c21, c22, f10, f11, f12, f20, f21, f22, hb9⟩ := hrel
  obtain ⟨wl, rfl⟩ : ∃ wl : World, wl = wr := ⟨_, rfl⟩
  have z0 := World.block_lt_of_cell? _ _ c00
  change w.heap.size < wl.heap.size at z0
  have z1 := World.block_lt_of_cell? _ _ c10
  change w.heap.size + 1 < wl.heap.size at z1
  have z2 := World.block_lt_of_cell? _ _ c20
  change w3.heap.size < wl.heap.size at z2
  by_cases q : n = 0
  ·subst q
   have HE : p = quD D F t l := unhide HS
   go_wp2
   refine bodyPost_ret (v := frm p) (by simp [results, Tryz.results35, go_sem, *]) rfl ?_
   exact ⟨by rw [HE], byGG⟩
  ·have hn2 : 0 < n := by omega
   have w2r : -4000000 ≤ 2 * r ∧ 2 * r ≤ 4000000 := by omega
   have w2s : -4000000 ≤ r * 2 ∧ r * 2 ≤ 4000000 := by omega
   by_cases q2 : l ≤ r * 2
   ·have HE : Hid (quL F l (cmp (cmp p p) F) (2 * r - l) (n - 1).toNat = quD D F t l) := hide ((qu_hi hn2 (by omega)).symm.trans (unhide HS))
    have HP := (hp.cp hp).cp h0.i
    clear HS
    go_wp2_with fail
    refine (compose_D p p _ hp hp).mono ?_
    rintro en w4 ⟨rfl, hb4⟩
    have tq0 := Ri3.c hb4 w.heap.size F.1 F.2.1 F.2.2
    have tq1 := Wi3.c hb4 (w.heap.size + 1) 0 0 0
    have tq2 := Wi3.c hb4 w3.heap.size p.1 p.2.1 p.2.2
    try clear c00 c01 c02
    try clear c10 c11 c12 f10 f11 f12
    try clear c20 c21 c22 f20 f21 f22
    obtain ⟨c00, c01, c02, z0⟩ := tq0
    obtain ⟨c10, c11, c12, f10, f11, f12, z1⟩ := tq1
    obtain ⟨c20, c21, c22, f20, f21, f22, z2⟩ := tq2
    have hs4 := hb4.size
    have o40 := z0
    have o41 := z1
    have o42 := z2
    go_wp2_with fail
    refine (compose_D (cmp p p) F _ (hp.cp hp) h0.i).mono ?_
    rintro en w5 ⟨rfl, hb5⟩
    have tq0 := Ri3.c hb5 w.heap.size F.1 F.2.1 F.2.2
    have tq1 := Wi3.c hb5 (w.heap.size + 1) 0 0 0
    have tq2 := Wi3.c hb5 w3.heap.size (((cmp p p)).1) (((cmp p p)).2.1) (((cmp p p)).2.2)
    try clear c00 c01 c02
    try clear c10 c11 c12 f10 f11 f12
    try clear c20 c21 c22 f20 f21 f22
    obtain ⟨c00, c01, c02, z0⟩ := tq0
    obtain ⟨c10, c11, c12, f10, f11, f12, z1⟩ := tq1
    obtain ⟨c20, c21, c22, f20, f21, f22, z2⟩ := tq2
    have hs5 := hb5.size
    have o50 := z0
    have o51 := z1
    have o52 := z2
    go_wp2
    go_roundw
    case rel =>
     first
     | (refine ⟨n - 1, 2 * r - l, cmp (cmp p p) F, rfl, by first | rfl | (congr 1; omega), by omega, by omega, by omega, by omega, HP, HE, ?_, ?_, ?_, ?_, ?_, ?_, ?_, ?_, ?_, ?_, ?_, ?_, ?_, ?_, ?_, ?_⟩ <;> (first | (with_reducible assumption) | ((first | with_reducible assumption | ((repeat' first | with_reducible (first | assumption | refine cell_al _ ?_ | refine cell_eq _ ?_ | refine cell_ne _ ?_ ?_ | refine ex_set _ ?_ | refine ex_al _ ?_ | exact ⟨_, by assumption⟩) | (intro hh; injection hh with hh1 hh2; omega)); done) | go_simp); done) | ((first | with_reducible assumption | ((repeat' first | with_reducible (first | assumption | refine frz_al _ ?_ ?_ | refine frz_set _ ?_) | omega | (simp; omega)); done) | go_simp); done) | (repeat' first | with_reducible (first | exact Below.refl _ _ | assumption | refine gr_alloc ?_ _ | refine below_drewN ?_ _ | refine below_drew ?_ | refine gr_call ?_ (by assumption) | refine Below.setCell ?_ ?_ _) | go_size | omega | (simp; omega))))
     | ((repeat apply Exists.intro); refine ⟨?_, rfl⟩; (refine ⟨n - 1, 2 * r - l, cmp (cmp p p) F, rfl, by first | rfl | (congr 1; omega), by omega, by omega, by omega, by omega, HP, HE, ?_, ?_, ?_, ?_, ?_, ?_, ?_, ?_, ?_, ?_, ?_, ?_, ?_, ?_, ?_, ?_⟩ <;> (first | (with_reducible assumption) | ((first | with_reducible assumption | ((repeat' first | with_reducible (first | assumption | refine cell_al _ ?_ | refine cell_eq _ ?_ | refine cell_ne _ ?_ ?_ | refine ex_set _ ?_ | refine ex_al _ ?_ | exact ⟨_, by assumption⟩) | (intro hh; injection hh with hh1 hh2; omega)); done) | go_simp); done) | ((first | with_reducible assumption | ((repeat' first | with_reducible (first | assumption | refine frz_al _ ?_ ?_ | refine frz_set _ ?_) | omega | (simp; omega)); done) | go_simp); done) | (repeat' first | with_reducible (first | exact Below.refl _ _ | assumption | refine gr_alloc ?_ _ | refine below_drewN ?_ _ | refine below_drew ?_ | refine gr_call ?_ (by assumption) | refine Below.setCell ?_ ?_ _) | go_size | omega | (simp; omega)))))
    case measure => (simp [intOf] <;> omega)
   ·have HE : Hid (quL F l (cmp p p) (2 * r) (n - 1).toNat = quD D F t l) := hide ((qu_lo hn2 (by omega)).symm.trans (unhide HS))
    have HP := hp.cp hp
    clear HS
    go_wp2_with fail
    refine (compose_D p p _ hp hp).mono ?_
    rintro en w4 ⟨rfl, hb4⟩
    have tq0 := Ri3.c hb4 w.heap.size F.1 F.2.1 F.2.2
    have tq1 := Wi3.c hb4 (w.heap.size + 1) 0 0 0
    have tq2 := Wi3.c hb4 w3.heap.size p.1 p.2.1 p.2.2
    try clear c00 c01 c02
    try clear c10 c11 c12 f10 f11 f12
    try clear c20 c21 c22 f20 f21 f22
    obtain ⟨c00, c01, c02, z0⟩ := tq0
    obtain ⟨c10, c11, c12, f10, f11, f12, z1⟩ := tq1
    obtain ⟨c20, c21, c22, f20, f21, f22, z2⟩ := tq2
    have hs4 := hb4.size
    have o40 := z0
    have o41 := z1
    have o42 := z2
    go_wp2
    go_roundw
    case rel =>
     first
     | (refine ⟨n - 1, 2 * r, cmp p p, rfl, by first | rfl | (congr 1; omega), by omega, by omega, by omega, by omega, HP, HE, ?_, ?_, ?_, ?_, ?_, ?_, ?_, ?_, ?_, ?_, ?_, ?_, ?_, ?_, ?_, ?_⟩ <;> (first | (with_reducible assumption) | ((first | with_reducible assumption | ((repeat' first | with_reducible (first | assumption | refine cell_al _ ?_ | refine cell_eq _ ?_ | refine cell_ne _ ?_ ?_ | refine ex_set _ ?_ | refine ex_al _ ?_ | exact ⟨_, by assumption⟩) | (intro hh; injection hh with hh1 hh2; omega)); done) | go_simp); done) | ((first | with_reducible assumption | ((repeat' first | with_reducible (first | assumption | refine frz_al _ ?_ ?_ | refine frz_set _ ?_) | omega | (simp; omega)); done) | go_simp); done) | (repeat' first | with_reducible (first | exact Below.refl _ _ | assumption | refine gr_alloc ?_ _ | refine below_drewN ?_ _ | refine below_drew ?_ | refine gr_call ?_ (by assumption) | refine Below.setCell ?_ ?_ _) | go_size | omega | (simp; omega))))
     | ((repeat apply Exists.intro); refine ⟨?_, rfl⟩; (refine ⟨n - 1, 2 * r, cmp p p, rfl, by first | rfl | (congr 1; omega), by omega, by omega, by omega, by omega, HP, HE, ?_, ?_, ?_, ?_, ?_, ?_, ?_, ?_, ?_, ?_, ?_, ?_, ?_, ?_, ?_, ?_⟩ <;> (first | (with_reducible assumption) | ((first | with_reducible assumption | ((repeat' first | with_reducible (first | assumption | refine cell_al _ ?_ | refine cell_eq _ ?_ | refine cell_ne _ ?_ ?_ | refine ex_set _ ?_ | refine ex_al _ ?_ | exact ⟨_, by assumption⟩) | (intro hh; injection hh with hh1 hh2; omega)); done) | go_simp); done) | ((first | with_reducible assumption | ((repeat' first | with_reducible (first | assumption | refine frz_al _ ?_ ?_ | refine frz_set _ ?_) | omega | (simp; omega)); done) | go_simp); done) | (repeat' first | with_reducible (first | exact Below.refl _ _ | assumption | refine gr_alloc ?_ _ | refine below_drewN ?_ _ | refine below_drew ?_ | refine gr_call ?_ (by assumption) | refine Below.setCell ?_ ?_ _) | go_size | omega | (simp; omega)))))
    case measure => (simp [intOf] <;> omega)

set_option maxRecDepth 100000 in
set_option maxHeartbeats 16000000 in
theorem dlQuotient_D {D : Int} (F : T3) (t l : Int) (w : World) (h0 : Frm D F) (h1 : 0 ≤ t) (h2 : t ≤ 1000000) (h3 : 2 ≤ l) (h4 : l ≤ 1000) :
  Calls Tryz.prog 48 #[frm F, .int .i64 t, .int .i64 l] w fun e w' => ∃ r : Int, e = .returned (.tuple #[frm (quD D F t l), .int .i64 r]) ∧ Below w.heap.size w w' := by
 have hdd := h0.dd
 go_enter Tryz.func48, Tryz.ntmps48
 go_wp2_with fail
 refine (foDisc_D F _ h0.i h0.f).mono ?_
 rintro en w1 ⟨rfl, hb1⟩
 have tq0 := Ri3.c hb1 w.heap.size F.1 F.2.1 F.2.2
 have tq1 := Wi3.c hb1 (w.heap.size + 1) 0 0 0
 try clear c00 c01 c02
 try clear c10 c11 c12 f10 f11 f12
 obtain ⟨c00, c01, c02, z0⟩ := tq0
 obtain ⟨c10, c11, c12, f10, f11, f12, z1⟩ := tq1
 have hs1 := hb1.size
 have o10 := z0
 have o11 := z1
 go_wp2_with fail
 refine (coOne_D D _ hdd.1 hdd.2).mono ?_
 rintro en w2 ⟨rfl, hb2⟩
 have tq0 := Ri3.c hb2 w.heap.size F.1 F.2.1 F.2.2
 have tq1 := Wi3.c hb2 (w.heap.size + 1) 0 0 0
 try clear c00 c01 c02
 try clear c10 c11 c12 f10 f11 f12
 obtain ⟨c00, c01, c02, z0⟩ := tq0
 obtain ⟨c10, c11, c12, f10, f11, f12, z1⟩ := tq1
 have hs2 := hb2.size
 have o20 := z0
 have o21 := z1
 go_wp2
 have n02 : ¬ w.heap.size = w2.heap.size := by omega
 have n12 : ¬ w.heap.size + 1 = w2.heap.size := by omega
 have n20 : ¬ w2.heap.size = w.heap.size := by omega
 have n21 : ¬ w2.heap.size = w.heap.size + 1 := by omega
 go_loopw [1, 9] (fun s1 s9 wr => ∃ n : Int, ∃ r : Int, ∃ p : T3, s1 = .int .i64 n ∧ s9 = .int .i64 r ∧ 0 ≤ n ∧ n ≤ 1000000 ∧ 0 ≤ r ∧ r < l ∧ InD D p ∧ Hid (quL F l p r n.toNat = quD D F t l) ∧ wr.cell? ⟨w.heap.size, 0, none⟩ = some (.int .i64 (F.1)) ∧ wr.cell? ⟨w.heap.size, 1, none⟩ = some (.int .i64 (F.2.1)) ∧ wr.cell? ⟨w.heap.size, 2, none⟩ = some (.int .i64 (F.2.2)) ∧ wr.cell? ⟨w.heap.size + 1, 0, none⟩ = some (.int .i64 0) ∧ wr.cell? ⟨w.heap.size + 1, 1, none⟩ = some (.int .i64 0) ∧ wr.cell? ⟨w.heap.size + 1, 2, none⟩ = some (.int .i64 0) ∧ wr.cell? ⟨w2.heap.size, 0, none⟩ = some (.int .i64 (p.1)) ∧ wr.cell? ⟨w2.heap.size, 1, none⟩ = some (.int .i64 (p.2.1)) ∧ wr.cell? ⟨w2.heap.size, 2, none⟩ = some (.int .i64 (p.2.2)) ∧ wr.frozen? ⟨w.heap.size + 1, 0, none⟩ = false ∧ wr.frozen? ⟨w.heap.size + 1, 1, none⟩ = false ∧ wr.frozen? ⟨w.heap.size + 1, 2, none⟩ = false ∧ wr.frozen? ⟨w2.heap.size, 0, none⟩ = false ∧ wr.frozen? ⟨w2.heap.size, 1, none⟩ = false ∧ wr.frozen? ⟨w2.heap.size, 2, none⟩ = false ∧ Below w.heap.size w wr) (fun s1 s9 _ => (intOf s1).toNat)
 case atStart =>
  refine ⟨t, 1, onT D, rfl, rfl, h1, h2, by omega, by omega, h0.on.1.i, hide rfl, ?_, ?_, ?_, ?_, ?_, ?_, ?_, ?_, ?_, ?_, ?_, ?_, ?_, ?_, ?_, ?_⟩
  all_goals (first | (with_reducible assumption) | ((first | with_reducible assumption | ((repeat' first | with_reducible (first | assumption | refine cell_al _ ?_ | refine cell_eq _ ?_ | refine cell_ne _ ?_ ?_ | refine ex_set _ ?_ | refine ex_al _ ?_ | exact ⟨_, by assumption⟩) | (intro hh; injection hh with hh1 hh2; omega)); done) | go_simp); done) | ((first | with_reducible assumption | ((repeat' first | with_reducible (first | assumption | refine frz_al _ ?_ ?_ | refine frz_set _ ?_) | omega | (simp; omega)); done) | go_simp); done) | (repeat' first | with_reducible (first | exact Below.refl _ _ | assumption | refine gr_alloc ?_ _ | refine below_drewN ?_ _ | refine below_drew ?_ | refine gr_call ?_ (by assumption) | refine Below.setCell ?_ ?_ _) | go_size | omega | (simp; omega)))
 case round =>
  try clear c00; try clear c01; try clear c02; try clear c10; try clear c11; try clear c12; try clear c20; try clear c21; try clear c22; try clear f10; try clear f11; try clear f12; try clear f20; try clear f21; try clear f22
  try clear hb9
  obtain ⟨n, r, p, rfl, rfl, hn0, hn1, hr0, hr1, hp, HS, c00, c01, c02, c10, c11, c12, c20, c21, c22, f10, f11, f12, f20, f21, f22, hb9⟩ := hrel
  obtain ⟨wl, rfl⟩ : ∃ wl : World, wl = wr := ⟨_, rfl⟩
  have z0 := World.block_lt_of_cell? _ _ c00
  change w.heap.size < wl.heap.size at z0
  have z1 := World.block_lt_of_cell? _ _ c10
  change w.heap.size + 1 < wl.heap.size at z1
  have z2 := World.block_lt_of_cell? _ _ c20
  change w2.heap.size < wl.heap.size at z2
  by_cases q : n = 0
  ·subst q
   go_wp2_with fail
   refine (reClass_D p _ hp).mono ?_
   rintro en w3 ⟨rfl, hb3⟩
   have tq0 := Ri3.c hb3 w.heap.size F.1 F.2.1 F.2.2
   have tq1 := Wi3.c hb3 (w.heap.size + 1) 0 0 0
   have tq2 := Wi3.c hb3 w2.heap.size p.1 p.2.1 p.2.2
   try clear c00 c01 c02
   try clear c10 c11 c12 f10 f11 f12
   try clear c20 c21 c22 f20 f21 f22
   obtain ⟨c00, c01, c02, z0⟩ := tq0
   obtain ⟨c10, c11, c12, f10, f11, f12, z1⟩ := tq1
   obtain ⟨c20, c21, c22, f20, f21, f22, z2⟩ := tq2
   have hs3 := hb3.size
   have o30 := z0
   have o31 := z1
   have o32 := z2
   have HX : rdT p = quD D F t l := by rw [show p = quD D F t l from unhide HS]; exact qu_rd h0 t l
   go_wp2
   refine bodyPost_ret (v := .tuple #[frm (quD D F t l), .int .i64 r]) (by simp [results, Tryz.results48, go_sem, *]) rfl ?_
   exact ⟨r, rfl, byGG⟩
  ·have hn2 : 0 < n := by omega
   have w2r : -4000000 ≤ 2 * r ∧ 2 * r ≤ 4000000 := by omega
   have w2s : -4000000 ≤ r * 2 ∧ r * 2 ≤ 4000000 := by omega
   by_cases q2 : l ≤ r * 2
   ·have HE : Hid (quL F l (cmp (cmp p p) F) (2 * r - l) (n - 1).toNat = quD D F t l) := hide ((qu_hi hn2 (by omega)).symm.trans (unhide HS))
    have HP := (hp.cp hp).cp h0.i
    clear HS
    go_wp2_with fail
    refine (coMul_D p p _ hp hp).mono ?_
    rintro en w4 ⟨rfl, hb4⟩
    have tq0 := Ri3.c hb4 w.heap.size F.1 F.2.1 F.2.2
    have tq1 := Wi3.c hb4 (w.heap.size + 1) 0 0 0
    have tq2 := Wi3.c hb4 w2.heap.size p.1 p.2.1 p.2.2
    try clear c00 c01 c02
    try clear c10 c11 c12 f10 f11 f12
    try clear c20 c21 c22 f20 f21 f22
    obtain ⟨c00, c01, c02, z0⟩ := tq0
    obtain ⟨c10, c11, c12, f10, f11, f12, z1⟩ := tq1
    obtain ⟨c20, c21, c22, f20, f21, f22, z2⟩ := tq2
    have hs4 := hb4.size
    have o40 := z0
    have o41 := z1
    have o42 := z2
    go_wp2_with fail
    refine (coMul_D (cmp p p) F _ (hp.cp hp) h0.i).mono ?_
    rintro en w5 ⟨rfl, hb5⟩
    have tq0 := Ri3.c hb5 w.heap.size F.1 F.2.1 F.2.2
    have tq1 := Wi3.c hb5 (w.heap.size + 1) 0 0 0
    have tq2 := Wi3.c hb5 w2.heap.size (((cmp p p)).1) (((cmp p p)).2.1) (((cmp p p)).2.2)
    try clear c00 c01 c02
    try clear c10 c11 c12 f10 f11 f12
    try clear c20 c21 c22 f20 f21 f22
    obtain ⟨c00, c01, c02, z0⟩ := tq0
    obtain ⟨c10, c11, c12, f10, f11, f12, z1⟩ := tq1
    obtain ⟨c20, c21, c22, f20, f21, f22, z2⟩ := tq2
    have hs5 := hb5.size
    have o50 := z0
    have o51 := z1
    have o52 := z2
    go_wp2
    go_roundw
    case rel =>
     first
     | (refine ⟨n - 1, 2 * r - l, cmp (cmp p p) F, rfl, by first | rfl | (congr 1; omega), by omega, by omega, by omega, by omega, HP, HE, ?_, ?_, ?_, ?_, ?_, ?_, ?_, ?_, ?_, ?_, ?_, ?_, ?_, ?_, ?_, ?_⟩ <;> (first | (with_reducible assumption) | ((first | with_reducible assumption | ((repeat' first | with_reducible (first | assumption | refine cell_al _ ?_ | refine cell_eq _ ?_ | refine cell_ne _ ?_ ?_ | refine ex_set _ ?_ | refine ex_al _ ?_ | exact ⟨_, by assumption⟩) | (intro hh; injection hh with hh1 hh2; omega)); done) | go_simp); done) | ((first | with_reducible assumption | ((repeat' first | with_reducible (first | assumption | refine frz_al _ ?_ ?_ | refine frz_set _ ?_) | omega | (simp; omega)); done) | go_simp); done) | (repeat' first | with_reducible (first | exact Below.refl _ _ | assumption | refine gr_alloc ?_ _ | refine below_drewN ?_ _ | refine below_drew ?_ | refine gr_call ?_ (by assumption) | refine Below.setCell ?_ ?_ _) | go_size | omega | (simp; omega))))
     | ((repeat apply Exists.intro); refine ⟨?_, rfl⟩; (refine ⟨n - 1, 2 * r - l, cmp (cmp p p) F, rfl, by first | rfl | (congr 1; omega), by omega, by omega, by omega, by omega, HP, HE, ?_, ?_, ?_, ?_, ?_, ?_, ?_, ?_, ?_, ?_, ?_, ?_, ?_, ?_, ?_, ?_⟩ <;> (first | (with_reducible assumption) | ((first | with_reducible assumption | ((repeat' first | with_reducible (first | assumption | refine cell_al _ ?_ | refine cell_eq _ ?_ | refine cell_ne _ ?_ ?_ | refine ex_set _ ?_ | refine ex_al _ ?_ | exact ⟨_, by assumption⟩) | (intro hh; injection hh with hh1 hh2; omega)); done) | go_simp); done) | ((first | with_reducible assumption | ((repeat' first | with_reducible (first | assumption | refine frz_al _ ?_ ?_ | refine frz_set _ ?_) | omega | (simp; omega)); done) | go_simp); done) | (repeat' first | with_reducible (first | exact Below.refl _ _ | assumption | refine gr_alloc ?_ _ | refine below_drewN ?_ _ | refine below_drew ?_ | refine gr_call ?_ (by assumption) | refine Below.setCell ?_ ?_ _) | go_size | omega | (simp; omega)))))
    case measure => (simp [intOf] <;> omega)
   ·have HE : Hid (quL F l (cmp p p) (2 * r) (n - 1).toNat = quD D F t l) := hide ((qu_lo hn2 (by omega)).symm.trans (unhide HS))
    have HP := hp.cp hp
    clear HS
    go_wp2_with fail
    refine (coMul_D p p _ hp hp).mono ?_
    rintro en w4 ⟨rfl, hb4⟩
    have tq0 := Ri3.c hb4 w.heap.size F.1 F.2.1 F.2.2
    have tq1 := Wi3.c hb4 (w.heap.size + 1) 0 0 0
    have tq2 := Wi3.c hb4 w2.heap.size p.1 p.2.1 p.2.2
    try clear c00 c01 c02
    try clear c10 c11 c12 f10 f11 f12
    try clear c20 c21 c22 f20 f21 f22
    obtain ⟨c00, c01, c02, z0⟩ := tq0
    obtain ⟨c10, c11, c12, f10, f11, f12, z1⟩ := tq1
    obtain ⟨c20, c21, c22, f20, f21, f22, z2⟩ := tq2
    have hs4 := hb4.size
    have o40 := z0
    have o41 := z1
    have o42 := z2
    go_wp2
    go_roundw
    case rel =>
     first
     | (refine ⟨n - 1, 2 * r, cmp p p, rfl, by first | rfl | (congr 1; omega), by omega, by omega, by omega, by omega, HP, HE, ?_, ?_, ?_, ?_, ?_, ?_, ?_, ?_, ?_, ?_, ?_, ?_, ?_, ?_, ?_, ?_⟩ <;> (first | (with_reducible assumption) | ((first | with_reducible assumption | ((repeat' first | with_reducible (first | assumption | refine cell_al _ ?_ | refine cell_eq _ ?_ | refine cell_ne _ ?_ ?_ | refine ex_set _ ?_ | refine ex_al _ ?_ | exact ⟨_, by assumption⟩) | (intro hh; injection hh with hh1 hh2; omega)); done) | go_simp); done) | ((first | with_reducible assumption | ((repeat' first | with_reducible (first | assumption | refine frz_al _ ?_ ?_ | refine frz_set _ ?_) | omega | (simp; omega)); done) | go_simp); done) | (repeat' first | with_reducible (first | exact Below.refl _ _ | assumption | refine gr_alloc ?_ _ | refine below_drewN ?_ _ | refine below_drew ?_ | refine gr_call ?_ (by assumption) | refine Below.setCell ?_ ?_ _) | go_size | omega | (simp; omega))))
     | ((repeat apply Exists.intro); refine ⟨?_, rfl⟩; (refine ⟨n - 1, 2 * r, cmp p p, rfl, by first | rfl | (congr 1; omega), by omega, by omega, by omega, by omega, HP, HE, ?_, ?_, ?_, ?_, ?_, ?_, ?_, ?_, ?_, ?_, ?_, ?_, ?_, ?_, ?_, ?_⟩ <;> (first | (with_reducible assumption) | ((first | with_reducible assumption | ((repeat' first | with_reducible (first | assumption | refine cell_al _ ?_ | refine cell_eq _ ?_ | refine cell_ne _ ?_ ?_ | refine ex_set _ ?_ | refine ex_al _ ?_ | exact ⟨_, by assumption⟩) | (intro hh; injection hh with hh1 hh2; omega)); done) | go_simp); done) | ((first | with_reducible assumption | ((repeat' first | with_reducible (first | assumption | refine frz_al _ ?_ ?_ | refine frz_set _ ?_) | omega | (simp; omega)); done) | go_simp); done) | (repeat' first | with_reducible (first | exact Below.refl _ _ | assumption | refine gr_alloc ?_ _ | refine below_drewN ?_ _ | refine below_drew ?_ | refine gr_call ?_ (by assumption) | refine Below.setCell ?_ ?_ _) | go_size | omega | (simp; omega)))))
    case measure => (simp [intOf] <;> omega)

end Go.Proofs.YtihfacmlfelliaaGreat
