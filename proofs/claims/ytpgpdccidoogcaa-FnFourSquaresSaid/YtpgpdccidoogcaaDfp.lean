/-
  Two quadruples drawn.
-/
import Derived.Test.YtpgpdccidoogcaaDsq
namespace Go.Proofs.Ytpgpdccidoogcaa
open Go.RowKit
set_option linter.unusedVariables false
set_option linter.unusedSimpArgs false
attribute [local go_sem] q2 q3 q4 q5 q6 q7 q8 q9 q10 q11 q12

variable {B : Nat}
theorem Cur.al {w : World} {b : Nat} {K : Int} (h : Cur B w b K) (ob : Obj) : Cur B (w.alloc ob) b K := h.below (below_alloc_self _ _)
theorem Cur.drew {w : World} {b : Nat} {K : Int} (h : Cur B w b K) : Cur B w.drew b K := h.below (below_drew (Below.refl _ _))
theorem cell_drew {w : World} {a : Addr} {v : Value} (h : w.cell? a = some v) : w.drew.cell? a = some v := h
theorem ex_drew {w : World} {a : Addr} (h : ∃ v, w.cell? a = some v) : ∃ v, w.drew.cell? a = some v := h
theorem frz_drew {w : World} {a : Addr} (h : w.frozen? a = false) : w.drew.frozen? a = false := h
theorem far_cell {w W : World} {b g i : Nat} {v : Value} (hg : w.grownBy W (some b)) (h : w.cell? ⟨g, i, none⟩ = some v) (hne : g ≠ b) : W.cell? ⟨g, i, none⟩ = some v :=
  (hg.cell_far ⟨g, i, none⟩ (World.block_lt_of_cell? _ _ h) (fun e => hne (Option.some.inj e))).trans h
theorem far_frz {w W : World} {b g i : Nat} (hg : w.grownBy W (some b)) (hl : g < w.heap.size) (h : w.frozen? ⟨g, i, none⟩ = false) (hne : g ≠ b) : W.frozen? ⟨g, i, none⟩ = false :=
  (hg.frozen_far ⟨g, i, none⟩ hl (fun e => hne (Option.some.inj e))).trans h
set_option maxRecDepth 100000 in
set_option maxHeartbeats 8000000 in
theorem drawFourProduct_a (v : Value) (n : Nat) (w : World) (h : ArgB w v n) : Calls Try.prog 13 #[v] w fun e w' => ∃ x y z u x' y' z' u' : Int, e = .returned (.tuple #[.agg #[.int .i64 x, .int .i64 y, .int .i64 z, .int .i64 u], .agg #[.int .i64 x', .int .i64 y', .int .i64 z', .int .i64 u']]) ∧
    ((-2000 ≤ x ∧ x ≤ 2000) ∧ (-2000 ≤ y ∧ y ≤ 2000) ∧ (-2000 ≤ z ∧ z ≤ 2000) ∧ (-2000 ≤ u ∧ u ≤ 2000) ∧ (-2000 ≤ x' ∧ x' ≤ 2000) ∧ (-2000 ≤ y' ∧ y' ≤ 2000) ∧ (-2000 ≤ z' ∧ z' ≤ 2000) ∧ (-2000 ≤ u' ∧ u' ≤ 2000)) ∧ Below w.heap.size w w' := by
  obtain ⟨a, c, rfl⟩ := h.len
  have hb2 : Below w.heap.size w ((w.alloc (.cells #[.int .i64 0, .int .i64 0, .int .i64 0, .int .i64 0] 32)).alloc (.cells #[.int .i64 0, .int .i64 0, .int .i64 0, .int .i64 0] 32)) := gr_alloc (gr_alloc (Below.refl _ _) _) _
  have h0 := cur_new h _ hb2
  simp only [World.size_alloc] at h0
  go_enter Try.func13, Try.ntmps13
  go_wp2_with fail
  refine (quad_a _ 0 _ h0 (by omega) (by simp; omega)).mono ?_
  rintro e1 w1 ⟨x, y, z, u, rfl, p0, p1, p2, p3, h1, g1⟩
  have hs1 := h1.lt
  have nb0 : w.heap.size ≠ (w.heap.size + 1 + 1) := by omega
  have nb1 : (w.heap.size + 1) ≠ (w.heap.size + 1 + 1) := by omega
  have nb2 : w1.heap.size ≠ (w.heap.size + 1 + 1) := by omega
  have gwa : Below w.heap.size w w1 := (hb2.trans ((below_alloc_self _ _).mono (by simp; omega))).trans (g1.to_below (by omega) (by simp; omega))
  have c00 := far_cell g1 (g := w.heap.size) (i := 0) (v := .int .i64 0) byCT (by omega)
  have f00 := far_frz g1 (g := w.heap.size) (i := 0) (by first | (simp; done) | (simp; omega)) byFT (by omega)
  have c01 := far_cell g1 (g := w.heap.size) (i := 1) (v := .int .i64 0) byCT (by omega)
  have f01 := far_frz g1 (g := w.heap.size) (i := 1) (by first | (simp; done) | (simp; omega)) byFT (by omega)
  have c02 := far_cell g1 (g := w.heap.size) (i := 2) (v := .int .i64 0) byCT (by omega)
  have f02 := far_frz g1 (g := w.heap.size) (i := 2) (by first | (simp; done) | (simp; omega)) byFT (by omega)
  have c03 := far_cell g1 (g := w.heap.size) (i := 3) (v := .int .i64 0) byCT (by omega)
  have f03 := far_frz g1 (g := w.heap.size) (i := 3) (by first | (simp; done) | (simp; omega)) byFT (by omega)
  have c10 := far_cell g1 (g := w.heap.size + 1) (i := 0) (v := .int .i64 0) byCT (by omega)
  have f10 := far_frz g1 (g := w.heap.size + 1) (i := 0) (by first | (simp; done) | (simp; omega)) byFT (by omega)
  have c11 := far_cell g1 (g := w.heap.size + 1) (i := 1) (v := .int .i64 0) byCT (by omega)
  have f11 := far_frz g1 (g := w.heap.size + 1) (i := 1) (by first | (simp; done) | (simp; omega)) byFT (by omega)
  have c12 := far_cell g1 (g := w.heap.size + 1) (i := 2) (v := .int .i64 0) byCT (by omega)
  have f12 := far_frz g1 (g := w.heap.size + 1) (i := 2) (by first | (simp; done) | (simp; omega)) byFT (by omega)
  have c13 := far_cell g1 (g := w.heap.size + 1) (i := 3) (v := .int .i64 0) byCT (by omega)
  have f13 := far_frz g1 (g := w.heap.size + 1) (i := 3) (by first | (simp; done) | (simp; omega)) byFT (by omega)
  go_wp2
  obtain ⟨wa, hwa⟩ : ∃ wa, wa = w1.alloc (.cells #[.int .i64 x, .int .i64 y, .int .i64 z, .int .i64 u] 32) := ⟨_, rfl⟩
  have hCa : Cur w.heap.size wa (w.heap.size + 1 + 1) (0 + 100) := by rw [hwa]; exact h1.al _
  have gw : Below w.heap.size w wa := by rw [hwa]; exact gr_alloc gwa _
  have hsa : wa.heap.size = w1.heap.size + 1 := by rw [hwa]; simp
  have a00 : wa.cell? ⟨w.heap.size, 0, none⟩ = some (.int .i64 0) := by rw [hwa]; exact byCT
  have a01 : wa.cell? ⟨w.heap.size, 1, none⟩ = some (.int .i64 0) := by rw [hwa]; exact byCT
  have a02 : wa.cell? ⟨w.heap.size, 2, none⟩ = some (.int .i64 0) := by rw [hwa]; exact byCT
  have a03 : wa.cell? ⟨w.heap.size, 3, none⟩ = some (.int .i64 0) := by rw [hwa]; exact byCT
  have a10 : wa.cell? ⟨(w.heap.size + 1), 0, none⟩ = some (.int .i64 0) := by rw [hwa]; exact byCT
  have a11 : wa.cell? ⟨(w.heap.size + 1), 1, none⟩ = some (.int .i64 0) := by rw [hwa]; exact byCT
  have a12 : wa.cell? ⟨(w.heap.size + 1), 2, none⟩ = some (.int .i64 0) := by rw [hwa]; exact byCT
  have a13 : wa.cell? ⟨(w.heap.size + 1), 3, none⟩ = some (.int .i64 0) := by rw [hwa]; exact byCT
  have a20 : wa.cell? ⟨w1.heap.size, 0, none⟩ = some (.int .i64 x) := by rw [hwa]; exact byCT
  have a21 : wa.cell? ⟨w1.heap.size, 1, none⟩ = some (.int .i64 y) := by rw [hwa]; exact byCT
  have a22 : wa.cell? ⟨w1.heap.size, 2, none⟩ = some (.int .i64 z) := by rw [hwa]; exact byCT
  have a23 : wa.cell? ⟨w1.heap.size, 3, none⟩ = some (.int .i64 u) := by rw [hwa]; exact byCT
  have p00 : wa.frozen? ⟨w.heap.size, 0, none⟩ = false := by rw [hwa]; exact byFT
  have p01 : wa.frozen? ⟨w.heap.size, 1, none⟩ = false := by rw [hwa]; exact byFT
  have p02 : wa.frozen? ⟨w.heap.size, 2, none⟩ = false := by rw [hwa]; exact byFT
  have p03 : wa.frozen? ⟨w.heap.size, 3, none⟩ = false := by rw [hwa]; exact byFT
  have p10 : wa.frozen? ⟨(w.heap.size + 1), 0, none⟩ = false := by rw [hwa]; exact byFT
  have p11 : wa.frozen? ⟨(w.heap.size + 1), 1, none⟩ = false := by rw [hwa]; exact byFT
  have p12 : wa.frozen? ⟨(w.heap.size + 1), 2, none⟩ = false := by rw [hwa]; exact byFT
  have p13 : wa.frozen? ⟨(w.heap.size + 1), 3, none⟩ = false := by rw [hwa]; exact byFT
  rw [← hwa]
  clear hwa h0 h1 g1 gwa c00 f00 c01 f01 c02 f02 c03 f03 c10 f10 c11 f11 c12 f12 c13 f13
  have z0 : w.heap.size < wa.heap.size := by omega
  have z1 : (w.heap.size + 1) < wa.heap.size := by omega
  have z0l : w.heap.size ≤ wa.heap.size := by omega
  have n01 : ¬ w.heap.size = (w.heap.size + 1) := by omega
  have n02 : ¬ w.heap.size = w1.heap.size := by omega
  have n12 : ¬ (w.heap.size + 1) = w1.heap.size := by omega
  go_region_with (go_at_call 38; (refine (quad_a _ (0 + 100) _ (by repeat' first | exact hCa | refine Cur.drew ?_ | refine Cur.set ?_ (Nat.le_refl _) nb0) (by omega) (by first | exact z0l | (simp; omega))).mono ?_; rintro e2 w2 ⟨x', y', z', u', rfl, q0, q1, q2', q3', h2, g2⟩; (first | have k00 := far_cell g2 (g := w.heap.size) (i := 0) (v := .int .i64 0) (by repeat' first | exact a00 | exact ⟨_, a00⟩ | refine cell_drew ?_ | refine cell_eq _ ?_ | refine ex_set _ ?_ | refine ex_drew ?_ | exact ne_off (by decide) | exact ne_blk (by omega) | refine cell_ne _ ?_ ?_) nb0 | have k00 := far_cell g2 (g := w.heap.size) (i := 0) (v := .int .i64 x) (by repeat' first | exact a00 | exact ⟨_, a00⟩ | refine cell_drew ?_ | refine cell_eq _ ?_ | refine ex_set _ ?_ | refine ex_drew ?_ | exact ne_off (by decide) | exact ne_blk (by omega) | refine cell_ne _ ?_ ?_) nb0); have l00 := far_frz g2 (g := w.heap.size) (i := 0) (by first | exact z0 | (simp; omega)) (by repeat' first | exact p00 | refine frz_drew ?_ | refine frz_set _ ?_) nb0; have k10 := far_cell g2 (g := w.heap.size + 1) (i := 0) (v := .int .i64 0) (by repeat' first | exact a10 | exact ⟨_, a10⟩ | refine cell_drew ?_ | refine cell_eq _ ?_ | refine ex_set _ ?_ | refine ex_drew ?_ | exact ne_off (by decide) | exact ne_blk (by omega) | refine cell_ne _ ?_ ?_) nb1; have l10 := far_frz g2 (g := w.heap.size + 1) (i := 0) (by first | exact z1 | (simp; omega)) (by repeat' first | exact p10 | refine frz_drew ?_ | refine frz_set _ ?_) nb1; have k20 := far_cell g2 (g := w1.heap.size) (i := 0) (v := .int .i64 x) (by repeat' first | exact a20 | exact ⟨_, a20⟩ | refine cell_drew ?_ | refine cell_eq _ ?_ | refine ex_set _ ?_ | refine ex_drew ?_ | exact ne_off (by decide) | exact ne_blk (by omega) | refine cell_ne _ ?_ ?_) nb2; (first | have k01 := far_cell g2 (g := w.heap.size) (i := 1) (v := .int .i64 0) (by repeat' first | exact a01 | exact ⟨_, a01⟩ | refine cell_drew ?_ | refine cell_eq _ ?_ | refine ex_set _ ?_ | refine ex_drew ?_ | exact ne_off (by decide) | exact ne_blk (by omega) | refine cell_ne _ ?_ ?_) nb0 | have k01 := far_cell g2 (g := w.heap.size) (i := 1) (v := .int .i64 y) (by repeat' first | exact a01 | exact ⟨_, a01⟩ | refine cell_drew ?_ | refine cell_eq _ ?_ | refine ex_set _ ?_ | refine ex_drew ?_ | exact ne_off (by decide) | exact ne_blk (by omega) | refine cell_ne _ ?_ ?_) nb0); have l01 := far_frz g2 (g := w.heap.size) (i := 1) (by first | exact z0 | (simp; omega)) (by repeat' first | exact p01 | refine frz_drew ?_ | refine frz_set _ ?_) nb0; have k11 := far_cell g2 (g := w.heap.size + 1) (i := 1) (v := .int .i64 0) (by repeat' first | exact a11 | exact ⟨_, a11⟩ | refine cell_drew ?_ | refine cell_eq _ ?_ | refine ex_set _ ?_ | refine ex_drew ?_ | exact ne_off (by decide) | exact ne_blk (by omega) | refine cell_ne _ ?_ ?_) nb1; have l11 := far_frz g2 (g := w.heap.size + 1) (i := 1) (by first | exact z1 | (simp; omega)) (by repeat' first | exact p11 | refine frz_drew ?_ | refine frz_set _ ?_) nb1; have k21 := far_cell g2 (g := w1.heap.size) (i := 1) (v := .int .i64 y) (by repeat' first | exact a21 | exact ⟨_, a21⟩ | refine cell_drew ?_ | refine cell_eq _ ?_ | refine ex_set _ ?_ | refine ex_drew ?_ | exact ne_off (by decide) | exact ne_blk (by omega) | refine cell_ne _ ?_ ?_) nb2; (first | have k02 := far_cell g2 (g := w.heap.size) (i := 2) (v := .int .i64 0) (by repeat' first | exact a02 | exact ⟨_, a02⟩ | refine cell_drew ?_ | refine cell_eq _ ?_ | refine ex_set _ ?_ | refine ex_drew ?_ | exact ne_off (by decide) | exact ne_blk (by omega) | refine cell_ne _ ?_ ?_) nb0 | have k02 := far_cell g2 (g := w.heap.size) (i := 2) (v := .int .i64 z) (by repeat' first | exact a02 | exact ⟨_, a02⟩ | refine cell_drew ?_ | refine cell_eq _ ?_ | refine ex_set _ ?_ | refine ex_drew ?_ | exact ne_off (by decide) | exact ne_blk (by omega) | refine cell_ne _ ?_ ?_) nb0); have l02 := far_frz g2 (g := w.heap.size) (i := 2) (by first | exact z0 | (simp; omega)) (by repeat' first | exact p02 | refine frz_drew ?_ | refine frz_set _ ?_) nb0; have k12 := far_cell g2 (g := w.heap.size + 1) (i := 2) (v := .int .i64 0) (by repeat' first | exact a12 | exact ⟨_, a12⟩ | refine cell_drew ?_ | refine cell_eq _ ?_ | refine ex_set _ ?_ | refine ex_drew ?_ | exact ne_off (by decide) | exact ne_blk (by omega) | refine cell_ne _ ?_ ?_) nb1; have l12 := far_frz g2 (g := w.heap.size + 1) (i := 2) (by first | exact z1 | (simp; omega)) (by repeat' first | exact p12 | refine frz_drew ?_ | refine frz_set _ ?_) nb1; have k22 := far_cell g2 (g := w1.heap.size) (i := 2) (v := .int .i64 z) (by repeat' first | exact a22 | exact ⟨_, a22⟩ | refine cell_drew ?_ | refine cell_eq _ ?_ | refine ex_set _ ?_ | refine ex_drew ?_ | exact ne_off (by decide) | exact ne_blk (by omega) | refine cell_ne _ ?_ ?_) nb2; (first | have k03 := far_cell g2 (g := w.heap.size) (i := 3) (v := .int .i64 0) (by repeat' first | exact a03 | exact ⟨_, a03⟩ | refine cell_drew ?_ | refine cell_eq _ ?_ | refine ex_set _ ?_ | refine ex_drew ?_ | exact ne_off (by decide) | exact ne_blk (by omega) | refine cell_ne _ ?_ ?_) nb0 | have k03 := far_cell g2 (g := w.heap.size) (i := 3) (v := .int .i64 u) (by repeat' first | exact a03 | exact ⟨_, a03⟩ | refine cell_drew ?_ | refine cell_eq _ ?_ | refine ex_set _ ?_ | refine ex_drew ?_ | exact ne_off (by decide) | exact ne_blk (by omega) | refine cell_ne _ ?_ ?_) nb0); have l03 := far_frz g2 (g := w.heap.size) (i := 3) (by first | exact z0 | (simp; omega)) (by repeat' first | exact p03 | refine frz_drew ?_ | refine frz_set _ ?_) nb0; have k13 := far_cell g2 (g := w.heap.size + 1) (i := 3) (v := .int .i64 0) (by repeat' first | exact a13 | exact ⟨_, a13⟩ | refine cell_drew ?_ | refine cell_eq _ ?_ | refine ex_set _ ?_ | refine ex_drew ?_ | exact ne_off (by decide) | exact ne_blk (by omega) | refine cell_ne _ ?_ ?_) nb1; have l13 := far_frz g2 (g := w.heap.size + 1) (i := 3) (by first | exact z1 | (simp; omega)) (by repeat' first | exact p13 | refine frz_drew ?_ | refine frz_set _ ?_) nb1; have k23 := far_cell g2 (g := w1.heap.size) (i := 3) (v := .int .i64 u) (by repeat' first | exact a23 | exact ⟨_, a23⟩ | refine cell_drew ?_ | refine cell_eq _ ?_ | refine ex_set _ ?_ | refine ex_drew ?_ | exact ne_off (by decide) | exact ne_blk (by omega) | refine cell_ne _ ?_ ?_) nb2; have gw2 := g2.to_below (B := w.heap.size) (by omega) (by first | exact z0l | (simp; omega)); have gw3 : Below w.heap.size w w2 := Below.trans (by repeat' first | exact gw | refine below_drew ?_ | refine Below.setCell ?_ ?_ _ | omega) gw2))
  all_goals
    go_wp2
    refine bodyPost_ret (v := .tuple #[.agg #[.int .i64 x, .int .i64 y, .int .i64 z, .int .i64 u], .agg #[.int .i64 x', .int .i64 y', .int .i64 z', .int .i64 u']]) (by simp [results, Try.results13, go_sem, *]) rfl ?_
    exact ⟨x, y, z, u, x', y', z', u', rfl, ⟨p0, p1, p2, p3, q0, q1, q2', q3'⟩, byGG⟩
end Go.Proofs.Ytpgpdccidoogcaa
