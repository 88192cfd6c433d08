/-
  Determinants and inverses of matrices of determinant 1.
-/
import Derived.Test.YtjknkgmmgdfjiaaLevel
import Derived.Test.YtjknkgmmgdfjiaaMi
namespace Go.Proofs.Ytjknkgmmgdfjiaa
open Go.RowKit
set_option linter.unusedVariables false
set_option linter.unusedSimpArgs false
attribute [local go_sem] q2 q3 q4 q5 q6 q7 q8 q9 q10 q11 q12

/-- Entries of a matrix whose products do not wrap. -/
structure OkM (p q r s : Int) : Prop where
  p0 : -200000000 ≤ p ∧ p ≤ 200000000
  q0 : -200000000 ≤ q ∧ q ≤ 200000000
  r0 : -200000000 ≤ r ∧ r ≤ 200000000
  s0 : -200000000 ≤ s ∧ s ≤ 200000000
  det : p * s - q * r = 1
  ps : -40000000000000000 ≤ p * s ∧ p * s ≤ 40000000000000000
  qr : -40000000000000000 ≤ q * r ∧ q * r ≤ 40000000000000000

set_option maxRecDepth 100000 in
set_option maxHeartbeats 1000000 in
theorem det_1 (p q r s : Int) (w : World) (h0 : OkM p q r s) :
    Calls Try.prog 48 #[.agg #[.int .i64 p, .int .i64 q, .int .i64 r, .int .i64 s]] w fun e w' => e = .returned (.int .i64 1) ∧ Below w.heap.size w w' := by
  obtain ⟨p0, q0, r0, s0, hd, ps, qr⟩ := h0
  go_enter Try.func48, Try.ntmps48
  go_wp2
  go_returns
  refine ⟨rfl, ?_⟩
  (repeat' first | with_reducible (first | exact Below.refl _ _ | assumption | refine gr_alloc ?_ _ | refine below_drewN ?_ _ | refine below_drew ?_ | refine gr_call ?_ (by assumption) | refine Below.setCell ?_ ?_ _) | go_size | omega | (simp; omega))

set_option maxRecDepth 100000 in
set_option maxHeartbeats 1000000 in
theorem foDet_1 (p q r s : Int) (w : World) (h0 : OkM p q r s) :
    Calls Try.prog 37 #[.agg #[.int .i64 p, .int .i64 q, .int .i64 r, .int .i64 s]] w fun e w' => e = .returned (.int .i64 1) ∧ Below w.heap.size w w' := by
  obtain ⟨p0, q0, r0, s0, hd, ps, qr⟩ := h0
  go_enter Try.func37, Try.ntmps37
  go_wp2
  go_returns
  refine ⟨rfl, ?_⟩
  (repeat' first | with_reducible (first | exact Below.refl _ _ | assumption | refine gr_alloc ?_ _ | refine below_drewN ?_ _ | refine below_drew ?_ | refine gr_call ?_ (by assumption) | refine Below.setCell ?_ ?_ _) | go_size | omega | (simp; omega))

set_option maxRecDepth 100000 in
set_option maxHeartbeats 2000000 in
theorem inverse_a (p q r s : Int) (w : World) (h0 : OkM p q r s) :
    Calls Try.prog 26 #[.agg #[.int .i64 p, .int .i64 q, .int .i64 r, .int .i64 s]] w fun e w' => e = .returned (.agg #[.int .i64 s, .int .i64 (-q), .int .i64 (-r), .int .i64 p]) ∧ Below w.heap.size w w' := by
  obtain ⟨p0, q0, r0, s0, hd, ps, qr⟩ := h0
  go_enter Try.func26, Try.ntmps26
  go_wp2_with (go_at_call 48; refine (det_1 _ _ _ _ _ (by exact ⟨p0, q0, r0, s0, hd, ps, qr⟩)).mono ?_; rintro e w1 ⟨rfl, hb⟩; have c00 := cell_call hb (a := ⟨w.heap.size, 0, none⟩) (v := .int .i64 p) (by first | assumption | go_simp); have c01 := cell_call hb (a := ⟨w.heap.size, 1, none⟩) (v := .int .i64 q) (by first | assumption | go_simp); have c02 := cell_call hb (a := ⟨w.heap.size, 2, none⟩) (v := .int .i64 r) (by first | assumption | go_simp); have c03 := cell_call hb (a := ⟨w.heap.size, 3, none⟩) (v := .int .i64 s) (by first | assumption | go_simp); have z0 := lt_keep hb (w.heap.size) (by first | assumption | (simp; omega) | (simp; done)); have c10 := cell_call hb (a := ⟨w.heap.size + 1, 0, none⟩) (v := .int .i64 0) (by first | assumption | go_simp); have f10 := frz_call hb (a := ⟨w.heap.size + 1, 0, none⟩) (by first | assumption | (simp; omega) | (simp; done)) (by first | assumption | go_simp); have c11 := cell_call hb (a := ⟨w.heap.size + 1, 1, none⟩) (v := .int .i64 0) (by first | assumption | go_simp); have f11 := frz_call hb (a := ⟨w.heap.size + 1, 1, none⟩) (by first | assumption | (simp; omega) | (simp; done)) (by first | assumption | go_simp); have c12 := cell_call hb (a := ⟨w.heap.size + 1, 2, none⟩) (v := .int .i64 0) (by first | assumption | go_simp); have f12 := frz_call hb (a := ⟨w.heap.size + 1, 2, none⟩) (by first | assumption | (simp; omega) | (simp; done)) (by first | assumption | go_simp); have c13 := cell_call hb (a := ⟨w.heap.size + 1, 3, none⟩) (v := .int .i64 0) (by first | assumption | go_simp); have f13 := frz_call hb (a := ⟨w.heap.size + 1, 3, none⟩) (by first | assumption | (simp; omega) | (simp; done)) (by first | assumption | go_simp); have z1 := lt_keep hb (w.heap.size + 1) (by first | assumption | (simp; omega) | (simp; done)); have hs := hb.size)
  first | go_returns | (refine bodyPost_ret (v := .agg #[.int .i64 s, .int .i64 (-q), .int .i64 (-r), .int .i64 p]) (by simp [results, Try.results26, go_sem, *]) rfl ?_)
  refine ⟨rfl, ?_⟩
  (repeat' first | with_reducible (first | exact Below.refl _ _ | assumption | refine gr_alloc ?_ _ | refine below_drewN ?_ _ | refine below_drew ?_ | refine gr_call ?_ (by assumption) | refine Below.setCell ?_ ?_ _) | go_size | omega | (simp; omega))

set_option maxRecDepth 100000 in
set_option maxHeartbeats 2000000 in
theorem foInverse_a (p q r s : Int) (w : World) (h0 : OkM p q r s) :
    Calls Try.prog 21 #[.agg #[.int .i64 p, .int .i64 q, .int .i64 r, .int .i64 s]] w fun e w' => e = .returned (.agg #[.int .i64 s, .int .i64 (-q), .int .i64 (-r), .int .i64 p]) ∧ Below w.heap.size w w' := by
  obtain ⟨p0, q0, r0, s0, hd, ps, qr⟩ := h0
  go_enter Try.func21, Try.ntmps21
  go_wp2_with (go_at_call 37; refine (foDet_1 _ _ _ _ _ (by exact ⟨p0, q0, r0, s0, hd, ps, qr⟩)).mono ?_; rintro e w1 ⟨rfl, hb⟩; have c00 := cell_call hb (a := ⟨w.heap.size, 0, none⟩) (v := .int .i64 p) (by first | assumption | go_simp); have c01 := cell_call hb (a := ⟨w.heap.size, 1, none⟩) (v := .int .i64 q) (by first | assumption | go_simp); have c02 := cell_call hb (a := ⟨w.heap.size, 2, none⟩) (v := .int .i64 r) (by first | assumption | go_simp); have c03 := cell_call hb (a := ⟨w.heap.size, 3, none⟩) (v := .int .i64 s) (by first | assumption | go_simp); have z0 := lt_keep hb (w.heap.size) (by first | assumption | (simp; omega) | (simp; done)); have c10 := cell_call hb (a := ⟨w.heap.size + 1, 0, none⟩) (v := .int .i64 0) (by first | assumption | go_simp); have f10 := frz_call hb (a := ⟨w.heap.size + 1, 0, none⟩) (by first | assumption | (simp; omega) | (simp; done)) (by first | assumption | go_simp); have c11 := cell_call hb (a := ⟨w.heap.size + 1, 1, none⟩) (v := .int .i64 0) (by first | assumption | go_simp); have f11 := frz_call hb (a := ⟨w.heap.size + 1, 1, none⟩) (by first | assumption | (simp; omega) | (simp; done)) (by first | assumption | go_simp); have c12 := cell_call hb (a := ⟨w.heap.size + 1, 2, none⟩) (v := .int .i64 0) (by first | assumption | go_simp); have f12 := frz_call hb (a := ⟨w.heap.size + 1, 2, none⟩) (by first | assumption | (simp; omega) | (simp; done)) (by first | assumption | go_simp); have c13 := cell_call hb (a := ⟨w.heap.size + 1, 3, none⟩) (v := .int .i64 0) (by first | assumption | go_simp); have f13 := frz_call hb (a := ⟨w.heap.size + 1, 3, none⟩) (by first | assumption | (simp; omega) | (simp; done)) (by first | assumption | go_simp); have z1 := lt_keep hb (w.heap.size + 1) (by first | assumption | (simp; omega) | (simp; done)); have hs := hb.size)
  first | go_returns | (refine bodyPost_ret (v := .agg #[.int .i64 s, .int .i64 (-q), .int .i64 (-r), .int .i64 p]) (by simp [results, Try.results21, go_sem, *]) rfl ?_)
  refine ⟨rfl, ?_⟩
  (repeat' first | with_reducible (first | exact Below.refl _ _ | assumption | refine gr_alloc ?_ _ | refine below_drewN ?_ _ | refine below_drew ?_ | refine gr_call ?_ (by assumption) | refine Below.setCell ?_ ?_ _) | go_size | omega | (simp; omega))
end Go.Proofs.Ytjknkgmmgdfjiaa
