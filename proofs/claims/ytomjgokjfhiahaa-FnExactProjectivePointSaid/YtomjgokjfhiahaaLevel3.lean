/-
  ProjectivePoint; the walks of the laws of FrickeForm and ProjectivePoint.
-/
import Derived.Test.YtomjgokjfhiahaaLevel2
namespace Go.Proofs.Ytomjgokjfhiahaa
open Go.RowKit
set_option linter.unusedVariables false
set_option linter.unusedSimpArgs false
attribute [local go_sem] q2 q3 q4 q5 q6 q7 q8 q9 q10 q11 q12

def ppX (p q r s n : Int) : Int := if lmB p q r s n then lpX r s n else 0
def ppY (p q r s n : Int) : Int := if lmB p q r s n then lpY r s n else 0
theorem pp_no {p q r s n : Int} (h : lmB p q r s n = false) : Ending.returned (.tuple #[.agg #[.int .i64 0, .int .i64 0], .bool false]) = .returned (.tuple #[.agg #[.int .i64 (ppX p q r s n), .int .i64 (ppY p q r s n)], .bool (lmB p q r s n)]) := by simp [ppX, ppY, h]
theorem pp_yes {p q r s n : Int} (h : lmB p q r s n = true) : Ending.returned (.tuple #[.agg #[.int .i64 (lpX r s n), .int .i64 (lpY r s n)], .bool true]) = .returned (.tuple #[.agg #[.int .i64 (ppX p q r s n), .int .i64 (ppY p q r s n)], .bool (lmB p q r s n)]) := by simp [ppX, ppY, h]

set_option maxRecDepth 100000 in
set_option maxHeartbeats 400000 in
theorem implFrickeForm_b (a b c n : Int) (w : World) (h0 : I64 a) (h1 : I64 b) (h2 : I64 c) :
    Calls Try.prog 24 #[.agg #[.int .i64 a, .int .i64 b, .int .i64 c], .int .i64 n] w fun e w' => e = .returned (.tuple #[.agg #[.int .i64 (frA a b c n), .int .i64 (frB a b c n), .int .i64 (frC a b c n)], .bool (frOk a b c n)]) ∧ Below w.heap.size w w' := by
  exact implFrickeForm_a a b c n w h0 h1 h2

set_option maxRecDepth 100000 in
set_option maxHeartbeats 400000 in
theorem specFrickeForm_b (a b c n : Int) (w : World) :
    Calls Try.prog 23 #[.agg #[.int .i64 a, .int .i64 b, .int .i64 c], .int .i64 n] w fun e w' => e = .returned (.tuple #[.agg #[.int .i64 (frA a b c n), .int .i64 (frB a b c n), .int .i64 (frC a b c n)], .bool (frOk a b c n)]) ∧ Below w.heap.size w w' := by
  exact specFrickeForm_a a b c n w

set_option maxRecDepth 100000 in
set_option maxHeartbeats 2000000 in
theorem implProjectivePoint_a (p q r s n : Int) (w : World) (h0 : I64 p) (h1 : I64 q) (h2 : I64 r) (h3 : I64 s) :
    Calls Try.prog 32 #[.agg #[.int .i64 p, .int .i64 q, .int .i64 r, .int .i64 s], .int .i64 n] w fun e w' => e = .returned (.tuple #[.agg #[.int .i64 (ppX p q r s n), .int .i64 (ppY p q r s n)], .bool (lmB p q r s n)]) ∧ Below w.heap.size w w' := by
  cases k0 : properB p q r s
  · have hv := pp_no (p := p) (q := q) (r := r) (s := s) (n := n) (by simp [lmB, k0])
    have HV := hide hv
    clear hv
    go_enter Try.func32, Try.ntmps32
    go_wp2_with (first | (go_at_call 70; refine (isProper_a _ _ _ _ _ (by first | assumption | omega) (by first | assumption | omega) (by first | assumption | omega) (by first | assumption | omega)).mono ?_; rintro e w1 ⟨rfl, hb⟩; have c00 := cell_call hb (a := ⟨w.heap.size, 0, none⟩) (v := .int .i64 p) (by first | assumption | go_simp); have c01 := cell_call hb (a := ⟨w.heap.size, 1, none⟩) (v := .int .i64 q) (by first | assumption | go_simp); have c02 := cell_call hb (a := ⟨w.heap.size, 2, none⟩) (v := .int .i64 r) (by first | assumption | go_simp); have c03 := cell_call hb (a := ⟨w.heap.size, 3, none⟩) (v := .int .i64 s) (by first | assumption | go_simp); have z0 := lt_keep hb (w.heap.size) (by first | assumption | (simp; omega) | (simp; done)); have c10 := cell_call hb (a := ⟨w.heap.size + 1, 0, none⟩) (v := .int .i64 0) (by first | assumption | go_simp); have f10 := frz_call hb (a := ⟨w.heap.size + 1, 0, none⟩) (by first | assumption | (simp; omega) | (simp; done)) (by first | assumption | go_simp); have c11 := cell_call hb (a := ⟨w.heap.size + 1, 1, none⟩) (v := .int .i64 0) (by first | assumption | go_simp); have f11 := frz_call hb (a := ⟨w.heap.size + 1, 1, none⟩) (by first | assumption | (simp; omega) | (simp; done)) (by first | assumption | go_simp); have z1 := lt_keep hb (w.heap.size + 1) (by first | assumption | (simp; omega) | (simp; done)); have hs := hb.size) | (go_at_call 86; refine (projective_a _ _ _ _ (by first | assumption | omega) (by first | assumption | omega) (by first | assumption | omega) (by first | assumption | omega)).mono ?_; rintro e w1 ⟨rfl, hb⟩; have c00 := cell_call hb (a := ⟨w.heap.size, 0, none⟩) (v := .int .i64 p) (by first | assumption | go_simp); have c01 := cell_call hb (a := ⟨w.heap.size, 1, none⟩) (v := .int .i64 q) (by first | assumption | go_simp); have c02 := cell_call hb (a := ⟨w.heap.size, 2, none⟩) (v := .int .i64 r) (by first | assumption | go_simp); have c03 := cell_call hb (a := ⟨w.heap.size, 3, none⟩) (v := .int .i64 s) (by first | assumption | go_simp); have z0 := lt_keep hb (w.heap.size) (by first | assumption | (simp; omega) | (simp; done)); have c10 := cell_call hb (a := ⟨w.heap.size + 1, 0, none⟩) (v := .int .i64 0) (by first | assumption | go_simp); have f10 := frz_call hb (a := ⟨w.heap.size + 1, 0, none⟩) (by first | assumption | (simp; omega) | (simp; done)) (by first | assumption | go_simp); have c11 := cell_call hb (a := ⟨w.heap.size + 1, 1, none⟩) (v := .int .i64 0) (by first | assumption | go_simp); have f11 := frz_call hb (a := ⟨w.heap.size + 1, 1, none⟩) (by first | assumption | (simp; omega) | (simp; done)) (by first | assumption | go_simp); have z1 := lt_keep hb (w.heap.size + 1) (by first | assumption | (simp; omega) | (simp; done)); have hs := hb.size))
    first | go_returns | (refine bodyPost_ret (v := .tuple #[.agg #[.int .i64 0, .int .i64 0], .bool false]) (by simp [results, Try.results32, go_sem, *]) rfl ?_)
    refine ⟨unhide HV, ?_⟩
    (repeat' (first | (with_reducible exact Below.refl _ _) | (with_reducible assumption) | (with_reducible refine gr_alloc ?_ _) | (with_reducible refine below_drewN ?_ _) | (with_reducible refine below_drew ?_) | (with_reducible refine gr_call ?_ (by assumption)) | (with_reducible refine Below.setCell ?_ ?_ _) | go_size | omega | (simp; omega)))
  · obtain ⟨_, _, hr, hs⟩ := mat_true (proper_mat k0)
    by_cases k1 : 1 ≤ n
    · by_cases k2 : n ≤ 30
      · have hv := pp_yes (p := p) (q := q) (r := r) (s := s) (n := n) (by simp [lmB, k0, inB, k1, k2])
        have HV := hide hv
        clear hv
        go_enter Try.func32, Try.ntmps32
        go_wp2_with (first | (go_at_call 70; refine (isProper_a _ _ _ _ _ (by first | assumption | omega) (by first | assumption | omega) (by first | assumption | omega) (by first | assumption | omega)).mono ?_; rintro e w1 ⟨rfl, hb⟩; have c00 := cell_call hb (a := ⟨w.heap.size, 0, none⟩) (v := .int .i64 p) (by first | assumption | go_simp); have c01 := cell_call hb (a := ⟨w.heap.size, 1, none⟩) (v := .int .i64 q) (by first | assumption | go_simp); have c02 := cell_call hb (a := ⟨w.heap.size, 2, none⟩) (v := .int .i64 r) (by first | assumption | go_simp); have c03 := cell_call hb (a := ⟨w.heap.size, 3, none⟩) (v := .int .i64 s) (by first | assumption | go_simp); have z0 := lt_keep hb (w.heap.size) (by first | assumption | (simp; omega) | (simp; done)); have c10 := cell_call hb (a := ⟨w.heap.size + 1, 0, none⟩) (v := .int .i64 0) (by first | assumption | go_simp); have f10 := frz_call hb (a := ⟨w.heap.size + 1, 0, none⟩) (by first | assumption | (simp; omega) | (simp; done)) (by first | assumption | go_simp); have c11 := cell_call hb (a := ⟨w.heap.size + 1, 1, none⟩) (v := .int .i64 0) (by first | assumption | go_simp); have f11 := frz_call hb (a := ⟨w.heap.size + 1, 1, none⟩) (by first | assumption | (simp; omega) | (simp; done)) (by first | assumption | go_simp); have z1 := lt_keep hb (w.heap.size + 1) (by first | assumption | (simp; omega) | (simp; done)); have hs := hb.size) | (go_at_call 86; refine (projective_a _ _ _ _ (by first | assumption | omega) (by first | assumption | omega) (by first | assumption | omega) (by first | assumption | omega)).mono ?_; rintro e w1 ⟨rfl, hb⟩; have c00 := cell_call hb (a := ⟨w.heap.size, 0, none⟩) (v := .int .i64 p) (by first | assumption | go_simp); have c01 := cell_call hb (a := ⟨w.heap.size, 1, none⟩) (v := .int .i64 q) (by first | assumption | go_simp); have c02 := cell_call hb (a := ⟨w.heap.size, 2, none⟩) (v := .int .i64 r) (by first | assumption | go_simp); have c03 := cell_call hb (a := ⟨w.heap.size, 3, none⟩) (v := .int .i64 s) (by first | assumption | go_simp); have z0 := lt_keep hb (w.heap.size) (by first | assumption | (simp; omega) | (simp; done)); have c10 := cell_call hb (a := ⟨w.heap.size + 1, 0, none⟩) (v := .int .i64 0) (by first | assumption | go_simp); have f10 := frz_call hb (a := ⟨w.heap.size + 1, 0, none⟩) (by first | assumption | (simp; omega) | (simp; done)) (by first | assumption | go_simp); have c11 := cell_call hb (a := ⟨w.heap.size + 1, 1, none⟩) (v := .int .i64 0) (by first | assumption | go_simp); have f11 := frz_call hb (a := ⟨w.heap.size + 1, 1, none⟩) (by first | assumption | (simp; omega) | (simp; done)) (by first | assumption | go_simp); have z1 := lt_keep hb (w.heap.size + 1) (by first | assumption | (simp; omega) | (simp; done)); have hs := hb.size))
        first | go_returns | (refine bodyPost_ret (v := .tuple #[.agg #[.int .i64 (lpX r s n), .int .i64 (lpY r s n)], .bool true]) (by simp [results, Try.results32, go_sem, *]) rfl ?_)
        refine ⟨unhide HV, ?_⟩
        (repeat' (first | (with_reducible exact Below.refl _ _) | (with_reducible assumption) | (with_reducible refine gr_alloc ?_ _) | (with_reducible refine below_drewN ?_ _) | (with_reducible refine below_drew ?_) | (with_reducible refine gr_call ?_ (by assumption)) | (with_reducible refine Below.setCell ?_ ?_ _) | go_size | omega | (simp; omega)))
      · have hv := pp_no (p := p) (q := q) (r := r) (s := s) (n := n) (by simp [lmB, inB, k2] <;> (try (intros; omega)))
        have HV := hide hv
        clear hv
        go_enter Try.func32, Try.ntmps32
        go_wp2_with (first | (go_at_call 70; refine (isProper_a _ _ _ _ _ (by first | assumption | omega) (by first | assumption | omega) (by first | assumption | omega) (by first | assumption | omega)).mono ?_; rintro e w1 ⟨rfl, hb⟩; have c00 := cell_call hb (a := ⟨w.heap.size, 0, none⟩) (v := .int .i64 p) (by first | assumption | go_simp); have c01 := cell_call hb (a := ⟨w.heap.size, 1, none⟩) (v := .int .i64 q) (by first | assumption | go_simp); have c02 := cell_call hb (a := ⟨w.heap.size, 2, none⟩) (v := .int .i64 r) (by first | assumption | go_simp); have c03 := cell_call hb (a := ⟨w.heap.size, 3, none⟩) (v := .int .i64 s) (by first | assumption | go_simp); have z0 := lt_keep hb (w.heap.size) (by first | assumption | (simp; omega) | (simp; done)); have c10 := cell_call hb (a := ⟨w.heap.size + 1, 0, none⟩) (v := .int .i64 0) (by first | assumption | go_simp); have f10 := frz_call hb (a := ⟨w.heap.size + 1, 0, none⟩) (by first | assumption | (simp; omega) | (simp; done)) (by first | assumption | go_simp); have c11 := cell_call hb (a := ⟨w.heap.size + 1, 1, none⟩) (v := .int .i64 0) (by first | assumption | go_simp); have f11 := frz_call hb (a := ⟨w.heap.size + 1, 1, none⟩) (by first | assumption | (simp; omega) | (simp; done)) (by first | assumption | go_simp); have z1 := lt_keep hb (w.heap.size + 1) (by first | assumption | (simp; omega) | (simp; done)); have hs := hb.size) | (go_at_call 86; refine (projective_a _ _ _ _ (by first | assumption | omega) (by first | assumption | omega) (by first | assumption | omega) (by first | assumption | omega)).mono ?_; rintro e w1 ⟨rfl, hb⟩; have c00 := cell_call hb (a := ⟨w.heap.size, 0, none⟩) (v := .int .i64 p) (by first | assumption | go_simp); have c01 := cell_call hb (a := ⟨w.heap.size, 1, none⟩) (v := .int .i64 q) (by first | assumption | go_simp); have c02 := cell_call hb (a := ⟨w.heap.size, 2, none⟩) (v := .int .i64 r) (by first | assumption | go_simp); have c03 := cell_call hb (a := ⟨w.heap.size, 3, none⟩) (v := .int .i64 s) (by first | assumption | go_simp); have z0 := lt_keep hb (w.heap.size) (by first | assumption | (simp; omega) | (simp; done)); have c10 := cell_call hb (a := ⟨w.heap.size + 1, 0, none⟩) (v := .int .i64 0) (by first | assumption | go_simp); have f10 := frz_call hb (a := ⟨w.heap.size + 1, 0, none⟩) (by first | assumption | (simp; omega) | (simp; done)) (by first | assumption | go_simp); have c11 := cell_call hb (a := ⟨w.heap.size + 1, 1, none⟩) (v := .int .i64 0) (by first | assumption | go_simp); have f11 := frz_call hb (a := ⟨w.heap.size + 1, 1, none⟩) (by first | assumption | (simp; omega) | (simp; done)) (by first | assumption | go_simp); have z1 := lt_keep hb (w.heap.size + 1) (by first | assumption | (simp; omega) | (simp; done)); have hs := hb.size))
        first | go_returns | (refine bodyPost_ret (v := .tuple #[.agg #[.int .i64 0, .int .i64 0], .bool false]) (by simp [results, Try.results32, go_sem, *]) rfl ?_)
        refine ⟨unhide HV, ?_⟩
        (repeat' (first | (with_reducible exact Below.refl _ _) | (with_reducible assumption) | (with_reducible refine gr_alloc ?_ _) | (with_reducible refine below_drewN ?_ _) | (with_reducible refine below_drew ?_) | (with_reducible refine gr_call ?_ (by assumption)) | (with_reducible refine Below.setCell ?_ ?_ _) | go_size | omega | (simp; omega)))
    · have hv := pp_no (p := p) (q := q) (r := r) (s := s) (n := n) (by simp [lmB, inB, k1] <;> (try (intros; omega)))
      have HV := hide hv
      clear hv
      go_enter Try.func32, Try.ntmps32
      go_wp2_with (first | (go_at_call 70; refine (isProper_a _ _ _ _ _ (by first | assumption | omega) (by first | assumption | omega) (by first | assumption | omega) (by first | assumption | omega)).mono ?_; rintro e w1 ⟨rfl, hb⟩; have c00 := cell_call hb (a := ⟨w.heap.size, 0, none⟩) (v := .int .i64 p) (by first | assumption | go_simp); have c01 := cell_call hb (a := ⟨w.heap.size, 1, none⟩) (v := .int .i64 q) (by first | assumption | go_simp); have c02 := cell_call hb (a := ⟨w.heap.size, 2, none⟩) (v := .int .i64 r) (by first | assumption | go_simp); have c03 := cell_call hb (a := ⟨w.heap.size, 3, none⟩) (v := .int .i64 s) (by first | assumption | go_simp); have z0 := lt_keep hb (w.heap.size) (by first | assumption | (simp; omega) | (simp; done)); have c10 := cell_call hb (a := ⟨w.heap.size + 1, 0, none⟩) (v := .int .i64 0) (by first | assumption | go_simp); have f10 := frz_call hb (a := ⟨w.heap.size + 1, 0, none⟩) (by first | assumption | (simp; omega) | (simp; done)) (by first | assumption | go_simp); have c11 := cell_call hb (a := ⟨w.heap.size + 1, 1, none⟩) (v := .int .i64 0) (by first | assumption | go_simp); have f11 := frz_call hb (a := ⟨w.heap.size + 1, 1, none⟩) (by first | assumption | (simp; omega) | (simp; done)) (by first | assumption | go_simp); have z1 := lt_keep hb (w.heap.size + 1) (by first | assumption | (simp; omega) | (simp; done)); have hs := hb.size) | (go_at_call 86; refine (projective_a _ _ _ _ (by first | assumption | omega) (by first | assumption | omega) (by first | assumption | omega) (by first | assumption | omega)).mono ?_; rintro e w1 ⟨rfl, hb⟩; have c00 := cell_call hb (a := ⟨w.heap.size, 0, none⟩) (v := .int .i64 p) (by first | assumption | go_simp); have c01 := cell_call hb (a := ⟨w.heap.size, 1, none⟩) (v := .int .i64 q) (by first | assumption | go_simp); have c02 := cell_call hb (a := ⟨w.heap.size, 2, none⟩) (v := .int .i64 r) (by first | assumption | go_simp); have c03 := cell_call hb (a := ⟨w.heap.size, 3, none⟩) (v := .int .i64 s) (by first | assumption | go_simp); have z0 := lt_keep hb (w.heap.size) (by first | assumption | (simp; omega) | (simp; done)); have c10 := cell_call hb (a := ⟨w.heap.size + 1, 0, none⟩) (v := .int .i64 0) (by first | assumption | go_simp); have f10 := frz_call hb (a := ⟨w.heap.size + 1, 0, none⟩) (by first | assumption | (simp; omega) | (simp; done)) (by first | assumption | go_simp); have c11 := cell_call hb (a := ⟨w.heap.size + 1, 1, none⟩) (v := .int .i64 0) (by first | assumption | go_simp); have f11 := frz_call hb (a := ⟨w.heap.size + 1, 1, none⟩) (by first | assumption | (simp; omega) | (simp; done)) (by first | assumption | go_simp); have z1 := lt_keep hb (w.heap.size + 1) (by first | assumption | (simp; omega) | (simp; done)); have hs := hb.size))
      first | go_returns | (refine bodyPost_ret (v := .tuple #[.agg #[.int .i64 0, .int .i64 0], .bool false]) (by simp [results, Try.results32, go_sem, *]) rfl ?_)
      refine ⟨unhide HV, ?_⟩
      (repeat' (first | (with_reducible exact Below.refl _ _) | (with_reducible assumption) | (with_reducible refine gr_alloc ?_ _) | (with_reducible refine below_drewN ?_ _) | (with_reducible refine below_drew ?_) | (with_reducible refine gr_call ?_ (by assumption)) | (with_reducible refine Below.setCell ?_ ?_ _) | go_size | omega | (simp; omega)))

set_option maxRecDepth 100000 in
set_option maxHeartbeats 2000000 in
theorem specProjectivePoint_a (p q r s n : Int) (w : World) :
    Calls Try.prog 31 #[.agg #[.int .i64 p, .int .i64 q, .int .i64 r, .int .i64 s], .int .i64 n] w fun e w' => e = .returned (.tuple #[.agg #[.int .i64 (ppX p q r s n), .int .i64 (ppY p q r s n)], .bool (lmB p q r s n)]) ∧ Below w.heap.size w w' := by
  cases k0 : properB p q r s
  · have hv := pp_no (p := p) (q := q) (r := r) (s := s) (n := n) (by simp [lmB, k0])
    have HV := hide hv
    clear hv
    go_enter Try.func31, Try.ntmps31
    go_wp2_with (first | (go_at_call 68; refine (lvProper_a _ _ _ _ _).mono ?_; rintro e w1 ⟨rfl, hb⟩; have c00 := cell_call hb (a := ⟨w.heap.size, 0, none⟩) (v := .int .i64 p) (by first | assumption | go_simp); have c01 := cell_call hb (a := ⟨w.heap.size, 1, none⟩) (v := .int .i64 q) (by first | assumption | go_simp); have c02 := cell_call hb (a := ⟨w.heap.size, 2, none⟩) (v := .int .i64 r) (by first | assumption | go_simp); have c03 := cell_call hb (a := ⟨w.heap.size, 3, none⟩) (v := .int .i64 s) (by first | assumption | go_simp); have z0 := lt_keep hb (w.heap.size) (by first | assumption | (simp; omega) | (simp; done)); have c10 := cell_call hb (a := ⟨w.heap.size + 1, 0, none⟩) (v := .int .i64 0) (by first | assumption | go_simp); have f10 := frz_call hb (a := ⟨w.heap.size + 1, 0, none⟩) (by first | assumption | (simp; omega) | (simp; done)) (by first | assumption | go_simp); have c11 := cell_call hb (a := ⟨w.heap.size + 1, 1, none⟩) (v := .int .i64 0) (by first | assumption | go_simp); have f11 := frz_call hb (a := ⟨w.heap.size + 1, 1, none⟩) (by first | assumption | (simp; omega) | (simp; done)) (by first | assumption | go_simp); have z1 := lt_keep hb (w.heap.size + 1) (by first | assumption | (simp; omega) | (simp; done)); have hs := hb.size) | (go_at_call 69; refine (l1In_any _ _ _ _).mono ?_; rintro e w' ⟨rfl, rfl⟩) | (go_at_call 85; refine (lvPoint_a _ _ _ _ (by first | assumption | omega) (by first | assumption | omega) (by first | assumption | omega) (by first | assumption | omega)).mono ?_; rintro e w1 ⟨rfl, hb⟩; have c00 := cell_call hb (a := ⟨w.heap.size, 0, none⟩) (v := .int .i64 p) (by first | assumption | go_simp); have c01 := cell_call hb (a := ⟨w.heap.size, 1, none⟩) (v := .int .i64 q) (by first | assumption | go_simp); have c02 := cell_call hb (a := ⟨w.heap.size, 2, none⟩) (v := .int .i64 r) (by first | assumption | go_simp); have c03 := cell_call hb (a := ⟨w.heap.size, 3, none⟩) (v := .int .i64 s) (by first | assumption | go_simp); have z0 := lt_keep hb (w.heap.size) (by first | assumption | (simp; omega) | (simp; done)); have c10 := cell_call hb (a := ⟨w.heap.size + 1, 0, none⟩) (v := .int .i64 0) (by first | assumption | go_simp); have f10 := frz_call hb (a := ⟨w.heap.size + 1, 0, none⟩) (by first | assumption | (simp; omega) | (simp; done)) (by first | assumption | go_simp); have c11 := cell_call hb (a := ⟨w.heap.size + 1, 1, none⟩) (v := .int .i64 0) (by first | assumption | go_simp); have f11 := frz_call hb (a := ⟨w.heap.size + 1, 1, none⟩) (by first | assumption | (simp; omega) | (simp; done)) (by first | assumption | go_simp); have z1 := lt_keep hb (w.heap.size + 1) (by first | assumption | (simp; omega) | (simp; done)); have hs := hb.size))
    first | go_returns | (refine bodyPost_ret (v := .tuple #[.agg #[.int .i64 0, .int .i64 0], .bool false]) (by simp [results, Try.results31, go_sem, *]) rfl ?_)
    refine ⟨unhide HV, ?_⟩
    (repeat' (first | (with_reducible exact Below.refl _ _) | (with_reducible assumption) | (with_reducible refine gr_alloc ?_ _) | (with_reducible refine below_drewN ?_ _) | (with_reducible refine below_drew ?_) | (with_reducible refine gr_call ?_ (by assumption)) | (with_reducible refine Below.setCell ?_ ?_ _) | go_size | omega | (simp; omega)))
  · obtain ⟨_, _, hr, hs⟩ := mat_true (proper_mat k0)
    cases k1 : inB n 1 30
    · have hv := pp_no (p := p) (q := q) (r := r) (s := s) (n := n) (by simp [lmB, k1])
      have HV := hide hv
      clear hv
      go_enter Try.func31, Try.ntmps31
      go_wp2_with (first | (go_at_call 68; refine (lvProper_a _ _ _ _ _).mono ?_; rintro e w1 ⟨rfl, hb⟩; have c00 := cell_call hb (a := ⟨w.heap.size, 0, none⟩) (v := .int .i64 p) (by first | assumption | go_simp); have c01 := cell_call hb (a := ⟨w.heap.size, 1, none⟩) (v := .int .i64 q) (by first | assumption | go_simp); have c02 := cell_call hb (a := ⟨w.heap.size, 2, none⟩) (v := .int .i64 r) (by first | assumption | go_simp); have c03 := cell_call hb (a := ⟨w.heap.size, 3, none⟩) (v := .int .i64 s) (by first | assumption | go_simp); have z0 := lt_keep hb (w.heap.size) (by first | assumption | (simp; omega) | (simp; done)); have c10 := cell_call hb (a := ⟨w.heap.size + 1, 0, none⟩) (v := .int .i64 0) (by first | assumption | go_simp); have f10 := frz_call hb (a := ⟨w.heap.size + 1, 0, none⟩) (by first | assumption | (simp; omega) | (simp; done)) (by first | assumption | go_simp); have c11 := cell_call hb (a := ⟨w.heap.size + 1, 1, none⟩) (v := .int .i64 0) (by first | assumption | go_simp); have f11 := frz_call hb (a := ⟨w.heap.size + 1, 1, none⟩) (by first | assumption | (simp; omega) | (simp; done)) (by first | assumption | go_simp); have z1 := lt_keep hb (w.heap.size + 1) (by first | assumption | (simp; omega) | (simp; done)); have hs := hb.size) | (go_at_call 69; refine (l1In_any _ _ _ _).mono ?_; rintro e w' ⟨rfl, rfl⟩) | (go_at_call 85; refine (lvPoint_a _ _ _ _ (by first | assumption | omega) (by first | assumption | omega) (by first | assumption | omega) (by first | assumption | omega)).mono ?_; rintro e w1 ⟨rfl, hb⟩; have c00 := cell_call hb (a := ⟨w.heap.size, 0, none⟩) (v := .int .i64 p) (by first | assumption | go_simp); have c01 := cell_call hb (a := ⟨w.heap.size, 1, none⟩) (v := .int .i64 q) (by first | assumption | go_simp); have c02 := cell_call hb (a := ⟨w.heap.size, 2, none⟩) (v := .int .i64 r) (by first | assumption | go_simp); have c03 := cell_call hb (a := ⟨w.heap.size, 3, none⟩) (v := .int .i64 s) (by first | assumption | go_simp); have z0 := lt_keep hb (w.heap.size) (by first | assumption | (simp; omega) | (simp; done)); have c10 := cell_call hb (a := ⟨w.heap.size + 1, 0, none⟩) (v := .int .i64 0) (by first | assumption | go_simp); have f10 := frz_call hb (a := ⟨w.heap.size + 1, 0, none⟩) (by first | assumption | (simp; omega) | (simp; done)) (by first | assumption | go_simp); have c11 := cell_call hb (a := ⟨w.heap.size + 1, 1, none⟩) (v := .int .i64 0) (by first | assumption | go_simp); have f11 := frz_call hb (a := ⟨w.heap.size + 1, 1, none⟩) (by first | assumption | (simp; omega) | (simp; done)) (by first | assumption | go_simp); have z1 := lt_keep hb (w.heap.size + 1) (by first | assumption | (simp; omega) | (simp; done)); have hs := hb.size))
      first | go_returns | (refine bodyPost_ret (v := .tuple #[.agg #[.int .i64 0, .int .i64 0], .bool false]) (by simp [results, Try.results31, go_sem, *]) rfl ?_)
      refine ⟨unhide HV, ?_⟩
      (repeat' (first | (with_reducible exact Below.refl _ _) | (with_reducible assumption) | (with_reducible refine gr_alloc ?_ _) | (with_reducible refine below_drewN ?_ _) | (with_reducible refine below_drew ?_) | (with_reducible refine gr_call ?_ (by assumption)) | (with_reducible refine Below.setCell ?_ ?_ _) | go_size | omega | (simp; omega)))
    · obtain ⟨e0, e1⟩ := inB_true k1
      have hv := pp_yes (p := p) (q := q) (r := r) (s := s) (n := n) (by simp [lmB, k0, k1])
      have HV := hide hv
      clear hv
      go_enter Try.func31, Try.ntmps31
      go_wp2_with (first | (go_at_call 68; refine (lvProper_a _ _ _ _ _).mono ?_; rintro e w1 ⟨rfl, hb⟩; have c00 := cell_call hb (a := ⟨w.heap.size, 0, none⟩) (v := .int .i64 p) (by first | assumption | go_simp); have c01 := cell_call hb (a := ⟨w.heap.size, 1, none⟩) (v := .int .i64 q) (by first | assumption | go_simp); have c02 := cell_call hb (a := ⟨w.heap.size, 2, none⟩) (v := .int .i64 r) (by first | assumption | go_simp); have c03 := cell_call hb (a := ⟨w.heap.size, 3, none⟩) (v := .int .i64 s) (by first | assumption | go_simp); have z0 := lt_keep hb (w.heap.size) (by first | assumption | (simp; omega) | (simp; done)); have c10 := cell_call hb (a := ⟨w.heap.size + 1, 0, none⟩) (v := .int .i64 0) (by first | assumption | go_simp); have f10 := frz_call hb (a := ⟨w.heap.size + 1, 0, none⟩) (by first | assumption | (simp; omega) | (simp; done)) (by first | assumption | go_simp); have c11 := cell_call hb (a := ⟨w.heap.size + 1, 1, none⟩) (v := .int .i64 0) (by first | assumption | go_simp); have f11 := frz_call hb (a := ⟨w.heap.size + 1, 1, none⟩) (by first | assumption | (simp; omega) | (simp; done)) (by first | assumption | go_simp); have z1 := lt_keep hb (w.heap.size + 1) (by first | assumption | (simp; omega) | (simp; done)); have hs := hb.size) | (go_at_call 69; refine (l1In_any _ _ _ _).mono ?_; rintro e w' ⟨rfl, rfl⟩) | (go_at_call 85; refine (lvPoint_a _ _ _ _ (by first | assumption | omega) (by first | assumption | omega) (by first | assumption | omega) (by first | assumption | omega)).mono ?_; rintro e w1 ⟨rfl, hb⟩; have c00 := cell_call hb (a := ⟨w.heap.size, 0, none⟩) (v := .int .i64 p) (by first | assumption | go_simp); have c01 := cell_call hb (a := ⟨w.heap.size, 1, none⟩) (v := .int .i64 q) (by first | assumption | go_simp); have c02 := cell_call hb (a := ⟨w.heap.size, 2, none⟩) (v := .int .i64 r) (by first | assumption | go_simp); have c03 := cell_call hb (a := ⟨w.heap.size, 3, none⟩) (v := .int .i64 s) (by first | assumption | go_simp); have z0 := lt_keep hb (w.heap.size) (by first | assumption | (simp; omega) | (simp; done)); have c10 := cell_call hb (a := ⟨w.heap.size + 1, 0, none⟩) (v := .int .i64 0) (by first | assumption | go_simp); have f10 := frz_call hb (a := ⟨w.heap.size + 1, 0, none⟩) (by first | assumption | (simp; omega) | (simp; done)) (by first | assumption | go_simp); have c11 := cell_call hb (a := ⟨w.heap.size + 1, 1, none⟩) (v := .int .i64 0) (by first | assumption | go_simp); have f11 := frz_call hb (a := ⟨w.heap.size + 1, 1, none⟩) (by first | assumption | (simp; omega) | (simp; done)) (by first | assumption | go_simp); have z1 := lt_keep hb (w.heap.size + 1) (by first | assumption | (simp; omega) | (simp; done)); have hs := hb.size))
      first | go_returns | (refine bodyPost_ret (v := .tuple #[.agg #[.int .i64 (lpX r s n), .int .i64 (lpY r s n)], .bool true]) (by simp [results, Try.results31, go_sem, *]) rfl ?_)
      refine ⟨unhide HV, ?_⟩
      (repeat' (first | (with_reducible exact Below.refl _ _) | (with_reducible assumption) | (with_reducible refine gr_alloc ?_ _) | (with_reducible refine below_drewN ?_ _) | (with_reducible refine below_drew ?_) | (with_reducible refine gr_call ?_ (by assumption)) | (with_reducible refine Below.setCell ?_ ?_ _) | go_size | omega | (simp; omega)))

set_option maxRecDepth 100000 in
set_option maxHeartbeats 400000 in
theorem toMatrix_w (p q r s : Int) (w : World) :
    Calls Try.prog 16 #[.agg #[.int .i64 p, .int .i64 q, .int .i64 r, .int .i64 s]] w fun e w' => e = .returned (.agg #[.int .i64 p, .int .i64 q, .int .i64 r, .int .i64 s]) ∧ Below w.heap.size w w' := by
  go_enter Try.func16, Try.ntmps16
  go_wp2
  go_returns
  refine ⟨rfl, ?_⟩
  (repeat' (first | (with_reducible exact Below.refl _ _) | (with_reducible assumption) | (with_reducible refine gr_alloc ?_ _) | (with_reducible refine below_drewN ?_ _) | (with_reducible refine below_drew ?_) | (with_reducible refine gr_call ?_ (by assumption)) | (with_reducible refine Below.setCell ?_ ?_ _) | go_size | omega | (simp; omega)))

set_option maxRecDepth 100000 in
set_option maxHeartbeats 400000 in
theorem toForm_w (a b c : Int) (w : World) :
    Calls Try.prog 19 #[.agg #[.int .i64 a, .int .i64 b, .int .i64 c]] w fun e w' => e = .returned (.agg #[.int .i64 a, .int .i64 b, .int .i64 c]) ∧ Below w.heap.size w w' := by
  go_enter Try.func19, Try.ntmps19
  go_wp2
  go_returns
  refine ⟨rfl, ?_⟩
  (repeat' (first | (with_reducible exact Below.refl _ _) | (with_reducible assumption) | (with_reducible refine gr_alloc ?_ _) | (with_reducible refine below_drewN ?_ _) | (with_reducible refine below_drew ?_) | (with_reducible refine gr_call ?_ (by assumption)) | (with_reducible refine Below.setCell ?_ ?_ _) | go_size | omega | (simp; omega)))

set_option maxRecDepth 100000 in
set_option maxHeartbeats 1000000 in
theorem eqForm_w (a b c : Int) (w : World) :
    Calls Try.prog 25 #[.agg #[.int .i64 a, .int .i64 b, .int .i64 c], .agg #[.int .i64 a, .int .i64 b, .int .i64 c]] w fun e w' => e = .returned (.bool true) ∧ Below w.heap.size w w' := by
  go_enter Try.func25, Try.ntmps25
  go_wp2
  go_returns
  refine ⟨rfl, ?_⟩
  (repeat' (first | (with_reducible exact Below.refl _ _) | (with_reducible assumption) | (with_reducible refine gr_alloc ?_ _) | (with_reducible refine below_drewN ?_ _) | (with_reducible refine below_drew ?_) | (with_reducible refine gr_call ?_ (by assumption)) | (with_reducible refine Below.setCell ?_ ?_ _) | go_size | omega | (simp; omega)))

set_option maxRecDepth 100000 in
set_option maxHeartbeats 1000000 in
theorem eqPoint_w (x y : Int) (w : World) :
    Calls Try.prog 33 #[.agg #[.int .i64 x, .int .i64 y], .agg #[.int .i64 x, .int .i64 y]] w fun e w' => e = .returned (.bool true) ∧ Below w.heap.size w w' := by
  go_enter Try.func33, Try.ntmps33
  go_wp2
  go_returns
  refine ⟨rfl, ?_⟩
  (repeat' (first | (with_reducible exact Below.refl _ _) | (with_reducible assumption) | (with_reducible refine gr_alloc ?_ _) | (with_reducible refine below_drewN ?_ _) | (with_reducible refine below_drew ?_) | (with_reducible refine gr_call ?_ (by assumption)) | (with_reducible refine Below.setCell ?_ ?_ _) | go_size | omega | (simp; omega)))

set_option maxRecDepth 100000 in
set_option maxHeartbeats 4000000 in
theorem lawFrickeForm (a b c n : Int) (w : World) (h0 : I64 a) (h1 : I64 b) (h2 : I64 c) (h3 : I64 n) :
    Calls Try.prog 6 #[.agg #[.int .i64 a, .int .i64 b, .int .i64 c], .int .i64 n] w fun e w' => e = .returned (.bool true) ∧ Below w.heap.size w w' := by
  go_enter Try.func6, Try.ntmps6
  go_wp2_with fail
  refine (toForm_w _ _ _ _).mono ?_
  rintro e w1 ⟨rfl, hb1⟩
  have c00 := cell_call hb1 (a := ⟨w.heap.size, 0, none⟩) (v := .int .i64 a) (by first | assumption | go_simp)
  have c01 := cell_call hb1 (a := ⟨w.heap.size, 1, none⟩) (v := .int .i64 b) (by first | assumption | go_simp)
  have c02 := cell_call hb1 (a := ⟨w.heap.size, 2, none⟩) (v := .int .i64 c) (by first | assumption | go_simp)
  have z0 := lt_keep hb1 (w.heap.size) (by first | assumption | (simp; omega) | (simp; done))
  have hs1 := hb1.size
  go_wp2_with fail
  refine (specFrickeForm_b _ _ _ _ _).mono ?_
  rintro e w2 ⟨rfl, hb2⟩
  have c00 := cell_call hb2 (a := ⟨w.heap.size, 0, none⟩) (v := .int .i64 a) (by first | assumption | go_simp)
  have c01 := cell_call hb2 (a := ⟨w.heap.size, 1, none⟩) (v := .int .i64 b) (by first | assumption | go_simp)
  have c02 := cell_call hb2 (a := ⟨w.heap.size, 2, none⟩) (v := .int .i64 c) (by first | assumption | go_simp)
  have z0 := lt_keep hb2 (w.heap.size) (by first | assumption | (simp; omega) | (simp; done))
  have hs2 := hb2.size
  go_wp2_with fail
  refine (toForm_w _ _ _ _).mono ?_
  rintro e w3 ⟨rfl, hb3⟩
  have c00 := cell_call hb3 (a := ⟨w.heap.size, 0, none⟩) (v := .int .i64 a) (by first | assumption | go_simp)
  have c01 := cell_call hb3 (a := ⟨w.heap.size, 1, none⟩) (v := .int .i64 b) (by first | assumption | go_simp)
  have c02 := cell_call hb3 (a := ⟨w.heap.size, 2, none⟩) (v := .int .i64 c) (by first | assumption | go_simp)
  have z0 := lt_keep hb3 (w.heap.size) (by first | assumption | (simp; omega) | (simp; done))
  have c10 := cell_call hb3 (a := ⟨w2.heap.size, 0, none⟩) (v := .int .i64 (frA a b c n)) (by first | assumption | go_simp)
  have c11 := cell_call hb3 (a := ⟨w2.heap.size, 1, none⟩) (v := .int .i64 (frB a b c n)) (by first | assumption | go_simp)
  have c12 := cell_call hb3 (a := ⟨w2.heap.size, 2, none⟩) (v := .int .i64 (frC a b c n)) (by first | assumption | go_simp)
  have z1 := lt_keep hb3 (w2.heap.size) (by first | assumption | (simp; omega) | (simp; done))
  have hs3 := hb3.size
  go_wp2_with fail
  refine (implFrickeForm_b _ _ _ _ _ (by first | assumption | omega) (by first | assumption | omega) (by first | assumption | omega)).mono ?_
  rintro e w4 ⟨rfl, hb4⟩
  have c00 := cell_call hb4 (a := ⟨w.heap.size, 0, none⟩) (v := .int .i64 a) (by first | assumption | go_simp)
  have c01 := cell_call hb4 (a := ⟨w.heap.size, 1, none⟩) (v := .int .i64 b) (by first | assumption | go_simp)
  have c02 := cell_call hb4 (a := ⟨w.heap.size, 2, none⟩) (v := .int .i64 c) (by first | assumption | go_simp)
  have z0 := lt_keep hb4 (w.heap.size) (by first | assumption | (simp; omega) | (simp; done))
  have c10 := cell_call hb4 (a := ⟨w2.heap.size, 0, none⟩) (v := .int .i64 (frA a b c n)) (by first | assumption | go_simp)
  have c11 := cell_call hb4 (a := ⟨w2.heap.size, 1, none⟩) (v := .int .i64 (frB a b c n)) (by first | assumption | go_simp)
  have c12 := cell_call hb4 (a := ⟨w2.heap.size, 2, none⟩) (v := .int .i64 (frC a b c n)) (by first | assumption | go_simp)
  have z1 := lt_keep hb4 (w2.heap.size) (by first | assumption | (simp; omega) | (simp; done))
  have hs4 := hb4.size
  go_wp2_with fail
  refine (eqForm_w _ _ _ _).mono ?_
  rintro e w5 ⟨rfl, hb5⟩
  have c00 := cell_call hb5 (a := ⟨w.heap.size, 0, none⟩) (v := .int .i64 a) (by first | assumption | go_simp)
  have c01 := cell_call hb5 (a := ⟨w.heap.size, 1, none⟩) (v := .int .i64 b) (by first | assumption | go_simp)
  have c02 := cell_call hb5 (a := ⟨w.heap.size, 2, none⟩) (v := .int .i64 c) (by first | assumption | go_simp)
  have z0 := lt_keep hb5 (w.heap.size) (by first | assumption | (simp; omega) | (simp; done))
  have c10 := cell_call hb5 (a := ⟨w2.heap.size, 0, none⟩) (v := .int .i64 (frA a b c n)) (by first | assumption | go_simp)
  have c11 := cell_call hb5 (a := ⟨w2.heap.size, 1, none⟩) (v := .int .i64 (frB a b c n)) (by first | assumption | go_simp)
  have c12 := cell_call hb5 (a := ⟨w2.heap.size, 2, none⟩) (v := .int .i64 (frC a b c n)) (by first | assumption | go_simp)
  have z1 := lt_keep hb5 (w2.heap.size) (by first | assumption | (simp; omega) | (simp; done))
  have c20 := cell_call hb5 (a := ⟨w4.heap.size, 0, none⟩) (v := .int .i64 (frA a b c n)) (by first | assumption | go_simp)
  have c21 := cell_call hb5 (a := ⟨w4.heap.size, 1, none⟩) (v := .int .i64 (frB a b c n)) (by first | assumption | go_simp)
  have c22 := cell_call hb5 (a := ⟨w4.heap.size, 2, none⟩) (v := .int .i64 (frC a b c n)) (by first | assumption | go_simp)
  have z2 := lt_keep hb5 (w4.heap.size) (by first | assumption | (simp; omega) | (simp; done))
  have hs5 := hb5.size
  go_wp2
  go_returns
  refine ⟨rfl, ?_⟩
  (repeat' (first | (with_reducible exact Below.refl _ _) | (with_reducible assumption) | (with_reducible refine gr_alloc ?_ _) | (with_reducible refine below_drewN ?_ _) | (with_reducible refine below_drew ?_) | (with_reducible refine gr_call ?_ (by assumption)) | (with_reducible refine Below.setCell ?_ ?_ _) | go_size | omega | (simp; omega)))

set_option maxRecDepth 100000 in
set_option maxHeartbeats 4000000 in
theorem lawProjectivePoint (p q r s n : Int) (w : World) (h0 : I64 p) (h1 : I64 q) (h2 : I64 r) (h3 : I64 s) (h4 : I64 n) :
    Calls Try.prog 8 #[.agg #[.int .i64 p, .int .i64 q, .int .i64 r, .int .i64 s], .int .i64 n] w fun e w' => e = .returned (.bool true) ∧ Below w.heap.size w w' := by
  go_enter Try.func8, Try.ntmps8
  go_wp2_with fail
  refine (toMatrix_w _ _ _ _ _).mono ?_
  rintro e w1 ⟨rfl, hb1⟩
  have c00 := cell_call hb1 (a := ⟨w.heap.size, 0, none⟩) (v := .int .i64 p) (by first | assumption | go_simp)
  have c01 := cell_call hb1 (a := ⟨w.heap.size, 1, none⟩) (v := .int .i64 q) (by first | assumption | go_simp)
  have c02 := cell_call hb1 (a := ⟨w.heap.size, 2, none⟩) (v := .int .i64 r) (by first | assumption | go_simp)
  have c03 := cell_call hb1 (a := ⟨w.heap.size, 3, none⟩) (v := .int .i64 s) (by first | assumption | go_simp)
  have z0 := lt_keep hb1 (w.heap.size) (by first | assumption | (simp; omega) | (simp; done))
  have hs1 := hb1.size
  go_wp2_with fail
  refine (specProjectivePoint_a _ _ _ _ _ _).mono ?_
  rintro e w2 ⟨rfl, hb2⟩
  have c00 := cell_call hb2 (a := ⟨w.heap.size, 0, none⟩) (v := .int .i64 p) (by first | assumption | go_simp)
  have c01 := cell_call hb2 (a := ⟨w.heap.size, 1, none⟩) (v := .int .i64 q) (by first | assumption | go_simp)
  have c02 := cell_call hb2 (a := ⟨w.heap.size, 2, none⟩) (v := .int .i64 r) (by first | assumption | go_simp)
  have c03 := cell_call hb2 (a := ⟨w.heap.size, 3, none⟩) (v := .int .i64 s) (by first | assumption | go_simp)
  have z0 := lt_keep hb2 (w.heap.size) (by first | assumption | (simp; omega) | (simp; done))
  have hs2 := hb2.size
  go_wp2_with fail
  refine (toMatrix_w _ _ _ _ _).mono ?_
  rintro e w3 ⟨rfl, hb3⟩
  have c00 := cell_call hb3 (a := ⟨w.heap.size, 0, none⟩) (v := .int .i64 p) (by first | assumption | go_simp)
  have c01 := cell_call hb3 (a := ⟨w.heap.size, 1, none⟩) (v := .int .i64 q) (by first | assumption | go_simp)
  have c02 := cell_call hb3 (a := ⟨w.heap.size, 2, none⟩) (v := .int .i64 r) (by first | assumption | go_simp)
  have c03 := cell_call hb3 (a := ⟨w.heap.size, 3, none⟩) (v := .int .i64 s) (by first | assumption | go_simp)
  have z0 := lt_keep hb3 (w.heap.size) (by first | assumption | (simp; omega) | (simp; done))
  have c10 := cell_call hb3 (a := ⟨w2.heap.size, 0, none⟩) (v := .int .i64 (ppX p q r s n)) (by first | assumption | go_simp)
  have c11 := cell_call hb3 (a := ⟨w2.heap.size, 1, none⟩) (v := .int .i64 (ppY p q r s n)) (by first | assumption | go_simp)
  have z1 := lt_keep hb3 (w2.heap.size) (by first | assumption | (simp; omega) | (simp; done))
  have hs3 := hb3.size
  go_wp2_with fail
  refine (implProjectivePoint_a _ _ _ _ _ _ (by first | assumption | omega) (by first | assumption | omega) (by first | assumption | omega) (by first | assumption | omega)).mono ?_
  rintro e w4 ⟨rfl, hb4⟩
  have c00 := cell_call hb4 (a := ⟨w.heap.size, 0, none⟩) (v := .int .i64 p) (by first | assumption | go_simp)
  have c01 := cell_call hb4 (a := ⟨w.heap.size, 1, none⟩) (v := .int .i64 q) (by first | assumption | go_simp)
  have c02 := cell_call hb4 (a := ⟨w.heap.size, 2, none⟩) (v := .int .i64 r) (by first | assumption | go_simp)
  have c03 := cell_call hb4 (a := ⟨w.heap.size, 3, none⟩) (v := .int .i64 s) (by first | assumption | go_simp)
  have z0 := lt_keep hb4 (w.heap.size) (by first | assumption | (simp; omega) | (simp; done))
  have c10 := cell_call hb4 (a := ⟨w2.heap.size, 0, none⟩) (v := .int .i64 (ppX p q r s n)) (by first | assumption | go_simp)
  have c11 := cell_call hb4 (a := ⟨w2.heap.size, 1, none⟩) (v := .int .i64 (ppY p q r s n)) (by first | assumption | go_simp)
  have z1 := lt_keep hb4 (w2.heap.size) (by first | assumption | (simp; omega) | (simp; done))
  have hs4 := hb4.size
  go_wp2_with fail
  refine (eqPoint_w _ _ _).mono ?_
  rintro e w5 ⟨rfl, hb5⟩
  have c00 := cell_call hb5 (a := ⟨w.heap.size, 0, none⟩) (v := .int .i64 p) (by first | assumption | go_simp)
  have c01 := cell_call hb5 (a := ⟨w.heap.size, 1, none⟩) (v := .int .i64 q) (by first | assumption | go_simp)
  have c02 := cell_call hb5 (a := ⟨w.heap.size, 2, none⟩) (v := .int .i64 r) (by first | assumption | go_simp)
  have c03 := cell_call hb5 (a := ⟨w.heap.size, 3, none⟩) (v := .int .i64 s) (by first | assumption | go_simp)
  have z0 := lt_keep hb5 (w.heap.size) (by first | assumption | (simp; omega) | (simp; done))
  have c10 := cell_call hb5 (a := ⟨w2.heap.size, 0, none⟩) (v := .int .i64 (ppX p q r s n)) (by first | assumption | go_simp)
  have c11 := cell_call hb5 (a := ⟨w2.heap.size, 1, none⟩) (v := .int .i64 (ppY p q r s n)) (by first | assumption | go_simp)
  have z1 := lt_keep hb5 (w2.heap.size) (by first | assumption | (simp; omega) | (simp; done))
  have c20 := cell_call hb5 (a := ⟨w4.heap.size, 0, none⟩) (v := .int .i64 (ppX p q r s n)) (by first | assumption | go_simp)
  have c21 := cell_call hb5 (a := ⟨w4.heap.size, 1, none⟩) (v := .int .i64 (ppY p q r s n)) (by first | assumption | go_simp)
  have z2 := lt_keep hb5 (w4.heap.size) (by first | assumption | (simp; omega) | (simp; done))
  have hs5 := hb5.size
  go_wp2
  go_returns
  refine ⟨rfl, ?_⟩
  (repeat' (first | (with_reducible exact Below.refl _ _) | (with_reducible assumption) | (with_reducible refine gr_alloc ?_ _) | (with_reducible refine below_drewN ?_ _) | (with_reducible refine below_drew ?_) | (with_reducible refine gr_call ?_ (by assumption)) | (with_reducible refine Below.setCell ?_ ?_ _) | go_size | omega | (simp; omega)))
end Go.Proofs.Ytomjgokjfhiahaa
