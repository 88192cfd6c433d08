/- Delays and forms near a form drawn. -/
import Derived.Test.YtihfacmlfelliaaGreatDrr
namespace Go.Proofs.YtihfacmlfelliaaGreat
open Go.RowKit
set_option linter.unusedVariables false
set_option linter.unusedSimpArgs false
attribute [local go_sem] q2 q3 q4 q5 q6 q7 q8 q9 q10 q11 q12

variable {B : Nat}

set_option maxRecDepth 100000 in
set_option maxHeartbeats 8000000 in
theorem delay_d (b : Nat) (K : Int) (w : World) (h0 : Cur B w b K) (hK : K ≤ 7000000000) : Calls Tryz.prog 25 #[.pointer (some ⟨b, 0, none⟩)] w (Drew B w b (K + 4) (fun x => -1 ≤ x ∧ x ≤ 201)) := by
 have hs0 := h0.lt
 go_enter Tryz.func25, Tryz.ntmps25
 go_wp2_with fail
 refine (pick_a (B := B) b K 60 _ (by repeat' with_reducible first | assumption | refine Cur.alc ?_ _ | refine Cur.drw ?_ | refine Cur.setN ?_ (by first | with_reducible assumption | omega)) (by omega) (by omega)).mono ?_
 rintro e1 w1 ⟨v1, rfl, p1, h1, g1⟩
 have hs1 := h1.lt
 have hz1 : w.heap.size ≤ w1.heap.size := Nat.le_trans (by first | exact Nat.le_refl _ | with_reducible assumption | (simp; done) | (simp; omega)) g1.size
 go_wp2_with fail
 refine (among_a (B := B) b (K + 2) _ 0 11 11 (fun x => -1 ≤ x ∧ x ≤ 201) _ (by repeat' with_reducible first | assumption | refine Cur.alc ?_ _ | refine Cur.drw ?_ | refine Cur.setN ?_ (by first | with_reducible assumption | omega)) (by omega) (by omega) ⟨by omega, fun i hi => by rcases (show i = 0 ∨ i = 1 ∨ i = 2 ∨ i = 3 ∨ i = 4 ∨ i = 5 ∨ i = 6 ∨ i = 7 ∨ i = 8 ∨ i = 9 ∨ i = 10 by omega) with rfl | rfl | rfl | rfl | rfl | rfl | rfl | rfl | rfl | rfl | rfl <;> exact ⟨_, by go_simp; rfl, by first | trivial | (constructor <;> omega)⟩⟩).mono ?_
 rintro e2 w2 ⟨v2, rfl, p2, h2, g2⟩
 have hs2 := h2.lt
 have hz2 : w.heap.size ≤ w2.heap.size := Nat.le_trans (by first | exact Nat.le_refl _ | with_reducible assumption | (simp; done) | (simp; omega)) g2.size
 go_wp2
 go_ret
 exact ⟨_, rfl, p2, Cur.le (K := ((K + 2) + 2)) (by repeat' with_reducible first | assumption | refine Cur.alc ?_ _ | refine Cur.drw ?_ | refine Cur.setN ?_ (by first | with_reducible assumption | omega)) (by omega), (by repeat' first | exact World.grownBy.refl' _ _ | refine World.grownBy.setNew ?_ (by first | omega | (simp; omega)) _ _ | refine World.grownBy.alloc' ?_ _ | refine World.grownBy.drewN' ?_ _ | refine World.grownBy.drew' ?_ | refine World.grownBy.trans' ?_ (by assumption) | refine World.grownBy.below' ?_ (by assumption))⟩

theorem coGood_e (a b c : Int) (t : Bool) (w : World) (h : classB a b c = t) : Calls Tryz.prog 58 #[.agg #[.int .i64 a, .int .i64 b, .int .i64 c]] w fun e w' => e = .returned (.bool t) ∧ Below w.heap.size w w' := by
 subst h; exact coGood_a a b c w
theorem foDisc_e (a b c d : Int) (w : World) (h : formB a b c = true) (hd : discI a b c = d) : Calls Tryz.prog 42 #[.agg #[.int .i64 a, .int .i64 b, .int .i64 c]] w fun e w' => e = .returned (.int .i64 d) ∧ Below w.heap.size w w' := by
 subst hd; exact foDisc_a a b c w h
theorem neg_of_class {a b c d : Int} (h : classB a b c = true) (hd : discI a b c = d) : negB d = true := by
 have hk := class_disc h
 rw [hd] at hk
 have hm : d % 4 = 0 ∨ d % 4 = 1 := by
  rw [← hd]
  have e : 4 * a * c = 4 * (a * c) := Int.mul_assoc _ _ _
  unfold discI
  rw [e]
  obtain ⟨k, hk⟩ : ∃ k, b = 2 * k ∨ b = 2 * k + 1 := ⟨b / 2, by omega⟩
  rcases hk with hk | hk
  ·have : b * b = 4 * (k * k) := by rw [hk]; grind
   omega
  ·have : b * b = 4 * (k * k + k) + 1 := by rw [hk]; grind
   omega
 unfold negB inB
 simp
 omega

set_option maxRecDepth 100000 in
set_option maxHeartbeats 8000000 in
theorem near_d (b : Nat) (K : Int) (x y z : Int) (w : World) (h0 : Cur B w b K) (hK : K ≤ 5000000000) : Calls Tryz.prog 26 #[.pointer (some ⟨b, 0, none⟩), .agg #[.int .i64 x, .int .i64 y, .int .i64 z]] w (DrewF B w b (K + 60) (fun x y z => R64 x ∧ R64 y ∧ R64 z)) := by
 have hs0 := h0.lt
 have nb0 : w.heap.size ≠ b := by omega
 have nb1 : w.heap.size + 1 ≠ b := by omega
 cases k0 : classB x y z
 ·go_enter Tryz.func26, Tryz.ntmps26
  go_wp2_with fail
  refine (coGood_e x y z false _ k0).mono ?_
  rintro e1 w1 ⟨rfl, b1⟩
  have tq0 := Ri3.c b1 w.heap.size x y z
  have tq1 := Wi3.c b1 (w.heap.size + 1) 0 0 0
  try clear c00 c01 c02
  try clear c10 c11 c12 f10 f11 f12
  obtain ⟨c00, c01, c02, z0⟩ := tq0
  obtain ⟨c10, c11, c12, f10, f11, f12, z1⟩ := tq1
  have h1 := Cur.below (B := B) (b := b) (K := K) (by repeat' with_reducible first | assumption | refine Cur.alc ?_ _ | refine Cur.drw ?_ | refine Cur.setN ?_ (by first | with_reducible assumption | omega)) b1
  have hs1 := h1.lt
  have hz1 : w.heap.size ≤ w1.heap.size := by omega
  clear k0
  go_wp2_with fail
  refine (classForm_d (B := B) b K  _ (by repeat' with_reducible first | assumption | refine Cur.alc ?_ _ | refine Cur.drw ?_ | refine Cur.setN ?_ (by first | with_reducible assumption | omega)) (by omega)).mono ?_
  rintro e2 w2 ⟨x2, y2, z2, rfl, p2, h2, g2⟩
  have hs2 := h2.lt
  have hz2 : w.heap.size ≤ w2.heap.size := Nat.le_trans (by first | exact Nat.le_refl _ | with_reducible assumption | (simp; done) | (simp; omega)) g2.size
  have tq0 := Ri3.d g2 w.heap.size x y z nb0
  have tq1 := Wi3.d g2 (w.heap.size + 1) 0 0 0 nb1
  (try clear c00 c01 c02 z0)
  (try clear c10 c11 c12 f10 f11 f12 z1)
  obtain ⟨c00, c01, c02, z0⟩ := tq0
  obtain ⟨c10, c11, c12, f10, f11, f12, z1⟩ := tq1
  go_wp2
  refine bodyPost_ret (v := .agg #[.int .i64 x2, .int .i64 y2, .int .i64 z2]) (by simp [results, Tryz.results26, go_sem, *]) rfl ?_
  exact ⟨_, _, _, rfl, p2, Cur.le (K := (K + 50)) (by repeat' with_reducible first | assumption | refine Cur.alc ?_ _ | refine Cur.drw ?_ | refine Cur.setN ?_ (by first | with_reducible assumption | omega)) (by omega), (by repeat' first | exact World.grownBy.refl' _ _ | refine World.grownBy.setNew ?_ (by first | omega | (simp; omega)) _ _ | refine World.grownBy.alloc' ?_ _ | refine World.grownBy.drewN' ?_ _ | refine World.grownBy.drew' ?_ | refine World.grownBy.trans' ?_ (by assumption) | refine World.grownBy.below' ?_ (by assumption))⟩
 ·obtain ⟨d, hd⟩ : ∃ d, discI x y z = d := ⟨_, rfl⟩
  have HND : Hid (negB d = true) := hide (neg_of_class k0 hd)
  go_enter Tryz.func26, Tryz.ntmps26
  go_wp2_with fail
  refine (coGood_e x y z true _ k0).mono ?_
  rintro e1 w1 ⟨rfl, b1⟩
  have tq0 := Ri3.c b1 w.heap.size x y z
  have tq1 := Wi3.c b1 (w.heap.size + 1) 0 0 0
  try clear c00 c01 c02
  try clear c10 c11 c12 f10 f11 f12
  obtain ⟨c00, c01, c02, z0⟩ := tq0
  obtain ⟨c10, c11, c12, f10, f11, f12, z1⟩ := tq1
  have h1 := Cur.below (B := B) (b := b) (K := K) (by repeat' with_reducible first | assumption | refine Cur.alc ?_ _ | refine Cur.drw ?_ | refine Cur.setN ?_ (by first | with_reducible assumption | omega)) b1
  have hs1 := h1.lt
  have hz1 : w.heap.size ≤ w1.heap.size := by omega
  go_wp2_with fail
  refine (one_a (B := B) b K 16 _ (by repeat' with_reducible first | assumption | refine Cur.alc ?_ _ | refine Cur.drw ?_ | refine Cur.setN ?_ (by first | with_reducible assumption | omega)) (by omega) (by omega)).mono ?_
  rintro e2 w2 ⟨t2, rfl, h2, g2⟩
  have hs2 := h2.lt
  have hz2 : w.heap.size ≤ w2.heap.size := Nat.le_trans (by first | exact Nat.le_refl _ | with_reducible assumption | (simp; done) | (simp; omega)) g2.size
  have tq0 := Ri3.d g2 w.heap.size x y z nb0
  have tq1 := Wi3.d g2 (w.heap.size + 1) 0 0 0 nb1
  (try clear c00 c01 c02 z0)
  (try clear c10 c11 c12 f10 f11 f12 z1)
  obtain ⟨c00, c01, c02, z0⟩ := tq0
  obtain ⟨c10, c11, c12, f10, f11, f12, z1⟩ := tq1
  cases t2
  ·go_wp2_with fail
   refine (foDisc_e x y z d _ (class_form k0) hd).mono ?_
   rintro e3 w3 ⟨rfl, b3⟩
   have tq0 := Ri3.c b3 w.heap.size x y z
   have tq1 := Wi3.c b3 (w.heap.size + 1) 0 0 0
   try clear c00 c01 c02
   try clear c10 c11 c12 f10 f11 f12
   obtain ⟨c00, c01, c02, z0⟩ := tq0
   obtain ⟨c10, c11, c12, f10, f11, f12, z1⟩ := tq1
   have h3 := Cur.below (B := B) (b := b) (K := (K + 2)) (by repeat' with_reducible first | assumption | refine Cur.alc ?_ _ | refine Cur.drw ?_ | refine Cur.setN ?_ (by first | with_reducible assumption | omega)) b3
   have hs3 := h3.lt
   have hz3 : w.heap.size ≤ w3.heap.size := Nat.le_trans (by first | exact Nat.le_refl _ | omega | (simp; done) | (simp; omega)) b3.size
   go_wp2_with fail
   refine (reduced_d (B := B) b (K + 2) d _ (by repeat' with_reducible first | assumption | refine Cur.alc ?_ _ | refine Cur.drw ?_ | refine Cur.setN ?_ (by first | with_reducible assumption | omega)) (by omega) (unhide HND)).mono ?_
   rintro e4 w4 ⟨x4, y4, z4, rfl, p4, h4, g4⟩
   have hs4 := h4.lt
   have hz4 : w.heap.size ≤ w4.heap.size := Nat.le_trans (by first | exact Nat.le_refl _ | with_reducible assumption | (simp; done) | (simp; omega)) g4.size
   have tq0 := Ri3.d g4 w.heap.size x y z nb0
   have tq1 := Wi3.d g4 (w.heap.size + 1) 0 0 0 nb1
   (try clear c00 c01 c02 z0)
   (try clear c10 c11 c12 f10 f11 f12 z1)
   obtain ⟨c00, c01, c02, z0⟩ := tq0
   obtain ⟨c10, c11, c12, f10, f11, f12, z1⟩ := tq1
   go_wp2
   refine bodyPost_ret (v := .agg #[.int .i64 x4, .int .i64 y4, .int .i64 z4]) (by simp [results, Tryz.results26, go_sem, *]) rfl ?_
   exact ⟨_, _, _, rfl, by obtain ⟨s1, s2, s3⟩ := p4.small; unfold In at *; unfold R64; omega, Cur.le (K := ((K + 2) + 2)) (by repeat' with_reducible first | assumption | refine Cur.alc ?_ _ | refine Cur.drw ?_ | refine Cur.setN ?_ (by first | with_reducible assumption | omega)) (by omega), (by repeat' first | exact World.grownBy.refl' _ _ | refine World.grownBy.setNew ?_ (by first | omega | (simp; omega)) _ _ | refine World.grownBy.alloc' ?_ _ | refine World.grownBy.drewN' ?_ _ | refine World.grownBy.drew' ?_ | refine World.grownBy.trans' ?_ (by assumption) | refine World.grownBy.below' ?_ (by assumption))⟩
  ·clear k0 hd
   go_wp2_with fail
   refine (classForm_d (B := B) b (K + 2)  _ (by repeat' with_reducible first | assumption | refine Cur.alc ?_ _ | refine Cur.drw ?_ | refine Cur.setN ?_ (by first | with_reducible assumption | omega)) (by omega)).mono ?_
   rintro e3 w3 ⟨x3, y3, z3, rfl, p3, h3, g3⟩
   have hs3 := h3.lt
   have hz3 : w.heap.size ≤ w3.heap.size := Nat.le_trans (by first | exact Nat.le_refl _ | with_reducible assumption | (simp; done) | (simp; omega)) g3.size
   have tq0 := Ri3.d g3 w.heap.size x y z nb0
   have tq1 := Wi3.d g3 (w.heap.size + 1) 0 0 0 nb1
   (try clear c00 c01 c02 z0)
   (try clear c10 c11 c12 f10 f11 f12 z1)
   obtain ⟨c00, c01, c02, z0⟩ := tq0
   obtain ⟨c10, c11, c12, f10, f11, f12, z1⟩ := tq1
   go_wp2
   refine bodyPost_ret (v := .agg #[.int .i64 x3, .int .i64 y3, .int .i64 z3]) (by simp [results, Tryz.results26, go_sem, *]) rfl ?_
   exact ⟨_, _, _, rfl, p3, Cur.le (K := ((K + 2) + 50)) (by repeat' with_reducible first | assumption | refine Cur.alc ?_ _ | refine Cur.drw ?_ | refine Cur.setN ?_ (by first | with_reducible assumption | omega)) (by omega), (by repeat' first | exact World.grownBy.refl' _ _ | refine World.grownBy.setNew ?_ (by first | omega | (simp; omega)) _ _ | refine World.grownBy.alloc' ?_ _ | refine World.grownBy.drewN' ?_ _ | refine World.grownBy.drew' ?_ | refine World.grownBy.trans' ?_ (by assumption) | refine World.grownBy.below' ?_ (by assumption))⟩
end Go.Proofs.YtihfacmlfelliaaGreat
