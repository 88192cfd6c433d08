/-
  FourProduct on both sides.
-/
import Derived.Test.YtpgpdccidoogcaaProd
namespace Go.Proofs.Ytpgpdccidoogcaa
open Go.RowKit
set_option linter.unusedVariables false
set_option linter.unusedSimpArgs false
attribute [local go_sem] q2 q3 q4 q5 q6 q7 q8 q9 q10 q11 q12


def FourProductOk (x1 y1 z1 u1 x2 y2 z2 u2 : Int) : Bool := allB [x1, y1, z1, u1, x2, y2, z2, u2] (-1000) 1000
theorem FourProduct_bds {x1 y1 z1 u1 x2 y2 z2 u2 : Int} (h : FourProductOk x1 y1 z1 u1 x2 y2 z2 u2 = true) : (-1000 ≤ x1 ∧ x1 ≤ 1000) ∧ (-1000 ≤ y1 ∧ y1 ≤ 1000) ∧ (-1000 ≤ z1 ∧ z1 ≤ 1000) ∧ (-1000 ≤ u1 ∧ u1 ≤ 1000) ∧ (-1000 ≤ x2 ∧ x2 ≤ 1000) ∧ (-1000 ≤ y2 ∧ y2 ≤ 1000) ∧ (-1000 ≤ z2 ∧ z2 ≤ 1000) ∧ (-1000 ≤ u2 ∧ u2 ≤ 1000) := by
  have := allB_mem h
  simpa only [List.mem_cons, List.not_mem_nil, or_false, forall_eq_or_imp, forall_eq] using this
theorem FourProduct_two (x1 y1 z1 u1 x2 y2 z2 u2 : Int) : FourProductOk x1 y1 z1 u1 x2 y2 z2 u2 = (allB [x1, y1, z1, u1] (-1000) 1000 && allB [x2, y2, z2, u2] (-1000) 1000) := by
  unfold FourProductOk allB
  rw [← List.all_append]
  rfl

set_option maxRecDepth 100000 in
set_option maxHeartbeats 1000000 in
theorem sqQuad_any (x1 y1 z1 u1 : Int) (w : World) :
    Calls Try.prog 41 #[.agg #[.int .i64 x1, .int .i64 y1, .int .i64 z1, .int .i64 u1]] w fun e w' => e = .returned (.slice (some ⟨w.heap.size + 1, 0, none⟩) 4 4) ∧ w' = (w.alloc (.cells #[.int .i64 x1, .int .i64 y1, .int .i64 z1, .int .i64 u1] 32)).alloc (.cells #[.int .i64 x1, .int .i64 y1, .int .i64 z1, .int .i64 u1] 3) := by
  go_enter Try.func41, Try.ntmps41
  go_wp2
  go_ret
  exact ⟨rfl, rfl⟩

set_option maxRecDepth 100000 in
set_option maxHeartbeats 4000000 in
theorem implFourProduct_false (x1 y1 z1 u1 x2 y2 z2 u2 : Int) (w : World) (hx1 : I64 x1) (hy1 : I64 y1) (hz1 : I64 z1) (hu1 : I64 u1) (hx2 : I64 x2) (hy2 : I64 y2) (hz2 : I64 z2) (hu2 : I64 u2) (h : FourProductOk x1 y1 z1 u1 x2 y2 z2 u2 = false) :
    Calls Try.prog 14 #[.agg #[.int .i64 x1, .int .i64 y1, .int .i64 z1, .int .i64 u1], .agg #[.int .i64 x2, .int .i64 y2, .int .i64 z2, .int .i64 u2]] w fun e w' => e = .returned (.tuple #[.agg #[.int .i64 0, .int .i64 0, .int .i64 0, .int .i64 0], .bool false]) ∧ Below w.heap.size w w' := by
  have hok : allB [x1, y1, z1, u1, x2, y2, z2, u2] (-1000) 1000 = false := h
  clear h
  go_enter Try.func14, Try.ntmps14
  go_wp2_with (first | (go_at_call 39; refine (areShort_any [x1, y1, z1, u1, x2, y2, z2, u2] _ _ _ (i64_list (by simp only [List.mem_cons, List.not_mem_nil, or_false, forall_eq_or_imp, forall_eq]; exact ⟨hx1, hy1, hz1, hu1, hx2, hy2, hz2, hu2⟩)) (by simp) (cells_new _ _ _ _ _ rfl (by simp))).mono ?_; rintro e w1 ⟨rfl, rfl⟩) | go_quiet (fail))
  go_returns
  refine ⟨rfl, ?_⟩
  repeat' (first | (with_reducible exact Below.refl _ _) | (with_reducible refine Below.alloc ?_ ?_ _) | (with_reducible refine Below.setCell ?_ ?_ _) | (with_reducible refine below_drewN ?_ _) | go_size)

set_option maxRecDepth 100000 in
set_option maxHeartbeats 4000000 in
theorem implFourProduct_true (x1 y1 z1 u1 x2 y2 z2 u2 : Int) (w : World) (hx1 : I64 x1) (hy1 : I64 y1) (hz1 : I64 z1) (hu1 : I64 u1) (hx2 : I64 x2) (hy2 : I64 y2) (hz2 : I64 z2) (hu2 : I64 u2) (h : FourProductOk x1 y1 z1 u1 x2 y2 z2 u2 = true) :
    Calls Try.prog 14 #[.agg #[.int .i64 x1, .int .i64 y1, .int .i64 z1, .int .i64 u1], .agg #[.int .i64 x2, .int .i64 y2, .int .i64 z2, .int .i64 u2]] w fun e w' => e = .returned (.tuple #[.agg #[.int .i64 (x1 * x2 - y1 * y2 - z1 * z2 - u1 * u2), .int .i64 (x1 * y2 + y1 * x2 + z1 * u2 - u1 * z2), .int .i64 (x1 * z2 - y1 * u2 + z1 * x2 + u1 * y2), .int .i64 (x1 * u2 + y1 * z2 - z1 * y2 + u1 * x2)], .bool true]) ∧ Below w.heap.size w w' := by
  obtain ⟨bx1, by1, bz1, bu1, bx2, by2, bz2, bu2⟩ := FourProduct_bds h
  have qx1x2 := pbd bx1 bx2
  have qx1y2 := pbd bx1 by2
  have qx1z2 := pbd bx1 bz2
  have qx1u2 := pbd bx1 bu2
  have qy1x2 := pbd by1 bx2
  have qy1y2 := pbd by1 by2
  have qy1z2 := pbd by1 bz2
  have qy1u2 := pbd by1 bu2
  have qz1x2 := pbd bz1 bx2
  have qz1y2 := pbd bz1 by2
  have qz1z2 := pbd bz1 bz2
  have qz1u2 := pbd bz1 bu2
  have qu1x2 := pbd bu1 bx2
  have qu1y2 := pbd bu1 by2
  have qu1z2 := pbd bu1 bz2
  have qu1u2 := pbd bu1 bu2
  have hok : allB [x1, y1, z1, u1, x2, y2, z2, u2] (-1000) 1000 = true := h
  clear h
  go_enter Try.func14, Try.ntmps14
  go_wp2_with (first | (go_at_call 39; refine (areShort_any [x1, y1, z1, u1, x2, y2, z2, u2] _ _ _ (i64_list (by simp only [List.mem_cons, List.not_mem_nil, or_false, forall_eq_or_imp, forall_eq]; exact ⟨hx1, hy1, hz1, hu1, hx2, hy2, hz2, hu2⟩)) (by simp) (cells_new _ _ _ _ _ rfl (by simp))).mono ?_; rintro e w1 ⟨rfl, rfl⟩) | go_quiet (fail))
  go_returns
  refine ⟨rfl, ?_⟩
  repeat' (first | (with_reducible exact Below.refl _ _) | (with_reducible refine Below.alloc ?_ ?_ _) | (with_reducible refine Below.setCell ?_ ?_ _) | (with_reducible refine below_drewN ?_ _) | go_size)

set_option maxRecDepth 100000 in
set_option maxHeartbeats 4000000 in
theorem specFourProduct_f1 (x1 y1 z1 u1 x2 y2 z2 u2 : Int) (w : World) (hx1 : I64 x1) (hy1 : I64 y1) (hz1 : I64 z1) (hu1 : I64 u1) (hx2 : I64 x2) (hy2 : I64 y2) (hz2 : I64 z2) (hu2 : I64 u2) (hp : allB [x1, y1, z1, u1] (-1000) 1000 = false) :
    Calls Try.prog 15 #[.agg #[.int .i64 x1, .int .i64 y1, .int .i64 z1, .int .i64 u1], .agg #[.int .i64 x2, .int .i64 y2, .int .i64 z2, .int .i64 u2]] w fun e w' => e = .returned (.tuple #[.agg #[.int .i64 0, .int .i64 0, .int .i64 0, .int .i64 0], .bool false]) ∧ Below w.heap.size w w' := by
  go_enter Try.func15, Try.ntmps15
  go_wp2_with (first | (go_at_call 41; refine (sqQuad_any _ _ _ _ _).mono ?_; rintro e w1 ⟨rfl, rfl⟩) | (go_at_call 40; refine (l1All_any [x1, y1, z1, u1] (-1000) 1000 _ _ _ (i64_list (by simp only [List.mem_cons, List.not_mem_nil, or_false, forall_eq_or_imp, forall_eq]; exact ⟨hx1, hy1, hz1, hu1⟩)) (by simp) (cells_new _ _ _ _ _ rfl (by simp))).mono ?_; rintro e w1 ⟨rfl, rfl⟩) | (go_at_call 40; refine (l1All_any [x2, y2, z2, u2] (-1000) 1000 _ _ _ (i64_list (by simp only [List.mem_cons, List.not_mem_nil, or_false, forall_eq_or_imp, forall_eq]; exact ⟨hx2, hy2, hz2, hu2⟩)) (by simp) (cells_new _ _ _ _ _ rfl (by simp))).mono ?_; rintro e w1 ⟨rfl, rfl⟩))
  go_returns
  refine ⟨rfl, ?_⟩
  repeat' (first | (with_reducible exact Below.refl _ _) | (with_reducible refine Below.alloc ?_ ?_ _) | (with_reducible refine Below.setCell ?_ ?_ _) | (with_reducible refine below_drewN ?_ _) | go_size)

set_option maxRecDepth 100000 in
set_option maxHeartbeats 4000000 in
theorem specFourProduct_f2 (x1 y1 z1 u1 x2 y2 z2 u2 : Int) (w : World) (hx1 : I64 x1) (hy1 : I64 y1) (hz1 : I64 z1) (hu1 : I64 u1) (hx2 : I64 x2) (hy2 : I64 y2) (hz2 : I64 z2) (hu2 : I64 u2) (hp : allB [x1, y1, z1, u1] (-1000) 1000 = true) (hq : allB [x2, y2, z2, u2] (-1000) 1000 = false) :
    Calls Try.prog 15 #[.agg #[.int .i64 x1, .int .i64 y1, .int .i64 z1, .int .i64 u1], .agg #[.int .i64 x2, .int .i64 y2, .int .i64 z2, .int .i64 u2]] w fun e w' => e = .returned (.tuple #[.agg #[.int .i64 0, .int .i64 0, .int .i64 0, .int .i64 0], .bool false]) ∧ Below w.heap.size w w' := by
  go_enter Try.func15, Try.ntmps15
  go_wp2_with (first | (go_at_call 41; refine (sqQuad_any _ _ _ _ _).mono ?_; rintro e w1 ⟨rfl, rfl⟩) | (go_at_call 40; refine (l1All_any [x1, y1, z1, u1] (-1000) 1000 _ _ _ (i64_list (by simp only [List.mem_cons, List.not_mem_nil, or_false, forall_eq_or_imp, forall_eq]; exact ⟨hx1, hy1, hz1, hu1⟩)) (by simp) (cells_new _ _ _ _ _ rfl (by simp))).mono ?_; rintro e w1 ⟨rfl, rfl⟩) | (go_at_call 40; refine (l1All_any [x2, y2, z2, u2] (-1000) 1000 _ _ _ (i64_list (by simp only [List.mem_cons, List.not_mem_nil, or_false, forall_eq_or_imp, forall_eq]; exact ⟨hx2, hy2, hz2, hu2⟩)) (by simp) (cells_new _ _ _ _ _ rfl (by simp))).mono ?_; rintro e w1 ⟨rfl, rfl⟩))
  go_returns
  refine ⟨rfl, ?_⟩
  repeat' (first | (with_reducible exact Below.refl _ _) | (with_reducible refine Below.alloc ?_ ?_ _) | (with_reducible refine Below.setCell ?_ ?_ _) | (with_reducible refine below_drewN ?_ _) | go_size)

set_option maxRecDepth 100000 in
set_option maxHeartbeats 4000000 in
theorem specFourProduct_true (x1 y1 z1 u1 x2 y2 z2 u2 : Int) (w : World) (hx1 : I64 x1) (hy1 : I64 y1) (hz1 : I64 z1) (hu1 : I64 u1) (hx2 : I64 x2) (hy2 : I64 y2) (hz2 : I64 z2) (hu2 : I64 u2) (hp : allB [x1, y1, z1, u1] (-1000) 1000 = true) (hq : allB [x2, y2, z2, u2] (-1000) 1000 = true) :
    Calls Try.prog 15 #[.agg #[.int .i64 x1, .int .i64 y1, .int .i64 z1, .int .i64 u1], .agg #[.int .i64 x2, .int .i64 y2, .int .i64 z2, .int .i64 u2]] w fun e w' => e = .returned (.tuple #[.agg #[.int .i64 (x1 * x2 - y1 * y2 - z1 * z2 - u1 * u2), .int .i64 (x1 * y2 + y1 * x2 + z1 * u2 - u1 * z2), .int .i64 (x1 * z2 - y1 * u2 + z1 * x2 + u1 * y2), .int .i64 (x1 * u2 + y1 * z2 - z1 * y2 + u1 * x2)], .bool true]) ∧ Below w.heap.size w w' := by
  obtain ⟨bx1, by1, bz1, bu1, bx2, by2, bz2, bu2⟩ := FourProduct_bds (show FourProductOk x1 y1 z1 u1 x2 y2 z2 u2 = true by rw [FourProduct_two, hp, hq]; rfl)
  have qx1x2 := pbd bx1 bx2
  have qx1y2 := pbd bx1 by2
  have qx1z2 := pbd bx1 bz2
  have qx1u2 := pbd bx1 bu2
  have qy1x2 := pbd by1 bx2
  have qy1y2 := pbd by1 by2
  have qy1z2 := pbd by1 bz2
  have qy1u2 := pbd by1 bu2
  have qz1x2 := pbd bz1 bx2
  have qz1y2 := pbd bz1 by2
  have qz1z2 := pbd bz1 bz2
  have qz1u2 := pbd bz1 bu2
  have qu1x2 := pbd bu1 bx2
  have qu1y2 := pbd bu1 by2
  have qu1z2 := pbd bu1 bz2
  have qu1u2 := pbd bu1 bu2
  go_enter Try.func15, Try.ntmps15
  go_wp2_with (first | (go_at_call 41; refine (sqQuad_any _ _ _ _ _).mono ?_; rintro e w1 ⟨rfl, rfl⟩) | (go_at_call 40; refine (l1All_any [x1, y1, z1, u1] (-1000) 1000 _ _ _ (i64_list (by simp only [List.mem_cons, List.not_mem_nil, or_false, forall_eq_or_imp, forall_eq]; exact ⟨hx1, hy1, hz1, hu1⟩)) (by simp) (cells_new _ _ _ _ _ rfl (by simp))).mono ?_; rintro e w1 ⟨rfl, rfl⟩) | (go_at_call 40; refine (l1All_any [x2, y2, z2, u2] (-1000) 1000 _ _ _ (i64_list (by simp only [List.mem_cons, List.not_mem_nil, or_false, forall_eq_or_imp, forall_eq]; exact ⟨hx2, hy2, hz2, hu2⟩)) (by simp) (cells_new _ _ _ _ _ rfl (by simp))).mono ?_; rintro e w1 ⟨rfl, rfl⟩))
  go_returns
  refine ⟨rfl, ?_⟩
  repeat' (first | (with_reducible exact Below.refl _ _) | (with_reducible refine Below.alloc ?_ ?_ _) | (with_reducible refine Below.setCell ?_ ?_ _) | (with_reducible refine below_drewN ?_ _) | go_size)
def FourProductR0 (x1 y1 z1 u1 x2 y2 z2 u2 : Int) : Int := if FourProductOk x1 y1 z1 u1 x2 y2 z2 u2 then x1 * x2 - y1 * y2 - z1 * z2 - u1 * u2 else 0
def FourProductR1 (x1 y1 z1 u1 x2 y2 z2 u2 : Int) : Int := if FourProductOk x1 y1 z1 u1 x2 y2 z2 u2 then x1 * y2 + y1 * x2 + z1 * u2 - u1 * z2 else 0
def FourProductR2 (x1 y1 z1 u1 x2 y2 z2 u2 : Int) : Int := if FourProductOk x1 y1 z1 u1 x2 y2 z2 u2 then x1 * z2 - y1 * u2 + z1 * x2 + u1 * y2 else 0
def FourProductR3 (x1 y1 z1 u1 x2 y2 z2 u2 : Int) : Int := if FourProductOk x1 y1 z1 u1 x2 y2 z2 u2 then x1 * u2 + y1 * z2 - z1 * y2 + u1 * x2 else 0

theorem implFourProduct_any (x1 y1 z1 u1 x2 y2 z2 u2 : Int) (w : World) (hx1 : I64 x1) (hy1 : I64 y1) (hz1 : I64 z1) (hu1 : I64 u1) (hx2 : I64 x2) (hy2 : I64 y2) (hz2 : I64 z2) (hu2 : I64 u2) :
    Calls Try.prog 14 #[.agg #[.int .i64 x1, .int .i64 y1, .int .i64 z1, .int .i64 u1], .agg #[.int .i64 x2, .int .i64 y2, .int .i64 z2, .int .i64 u2]] w fun e w' => e = .returned (.tuple #[.agg #[.int .i64 (FourProductR0 x1 y1 z1 u1 x2 y2 z2 u2), .int .i64 (FourProductR1 x1 y1 z1 u1 x2 y2 z2 u2), .int .i64 (FourProductR2 x1 y1 z1 u1 x2 y2 z2 u2), .int .i64 (FourProductR3 x1 y1 z1 u1 x2 y2 z2 u2)], .bool (FourProductOk x1 y1 z1 u1 x2 y2 z2 u2)]) ∧ Below w.heap.size w w' := by
  cases h : FourProductOk x1 y1 z1 u1 x2 y2 z2 u2
  · have := implFourProduct_false x1 y1 z1 u1 x2 y2 z2 u2 w hx1 hy1 hz1 hu1 hx2 hy2 hz2 hu2 h
    simpa [FourProductR0, FourProductR1, FourProductR2, FourProductR3, h] using this
  · have := implFourProduct_true x1 y1 z1 u1 x2 y2 z2 u2 w hx1 hy1 hz1 hu1 hx2 hy2 hz2 hu2 h
    simpa [FourProductR0, FourProductR1, FourProductR2, FourProductR3, h] using this

theorem specFourProduct_any (x1 y1 z1 u1 x2 y2 z2 u2 : Int) (w : World) (hx1 : I64 x1) (hy1 : I64 y1) (hz1 : I64 z1) (hu1 : I64 u1) (hx2 : I64 x2) (hy2 : I64 y2) (hz2 : I64 z2) (hu2 : I64 u2) :
    Calls Try.prog 15 #[.agg #[.int .i64 x1, .int .i64 y1, .int .i64 z1, .int .i64 u1], .agg #[.int .i64 x2, .int .i64 y2, .int .i64 z2, .int .i64 u2]] w fun e w' => e = .returned (.tuple #[.agg #[.int .i64 (FourProductR0 x1 y1 z1 u1 x2 y2 z2 u2), .int .i64 (FourProductR1 x1 y1 z1 u1 x2 y2 z2 u2), .int .i64 (FourProductR2 x1 y1 z1 u1 x2 y2 z2 u2), .int .i64 (FourProductR3 x1 y1 z1 u1 x2 y2 z2 u2)], .bool (FourProductOk x1 y1 z1 u1 x2 y2 z2 u2)]) ∧ Below w.heap.size w w' := by
  cases hp : allB [x1, y1, z1, u1] (-1000) 1000
  · have h : FourProductOk x1 y1 z1 u1 x2 y2 z2 u2 = false := by rw [FourProduct_two, hp]; rfl
    have := specFourProduct_f1 x1 y1 z1 u1 x2 y2 z2 u2 w hx1 hy1 hz1 hu1 hx2 hy2 hz2 hu2 hp
    simpa [FourProductR0, FourProductR1, FourProductR2, FourProductR3, h] using this
  · cases hq : allB [x2, y2, z2, u2] (-1000) 1000
    · have h : FourProductOk x1 y1 z1 u1 x2 y2 z2 u2 = false := by rw [FourProduct_two, hp, hq]; rfl
      have := specFourProduct_f2 x1 y1 z1 u1 x2 y2 z2 u2 w hx1 hy1 hz1 hu1 hx2 hy2 hz2 hu2 hp hq
      simpa [FourProductR0, FourProductR1, FourProductR2, FourProductR3, h] using this
    · have h : FourProductOk x1 y1 z1 u1 x2 y2 z2 u2 = true := by rw [FourProduct_two, hp, hq]; rfl
      have := specFourProduct_true x1 y1 z1 u1 x2 y2 z2 u2 w hx1 hy1 hz1 hu1 hx2 hy2 hz2 hu2 hp hq
      simpa [FourProductR0, FourProductR1, FourProductR2, FourProductR3, h] using this

end Go.Proofs.Ytpgpdccidoogcaa
