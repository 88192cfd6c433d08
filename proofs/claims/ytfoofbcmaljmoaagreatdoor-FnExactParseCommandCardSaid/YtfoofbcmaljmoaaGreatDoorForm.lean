/- Forms, matrices and their validity on both sides. -/
import Derived.Test.YtfoofbcmaljmoaaGreatDoorNum
import Derived.Deep.QuietTactic
import Derived.BigQuiet
namespace Go.Proofs.YtfoofbcmaljmoaaGreatDoor
open Go.RowKit
set_option linter.unusedVariables false
set_option linter.unusedSimpArgs false
attribute [local go_sem] q2 q3 q4 q5 q6 q7 q8 q9 q10 q11 q12

def numB (n : Int) : Bool := inB n (-1000000) 1000000
def formB (a b c : Int) : Bool := allB [a, b, c] (-1000000) 1000000
theorem form_true {a b c : Int} (h : formB a b c = true) : (-1000000 ≤ a ∧ a ≤ 1000000) ∧ (-1000000 ≤ b ∧ b ≤ 1000000) ∧ (-1000000 ≤ c ∧ c ≤ 1000000) := by
 have := allB_mem h
 simpa only [List.mem_cons, List.not_mem_nil, or_false, forall_eq_or_imp, forall_eq] using this
theorem mul_bd {a b A B : Int} (hA : 0 ≤ A) (ha : -A ≤ a ∧ a ≤ A) (hb : -B ≤ b ∧ b ≤ B) : -(A * B) ≤ a * b ∧ a * b ≤ A * B := by
 have h1 : a.natAbs ≤ A.natAbs := by omega
 have h2 : b.natAbs ≤ B.natAbs := by omega
 have h3 := Nat.mul_le_mul h1 h2
 rw [← Int.natAbs_mul, ← Int.natAbs_mul] at h3
 have h4 : 0 ≤ A * B := Int.mul_nonneg hA (by omega)
 omega
theorem num_mul {a b : Int} (ha : -1000000 ≤ a ∧ a ≤ 1000000) (hb : -1000000 ≤ b ∧ b ≤ 1000000) : -1000000000000 ≤ a * b ∧ a * b ≤ 1000000000000 := by
 have := mul_bd (by omega) ha hb; omega
def discI (a b c : Int) : Int := b * b - 4 * a * c
theorem disc_bd {a b c : Int} (h : formB a b c = true) : -4000000000000 ≤ discI a b c ∧ discI a b c ≤ 5000000000000 := by
 obtain ⟨ha, hb, hc⟩ := form_true h
 have h1 := num_mul hb hb
 have h2 := num_mul ha hc
 have h3 : 4 * a * c = 4 * (a * c) := by rw [Int.mul_assoc]
 unfold discI
 rw [h3]
 by_cases hq : 0 ≤ b
 ·have := Int.mul_nonneg hq hq; omega
 ·have := Int.mul_nonneg_of_nonpos_of_nonpos (a := b) (b := b) (by omega) (by omega); omega
theorem form_num (a b c : Int) : formB a b c = (numB a && (numB b && numB c)) := by simp [formB, allB, numB]
def contI (a b c : Int) : Int := igcd a (igcd b c)
theorem cont_alt (a b c : Int) : igcd (igcd a b) c = contI a b c := by
 unfold contI igcd Int.gcd
 simp only [Int.natAbs_natCast]
 rw [Nat.gcd_assoc]
def defB (a b c : Int) : Bool := formB a b c && (decide (discI a b c < 0) && decide (0 < a))
def shownB (a b c : Int) : Bool := defB a b c && decide (-2000 ≤ discI a b c)
def classB (a b c : Int) : Bool := shownB a b c && (contI a b c == 1)
theorem def_form {a b c : Int} (h : defB a b c = true) : formB a b c = true := by unfold defB at h; simp at h; exact h.1
theorem shown_def {a b c : Int} (h : shownB a b c = true) : defB a b c = true := by unfold shownB at h; simp at h; exact h.1
theorem class_shown {a b c : Int} (h : classB a b c = true) : shownB a b c = true := by unfold classB at h; simp at h; exact h.1
theorem class_form {a b c : Int} (h : classB a b c = true) : formB a b c = true := def_form (shown_def (class_shown h))
set_option maxRecDepth 100000 in
set_option maxHeartbeats 400000 in
theorem nuGood_a (n : Int) (w : World) :
  Calls Tryz.prog 91 #[.int .i64 n] w fun e w' => e = .returned (.bool (numB n)) ∧ w = w' := by
 go_enter Tryz.func91, Tryz.ntmps91
 go_wp2_with (go_at_call 14; refine (l1In_any _ _ _ _).mono ?_; rintro e w' ⟨rfl, rfl⟩)
 go_returns
 exact ⟨rfl, rfl⟩

set_option maxRecDepth 100000 in
set_option maxHeartbeats 400000 in
theorem IsForm_a (a b c : Int) (w : World) (h0 : I64 a) (h1 : I64 b) (h2 : I64 c) :
  Calls Tryz.prog 22 #[.agg #[.int .i64 a, .int .i64 b, .int .i64 c]] w fun e w' => e = .returned (.bool (formB a b c)) ∧ Below w.heap.size w w' := by
 go_enter Tryz.func22, Tryz.ntmps22
 go_wp2_with (go_at_call 38; refine (areNumbers_any [a, b, c] _ _ _ (i64_list (by simp only [List.mem_cons, List.not_mem_nil, or_false, forall_eq_or_imp, forall_eq]; exact ⟨h0, h1, h2⟩)) (by simp) (cells_new _ _ _ _ _ rfl (by simp))).mono ?_; rintro e w1 ⟨rfl, rfl⟩)
 go_returns
 refine ⟨rfl, ?_⟩
 (repeat' (first | (with_reducible exact Below.refl _ _) | (with_reducible assumption) | (with_reducible refine gr_alloc ?_ _) | (with_reducible refine below_drewN ?_ _) | (with_reducible refine below_drew ?_) | (with_reducible refine gr_call ?_ (by assumption)) | (with_reducible refine Below.setCell ?_ ?_ _) | go_size | omega | (simp; omega)))

set_option maxRecDepth 100000 in
set_option maxHeartbeats 1000000 in
theorem foGood_a (a b c : Int) (w : World) :
  Calls Tryz.prog 80 #[.agg #[.int .i64 a, .int .i64 b, .int .i64 c]] w fun e w' => e = .returned (.bool (formB a b c)) ∧ Below w.heap.size w w' := by
 cases k0 : numB a
 ·go_enter Tryz.func80, Tryz.ntmps80
  go_wp2_with (go_at_call 91; refine (nuGood_a _ _).mono ?_; rintro e w' ⟨rfl, rfl⟩)
  go_returns
  refine ⟨ret_bool (by simp [form_num, k0] <;> (try (intros; omega))), ?_⟩
  (repeat' (first | (with_reducible exact Below.refl _ _) | (with_reducible assumption) | (with_reducible refine gr_alloc ?_ _) | (with_reducible refine below_drewN ?_ _) | (with_reducible refine below_drew ?_) | (with_reducible refine gr_call ?_ (by assumption)) | (with_reducible refine Below.setCell ?_ ?_ _) | go_size | omega | (simp; omega)))
 ·cases k1 : numB b
  ·go_enter Tryz.func80, Tryz.ntmps80
   go_wp2_with (go_at_call 91; refine (nuGood_a _ _).mono ?_; rintro e w' ⟨rfl, rfl⟩)
   go_returns
   refine ⟨ret_bool (by simp [form_num, k0, k1] <;> (try (intros; omega))), ?_⟩
   (repeat' (first | (with_reducible exact Below.refl _ _) | (with_reducible assumption) | (with_reducible refine gr_alloc ?_ _) | (with_reducible refine below_drewN ?_ _) | (with_reducible refine below_drew ?_) | (with_reducible refine gr_call ?_ (by assumption)) | (with_reducible refine Below.setCell ?_ ?_ _) | go_size | omega | (simp; omega)))
  ·cases k2 : numB c
   ·go_enter Tryz.func80, Tryz.ntmps80
    go_wp2_with (go_at_call 91; refine (nuGood_a _ _).mono ?_; rintro e w' ⟨rfl, rfl⟩)
    go_returns
    refine ⟨ret_bool (by simp [form_num, k0, k1, k2] <;> (try (intros; omega))), ?_⟩
    (repeat' (first | (with_reducible exact Below.refl _ _) | (with_reducible assumption) | (with_reducible refine gr_alloc ?_ _) | (with_reducible refine below_drewN ?_ _) | (with_reducible refine below_drew ?_) | (with_reducible refine gr_call ?_ (by assumption)) | (with_reducible refine Below.setCell ?_ ?_ _) | go_size | omega | (simp; omega)))
   ·go_enter Tryz.func80, Tryz.ntmps80
    go_wp2_with (go_at_call 91; refine (nuGood_a _ _).mono ?_; rintro e w' ⟨rfl, rfl⟩)
    go_returns
    refine ⟨ret_bool (by simp [form_num, k0, k1, k2] <;> (try (intros; omega))), ?_⟩
    (repeat' (first | (with_reducible exact Below.refl _ _) | (with_reducible assumption) | (with_reducible refine gr_alloc ?_ _) | (with_reducible refine below_drewN ?_ _) | (with_reducible refine below_drew ?_) | (with_reducible refine gr_call ?_ (by assumption)) | (with_reducible refine Below.setCell ?_ ?_ _) | go_size | omega | (simp; omega)))

set_option maxRecDepth 100000 in
set_option maxHeartbeats 400000 in
theorem disc_a (a b c : Int) (w : World) (h0 : formB a b c = true) :
  Calls Tryz.prog 57 #[.agg #[.int .i64 a, .int .i64 b, .int .i64 c]] w fun e w' => e = .returned (.int .i64 (discI a b c)) ∧ Below w.heap.size w w' := by
 obtain ⟨ha, hb, hc⟩ := form_true h0
 have m1 := num_mul hb hb
 have m2 := num_mul ha hc
 have m3 : 4 * a * c = 4 * (a * c) := Int.mul_assoc _ _ _
 have m4 : -4000000000000 ≤ 4 * a * c ∧ 4 * a * c ≤ 4000000000000 := by omega
 clear m2 m3
 clear h0
 go_enter Tryz.func57, Tryz.ntmps57
 go_wp2
 go_returns
 refine ⟨rfl, ?_⟩
 (repeat' (first | (with_reducible exact Below.refl _ _) | (with_reducible assumption) | (with_reducible refine gr_alloc ?_ _) | (with_reducible refine below_drewN ?_ _) | (with_reducible refine below_drew ?_) | (with_reducible refine gr_call ?_ (by assumption)) | (with_reducible refine Below.setCell ?_ ?_ _) | go_size | omega | (simp; omega)))

set_option maxRecDepth 100000 in
set_option maxHeartbeats 400000 in
theorem foDisc_a (a b c : Int) (w : World) (h0 : formB a b c = true) :
  Calls Tryz.prog 63 #[.agg #[.int .i64 a, .int .i64 b, .int .i64 c]] w fun e w' => e = .returned (.int .i64 (discI a b c)) ∧ Below w.heap.size w w' := by
 obtain ⟨ha, hb, hc⟩ := form_true h0
 have m1 := num_mul hb hb
 have m2 := num_mul ha hc
 have m3 : 4 * a * c = 4 * (a * c) := Int.mul_assoc _ _ _
 have m4 : -4000000000000 ≤ 4 * a * c ∧ 4 * a * c ≤ 4000000000000 := by omega
 clear m2 m3
 clear h0
 go_enter Tryz.func63, Tryz.ntmps63
 go_wp2
 go_returns
 refine ⟨rfl, ?_⟩
 (repeat' (first | (with_reducible exact Below.refl _ _) | (with_reducible assumption) | (with_reducible refine gr_alloc ?_ _) | (with_reducible refine below_drewN ?_ _) | (with_reducible refine below_drew ?_) | (with_reducible refine gr_call ?_ (by assumption)) | (with_reducible refine Below.setCell ?_ ?_ _) | go_size | omega | (simp; omega)))

set_option maxRecDepth 100000 in
set_option maxHeartbeats 1000000 in
theorem content_a (a b c : Int) (w : World) (h0 : formB a b c = true) :
  Calls Tryz.prog 41 #[.agg #[.int .i64 a, .int .i64 b, .int .i64 c]] w fun e w' => e = .returned (.int .i64 (contI a b c)) ∧ Below w.heap.size w w' := by
 obtain ⟨ha, hb, hc⟩ := form_true h0
 clear h0
 have g0 := gcd_le_bd (a := b) (b := c) (by omega) (by omega)
 go_enter Tryz.func41, Tryz.ntmps41
 go_wp2
 go_quiet ((go_at_call 58; exact Calls.quiet_of (gcd_a _ _ _ (by first | assumption | omega) (by first | assumption | omega))))
 go_wp2
 go_returns
 exact ⟨rfl, by (repeat' (first | (with_reducible exact Below.refl _ _) | (with_reducible assumption) | (with_reducible refine gr_alloc ?_ _) | (with_reducible refine below_drewN ?_ _) | (with_reducible refine below_drew ?_) | (with_reducible refine gr_call ?_ (by assumption)) | (with_reducible refine Below.setCell ?_ ?_ _) | go_size | omega | (simp; omega)))⟩

set_option maxRecDepth 100000 in
set_option maxHeartbeats 1000000 in
theorem foContent_a (a b c : Int) (w : World) (h0 : formB a b c = true) :
  Calls Tryz.prog 47 #[.agg #[.int .i64 a, .int .i64 b, .int .i64 c]] w fun e w' => e = .returned (.int .i64 (contI a b c)) ∧ Below w.heap.size w w' := by
 obtain ⟨ha, hb, hc⟩ := form_true h0
 clear h0
 have g0 := gcd_le_bd (a := a) (b := b) (by omega) (by omega)
 have HE := hide (cont_alt a b c)
 go_enter Tryz.func47, Tryz.ntmps47
 go_wp2
 go_quiet ((go_at_call 64; exact Calls.quiet_of (nuGcd_a _ _ _ (by first | assumption | omega) (by first | assumption | omega))))
 go_wp2
 go_returns
 exact ⟨ret_int (unhide HE), by (repeat' (first | (with_reducible exact Below.refl _ _) | (with_reducible assumption) | (with_reducible refine gr_alloc ?_ _) | (with_reducible refine below_drewN ?_ _) | (with_reducible refine below_drew ?_) | (with_reducible refine gr_call ?_ (by assumption)) | (with_reducible refine Below.setCell ?_ ?_ _) | go_size | omega | (simp; omega)))⟩

set_option maxRecDepth 100000 in
set_option maxHeartbeats 1000000 in
theorem isDefinite_a (a b c : Int) (w : World) (h0 : I64 a) (h1 : I64 b) (h2 : I64 c) :
  Calls Tryz.prog 56 #[.agg #[.int .i64 a, .int .i64 b, .int .i64 c]] w fun e w' => e = .returned (.bool (defB a b c)) ∧ Below w.heap.size w w' := by
 cases k0 : formB a b c
 ·go_enter Tryz.func56, Tryz.ntmps56
  go_wp2_with (first | (go_at_call 22; refine (IsForm_a _ _ _ _ (by assumption) (by assumption) (by assumption)).mono ?_; rintro e w1 ⟨rfl, hb⟩; obtain ⟨hc, hf⟩ := bcell hb; have hl := lt_keep hb; have hs := hb.size) | (go_at_call 57; refine (disc_a _ _ _ _ (by assumption)).mono ?_; rintro e w1 ⟨rfl, hb⟩; obtain ⟨hc, hf⟩ := bcell hb; have hl := lt_keep hb; have hs := hb.size))
  go_returns
  refine ⟨ret_bool (by simp [defB, k0] <;> (try (intros; omega))), ?_⟩
  (repeat' (first | (with_reducible exact Below.refl _ _) | (with_reducible assumption) | (with_reducible refine gr_alloc ?_ _) | (with_reducible refine below_drewN ?_ _) | (with_reducible refine below_drew ?_) | (with_reducible refine gr_call ?_ (by assumption)) | (with_reducible refine Below.setCell ?_ ?_ _) | go_size | omega | (simp; omega)))
 ·have bd := disc_bd k0
  by_cases k1 : discI a b c < 0
  ·by_cases k2 : 0 < a
   ·go_enter Tryz.func56, Tryz.ntmps56
    go_wp2_with (first | (go_at_call 22; refine (IsForm_a _ _ _ _ (by assumption) (by assumption) (by assumption)).mono ?_; rintro e w1 ⟨rfl, hb⟩; obtain ⟨hc, hf⟩ := bcell hb; have hl := lt_keep hb; have hs := hb.size) | (go_at_call 57; refine (disc_a _ _ _ _ (by assumption)).mono ?_; rintro e w1 ⟨rfl, hb⟩; obtain ⟨hc, hf⟩ := bcell hb; have hl := lt_keep hb; have hs := hb.size))
    go_returns
    refine ⟨ret_bool (by simp [defB, k0, k1, k2] <;> (try (intros; omega))), ?_⟩
    (repeat' (first | (with_reducible exact Below.refl _ _) | (with_reducible assumption) | (with_reducible refine gr_alloc ?_ _) | (with_reducible refine below_drewN ?_ _) | (with_reducible refine below_drew ?_) | (with_reducible refine gr_call ?_ (by assumption)) | (with_reducible refine Below.setCell ?_ ?_ _) | go_size | omega | (simp; omega)))
   ·go_enter Tryz.func56, Tryz.ntmps56
    go_wp2_with (first | (go_at_call 22; refine (IsForm_a _ _ _ _ (by assumption) (by assumption) (by assumption)).mono ?_; rintro e w1 ⟨rfl, hb⟩; obtain ⟨hc, hf⟩ := bcell hb; have hl := lt_keep hb; have hs := hb.size) | (go_at_call 57; refine (disc_a _ _ _ _ (by assumption)).mono ?_; rintro e w1 ⟨rfl, hb⟩; obtain ⟨hc, hf⟩ := bcell hb; have hl := lt_keep hb; have hs := hb.size))
    go_returns
    refine ⟨ret_bool (by simp [defB, k0, k1, k2] <;> (try (intros; omega))), ?_⟩
    (repeat' (first | (with_reducible exact Below.refl _ _) | (with_reducible assumption) | (with_reducible refine gr_alloc ?_ _) | (with_reducible refine below_drewN ?_ _) | (with_reducible refine below_drew ?_) | (with_reducible refine gr_call ?_ (by assumption)) | (with_reducible refine Below.setCell ?_ ?_ _) | go_size | omega | (simp; omega)))
  ·go_enter Tryz.func56, Tryz.ntmps56
   go_wp2_with (first | (go_at_call 22; refine (IsForm_a _ _ _ _ (by assumption) (by assumption) (by assumption)).mono ?_; rintro e w1 ⟨rfl, hb⟩; obtain ⟨hc, hf⟩ := bcell hb; have hl := lt_keep hb; have hs := hb.size) | (go_at_call 57; refine (disc_a _ _ _ _ (by assumption)).mono ?_; rintro e w1 ⟨rfl, hb⟩; obtain ⟨hc, hf⟩ := bcell hb; have hl := lt_keep hb; have hs := hb.size))
   go_returns
   refine ⟨ret_bool (by simp [defB, k0, k1] <;> (try (intros; omega))), ?_⟩
   (repeat' (first | (with_reducible exact Below.refl _ _) | (with_reducible assumption) | (with_reducible refine gr_alloc ?_ _) | (with_reducible refine below_drewN ?_ _) | (with_reducible refine below_drew ?_) | (with_reducible refine gr_call ?_ (by assumption)) | (with_reducible refine Below.setCell ?_ ?_ _) | go_size | omega | (simp; omega)))

set_option maxRecDepth 100000 in
set_option maxHeartbeats 1000000 in
theorem foDefinite_a (a b c : Int) (w : World) :
  Calls Tryz.prog 62 #[.agg #[.int .i64 a, .int .i64 b, .int .i64 c]] w fun e w' => e = .returned (.bool (defB a b c)) ∧ Below w.heap.size w w' := by
 cases k0 : formB a b c
 ·go_enter Tryz.func62, Tryz.ntmps62
  go_wp2_with (first | (go_at_call 80; refine (foGood_a _ _ _ _).mono ?_; rintro e w1 ⟨rfl, hb⟩; obtain ⟨hc, hf⟩ := bcell hb; have hl := lt_keep hb; have hs := hb.size) | (go_at_call 63; refine (foDisc_a _ _ _ _ (by assumption)).mono ?_; rintro e w1 ⟨rfl, hb⟩; obtain ⟨hc, hf⟩ := bcell hb; have hl := lt_keep hb; have hs := hb.size))
  go_returns
  refine ⟨ret_bool (by simp [defB, k0] <;> (try (intros; omega))), ?_⟩
  (repeat' (first | (with_reducible exact Below.refl _ _) | (with_reducible assumption) | (with_reducible refine gr_alloc ?_ _) | (with_reducible refine below_drewN ?_ _) | (with_reducible refine below_drew ?_) | (with_reducible refine gr_call ?_ (by assumption)) | (with_reducible refine Below.setCell ?_ ?_ _) | go_size | omega | (simp; omega)))
 ·have bd := disc_bd k0
  by_cases k1 : discI a b c < 0
  ·by_cases k2 : 0 < a
   ·go_enter Tryz.func62, Tryz.ntmps62
    go_wp2_with (first | (go_at_call 80; refine (foGood_a _ _ _ _).mono ?_; rintro e w1 ⟨rfl, hb⟩; obtain ⟨hc, hf⟩ := bcell hb; have hl := lt_keep hb; have hs := hb.size) | (go_at_call 63; refine (foDisc_a _ _ _ _ (by assumption)).mono ?_; rintro e w1 ⟨rfl, hb⟩; obtain ⟨hc, hf⟩ := bcell hb; have hl := lt_keep hb; have hs := hb.size))
    go_returns
    refine ⟨ret_bool (by simp [defB, k0, k1, k2] <;> (try (intros; omega))), ?_⟩
    (repeat' (first | (with_reducible exact Below.refl _ _) | (with_reducible assumption) | (with_reducible refine gr_alloc ?_ _) | (with_reducible refine below_drewN ?_ _) | (with_reducible refine below_drew ?_) | (with_reducible refine gr_call ?_ (by assumption)) | (with_reducible refine Below.setCell ?_ ?_ _) | go_size | omega | (simp; omega)))
   ·go_enter Tryz.func62, Tryz.ntmps62
    go_wp2_with (first | (go_at_call 80; refine (foGood_a _ _ _ _).mono ?_; rintro e w1 ⟨rfl, hb⟩; obtain ⟨hc, hf⟩ := bcell hb; have hl := lt_keep hb; have hs := hb.size) | (go_at_call 63; refine (foDisc_a _ _ _ _ (by assumption)).mono ?_; rintro e w1 ⟨rfl, hb⟩; obtain ⟨hc, hf⟩ := bcell hb; have hl := lt_keep hb; have hs := hb.size))
    go_returns
    refine ⟨ret_bool (by simp [defB, k0, k1, k2] <;> (try (intros; omega))), ?_⟩
    (repeat' (first | (with_reducible exact Below.refl _ _) | (with_reducible assumption) | (with_reducible refine gr_alloc ?_ _) | (with_reducible refine below_drewN ?_ _) | (with_reducible refine below_drew ?_) | (with_reducible refine gr_call ?_ (by assumption)) | (with_reducible refine Below.setCell ?_ ?_ _) | go_size | omega | (simp; omega)))
  ·go_enter Tryz.func62, Tryz.ntmps62
   go_wp2_with (first | (go_at_call 80; refine (foGood_a _ _ _ _).mono ?_; rintro e w1 ⟨rfl, hb⟩; obtain ⟨hc, hf⟩ := bcell hb; have hl := lt_keep hb; have hs := hb.size) | (go_at_call 63; refine (foDisc_a _ _ _ _ (by assumption)).mono ?_; rintro e w1 ⟨rfl, hb⟩; obtain ⟨hc, hf⟩ := bcell hb; have hl := lt_keep hb; have hs := hb.size))
   go_returns
   refine ⟨ret_bool (by simp [defB, k0, k1] <;> (try (intros; omega))), ?_⟩
   (repeat' (first | (with_reducible exact Below.refl _ _) | (with_reducible assumption) | (with_reducible refine gr_alloc ?_ _) | (with_reducible refine below_drewN ?_ _) | (with_reducible refine below_drew ?_) | (with_reducible refine gr_call ?_ (by assumption)) | (with_reducible refine Below.setCell ?_ ?_ _) | go_size | omega | (simp; omega)))

set_option maxRecDepth 100000 in
set_option maxHeartbeats 1000000 in
theorem isShownForm_a (a b c : Int) (w : World) (h0 : I64 a) (h1 : I64 b) (h2 : I64 c) :
  Calls Tryz.prog 40 #[.agg #[.int .i64 a, .int .i64 b, .int .i64 c]] w fun e w' => e = .returned (.bool (shownB a b c)) ∧ Below w.heap.size w w' := by
 cases k0 : defB a b c
 ·go_enter Tryz.func40, Tryz.ntmps40
  go_wp2_with (first | (go_at_call 56; refine (isDefinite_a _ _ _ _ (by first | assumption | omega) (by first | assumption | omega) (by first | assumption | omega)).mono ?_; rintro e w1 ⟨rfl, hb⟩; obtain ⟨hc, hf⟩ := bcell hb; have hl := lt_keep hb; have hs := hb.size) | (go_at_call 57; refine (disc_a _ _ _ _ (by first | assumption | omega)).mono ?_; rintro e w1 ⟨rfl, hb⟩; obtain ⟨hc, hf⟩ := bcell hb; have hl := lt_keep hb; have hs := hb.size))
  go_returns
  refine ⟨ret_bool (by simp [shownB, k0] <;> (try (intros; omega))), ?_⟩
  (repeat' (first | (with_reducible exact Below.refl _ _) | (with_reducible assumption) | (with_reducible refine gr_alloc ?_ _) | (with_reducible refine below_drewN ?_ _) | (with_reducible refine below_drew ?_) | (with_reducible refine gr_call ?_ (by assumption)) | (with_reducible refine Below.setCell ?_ ?_ _) | go_size | omega | (simp; omega)))
 ·have kf := def_form k0
  have bd := disc_bd kf
  by_cases k1 : -2000 ≤ discI a b c
  ·go_enter Tryz.func40, Tryz.ntmps40
   go_wp2_with (first | (go_at_call 56; refine (isDefinite_a _ _ _ _ (by first | assumption | omega) (by first | assumption | omega) (by first | assumption | omega)).mono ?_; rintro e w1 ⟨rfl, hb⟩; obtain ⟨hc, hf⟩ := bcell hb; have hl := lt_keep hb; have hs := hb.size) | (go_at_call 57; refine (disc_a _ _ _ _ (by first | assumption | omega)).mono ?_; rintro e w1 ⟨rfl, hb⟩; obtain ⟨hc, hf⟩ := bcell hb; have hl := lt_keep hb; have hs := hb.size))
   go_returns
   refine ⟨ret_bool (by simp [shownB, k0, k1] <;> (try (intros; omega))), ?_⟩
   (repeat' (first | (with_reducible exact Below.refl _ _) | (with_reducible assumption) | (with_reducible refine gr_alloc ?_ _) | (with_reducible refine below_drewN ?_ _) | (with_reducible refine below_drew ?_) | (with_reducible refine gr_call ?_ (by assumption)) | (with_reducible refine Below.setCell ?_ ?_ _) | go_size | omega | (simp; omega)))
  ·go_enter Tryz.func40, Tryz.ntmps40
   go_wp2_with (first | (go_at_call 56; refine (isDefinite_a _ _ _ _ (by first | assumption | omega) (by first | assumption | omega) (by first | assumption | omega)).mono ?_; rintro e w1 ⟨rfl, hb⟩; obtain ⟨hc, hf⟩ := bcell hb; have hl := lt_keep hb; have hs := hb.size) | (go_at_call 57; refine (disc_a _ _ _ _ (by first | assumption | omega)).mono ?_; rintro e w1 ⟨rfl, hb⟩; obtain ⟨hc, hf⟩ := bcell hb; have hl := lt_keep hb; have hs := hb.size))
   go_returns
   refine ⟨ret_bool (by simp [shownB, k0, k1] <;> (try (intros; omega))), ?_⟩
   (repeat' (first | (with_reducible exact Below.refl _ _) | (with_reducible assumption) | (with_reducible refine gr_alloc ?_ _) | (with_reducible refine below_drewN ?_ _) | (with_reducible refine below_drew ?_) | (with_reducible refine gr_call ?_ (by assumption)) | (with_reducible refine Below.setCell ?_ ?_ _) | go_size | omega | (simp; omega)))

set_option maxRecDepth 100000 in
set_option maxHeartbeats 1000000 in
theorem vaForm_a (a b c : Int) (w : World) :
  Calls Tryz.prog 46 #[.agg #[.int .i64 a, .int .i64 b, .int .i64 c]] w fun e w' => e = .returned (.bool (shownB a b c)) ∧ Below w.heap.size w w' := by
 cases k0 : defB a b c
 ·go_enter Tryz.func46, Tryz.ntmps46
  go_wp2_with (first | (go_at_call 62; refine (foDefinite_a _ _ _ _).mono ?_; rintro e w1 ⟨rfl, hb⟩; obtain ⟨hc, hf⟩ := bcell hb; have hl := lt_keep hb; have hs := hb.size) | (go_at_call 63; refine (foDisc_a _ _ _ _ (by first | assumption | omega)).mono ?_; rintro e w1 ⟨rfl, hb⟩; obtain ⟨hc, hf⟩ := bcell hb; have hl := lt_keep hb; have hs := hb.size))
  go_returns
  refine ⟨ret_bool (by simp [shownB, k0] <;> (try (intros; omega))), ?_⟩
  (repeat' (first | (with_reducible exact Below.refl _ _) | (with_reducible assumption) | (with_reducible refine gr_alloc ?_ _) | (with_reducible refine below_drewN ?_ _) | (with_reducible refine below_drew ?_) | (with_reducible refine gr_call ?_ (by assumption)) | (with_reducible refine Below.setCell ?_ ?_ _) | go_size | omega | (simp; omega)))
 ·have kf := def_form k0
  have bd := disc_bd kf
  by_cases k1 : -2000 ≤ discI a b c
  ·go_enter Tryz.func46, Tryz.ntmps46
   go_wp2_with (first | (go_at_call 62; refine (foDefinite_a _ _ _ _).mono ?_; rintro e w1 ⟨rfl, hb⟩; obtain ⟨hc, hf⟩ := bcell hb; have hl := lt_keep hb; have hs := hb.size) | (go_at_call 63; refine (foDisc_a _ _ _ _ (by first | assumption | omega)).mono ?_; rintro e w1 ⟨rfl, hb⟩; obtain ⟨hc, hf⟩ := bcell hb; have hl := lt_keep hb; have hs := hb.size))
   go_returns
   refine ⟨ret_bool (by simp [shownB, k0, k1] <;> (try (intros; omega))), ?_⟩
   (repeat' (first | (with_reducible exact Below.refl _ _) | (with_reducible assumption) | (with_reducible refine gr_alloc ?_ _) | (with_reducible refine below_drewN ?_ _) | (with_reducible refine below_drew ?_) | (with_reducible refine gr_call ?_ (by assumption)) | (with_reducible refine Below.setCell ?_ ?_ _) | go_size | omega | (simp; omega)))
  ·go_enter Tryz.func46, Tryz.ntmps46
   go_wp2_with (first | (go_at_call 62; refine (foDefinite_a _ _ _ _).mono ?_; rintro e w1 ⟨rfl, hb⟩; obtain ⟨hc, hf⟩ := bcell hb; have hl := lt_keep hb; have hs := hb.size) | (go_at_call 63; refine (foDisc_a _ _ _ _ (by first | assumption | omega)).mono ?_; rintro e w1 ⟨rfl, hb⟩; obtain ⟨hc, hf⟩ := bcell hb; have hl := lt_keep hb; have hs := hb.size))
   go_returns
   refine ⟨ret_bool (by simp [shownB, k0, k1] <;> (try (intros; omega))), ?_⟩
   (repeat' (first | (with_reducible exact Below.refl _ _) | (with_reducible assumption) | (with_reducible refine gr_alloc ?_ _) | (with_reducible refine below_drewN ?_ _) | (with_reducible refine below_drew ?_) | (with_reducible refine gr_call ?_ (by assumption)) | (with_reducible refine Below.setCell ?_ ?_ _) | go_size | omega | (simp; omega)))

set_option maxRecDepth 100000 in
set_option maxHeartbeats 1000000 in
theorem isClassForm_a (a b c : Int) (w : World) (h0 : I64 a) (h1 : I64 b) (h2 : I64 c) :
  Calls Tryz.prog 25 #[.agg #[.int .i64 a, .int .i64 b, .int .i64 c]] w fun e w' => e = .returned (.bool (classB a b c)) ∧ Below w.heap.size w w' := by
 cases k0 : shownB a b c
 ·go_enter Tryz.func25, Tryz.ntmps25
  go_wp2_with (first | (go_at_call 40; refine (isShownForm_a _ _ _ _ (by first | assumption | omega) (by first | assumption | omega) (by first | assumption | omega)).mono ?_; rintro e w1 ⟨rfl, hb⟩; obtain ⟨hc, hf⟩ := bcell hb; have hl := lt_keep hb; have hs := hb.size) | (go_at_call 41; refine (content_a _ _ _ _ (by first | assumption | omega)).mono ?_; rintro e w1 ⟨rfl, hb⟩; obtain ⟨hc, hf⟩ := bcell hb; have hl := lt_keep hb; have hs := hb.size))
  go_returns
  refine ⟨ret_bool (by simp [classB, k0] <;> (try (intros; omega))), ?_⟩
  (repeat' (first | (with_reducible exact Below.refl _ _) | (with_reducible assumption) | (with_reducible refine gr_alloc ?_ _) | (with_reducible refine below_drewN ?_ _) | (with_reducible refine below_drew ?_) | (with_reducible refine gr_call ?_ (by assumption)) | (with_reducible refine Below.setCell ?_ ?_ _) | go_size | omega | (simp; omega)))
 ·have kf := def_form (shown_def k0)
  by_cases k1 : contI a b c = 1
  ·go_enter Tryz.func25, Tryz.ntmps25
   go_wp2_with (first | (go_at_call 40; refine (isShownForm_a _ _ _ _ (by first | assumption | omega) (by first | assumption | omega) (by first | assumption | omega)).mono ?_; rintro e w1 ⟨rfl, hb⟩; obtain ⟨hc, hf⟩ := bcell hb; have hl := lt_keep hb; have hs := hb.size) | (go_at_call 41; refine (content_a _ _ _ _ (by first | assumption | omega)).mono ?_; rintro e w1 ⟨rfl, hb⟩; obtain ⟨hc, hf⟩ := bcell hb; have hl := lt_keep hb; have hs := hb.size))
   go_returns
   refine ⟨ret_bool (by simp [classB, k0, k1] <;> (try (intros; omega))), ?_⟩
   (repeat' (first | (with_reducible exact Below.refl _ _) | (with_reducible assumption) | (with_reducible refine gr_alloc ?_ _) | (with_reducible refine below_drewN ?_ _) | (with_reducible refine below_drew ?_) | (with_reducible refine gr_call ?_ (by assumption)) | (with_reducible refine Below.setCell ?_ ?_ _) | go_size | omega | (simp; omega)))
  ·go_enter Tryz.func25, Tryz.ntmps25
   go_wp2_with (first | (go_at_call 40; refine (isShownForm_a _ _ _ _ (by first | assumption | omega) (by first | assumption | omega) (by first | assumption | omega)).mono ?_; rintro e w1 ⟨rfl, hb⟩; obtain ⟨hc, hf⟩ := bcell hb; have hl := lt_keep hb; have hs := hb.size) | (go_at_call 41; refine (content_a _ _ _ _ (by first | assumption | omega)).mono ?_; rintro e w1 ⟨rfl, hb⟩; obtain ⟨hc, hf⟩ := bcell hb; have hl := lt_keep hb; have hs := hb.size))
   go_returns
   refine ⟨ret_bool (by simp [classB, k0, k1] <;> (try (intros; omega))), ?_⟩
   (repeat' (first | (with_reducible exact Below.refl _ _) | (with_reducible assumption) | (with_reducible refine gr_alloc ?_ _) | (with_reducible refine below_drewN ?_ _) | (with_reducible refine below_drew ?_) | (with_reducible refine gr_call ?_ (by assumption)) | (with_reducible refine Below.setCell ?_ ?_ _) | go_size | omega | (simp; omega)))

set_option maxRecDepth 100000 in
set_option maxHeartbeats 1000000 in
theorem coGood_a (a b c : Int) (w : World) :
  Calls Tryz.prog 30 #[.agg #[.int .i64 a, .int .i64 b, .int .i64 c]] w fun e w' => e = .returned (.bool (classB a b c)) ∧ Below w.heap.size w w' := by
 cases k0 : shownB a b c
 ·go_enter Tryz.func30, Tryz.ntmps30
  go_wp2_with (first | (go_at_call 46; refine (vaForm_a _ _ _ _).mono ?_; rintro e w1 ⟨rfl, hb⟩; obtain ⟨hc, hf⟩ := bcell hb; have hl := lt_keep hb; have hs := hb.size) | (go_at_call 47; refine (foContent_a _ _ _ _ (by first | assumption | omega)).mono ?_; rintro e w1 ⟨rfl, hb⟩; obtain ⟨hc, hf⟩ := bcell hb; have hl := lt_keep hb; have hs := hb.size))
  go_returns
  refine ⟨ret_bool (by simp [classB, k0] <;> (try (intros; omega))), ?_⟩
  (repeat' (first | (with_reducible exact Below.refl _ _) | (with_reducible assumption) | (with_reducible refine gr_alloc ?_ _) | (with_reducible refine below_drewN ?_ _) | (with_reducible refine below_drew ?_) | (with_reducible refine gr_call ?_ (by assumption)) | (with_reducible refine Below.setCell ?_ ?_ _) | go_size | omega | (simp; omega)))
 ·have kf := def_form (shown_def k0)
  by_cases k1 : contI a b c = 1
  ·go_enter Tryz.func30, Tryz.ntmps30
   go_wp2_with (first | (go_at_call 46; refine (vaForm_a _ _ _ _).mono ?_; rintro e w1 ⟨rfl, hb⟩; obtain ⟨hc, hf⟩ := bcell hb; have hl := lt_keep hb; have hs := hb.size) | (go_at_call 47; refine (foContent_a _ _ _ _ (by first | assumption | omega)).mono ?_; rintro e w1 ⟨rfl, hb⟩; obtain ⟨hc, hf⟩ := bcell hb; have hl := lt_keep hb; have hs := hb.size))
   go_returns
   refine ⟨ret_bool (by simp [classB, k0, k1] <;> (try (intros; omega))), ?_⟩
   (repeat' (first | (with_reducible exact Below.refl _ _) | (with_reducible assumption) | (with_reducible refine gr_alloc ?_ _) | (with_reducible refine below_drewN ?_ _) | (with_reducible refine below_drew ?_) | (with_reducible refine gr_call ?_ (by assumption)) | (with_reducible refine Below.setCell ?_ ?_ _) | go_size | omega | (simp; omega)))
  ·go_enter Tryz.func30, Tryz.ntmps30
   go_wp2_with (first | (go_at_call 46; refine (vaForm_a _ _ _ _).mono ?_; rintro e w1 ⟨rfl, hb⟩; obtain ⟨hc, hf⟩ := bcell hb; have hl := lt_keep hb; have hs := hb.size) | (go_at_call 47; refine (foContent_a _ _ _ _ (by first | assumption | omega)).mono ?_; rintro e w1 ⟨rfl, hb⟩; obtain ⟨hc, hf⟩ := bcell hb; have hl := lt_keep hb; have hs := hb.size))
   go_returns
   refine ⟨ret_bool (by simp [classB, k0, k1] <;> (try (intros; omega))), ?_⟩
   (repeat' (first | (with_reducible exact Below.refl _ _) | (with_reducible assumption) | (with_reducible refine gr_alloc ?_ _) | (with_reducible refine below_drewN ?_ _) | (with_reducible refine below_drew ?_) | (with_reducible refine gr_call ?_ (by assumption)) | (with_reducible refine Below.setCell ?_ ?_ _) | go_size | omega | (simp; omega)))

end Go.Proofs.YtfoofbcmaljmoaaGreatDoor
