/- Forms, matrices and their validity on both sides. Which forms are reduced, on both sides. Levels on both sides. -/
import Derived.Test.YtaeabefbohlcpaaNum
import Derived.Deep.QuietTactic
import Derived.BigQuiet
import Derived.Deep.RegionWith
namespace Go.Proofs.Ytaeabefbohlcpaa
open Go.RowKit
set_option linter.unusedVariables false
set_option linter.unusedSimpArgs false
attribute [local go_sem] q2 q3 q4 q5 q6 q7 q8 q9 q10 q11 q12

def numB (n : Int) : Bool := inB n (-1000000) 1000000
def formB (a b c : Int) : Bool := allB [a, b, c] (-1000000) 1000000
theorem form_true {a b c : Int} (h : formB a b c = true) : (-1000000 ≤ a ∧ a ≤ 1000000) ∧ (-1000000 ≤ b ∧ b ≤ 1000000) ∧ (-1000000 ≤ c ∧ c ≤ 1000000) := by
 have := allB_mem h
 simpa only [List.mem_cons, List.not_mem_nil, or_false, forall_eq_or_imp, forall_eq] using this
theorem mul_bd {a b A B : Int} (hA : 0 ≤ A) (ha : -A ≤ a ∧ a ≤ A) (hb : -B ≤ b ∧ b ≤ B) : -(A * B) ≤ a * b ∧ a * b ≤ A * B := by
 have h1 : a.natAbs ≤ A.natAbs := by omega
 have h2 : b.natAbs ≤ B.natAbs := by omega
 have h3 := Nat.mul_le_mul h1 h2
 rw [← Int.natAbs_mul, ← Int.natAbs_mul] at h3
 have h4 : 0 ≤ A * B := Int.mul_nonneg hA (by omega)
 omega
theorem num_mul {a b : Int} (ha : -1000000 ≤ a ∧ a ≤ 1000000) (hb : -1000000 ≤ b ∧ b ≤ 1000000) : -1000000000000 ≤ a * b ∧ a * b ≤ 1000000000000 := by
 have := mul_bd (by omega) ha hb; omega
def discI (a b c : Int) : Int := b * b - 4 * a * c
theorem form_num (a b c : Int) : formB a b c = (numB a && (numB b && numB c)) := by simp [formB, allB, numB]
def contI (a b c : Int) : Int := igcd a (igcd b c)
theorem cont_alt (a b c : Int) : igcd (igcd a b) c = contI a b c := by
 unfold contI igcd Int.gcd
 simp only [Int.natAbs_natCast]
 rw [Nat.gcd_assoc]
def defB (a b c : Int) : Bool := formB a b c && (decide (discI a b c < 0) && decide (0 < a))
def shownB (a b c : Int) : Bool := defB a b c && decide (-2000 ≤ discI a b c)
def classB (a b c : Int) : Bool := shownB a b c && (contI a b c == 1)
theorem def_form {a b c : Int} (h : defB a b c = true) : formB a b c = true := by unfold defB at h; simp at h; exact h.1
theorem shown_def {a b c : Int} (h : shownB a b c = true) : defB a b c = true := by unfold shownB at h; simp at h; exact h.1
theorem class_shown {a b c : Int} (h : classB a b c = true) : shownB a b c = true := by unfold classB at h; simp at h; exact h.1
theorem class_form {a b c : Int} (h : classB a b c = true) : formB a b c = true := def_form (shown_def (class_shown h))
theorem class_disc {a b c : Int} (h : classB a b c = true) : -2000 ≤ discI a b c ∧ discI a b c < 0 := by
 have h1 := class_shown h
 have h2 := shown_def h1
 unfold shownB at h1; unfold defB at h2; simp at h1 h2; omega

set_option maxRecDepth 100000 in
set_option maxHeartbeats 400000 in
theorem disc_a (a b c : Int) (w : World) (h0 : formB a b c = true) :
  Calls Try.prog 57 #[.agg #[.int .i64 a, .int .i64 b, .int .i64 c]] w fun e w' => e = .returned (.int .i64 (discI a b c)) ∧ Below w.heap.size w w' := by
 obtain ⟨ha, hb, hc⟩ := form_true h0
 have m1 := num_mul hb hb
 have m2 := num_mul ha hc
 have m3 : 4 * a * c = 4 * (a * c) := Int.mul_assoc _ _ _
 have m4 : -4000000000000 ≤ 4 * a * c ∧ 4 * a * c ≤ 4000000000000 := by omega
 clear m2 m3
 clear h0
 go_enter Try.func57, Try.ntmps57
 go_wp2
 go_returns
 refine ⟨rfl, ?_⟩
 (repeat' (first | (with_reducible exact Below.refl _ _) | (with_reducible assumption) | (with_reducible refine gr_alloc ?_ _) | (with_reducible refine below_drewN ?_ _) | (with_reducible refine below_drew ?_) | (with_reducible refine gr_call ?_ (by assumption)) | (with_reducible refine Below.setCell ?_ ?_ _) | go_size | omega | (simp; omega)))

set_option maxRecDepth 100000 in
set_option maxHeartbeats 400000 in
theorem foDisc_a (a b c : Int) (w : World) (h0 : formB a b c = true) :
  Calls Try.prog 50 #[.agg #[.int .i64 a, .int .i64 b, .int .i64 c]] w fun e w' => e = .returned (.int .i64 (discI a b c)) ∧ Below w.heap.size w w' := by
 obtain ⟨ha, hb, hc⟩ := form_true h0
 have m1 := num_mul hb hb
 have m2 := num_mul ha hc
 have m3 : 4 * a * c = 4 * (a * c) := Int.mul_assoc _ _ _
 have m4 : -4000000000000 ≤ 4 * a * c ∧ 4 * a * c ≤ 4000000000000 := by omega
 clear m2 m3
 clear h0
 go_enter Try.func50, Try.ntmps50
 go_wp2
 go_returns
 refine ⟨rfl, ?_⟩
 (repeat' (first | (with_reducible exact Below.refl _ _) | (with_reducible assumption) | (with_reducible refine gr_alloc ?_ _) | (with_reducible refine below_drewN ?_ _) | (with_reducible refine below_drew ?_) | (with_reducible refine gr_call ?_ (by assumption)) | (with_reducible refine Below.setCell ?_ ?_ _) | go_size | omega | (simp; omega)))

set_option maxRecDepth 100000 in
set_option maxHeartbeats 1000000 in
theorem content_a (a b c : Int) (w : World) (h0 : formB a b c = true) :
  Calls Try.prog 61 #[.agg #[.int .i64 a, .int .i64 b, .int .i64 c]] w fun e w' => e = .returned (.int .i64 (contI a b c)) ∧ Below w.heap.size w w' := by
 obtain ⟨ha, hb, hc⟩ := form_true h0
 clear h0
 have g0 := gcd_le_bd (a := b) (b := c) (by omega) (by omega)
 go_enter Try.func61, Try.ntmps61
 go_wp2
 go_quiet ((go_at_call 77; exact Calls.quiet_of (gcd_a _ _ _ (by first | assumption | omega) (by first | assumption | omega))))
 go_wp2
 go_returns
 exact ⟨rfl, by (repeat' (first | (with_reducible exact Below.refl _ _) | (with_reducible assumption) | (with_reducible refine gr_alloc ?_ _) | (with_reducible refine below_drewN ?_ _) | (with_reducible refine below_drew ?_) | (with_reducible refine gr_call ?_ (by assumption)) | (with_reducible refine Below.setCell ?_ ?_ _) | go_size | omega | (simp; omega)))⟩

set_option maxRecDepth 100000 in
set_option maxHeartbeats 1000000 in
theorem foContent_a (a b c : Int) (w : World) (h0 : formB a b c = true) :
  Calls Try.prog 35 #[.agg #[.int .i64 a, .int .i64 b, .int .i64 c]] w fun e w' => e = .returned (.int .i64 (contI a b c)) ∧ Below w.heap.size w w' := by
 obtain ⟨ha, hb, hc⟩ := form_true h0
 clear h0
 have g0 := gcd_le_bd (a := a) (b := b) (by omega) (by omega)
 have HE := hide (cont_alt a b c)
 go_enter Try.func35, Try.ntmps35
 go_wp2
 go_quiet ((go_at_call 54; exact Calls.quiet_of (nuGcd_a _ _ _ (by first | assumption | omega) (by first | assumption | omega))))
 go_wp2
 go_returns
 exact ⟨ret_int (unhide HE), by (repeat' (first | (with_reducible exact Below.refl _ _) | (with_reducible assumption) | (with_reducible refine gr_alloc ?_ _) | (with_reducible refine below_drewN ?_ _) | (with_reducible refine below_drew ?_) | (with_reducible refine gr_call ?_ (by assumption)) | (with_reducible refine Below.setCell ?_ ?_ _) | go_size | omega | (simp; omega)))⟩

end Go.Proofs.Ytaeabefbohlcpaa
namespace Go.Proofs.Ytaeabefbohlcpaa
open Go.RowKit
set_option linter.unusedVariables false
set_option linter.unusedSimpArgs false
attribute [local go_sem] q2 q3 q4 q5 q6 q7 q8 q9 q10 q11 q12

def normB (a b : Int) : Bool := decide (-a < b) && decide (b ≤ a)
def redB (a b c : Int) : Bool := normB a b && (decide (a < c) || (decide (a = c) && decide (0 ≤ b)))
set_option maxRecDepth 100000 in
set_option maxHeartbeats 1000000 in
theorem isNormal_x (a b c : Int) (w : World) (h0 : -1000000000000000000 ≤ a ∧ a ≤ 1000000000000000000) :
  Calls Try.prog 80 #[.agg #[.int .i64 a, .int .i64 b, .int .i64 c]] w fun e w' => e = .returned (.bool (normB a b)) ∧ w' = w.alloc (.cells #[.int .i64 a, .int .i64 b, .int .i64 c] 46) := by
 by_cases k0 : -a < b
 ·by_cases k1 : b ≤ a
  ·go_enter Try.func80, Try.ntmps80
   go_wp2
   go_returns
   refine ⟨ret_bool (by simp [normB, k0, k1] <;> (try (intros; omega))), ?_⟩
   rfl
  ·go_enter Try.func80, Try.ntmps80
   go_wp2
   go_returns
   refine ⟨ret_bool (by simp [normB, k0, k1] <;> (try (intros; omega))), ?_⟩
   rfl
 ·go_enter Try.func80, Try.ntmps80
  go_wp2
  go_returns
  refine ⟨ret_bool (by simp [normB, k0] <;> (try (intros; omega))), ?_⟩
  rfl

set_option maxRecDepth 100000 in
set_option maxHeartbeats 2000000 in
theorem isReduced_x (a b c : Int) (w : World) (h0 : -1000000000000000000 ≤ a ∧ a ≤ 1000000000000000000) :
  Calls Try.prog 62 #[.agg #[.int .i64 a, .int .i64 b, .int .i64 c]] w fun e w' => e = .returned (.bool (redB a b c)) ∧ w' = (w.alloc (.cells #[.int .i64 a, .int .i64 b, .int .i64 c] 46)).alloc (.cells #[.int .i64 a, .int .i64 b, .int .i64 c] 46) := by
 cases k0 : normB a b
 ·go_enter Try.func62, Try.ntmps62
  go_wp2_with (go_at_call 80; refine (isNormal_x _ _ _ _ (by first | assumption | omega)).mono ?_; rintro e w' ⟨rfl, rfl⟩)
  go_returns
  refine ⟨ret_bool (by simp [redB, k0] <;> (try (intros; omega))), ?_⟩
  rfl
 ·by_cases k1 : a < c
  ·go_enter Try.func62, Try.ntmps62
   go_wp2_with (go_at_call 80; refine (isNormal_x _ _ _ _ (by first | assumption | omega)).mono ?_; rintro e w' ⟨rfl, rfl⟩)
   go_returns
   refine ⟨ret_bool (by simp [redB, k0, k1] <;> (try (intros; omega))), ?_⟩
   rfl
  ·by_cases k2 : a = c
   ·subst k2
    by_cases k3 : 0 ≤ b
    ·go_enter Try.func62, Try.ntmps62
     go_wp2_with (go_at_call 80; refine (isNormal_x _ _ _ _ (by first | assumption | omega)).mono ?_; rintro e w' ⟨rfl, rfl⟩)
     go_returns
     refine ⟨ret_bool (by simp [redB, k0, k3] <;> (try (intros; omega))), ?_⟩
     rfl
    ·go_enter Try.func62, Try.ntmps62
     go_wp2_with (go_at_call 80; refine (isNormal_x _ _ _ _ (by first | assumption | omega)).mono ?_; rintro e w' ⟨rfl, rfl⟩)
     go_returns
     refine ⟨ret_bool (by simp [redB, k0, k3] <;> (try (intros; omega))), ?_⟩
     rfl
   ·go_enter Try.func62, Try.ntmps62
    go_wp2_with (go_at_call 80; refine (isNormal_x _ _ _ _ (by first | assumption | omega)).mono ?_; rintro e w' ⟨rfl, rfl⟩)
    go_returns
    refine ⟨ret_bool (by simp [redB, k0, k1, k2] <;> (try (intros; omega))), ?_⟩
    rfl

set_option maxRecDepth 100000 in
set_option maxHeartbeats 2000000 in
theorem reIs_x (a b c : Int) (w : World) (h0 : -1000000000000000000 ≤ a ∧ a ≤ 1000000000000000000) :
  Calls Try.prog 53 #[.agg #[.int .i64 a, .int .i64 b, .int .i64 c]] w fun e w' => e = .returned (.bool (redB a b c)) ∧ w' = w.alloc (.cells #[.int .i64 a, .int .i64 b, .int .i64 c] 46) := by
 by_cases n0 : -a < b
 ·by_cases n1 : b ≤ a
  ·by_cases k1 : a < c
   ·go_enter Try.func53, Try.ntmps53
    go_wp2
    go_returns
    refine ⟨ret_bool (by simp [redB, normB, n0, n1, k1] <;> (try (intros; omega))), ?_⟩
    rfl
   ·by_cases k2 : a = c
    ·subst k2
     by_cases k3 : 0 ≤ b
     ·go_enter Try.func53, Try.ntmps53
      go_wp2
      go_returns
      refine ⟨ret_bool (by simp [redB, normB, n0, n1, k3] <;> (try (intros; omega))), ?_⟩
      rfl
     ·go_enter Try.func53, Try.ntmps53
      go_wp2
      go_returns
      refine ⟨ret_bool (by simp [redB, normB, n0, n1, k3] <;> (try (intros; omega))), ?_⟩
      rfl
    ·go_enter Try.func53, Try.ntmps53
     go_wp2
     go_returns
     refine ⟨ret_bool (by simp [redB, normB, n0, n1, k1, k2] <;> (try (intros; omega))), ?_⟩
     rfl
  ·go_enter Try.func53, Try.ntmps53
   go_wp2
   go_returns
   refine ⟨ret_bool (by simp [redB, normB, n0, n1] <;> (try (intros; omega))), ?_⟩
   rfl
 ·go_enter Try.func53, Try.ntmps53
  go_wp2
  go_returns
  refine ⟨ret_bool (by simp [redB, normB, n0] <;> (try (intros; omega))), ?_⟩
  rfl

end Go.Proofs.Ytaeabefbohlcpaa
namespace Go.Proofs.Ytaeabefbohlcpaa
open Go.RowKit
set_option linter.unusedVariables false
set_option linter.unusedSimpArgs false
attribute [local go_sem] q2 q3 q4 q5 q6 q7 q8 q9 q10 q11 q12

def negB (d : Int) : Bool := inB d (-2000) (-3) && decide (d % 4 ≤ 1)
theorem neg_true {d : Int} (h : negB d = true) : -2000 ≤ d ∧ d ≤ -3 := by
 unfold negB at h; simp at h; exact inB_true h.1
set_option maxRecDepth 100000 in
set_option maxHeartbeats 1000000 in
theorem isNegativeDisc_a (d : Int) (w : World) :
  Calls Try.prog 55 #[.int .i64 d] w fun e w' => e = .returned (.bool (negB d)) ∧ w = w' := by
 by_cases k0 : -2000 ≤ d
 ·by_cases k1 : d ≤ -3
  ·by_cases k2 : d % 4 ≤ 1
   ·go_enter Try.func55, Try.ntmps55
    go_wp2_with (go_at_call 75; refine (mod_a _ _ _ (by first | assumption | omega) (by first | assumption | omega) (by first | assumption | omega)).mono ?_; rintro e w' ⟨rfl, rfl⟩)
    go_returns
    exact ⟨ret_bool (by simp [negB, inB, k0, k1, k2] <;> (try (intros; omega))), rfl⟩
   ·go_enter Try.func55, Try.ntmps55
    go_wp2_with (go_at_call 75; refine (mod_a _ _ _ (by first | assumption | omega) (by first | assumption | omega) (by first | assumption | omega)).mono ?_; rintro e w' ⟨rfl, rfl⟩)
    go_returns
    exact ⟨ret_bool (by simp [negB, inB, k0, k1, k2] <;> (try (intros; omega))), rfl⟩
  ·go_enter Try.func55, Try.ntmps55
   go_wp2_with (go_at_call 75; refine (mod_a _ _ _ (by first | assumption | omega) (by first | assumption | omega) (by first | assumption | omega)).mono ?_; rintro e w' ⟨rfl, rfl⟩)
   go_returns
   exact ⟨ret_bool (by simp [negB, inB, k0, k1] <;> (try (intros; omega))), rfl⟩
 ·go_enter Try.func55, Try.ntmps55
  go_wp2_with (go_at_call 75; refine (mod_a _ _ _ (by first | assumption | omega) (by first | assumption | omega) (by first | assumption | omega)).mono ?_; rintro e w' ⟨rfl, rfl⟩)
  go_returns
  exact ⟨ret_bool (by simp [negB, inB, k0] <;> (try (intros; omega))), rfl⟩

set_option maxRecDepth 100000 in
set_option maxHeartbeats 1000000 in
theorem reDisc_a (d : Int) (w : World) :
  Calls Try.prog 32 #[.int .i64 d] w fun e w' => e = .returned (.bool (negB d)) ∧ w = w' := by
 cases k0 : inB d (-2000) (-3)
 ·go_enter Try.func32, Try.ntmps32
  go_wp2_with (first | (go_at_call 31; refine (l1In_any _ _ _ _).mono ?_; rintro e w' ⟨rfl, rfl⟩) | (go_at_call 48; refine (nuMod_a _ _ _ (by first | assumption | omega) (by first | assumption | omega) (by first | assumption | omega)).mono ?_; rintro e w' ⟨rfl, rfl⟩))
  go_returns
  exact ⟨ret_bool (by simp [negB, k0] <;> (try (intros; omega))), rfl⟩
 ·obtain ⟨e0, e1⟩ := inB_true k0
  by_cases k1 : d % 4 ≤ 1
  ·go_enter Try.func32, Try.ntmps32
   go_wp2_with (first | (go_at_call 31; refine (l1In_any _ _ _ _).mono ?_; rintro e w' ⟨rfl, rfl⟩) | (go_at_call 48; refine (nuMod_a _ _ _ (by first | assumption | omega) (by first | assumption | omega) (by first | assumption | omega)).mono ?_; rintro e w' ⟨rfl, rfl⟩))
   go_returns
   exact ⟨ret_bool (by simp [negB, k0, k1] <;> (try (intros; omega))), rfl⟩
  ·go_enter Try.func32, Try.ntmps32
   go_wp2_with (first | (go_at_call 31; refine (l1In_any _ _ _ _).mono ?_; rintro e w' ⟨rfl, rfl⟩) | (go_at_call 48; refine (nuMod_a _ _ _ (by first | assumption | omega) (by first | assumption | omega) (by first | assumption | omega)).mono ?_; rintro e w' ⟨rfl, rfl⟩))
   go_returns
   exact ⟨ret_bool (by simp [negB, k0, k1] <;> (try (intros; omega))), rfl⟩

end Go.Proofs.Ytaeabefbohlcpaa
