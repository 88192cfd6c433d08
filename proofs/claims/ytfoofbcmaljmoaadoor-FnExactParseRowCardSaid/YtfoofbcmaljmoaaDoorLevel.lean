/-
  Levels on both sides.
-/
import Derived.Test.YtfoofbcmaljmoaaDoorForm
import Derived.Deep.RegionWith
namespace Go.Proofs.YtfoofbcmaljmoaaDoor
open Go.RowKit
set_option linter.unusedVariables false
set_option linter.unusedSimpArgs false
attribute [local go_sem] q2 q3 q4 q5 q6 q7 q8 q9 q10 q11 q12

def negB (d : Int) : Bool := inB d (-2000) (-3) && decide (d % 4 ≤ 1)
theorem neg_true {d : Int} (h : negB d = true) : -2000 ≤ d ∧ d ≤ -3 := by
  unfold negB at h; simp at h; exact inB_true h.1
def levB (d n : Int) : Bool := inB n 1 30 && (igcd d n == 1)
theorem lev_true {d n : Int} (h : levB d n = true) : 1 ≤ n ∧ n ≤ 30 := by
  unfold levB at h; simp at h; exact inB_true h.1
def hasB (a b c n : Int) : Bool := classB a b c && levB (discI a b c) n
def lvB (a b c n : Int) : Bool := hasB a b c n && (a % n == 0)
def lvRootI (a b c n : Int) : Int := if lvB a b c n then b % (2 * n) else 0
theorem has_facts {a b c n : Int} (h : hasB a b c n = true) : classB a b c = true ∧ 1 ≤ n ∧ n ≤ 30 ∧ 0 < a ∧ a ≤ 1000000 ∧ -1000000 ≤ b ∧ b ≤ 1000000 ∧ 0 < c ∧ c ≤ 1000000 := by
  unfold hasB at h; simp at h
  have h1 := lev_true h.2
  obtain ⟨ha, hb, hc⟩ := form_true (class_form h.1)
  have hd := class_disc h.1
  have h2 := shown_def (class_shown h.1)
  unfold defB at h2; simp at h2
  refine ⟨h.1, h1.1, h1.2, h2.2.2, ha.2, hb.1, hb.2, ?_, hc.2⟩
  have hbb : 0 ≤ b * b := by
    by_cases q : 0 ≤ b
    · exact Int.mul_nonneg q q
    · exact Int.mul_nonneg_of_nonpos_of_nonpos (by omega) (by omega)
  have e : 4 * a * c = 4 * (a * c) := Int.mul_assoc _ _ _
  have hac : 0 < a * c := by unfold discI at hd; omega
  by_cases q : 0 < c
  · exact q
  · have := Int.mul_nonneg_of_nonpos_of_nonpos (a := -a) (b := c) (by omega) (by omega)
    rw [Int.neg_mul] at this; omega
theorem lv_has {a b c n : Int} (h : lvB a b c n = true) : hasB a b c n = true := by unfold lvB at h; simp at h; exact h.1

set_option maxRecDepth 100000 in
set_option maxHeartbeats 1000000 in
theorem isNegativeDisc_a (d : Int) (w : World) :
    Calls Tryd.prog 33 #[.int .i64 d] w fun e w' => e = .returned (.bool (negB d)) ∧ w = w' := by
  by_cases k0 : -2000 ≤ d
  · by_cases k1 : d ≤ -3
    · by_cases k2 : d % 4 ≤ 1
      · go_enter Tryd.func33, Tryd.ntmps33
        go_wp2_with (go_at_call 42; refine (mod_a _ _ _ (by first | assumption | omega) (by first | assumption | omega) (by first | assumption | omega)).mono ?_; rintro e w' ⟨rfl, rfl⟩)
        go_returns
        exact ⟨ret_bool (by simp [negB, inB, k0, k1, k2] <;> (try (intros; omega))), rfl⟩
      · go_enter Tryd.func33, Tryd.ntmps33
        go_wp2_with (go_at_call 42; refine (mod_a _ _ _ (by first | assumption | omega) (by first | assumption | omega) (by first | assumption | omega)).mono ?_; rintro e w' ⟨rfl, rfl⟩)
        go_returns
        exact ⟨ret_bool (by simp [negB, inB, k0, k1, k2] <;> (try (intros; omega))), rfl⟩
    · go_enter Tryd.func33, Tryd.ntmps33
      go_wp2_with (go_at_call 42; refine (mod_a _ _ _ (by first | assumption | omega) (by first | assumption | omega) (by first | assumption | omega)).mono ?_; rintro e w' ⟨rfl, rfl⟩)
      go_returns
      exact ⟨ret_bool (by simp [negB, inB, k0, k1] <;> (try (intros; omega))), rfl⟩
  · go_enter Tryd.func33, Tryd.ntmps33
    go_wp2_with (go_at_call 42; refine (mod_a _ _ _ (by first | assumption | omega) (by first | assumption | omega) (by first | assumption | omega)).mono ?_; rintro e w' ⟨rfl, rfl⟩)
    go_returns
    exact ⟨ret_bool (by simp [negB, inB, k0] <;> (try (intros; omega))), rfl⟩

set_option maxRecDepth 100000 in
set_option maxHeartbeats 1000000 in
theorem reDisc_a (d : Int) (w : World) :
    Calls Tryd.prog 24 #[.int .i64 d] w fun e w' => e = .returned (.bool (negB d)) ∧ w = w' := by
  cases k0 : inB d (-2000) (-3)
  · go_enter Tryd.func24, Tryd.ntmps24
    go_wp2_with (first | (go_at_call 22; refine (l1In_any _ _ _ _).mono ?_; rintro e w' ⟨rfl, rfl⟩) | (go_at_call 36; refine (nuMod_a _ _ _ (by first | assumption | omega) (by first | assumption | omega) (by first | assumption | omega)).mono ?_; rintro e w' ⟨rfl, rfl⟩))
    go_returns
    exact ⟨ret_bool (by simp [negB, k0] <;> (try (intros; omega))), rfl⟩
  · obtain ⟨e0, e1⟩ := inB_true k0
    by_cases k1 : d % 4 ≤ 1
    · go_enter Tryd.func24, Tryd.ntmps24
      go_wp2_with (first | (go_at_call 22; refine (l1In_any _ _ _ _).mono ?_; rintro e w' ⟨rfl, rfl⟩) | (go_at_call 36; refine (nuMod_a _ _ _ (by first | assumption | omega) (by first | assumption | omega) (by first | assumption | omega)).mono ?_; rintro e w' ⟨rfl, rfl⟩))
      go_returns
      exact ⟨ret_bool (by simp [negB, k0, k1] <;> (try (intros; omega))), rfl⟩
    · go_enter Tryd.func24, Tryd.ntmps24
      go_wp2_with (first | (go_at_call 22; refine (l1In_any _ _ _ _).mono ?_; rintro e w' ⟨rfl, rfl⟩) | (go_at_call 36; refine (nuMod_a _ _ _ (by first | assumption | omega) (by first | assumption | omega) (by first | assumption | omega)).mono ?_; rintro e w' ⟨rfl, rfl⟩))
      go_returns
      exact ⟨ret_bool (by simp [negB, k0, k1] <;> (try (intros; omega))), rfl⟩

def lmB (p q r s n : Int) : Bool := properB p q r s && inB n 1 30

end Go.Proofs.YtfoofbcmaljmoaaDoor
