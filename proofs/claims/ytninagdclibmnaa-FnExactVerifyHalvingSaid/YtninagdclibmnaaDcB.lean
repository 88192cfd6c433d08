/-
  Rows of two and three forms; times.
-/
import Derived.Test.YtninagdclibmnaaRw
import Derived.Test.YtninagdclibmnaaCh
namespace Go.Proofs.Ytninagdclibmnaa
open Go.RowKit
set_option linter.unusedVariables false
set_option linter.unusedSimpArgs false
attribute [local go_sem] q2 q3 q4 q5 q6 q7 q8 q9 q10 q11 q12

def tmB (t : Int) : Bool := inB t 0 200
def hvB (k : Int) : Bool := inB k 0 6
def twoT (F G : T3) (i : Nat) : T3 := if i = 0 then F else G
def thrT (F G M : T3) (i : Nat) : T3 := if i = 0 then F else if i = 1 then G else M
theorem pr_self (F : T3) : prB F F = clB F := by simp [prB]
theorem on_two (F G : T3) : onB (twoT F G) 2 = prB F G := by
  simp only [onB, twoT, Bool.true_and]
  simp [pr_self, prB]
def trB (F G M : T3) : Bool := prB F G && prB F M
theorem on_three (F G M : T3) : onB (thrT F G M) 3 = trB F G M := by
  simp only [onB, thrT, Bool.true_and]
  simp [pr_self, prB, trB]
  try (cases clB F <;> simp)
theorem tr_true {F G M : T3} (h : trB F G M = true) : Frm (dT F) F ∧ Frm (dT F) G ∧ Frm (dT F) M := by
  unfold trB at h; simp at h
  exact ⟨(pr_true h.1).1, (pr_true h.1).2, (pr_true h.2).2⟩
noncomputable def khX (D kx ky km k : Int) : Int := (3 * kx + 5 * ky + 7 * km + k - D) % 13
noncomputable def khI (D kx ky km k : Int) : Int := 2 + khX D kx ky km k
theorem khX_bd (D kx ky km k : Int) : 0 ≤ khX D kx ky km k ∧ khX D kx ky km k < 13 := ⟨Int.emod_nonneg _ (by omega), Int.emod_lt_of_pos _ (by omega)⟩
def dcB (F G : T3) (t : Int) : Bool := prB F G && tmB t
noncomputable def dcV (F G : T3) (t : Int) : Int := if dcB F G t then chI (dT F) (keyT F) (keyT G) t else 0
def hcB (F G M : T3) (k : Int) : Bool := trB F G M && hvB k
noncomputable def hcV (F G M : T3) (k : Int) : Int := if hcB F G M k then khI (dT F) (keyT F) (keyT G) (keyT M) k else 0
theorem two_fs {w : World} {g : Nat} {F G : T3} (h : w.cell? ⟨g, 0, none⟩ = some (.int .i64 F.1) ∧ w.cell? ⟨g, 1, none⟩ = some (.int .i64 F.2.1) ∧ w.cell? ⟨g, 2, none⟩ = some (.int .i64 F.2.2) ∧ w.cell? ⟨g, 3, none⟩ = some (.int .i64 G.1) ∧ w.cell? ⟨g, 4, none⟩ = some (.int .i64 G.2.1) ∧ w.cell? ⟨g, 5, none⟩ = some (.int .i64 G.2.2)) : FsAt w g 2 (twoT F G) := by
  obtain ⟨h0, h1, h2, h3, h4, h5⟩ := h
  intro i hi
  rcases (show i = 0 ∨ i = 1 by omega) with rfl | rfl
  · exact ⟨h0, h1, h2⟩
  · exact ⟨h3, h4, h5⟩
theorem three_fs {w : World} {g : Nat} {F G M : T3} (h : w.cell? ⟨g, 0, none⟩ = some (.int .i64 F.1) ∧ w.cell? ⟨g, 1, none⟩ = some (.int .i64 F.2.1) ∧ w.cell? ⟨g, 2, none⟩ = some (.int .i64 F.2.2) ∧ w.cell? ⟨g, 3, none⟩ = some (.int .i64 G.1) ∧ w.cell? ⟨g, 4, none⟩ = some (.int .i64 G.2.1) ∧ w.cell? ⟨g, 5, none⟩ = some (.int .i64 G.2.2) ∧ w.cell? ⟨g, 6, none⟩ = some (.int .i64 M.1) ∧ w.cell? ⟨g, 7, none⟩ = some (.int .i64 M.2.1) ∧ w.cell? ⟨g, 8, none⟩ = some (.int .i64 M.2.2)) : FsAt w g 3 (thrT F G M) := by
  obtain ⟨h0, h1, h2, h3, h4, h5, h6, h7, h8⟩ := h
  intro i hi
  rcases (show i = 0 ∨ i = 1 ∨ i = 2 by omega) with rfl | rfl | rfl
  · exact ⟨h0, h1, h2⟩
  · exact ⟨h3, h4, h5⟩
  · exact ⟨h6, h7, h8⟩
theorem two_i64 {F G : T3} (h1 : I64T F) (h2 : I64T G) : ∀ i, i < 2 → I64T (twoT F G i) := fun i hi => by
  rcases (show i = 0 ∨ i = 1 by omega) with rfl | rfl
  · exact h1
  · exact h2
theorem three_i64 {F G M : T3} (h1 : I64T F) (h2 : I64T G) (h3 : I64T M) : ∀ i, i < 3 → I64T (thrT F G M i) := fun i hi => by
  rcases (show i = 0 ∨ i = 1 ∨ i = 2 by omega) with rfl | rfl | rfl
  · exact h1
  · exact h2
  · exact h3

set_option maxRecDepth 100000 in
set_option maxHeartbeats 1000000 in
theorem isTime_b (t : Int) (w : World) :
    Calls Try.prog 54 #[.int .i64 t] w fun e w' => e = .returned (.bool (tmB t)) ∧ w = w' := by
  by_cases k0 : 0 ≤ t
  · by_cases k1 : t ≤ 200
    · go_enter Try.func54, Try.ntmps54
      go_wp2
      go_returns
      exact ⟨ret_bool (by simp [tmB, inB, k0, k1] <;> (try (intros; omega))), rfl⟩
    · go_enter Try.func54, Try.ntmps54
      go_wp2
      go_returns
      exact ⟨ret_bool (by simp [tmB, inB, k0, k1] <;> (try (intros; omega))), rfl⟩
  · go_enter Try.func54, Try.ntmps54
    go_wp2
    go_returns
    exact ⟨ret_bool (by simp [tmB, inB, k0] <;> (try (intros; omega))), rfl⟩

set_option maxRecDepth 100000 in
set_option maxHeartbeats 1000000 in
theorem isHalvings_b (t : Int) (w : World) :
    Calls Try.prog 59 #[.int .i64 t] w fun e w' => e = .returned (.bool (hvB t)) ∧ w = w' := by
  by_cases k0 : 0 ≤ t
  · by_cases k1 : t ≤ 6
    · go_enter Try.func59, Try.ntmps59
      go_wp2
      go_returns
      exact ⟨ret_bool (by simp [hvB, inB, k0, k1] <;> (try (intros; omega))), rfl⟩
    · go_enter Try.func59, Try.ntmps59
      go_wp2
      go_returns
      exact ⟨ret_bool (by simp [hvB, inB, k0, k1] <;> (try (intros; omega))), rfl⟩
  · go_enter Try.func59, Try.ntmps59
    go_wp2
    go_returns
    exact ⟨ret_bool (by simp [hvB, inB, k0] <;> (try (intros; omega))), rfl⟩

set_option maxRecDepth 100000 in
set_option maxHeartbeats 400000 in
theorem dlTime_b (t : Int) (w : World) :
    Calls Try.prog 51 #[.int .i64 t] w fun e w' => e = .returned (.bool (tmB t)) ∧ w = w' := by
  go_enter Try.func51, Try.ntmps51
  go_wp2_with (go_at_call 106; refine (l1In_any _ _ _ _).mono ?_; rintro e w' ⟨rfl, rfl⟩)
  go_returns
  exact ⟨rfl, rfl⟩

set_option maxRecDepth 100000 in
set_option maxHeartbeats 400000 in
theorem dlHalving_b (t : Int) (w : World) :
    Calls Try.prog 56 #[.int .i64 t] w fun e w' => e = .returned (.bool (hvB t)) ∧ w = w' := by
  go_enter Try.func56, Try.ntmps56
  go_wp2_with (go_at_call 106; refine (l1In_any _ _ _ _).mono ?_; rintro e w' ⟨rfl, rfl⟩)
  go_returns
  exact ⟨rfl, rfl⟩

end Go.Proofs.Ytninagdclibmnaa
