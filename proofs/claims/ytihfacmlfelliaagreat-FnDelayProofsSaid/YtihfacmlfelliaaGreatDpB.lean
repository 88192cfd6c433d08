/- Rows of two and three forms; times. Delays: the plain values. -/
import Derived.Test.YtihfacmlfelliaaGreatRw
import Derived.Test.YtihfacmlfelliaaGreatCh
namespace Go.Proofs.YtihfacmlfelliaaGreat
open Go.RowKit
set_option linter.unusedVariables false
set_option linter.unusedSimpArgs false
attribute [local go_sem] q2 q3 q4 q5 q6 q7 q8 q9 q10 q11 q12

def tmB (t : Int) : Bool := inB t 0 200
def hvB (k : Int) : Bool := inB k 0 6
def thrT (F G M : T3) (i : Nat) : T3 := if i = 0 then F else if i = 1 then G else M
theorem pr_self (F : T3) : prB F F = clB F := by simp [prB]
def trB (F G M : T3) : Bool := prB F G && prB F M
theorem on_three (F G M : T3) : onB (thrT F G M) 3 = trB F G M := by
 simp only [onB, thrT, Bool.true_and]
 simp [pr_self, prB, trB]
 try (cases clB F <;> simp)
theorem tr_true {F G M : T3} (h : trB F G M = true) : Frm (dT F) F ∧ Frm (dT F) G ∧ Frm (dT F) M := by
 unfold trB at h; simp at h
 exact ⟨(pr_true h.1).1, (pr_true h.1).2, (pr_true h.2).2⟩
noncomputable def khX (D kx ky km k : Int) : Int := (3 * kx + 5 * ky + 7 * km + k - D) % 13
noncomputable def khI (D kx ky km k : Int) : Int := 2 + khX D kx ky km k
theorem khX_bd (D kx ky km k : Int) : 0 ≤ khX D kx ky km k ∧ khX D kx ky km k < 13 := ⟨Int.emod_nonneg _ (by omega), Int.emod_lt_of_pos _ (by omega)⟩
theorem three_fs {w : World} {g : Nat} {F G M : T3} (h : w.cell? ⟨g, 0, none⟩ = some (.int .i64 F.1) ∧ w.cell? ⟨g, 1, none⟩ = some (.int .i64 F.2.1) ∧ w.cell? ⟨g, 2, none⟩ = some (.int .i64 F.2.2) ∧ w.cell? ⟨g, 3, none⟩ = some (.int .i64 G.1) ∧ w.cell? ⟨g, 4, none⟩ = some (.int .i64 G.2.1) ∧ w.cell? ⟨g, 5, none⟩ = some (.int .i64 G.2.2) ∧ w.cell? ⟨g, 6, none⟩ = some (.int .i64 M.1) ∧ w.cell? ⟨g, 7, none⟩ = some (.int .i64 M.2.1) ∧ w.cell? ⟨g, 8, none⟩ = some (.int .i64 M.2.2)) : FsAt w g 3 (thrT F G M) := by
 obtain ⟨h0, h1, h2, h3, h4, h5, h6, h7, h8⟩ := h
 intro i hi
 rcases (show i = 0 ∨ i = 1 ∨ i = 2 by omega) with rfl | rfl | rfl
 ·exact ⟨h0, h1, h2⟩
 ·exact ⟨h3, h4, h5⟩
 ·exact ⟨h6, h7, h8⟩
theorem three_i64 {F G M : T3} (h1 : I64T F) (h2 : I64T G) (h3 : I64T M) : ∀ i, i < 3 → I64T (thrT F G M i) := fun i hi => by
 rcases (show i = 0 ∨ i = 1 ∨ i = 2 by omega) with rfl | rfl | rfl
 ·exact h1
 ·exact h2
 ·exact h3

set_option maxRecDepth 100000 in
set_option maxHeartbeats 1000000 in
theorem isTime_b (t : Int) (w : World) :
  Calls Tryz.prog 28 #[.int .i64 t] w fun e w' => e = .returned (.bool (tmB t)) ∧ w = w' := by
 by_cases k0 : 0 ≤ t
 ·by_cases k1 : t ≤ 200
  ·go_enter Tryz.func28, Tryz.ntmps28
   go_wp2
   go_returns
   exact ⟨ret_bool (by simp [tmB, inB, k0, k1] <;> (try (intros; omega))), rfl⟩
  ·go_enter Tryz.func28, Tryz.ntmps28
   go_wp2
   go_returns
   exact ⟨ret_bool (by simp [tmB, inB, k0, k1] <;> (try (intros; omega))), rfl⟩
 ·go_enter Tryz.func28, Tryz.ntmps28
  go_wp2
  go_returns
  exact ⟨ret_bool (by simp [tmB, inB, k0] <;> (try (intros; omega))), rfl⟩

set_option maxRecDepth 100000 in
set_option maxHeartbeats 1000000 in
theorem isHalvings_b (t : Int) (w : World) :
  Calls Tryz.prog 61 #[.int .i64 t] w fun e w' => e = .returned (.bool (hvB t)) ∧ w = w' := by
 by_cases k0 : 0 ≤ t
 ·by_cases k1 : t ≤ 6
  ·go_enter Tryz.func61, Tryz.ntmps61
   go_wp2
   go_returns
   exact ⟨ret_bool (by simp [hvB, inB, k0, k1] <;> (try (intros; omega))), rfl⟩
  ·go_enter Tryz.func61, Tryz.ntmps61
   go_wp2
   go_returns
   exact ⟨ret_bool (by simp [hvB, inB, k0, k1] <;> (try (intros; omega))), rfl⟩
 ·go_enter Tryz.func61, Tryz.ntmps61
  go_wp2
  go_returns
  exact ⟨ret_bool (by simp [hvB, inB, k0] <;> (try (intros; omega))), rfl⟩

set_option maxRecDepth 100000 in
set_option maxHeartbeats 400000 in
theorem dlTime_b (t : Int) (w : World) :
  Calls Tryz.prog 39 #[.int .i64 t] w fun e w' => e = .returned (.bool (tmB t)) ∧ w = w' := by
 go_enter Tryz.func39, Tryz.ntmps39
 go_wp2_with (go_at_call 79; refine (l1In_any _ _ _ _).mono ?_; rintro e w' ⟨rfl, rfl⟩)
 go_returns
 exact ⟨rfl, rfl⟩

set_option maxRecDepth 100000 in
set_option maxHeartbeats 400000 in
theorem dlHalving_b (t : Int) (w : World) :
  Calls Tryz.prog 63 #[.int .i64 t] w fun e w' => e = .returned (.bool (hvB t)) ∧ w = w' := by
 go_enter Tryz.func63, Tryz.ntmps63
 go_wp2_with (go_at_call 79; refine (l1In_any _ _ _ _).mono ?_; rintro e w' ⟨rfl, rfl⟩)
 go_returns
 exact ⟨rfl, rfl⟩

end Go.Proofs.YtihfacmlfelliaaGreat
namespace Go.Proofs.YtihfacmlfelliaaGreat
open Go.RowKit
set_option linter.unusedVariables false
set_option linter.unusedSimpArgs false
attribute [local go_sem] q2 q3 q4 q5 q6 q7 q8 q9 q10 q11 q12

def eqT (X Y : T3) : Bool := decide (X.1 = Y.1) && (decide (X.2.1 = Y.2.1) && decide (X.2.2 = Y.2.2))
theorem eqT_iff {X Y : T3} : eqT X Y = true ↔ X = Y := by
 obtain ⟨a, b, c⟩ := X
 obtain ⟨d, e, f⟩ := Y
 simp [eqT]
def srB (F : T3) (t : Int) : Bool := clB F && tmB t
noncomputable def srV (F : T3) (t : Int) : T3 := if srB F t then sqN (rdT F) t.toNat else (0, 0, 0)
noncomputable def dpL (F G : T3) (t : Int) : Int := chI (dT F) (keyT F) (keyT G) t
noncomputable def dpV (F : T3) (t : Int) : T3 := if srB F t then quD (dT F) F t (dpL F (srV F t) t) else (0, 0, 0)
def vdB (F G : T3) (t : Int) (P : T3) : Bool := trB F G P && tmB t
noncomputable def vdV (F G : T3) (t : Int) (P : T3) : Bool := if vdB F G t P then eqT (cmp (pwD (dT F) P (dpL F G t)) (pwD (dT F) F (pmI 2 t (dpL F G t)))) (rdT G) else false
theorem dpL_bd (F G : T3) (t : Int) : 2 ≤ dpL F G t ∧ dpL F G t ≤ 59 := chI_bd _ _ _ _
theorem isClass_p (F : T3) (w : World) (i : I64T F) : Calls Tryz.prog 54 #[frm F] w fun e w' => e = .returned (.bool (clB F)) ∧ Below w.heap.size w w' := isClassForm_a _ _ _ w i.1 i.2.1 i.2.2
theorem coGood_p (F : T3) (w : World) : Calls Tryz.prog 58 #[frm F] w fun e w' => e = .returned (.bool (clB F)) ∧ Below w.heap.size w w' := coGood_a _ _ _ w

def TupE (x : Value) (w : World) (v : Value) : Prop := ∃ r : Int, v = .tuple #[x, .int .i64 r]
theorem TupE.st {x : Value} : StB (TupE x) := fun _ _ _ _ h => h
theorem ch_rwi (F G : T3) (t : Int) (w : World) (h0 : Frm (dT F) F) (h1 : Frm (dT F) G) (h2 : 0 ≤ t) (h3 : t ≤ 1000000) :
  Calls Tryz.prog 32 #[frm F, frm G, .int .i64 t] w fun e w' => e = .returned (.int .i64 (dpL F G t)) ∧ Below w.heap.size w w' := challenge_D F G t w h0 h1 h2 h3
theorem ch_rws (F G : T3) (t : Int) (w : World) (h0 : Frm (dT F) F) (h1 : Frm (dT F) G) (h2 : 0 ≤ t) (h3 : t ≤ 1000000) :
  Calls Tryz.prog 45 #[frm F, frm G, .int .i64 t] w fun e w' => e = .returned (.int .i64 (dpL F G t)) ∧ Below w.heap.size w w' := dlChallenge_D F G t w h0 h1 h2 h3

end Go.Proofs.YtihfacmlfelliaaGreat
