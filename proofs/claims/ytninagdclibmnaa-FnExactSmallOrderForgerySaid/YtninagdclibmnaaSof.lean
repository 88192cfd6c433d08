/-
  Forgeries: names.
-/
import Derived.Test.YtninagdclibmnaaSo
import Derived.Test.YtninagdclibmnaaQu
import Derived.Test.YtninagdclibmnaaVdB
namespace Go.Proofs.Ytninagdclibmnaa
open Go.RowKit
set_option linter.unusedVariables false
set_option linter.unusedSimpArgs false
attribute [local go_sem] q2 q3 q4 q5 q6 q7 q8 q9 q10 q11 q12

theorem so_no {F W : T3} {t : Int} (h : soK F t W = false) : (.tuple #[frm (soX F t W), frm (soY F t W), .bool (soB F t W)] : Value) = .tuple #[.agg #[.int .i64 0, .int .i64 0, .int .i64 0], .agg #[.int .i64 0, .int .i64 0, .int .i64 0], .bool false] := by simp [soX, soY, soB, h]
theorem so_no2 {F W : T3} {t : Int} (h : igcd (soL F t W) (soN F W) ≠ 1) : (.tuple #[frm (soX F t W), frm (soY F t W), .bool (soB F t W)] : Value) = .tuple #[.agg #[.int .i64 0, .int .i64 0, .int .i64 0], .agg #[.int .i64 0, .int .i64 0, .int .i64 0], .bool false] := by
  have : soB F t W = false := by unfold soB; rw [Bool.and_eq_false_iff]; right; simpa using h
  simp [soX, soY, this]
theorem so_yes {F W : T3} {t : Int} (h : soK F t W = true) (h2 : igcd (soL F t W) (soN F W) = 1) : (.tuple #[frm (soX F t W), frm (soY F t W), .bool (soB F t W)] : Value) = .tuple #[frm (soG F t W), frm (soV F t W), .bool true] := by
  have : soB F t W = true := by unfold soB; rw [h, h2]; rfl
  simp [soX, soY, this]
theorem or_rwi {D : Int} (W : T3) (n : Int) (w : World) (h0 : Frm D W) (hn : n = (odN D W : Int)) :
    Calls Try.prog 83 #[frm W] w fun e w' => e = .returned (.int .i64 n) ∧ Below w.heap.size w w' := by
  subst hn; exact orderOf_D W w h0
theorem or_rws {D : Int} (W : T3) (n : Int) (w : World) (h0 : Frm D W) (hn : n = (odN D W : Int)) :
    Calls Try.prog 79 #[frm W] w fun e w' => e = .returned (.int .i64 n) ∧ Below w.heap.size w w' := by
  subst hn; exact coOrder_D W w h0
theorem iv_rwi (a m x : Int) (w : World) (h0 : -1000000000 ≤ a ∧ a ≤ 1000000000) (h1 : m ≤ 1000000000) (h2 : 1 ≤ m) (h3 : igcd a m = 1) (hx : x = invI a m) :
    Calls Try.prog 85 #[.int .i64 a, .int .i64 m] w fun e w' => e = .returned (.int .i64 x) ∧ w = w' := by
  subst hx; exact inverse_i a m w h0 h1 h2 (by unfold igcd at h3; rw [Int.gcd_comm]; omega)
theorem iv_rws (a m x : Int) (w : World) (h0 : -1000000000 ≤ a ∧ a ≤ 1000000000) (h1 : m ≤ 1000000000) (h2 : 1 ≤ m) (h3 : igcd a m = 1) (hx : x = invI a m) :
    Calls Try.prog 81 #[.int .i64 a, .int .i64 m] w fun e w' => e = .returned (.int .i64 x) ∧ w = w' := by
  subst hx; exact nuInverse_i a m w h0 h1 h2 (by unfold igcd at h3; rw [Int.gcd_comm]; omega)
/-- A slice of forms, all its cells. -/
def SlcF (n k : Nat) (f : Nat → Int) (w : World) (v : Value) : Prop := ∃ g : Nat, v = .slice (some ⟨g, 0, none⟩) n n ∧ ∀ j, j < k → w.cell? ⟨g, j, none⟩ = some (.int .i64 (f j))
theorem SlcF.st {n k : Nat} {f : Nat → Int} : StB (SlcF n k f) := fun W w' v hb ⟨g, h1, h2⟩ => ⟨g, h1, fun j hj => cell_call hb (h2 j hj)⟩
theorem two_slc {w : World} {g : Nat} {F G : T3} (h : ∀ j, j < 6 → w.cell? ⟨g, j, none⟩ = some (.int .i64 (([F.1, F.2.1, F.2.2, G.1, G.2.1, G.2.2] : List Int).getD j 0))) : FsAt w g 2 (twoT F G) :=
  two_fs ⟨h 0 (by omega), h 1 (by omega), h 2 (by omega), h 3 (by omega), h 4 (by omega), h 5 (by omega)⟩
theorem dlTwo (F W : T3) (g : Nat) (b : Bool) (w : World) (h : ∀ j, j < 6 → w.cell? ⟨g, j, none⟩ = some (.int .i64 (([F.1, F.2.1, F.2.2, W.1, W.2.1, W.2.2] : List Int).getD j 0))) (hb : prB F W = b) :
    Calls Try.prog 50 #[.slice (some ⟨g, 0, none⟩) 2 2] w fun e w' => e = .returned (.bool b) ∧ Below w.heap.size w w' := by
  subst hb
  rw [← on_two]
  exact dlAll_l (twoT F W) g 2 2 w (by omega) (two_slc h)
theorem dlTime_rw (t : Int) (b : Bool) (w : World) (hb : tmB t = b) : Calls Try.prog 51 #[.int .i64 t] w fun e w' => e = .returned (.bool b) ∧ w = w' := by
  subst hb; exact dlTime_b t w

end Go.Proofs.Ytninagdclibmnaa
