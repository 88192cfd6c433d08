/- abs, mod, gcd on both sides. -/
import Derived.Test.YtfoofbcmaljmoaaGreatDoorWorld
namespace Go.Proofs.YtfoofbcmaljmoaaGreatDoor
open Go.RowKit
set_option linter.unusedVariables false
set_option linter.unusedSimpArgs false
theorem tmod_bd {a m : Int} (hm : m ≠ 0) : -m.natAbs < a.tmod m ∧ a.tmod m < m.natAbs := by
 have h2 : (a.tmod m).natAbs < m.natAbs := by rw [Int.natAbs_tmod]; exact Nat.mod_lt _ (by omega)
 omega
theorem gcd_step {a b : Int} : Int.gcd b (a.tmod b) = Int.gcd a b := by
 unfold Int.gcd
 rw [Int.natAbs_tmod, Nat.gcd_comm b.natAbs, ← Nat.gcd_rec, Nat.gcd_comm]
def igcd (a b : Int) : Int := (Int.gcd a b : Int)
theorem igcd_nonneg (a b : Int) : 0 ≤ igcd a b := by unfold igcd; omega
theorem gcd_le_bd {a b : Int} (ha : -4611686018427387904 ≤ a ∧ a ≤ 4611686018427387904) (hb : -4611686018427387904 ≤ b ∧ b ≤ 4611686018427387904) : 0 ≤ igcd a b ∧ igcd a b ≤ 4611686018427387904 := by
 refine ⟨igcd_nonneg a b, ?_⟩
 unfold igcd
 by_cases h : a = 0
 ·subst h; simp; omega
 ·have := Nat.le_of_dvd (by omega) (Int.gcd_dvd_natAbs_left a b); omega

set_option maxRecDepth 100000 in
set_option maxHeartbeats 400000 in
theorem abs_a (n : Int) (w : World) (h0 : -4611686018427387904 ≤ n ∧ n ≤ 4611686018427387904) :
  Calls Tryz.prog 77 #[.int .i64 n] w fun e w' => e = .returned (.int .i64 ((n.natAbs : Int))) ∧ w = w' := by
 go_enter Tryz.func77, Tryz.ntmps77
 go_wp2
 all_goals (go_ret; exact ⟨ret_int (by omega), rfl⟩)

set_option maxRecDepth 100000 in
set_option maxHeartbeats 400000 in
theorem l1Most_a (a b : Int) (w : World) :
  Calls Tryz.prog 92 #[.int .i64 a, .int .i64 b] w fun e w' => e = .returned (.int .i64 (max a b)) ∧ w = w' := by
 go_enter Tryz.func92, Tryz.ntmps92
 go_wp2
 all_goals (go_ret; exact ⟨ret_int (by omega), rfl⟩)

set_option maxRecDepth 100000 in
set_option maxHeartbeats 400000 in
theorem l1Abs_a (n : Int) (w : World) (h0 : -4611686018427387904 ≤ n ∧ n ≤ 4611686018427387904) :
  Calls Tryz.prog 81 #[.int .i64 n] w fun e w' => e = .returned (.int .i64 ((n.natAbs : Int))) ∧ w = w' := by
 go_enter Tryz.func81, Tryz.ntmps81
 go_wp2_with (go_at_call 92; refine (l1Most_a _ _ _).mono ?_; rintro e w' ⟨rfl, rfl⟩)
 go_ret
 exact ⟨ret_int (by omega), rfl⟩

set_option maxRecDepth 100000 in
set_option maxHeartbeats 1000000 in
theorem gcd_a (a b : Int) (w : World) (h0 : -4611686018427387904 ≤ a ∧ a ≤ 4611686018427387904) (h1 : -4611686018427387904 ≤ b ∧ b ≤ 4611686018427387904) :
  Calls Tryz.prog 58 #[.int .i64 a, .int .i64 b] w fun e w' => e = .returned (.int .i64 (igcd a b)) ∧ ∃ n, w' = w.drewN n := by
 go_enter Tryz.func58, Tryz.ntmps58
 go_wp2
 go_loopw [0, 1] (fun sx sy wr => ∃ (x y : Int) (k : Nat), (-4611686018427387904 ≤ x ∧ x ≤ 4611686018427387904) ∧ (-4611686018427387904 ≤ y ∧ y ≤ 4611686018427387904) ∧ Int.gcd x y = Int.gcd a b ∧ sx = .int .i64 x ∧ sy = .int .i64 y ∧ wr = w.drewN k) (fun _ sy _ => (intOf sy).natAbs)
 case atStart => exact ⟨a, b, 0, h0, h1, rfl, rfl, rfl, rfl⟩
 case round =>
  obtain ⟨x, y, k, hx, hy, hg, rfl, rfl, rfl⟩ := hrel
  by_cases c : y = 0
  ·subst c
   have hg2 : (x.natAbs : Int) = (Int.gcd a b : Int) := by rw [← hg]; simp [Int.gcd]
   have HG := hide hg2
   clear hg hg2
   go_wp2_with (go_at_call 77; refine (abs_a _ _ (by first | assumption | omega)).mono ?_; rintro e w' ⟨rfl, rfl⟩)
   go_ret
   exact ⟨ret_int (by have := unhide HG; unfold igcd; omega), k, rfl⟩
  ·obtain ⟨b1, b2⟩ := tmod_bd (a := x) (m := y) c
   have b3 : (x.tmod y).natAbs < y.natAbs := by omega
   have hs := (gcd_step (a := x) (b := y)).trans hg
   have HS := hide hs
   have HC := hide b3
   clear hs hg b3
   go_wp2
   go_quiet (fail)
   go_roundw
   case rel => first | exact ⟨y, x.tmod y, _, hy, by omega, unhide HS, rfl, rfl, World.drewN_drewN _ _ _⟩ | ((repeat apply Exists.intro); exact ⟨⟨y, x.tmod y, _, hy, by omega, unhide HS, rfl, rfl, World.drewN_drewN _ _ _⟩, rfl⟩)
   case measure => simp only [intOf]; exact unhide HC

set_option maxRecDepth 100000 in
set_option maxHeartbeats 1000000 in
theorem nuGcd_a (a b : Int) (w : World) (h0 : -4611686018427387904 ≤ a ∧ a ≤ 4611686018427387904) (h1 : -4611686018427387904 ≤ b ∧ b ≤ 4611686018427387904) :
  Calls Tryz.prog 64 #[.int .i64 a, .int .i64 b] w fun e w' => e = .returned (.int .i64 (igcd a b)) ∧ ∃ n, w' = w.drewN n := by
 go_enter Tryz.func64, Tryz.ntmps64
 go_wp2_with (go_at_call 81; refine (l1Abs_a _ _ (by first | assumption | omega)).mono ?_; rintro e w' ⟨rfl, rfl⟩)
 go_loopw [0, 1] (fun sx sy wr => ∃ (x y : Int) (k : Nat), (-4611686018427387904 ≤ x ∧ x ≤ 4611686018427387904) ∧ (-4611686018427387904 ≤ y ∧ y ≤ 4611686018427387904) ∧ Int.gcd x y = Int.gcd a b ∧ sx = .int .i64 x ∧ sy = .int .i64 y ∧ wr = w.drewN k ∧ 0 ≤ x ∧ 0 ≤ y) (fun _ sy _ => (intOf sy).natAbs)
 case atStart => exact ⟨(a.natAbs : Int), (b.natAbs : Int), 0, by omega, by omega, by simp [Int.gcd], rfl, rfl, rfl, by omega, by omega⟩
 case round =>
  obtain ⟨x, y, k, hx, hy, hg, rfl, rfl, rfl, px, py⟩ := hrel
  by_cases c : y = 0
  ·subst c
   have hg2 : (x.natAbs : Int) = (Int.gcd a b : Int) := by rw [← hg]; simp [Int.gcd]
   have HG := hide hg2
   clear hg hg2
   go_wp2
   go_ret
   exact ⟨ret_int (by have := unhide HG; unfold igcd; omega), k, rfl⟩
  ·obtain ⟨b1, b2⟩ := tmod_bd (a := x) (m := y) c
   rw [Int.tmod_eq_emod_of_nonneg px] at b1 b2
   have b3 : (x % y).natAbs < y.natAbs := by omega
   have hs := (gcd_step (a := x) (b := y)).trans hg
   rw [Int.tmod_eq_emod_of_nonneg px] at hs
   have HS := hide hs
   have HC := hide b3
   clear hs hg b3
   go_wp2
   go_quiet (fail)
   go_roundw
   case rel => first | exact ⟨y, x % y, _, hy, by omega, unhide HS, rfl, rfl, World.drewN_drewN _ _ _, py, Int.emod_nonneg _ c⟩ | ((repeat apply Exists.intro); exact ⟨⟨y, x % y, _, hy, by omega, unhide HS, rfl, rfl, World.drewN_drewN _ _ _, py, Int.emod_nonneg _ c⟩, rfl⟩)
   case measure => simp only [intOf]; exact unhide HC
end Go.Proofs.YtfoofbcmaljmoaaGreatDoor
