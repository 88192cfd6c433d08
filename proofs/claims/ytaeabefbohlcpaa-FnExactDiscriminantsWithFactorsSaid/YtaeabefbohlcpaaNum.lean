/- impl.abs, and the tests that all integers of a slice lie in a range. Worlds that have grown, and sums that are less. abs, mod, gcd on both sides. -/
import Derived.Test.YtaeabefbohlcpaaInts
import Derived.Handy
import Derived.Outline
import Derived.Deep.DeepFit
namespace Go.Proofs.Ytaeabefbohlcpaa
open Go.RowKit
set_option linter.unusedVariables false
set_option linter.unusedSimpArgs false

def allB (zs : List Int) (lo hi : Int) : Bool := zs.all (fun z => inB z lo hi)
def Cells (w : World) (g : Nat) (zs : List Int) : Prop := ∀ i, i < zs.length → w.cell? ⟨g, i, none⟩ = some (.int .i64 (zs.getD i 0))
theorem Cells.keep {w w' : World} {g : Nat} {zs : List Int} (h : Cells w g zs) (e : w'.heap[g]? = w.heap[g]?) : Cells w' g zs := fun i hi => (World.cell?_of_block (a := ⟨g, i, none⟩) e).trans (h i hi)



end Go.Proofs.Ytaeabefbohlcpaa
namespace Go.Proofs.Ytaeabefbohlcpaa
open Go.RowKit
set_option linter.unusedVariables false
set_option linter.unusedSimpArgs false
theorem gr_alloc {w W : World} (h : Below w.heap.size w W) (o : Obj) : Below w.heap.size w (W.alloc o) := h.alloc h.size o
theorem gr_call {w W w2 : World} (h : Below w.heap.size w W) (h2 : Below W.heap.size W w2) : Below w.heap.size w w2 := h.trans (h2.mono h.size)
theorem below_drew {B : Nat} {a w : World} (h : Below B a w) : Below B a w.drew := ⟨h.os, h.tape, h.output, h.size, h.block⟩
theorem cell_call {W w' : World} {a : Addr} {v : Value} (hb : Below W.heap.size W w') (h : W.cell? a = some v) : w'.cell? a = some v := by
 rw [hb.cell (World.block_lt_of_cell? W a h)]; exact h
theorem frz_call {W w' : World} {a : Addr} (hb : Below W.heap.size W w') (hl : a.block < W.heap.size) (h : W.frozen? a = false) : w'.frozen? a = false := by
 rw [hb.frozen hl]; exact h
theorem lt_keep {W w' : World} (hb : Below W.heap.size W w') : ∀ k, k < W.heap.size → k < w'.heap.size := fun k h => Nat.lt_of_lt_of_le h hb.size
theorem q2 (n : Nat) : n < n + 1 + 1 := by omega
theorem q3 (n : Nat) : n < n + 1 + 1 + 1 := by omega
theorem q4 (n : Nat) : n < n + 1 + 1 + 1 + 1 := by omega
theorem q5 (n : Nat) : n < n + 1 + 1 + 1 + 1 + 1 := by omega
theorem q6 (n : Nat) : n < n + 1 + 1 + 1 + 1 + 1 + 1 := by omega
theorem q7 (n : Nat) : n < n + 1 + 1 + 1 + 1 + 1 + 1 + 1 := by omega
theorem q8 (n : Nat) : n < n + 1 + 1 + 1 + 1 + 1 + 1 + 1 + 1 := by omega
theorem q9 (n : Nat) : n < n + 1 + 1 + 1 + 1 + 1 + 1 + 1 + 1 + 1 := by omega
theorem q10 (n : Nat) : n < n + 1 + 1 + 1 + 1 + 1 + 1 + 1 + 1 + 1 + 1 := by omega
theorem q11 (n : Nat) : n < n + 1 + 1 + 1 + 1 + 1 + 1 + 1 + 1 + 1 + 1 + 1 := by omega
theorem q12 (n : Nat) : n < n + 1 + 1 + 1 + 1 + 1 + 1 + 1 + 1 + 1 + 1 + 1 + 1 := by omega
theorem allB_mem {zs : List Int} {lo hi : Int} (h : allB zs lo hi = true) : ∀ z ∈ zs, lo ≤ z ∧ z ≤ hi := by
 intro z hz
 unfold allB at h
 rw [List.all_eq_true] at h
 exact inB_true (h z hz)
end Go.Proofs.Ytaeabefbohlcpaa
namespace Go.Proofs.Ytaeabefbohlcpaa
open Go.RowKit
set_option linter.unusedVariables false
set_option linter.unusedSimpArgs false
theorem mod_tmod {a m : Int} (hm : 0 < m) : (if a.tmod m < 0 then a.tmod m + m else a.tmod m) = a % m := by
 have h1 := Int.tmod_add_mul_tdiv a m
 have h2 : (a.tmod m).natAbs < m.natAbs := by rw [Int.natAbs_tmod]; exact Nat.mod_lt _ (by omega)
 have h3 : a % m = (a.tmod m) % m := by
  conv => lhs; rw [← h1]
  rw [Int.add_mul_emod_self_left]
 rw [h3]
 split
 ·rw [← Int.add_emod_right (a.tmod m) m]
  exact (Int.emod_eq_of_lt (by omega) (by omega)).symm
 ·exact (Int.emod_eq_of_lt (by omega) (by omega)).symm
theorem tmod_bd {a m : Int} (hm : m ≠ 0) : -m.natAbs < a.tmod m ∧ a.tmod m < m.natAbs := by
 have h2 : (a.tmod m).natAbs < m.natAbs := by rw [Int.natAbs_tmod]; exact Nat.mod_lt _ (by omega)
 omega
theorem gcd_step {a b : Int} : Int.gcd b (a.tmod b) = Int.gcd a b := by
 unfold Int.gcd
 rw [Int.natAbs_tmod, Nat.gcd_comm b.natAbs, ← Nat.gcd_rec, Nat.gcd_comm]
def igcd (a b : Int) : Int := (Int.gcd a b : Int)
theorem igcd_nonneg (a b : Int) : 0 ≤ igcd a b := by unfold igcd; omega
theorem gcd_le_bd {a b : Int} (ha : -4611686018427387904 ≤ a ∧ a ≤ 4611686018427387904) (hb : -4611686018427387904 ≤ b ∧ b ≤ 4611686018427387904) : 0 ≤ igcd a b ∧ igcd a b ≤ 4611686018427387904 := by
 refine ⟨igcd_nonneg a b, ?_⟩
 unfold igcd
 by_cases h : a = 0
 ·subst h; simp; omega
 ·have := Nat.le_of_dvd (by omega) (Int.gcd_dvd_natAbs_left a b); omega

set_option maxRecDepth 100000 in
set_option maxHeartbeats 400000 in
theorem abs_a (n : Int) (w : World) (h0 : -4611686018427387904 ≤ n ∧ n ≤ 4611686018427387904) :
  Calls Try.prog 96 #[.int .i64 n] w fun e w' => e = .returned (.int .i64 ((n.natAbs : Int))) ∧ w = w' := by
 go_enter Try.func96, Try.ntmps96
 go_wp2
 all_goals (go_ret; exact ⟨ret_int (by omega), rfl⟩)

set_option maxRecDepth 100000 in
set_option maxHeartbeats 400000 in
theorem l1Most_a (a b : Int) (w : World) :
  Calls Try.prog 91 #[.int .i64 a, .int .i64 b] w fun e w' => e = .returned (.int .i64 (max a b)) ∧ w = w' := by
 go_enter Try.func91, Try.ntmps91
 go_wp2
 all_goals (go_ret; exact ⟨ret_int (by omega), rfl⟩)

set_option maxRecDepth 100000 in
set_option maxHeartbeats 400000 in
theorem l1Abs_a (n : Int) (w : World) (h0 : -4611686018427387904 ≤ n ∧ n ≤ 4611686018427387904) :
  Calls Try.prog 74 #[.int .i64 n] w fun e w' => e = .returned (.int .i64 ((n.natAbs : Int))) ∧ w = w' := by
 go_enter Try.func74, Try.ntmps74
 go_wp2_with (go_at_call 91; refine (l1Most_a _ _ _).mono ?_; rintro e w' ⟨rfl, rfl⟩)
 go_ret
 exact ⟨ret_int (by omega), rfl⟩

set_option maxRecDepth 100000 in
set_option maxHeartbeats 400000 in
theorem mod_a (a m : Int) (w : World) (h0 : -4611686018427387904 ≤ a ∧ a ≤ 4611686018427387904) (h1 : 0 < m) (h2 : m ≤ 4611686018427387904) :
  Calls Try.prog 75 #[.int .i64 a, .int .i64 m] w fun e w' => e = .returned (.int .i64 (a % m)) ∧ w = w' := by
 have hr := mod_tmod (a := a) h1
 obtain ⟨b1, b2⟩ := tmod_bd (a := a) (m := m) (by omega)
 have b3 : -m < a.tmod m := by omega
 have b4 : a.tmod m < m := by omega
 clear b1 b2
 have HR := hide hr
 clear hr
 by_cases c : a.tmod m < 0
 ·by_cases ha : 0 ≤ a
  ·exfalso; rw [Int.tmod_eq_emod_of_nonneg ha] at c; have := Int.emod_nonneg a (show m ≠ 0 by omega); omega
  ·have hq : (decide (a.tmod m < 0)) = true := by simpa using c
   go_enter Try.func75, Try.ntmps75
   go_wp2
   all_goals (go_ret; exact ⟨ret_int (by rw [← unhide HR]; first | rw [if_pos c] | omega), rfl⟩)
 ·by_cases ha : 0 ≤ a
  ·rw [Int.tmod_eq_emod_of_nonneg ha] at c b3 b4
   have HA := Int.tmod_eq_emod_of_nonneg (b := m) ha
   have HA2 := hide HA
   clear HA
   go_enter Try.func75, Try.ntmps75
   go_wp2
   all_goals (go_ret; exact ⟨ret_int rfl, rfl⟩)
  ·go_enter Try.func75, Try.ntmps75
   go_wp2
   all_goals (go_ret; exact ⟨ret_int (by rw [← unhide HR]; first | rw [if_neg c] | omega), rfl⟩)

set_option maxRecDepth 100000 in
set_option maxHeartbeats 400000 in
theorem nuMod_a (a m : Int) (w : World) (h0 : -4611686018427387904 ≤ a ∧ a ≤ 4611686018427387904) (h1 : 0 < m) (h2 : m ≤ 4611686018427387904) :
  Calls Try.prog 48 #[.int .i64 a, .int .i64 m] w fun e w' => e = .returned (.int .i64 (a % m)) ∧ w = w' := by
 have hr := mod_tmod (a := a) h1
 obtain ⟨b1, b2⟩ := tmod_bd (a := a) (m := m) (by omega)
 have b3 : -m < a.tmod m := by omega
 have b4 : a.tmod m < m := by omega
 clear b1 b2
 have HR := hide hr
 clear hr
 by_cases c : a.tmod m < 0
 ·by_cases ha : 0 ≤ a
  ·exfalso; rw [Int.tmod_eq_emod_of_nonneg ha] at c; have := Int.emod_nonneg a (show m ≠ 0 by omega); omega
  ·have hq : (decide (a.tmod m < 0)) = true := by simpa using c
   go_enter Try.func48, Try.ntmps48
   go_wp2
   all_goals (go_ret; exact ⟨ret_int (by rw [← unhide HR]; first | rw [if_pos c] | omega), rfl⟩)
 ·by_cases ha : 0 ≤ a
  ·rw [Int.tmod_eq_emod_of_nonneg ha] at c b3 b4
   have HA := Int.tmod_eq_emod_of_nonneg (b := m) ha
   have HA2 := hide HA
   clear HA
   go_enter Try.func48, Try.ntmps48
   go_wp2
   all_goals (go_ret; exact ⟨ret_int rfl, rfl⟩)
  ·go_enter Try.func48, Try.ntmps48
   go_wp2
   all_goals (go_ret; exact ⟨ret_int (by rw [← unhide HR]; first | rw [if_neg c] | omega), rfl⟩)

set_option maxRecDepth 100000 in
set_option maxHeartbeats 1000000 in
theorem gcd_a (a b : Int) (w : World) (h0 : -4611686018427387904 ≤ a ∧ a ≤ 4611686018427387904) (h1 : -4611686018427387904 ≤ b ∧ b ≤ 4611686018427387904) :
  Calls Try.prog 77 #[.int .i64 a, .int .i64 b] w fun e w' => e = .returned (.int .i64 (igcd a b)) ∧ ∃ n, w' = w.drewN n := by
 go_enter Try.func77, Try.ntmps77
 go_wp2
 go_loopw [0, 1] (fun sx sy wr => ∃ (x y : Int) (k : Nat), (-4611686018427387904 ≤ x ∧ x ≤ 4611686018427387904) ∧ (-4611686018427387904 ≤ y ∧ y ≤ 4611686018427387904) ∧ Int.gcd x y = Int.gcd a b ∧ sx = .int .i64 x ∧ sy = .int .i64 y ∧ wr = w.drewN k) (fun _ sy _ => (intOf sy).natAbs)
 case atStart => exact ⟨a, b, 0, h0, h1, rfl, rfl, rfl, rfl⟩
 case round =>
  obtain ⟨x, y, k, hx, hy, hg, rfl, rfl, rfl⟩ := hrel
  by_cases c : y = 0
  ·subst c
   have hg2 : (x.natAbs : Int) = (Int.gcd a b : Int) := by rw [← hg]; simp [Int.gcd]
   have HG := hide hg2
   clear hg hg2
   go_wp2_with (go_at_call 96; refine (abs_a _ _ (by first | assumption | omega)).mono ?_; rintro e w' ⟨rfl, rfl⟩)
   go_ret
   exact ⟨ret_int (by have := unhide HG; unfold igcd; omega), k, rfl⟩
  ·obtain ⟨b1, b2⟩ := tmod_bd (a := x) (m := y) c
   have b3 : (x.tmod y).natAbs < y.natAbs := by omega
   have hs := (gcd_step (a := x) (b := y)).trans hg
   have HS := hide hs
   have HC := hide b3
   clear hs hg b3
   go_wp2
   go_quiet (fail)
   go_roundw
   case rel => first | exact ⟨y, x.tmod y, _, hy, by omega, unhide HS, rfl, rfl, World.drewN_drewN _ _ _⟩ | ((repeat apply Exists.intro); exact ⟨⟨y, x.tmod y, _, hy, by omega, unhide HS, rfl, rfl, World.drewN_drewN _ _ _⟩, rfl⟩)
   case measure => simp only [intOf]; exact unhide HC

set_option maxRecDepth 100000 in
set_option maxHeartbeats 1000000 in
theorem nuGcd_a (a b : Int) (w : World) (h0 : -4611686018427387904 ≤ a ∧ a ≤ 4611686018427387904) (h1 : -4611686018427387904 ≤ b ∧ b ≤ 4611686018427387904) :
  Calls Try.prog 54 #[.int .i64 a, .int .i64 b] w fun e w' => e = .returned (.int .i64 (igcd a b)) ∧ ∃ n, w' = w.drewN n := by
 go_enter Try.func54, Try.ntmps54
 go_wp2_with (go_at_call 74; refine (l1Abs_a _ _ (by first | assumption | omega)).mono ?_; rintro e w' ⟨rfl, rfl⟩)
 go_loopw [0, 1] (fun sx sy wr => ∃ (x y : Int) (k : Nat), (-4611686018427387904 ≤ x ∧ x ≤ 4611686018427387904) ∧ (-4611686018427387904 ≤ y ∧ y ≤ 4611686018427387904) ∧ Int.gcd x y = Int.gcd a b ∧ sx = .int .i64 x ∧ sy = .int .i64 y ∧ wr = w.drewN k ∧ 0 ≤ x ∧ 0 ≤ y) (fun _ sy _ => (intOf sy).natAbs)
 case atStart => exact ⟨(a.natAbs : Int), (b.natAbs : Int), 0, by omega, by omega, by simp [Int.gcd], rfl, rfl, rfl, by omega, by omega⟩
 case round =>
  obtain ⟨x, y, k, hx, hy, hg, rfl, rfl, rfl, px, py⟩ := hrel
  by_cases c : y = 0
  ·subst c
   have hg2 : (x.natAbs : Int) = (Int.gcd a b : Int) := by rw [← hg]; simp [Int.gcd]
   have HG := hide hg2
   clear hg hg2
   go_wp2
   go_ret
   exact ⟨ret_int (by have := unhide HG; unfold igcd; omega), k, rfl⟩
  ·obtain ⟨b1, b2⟩ := tmod_bd (a := x) (m := y) c
   rw [Int.tmod_eq_emod_of_nonneg px] at b1 b2
   have b3 : (x % y).natAbs < y.natAbs := by omega
   have hs := (gcd_step (a := x) (b := y)).trans hg
   rw [Int.tmod_eq_emod_of_nonneg px] at hs
   have HS := hide hs
   have HC := hide b3
   clear hs hg b3
   go_wp2
   go_quiet (fail)
   go_roundw
   case rel => first | exact ⟨y, x % y, _, hy, by omega, unhide HS, rfl, rfl, World.drewN_drewN _ _ _, py, Int.emod_nonneg _ c⟩ | ((repeat apply Exists.intro); exact ⟨⟨y, x % y, _, hy, by omega, unhide HS, rfl, rfl, World.drewN_drewN _ _ _, py, Int.emod_nonneg _ c⟩, rfl⟩)
   case measure => simp only [intOf]; exact unhide HC
end Go.Proofs.Ytaeabefbohlcpaa
