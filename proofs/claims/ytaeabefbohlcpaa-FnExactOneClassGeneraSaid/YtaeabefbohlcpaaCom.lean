/- The reduced form on both sides. The first point on both sides. Inverses, Bezout's numbers, common residues on both sides. Common residues (spec). -/
import Derived.Test.YtaeabefbohlcpaaReduceS
import Derived.Test.YtaeabefbohlcpaaCmp
namespace Go.Proofs.Ytaeabefbohlcpaa
open Go.RowKit
set_option linter.unusedVariables false
set_option linter.unusedSimpArgs false
attribute [local go_sem] q2 q3 q4 q5 q6 q7 q8 q9 q10 q11 q12

set_option maxRecDepth 100000 in
set_option maxHeartbeats 4000000 in
theorem reduced_a (a b c : Int) (w : World) (h0 : OkF a b c) :
  Calls Try.prog 56 #[.agg #[.int .i64 a, .int .i64 b, .int .i64 c]] w fun e w' => e = .returned (.agg #[.int .i64 (rfA a b c), .int .i64 (rfB a b c), .int .i64 (rfC a b c)]) ∧ Below w.heap.size w w' := by
 go_enter Try.func56, Try.ntmps56
 go_wp2_with fail
 refine (reduce_a _ _ _ _ (by first | assumption | omega)).mono ?_
 rintro e w1 ⟨rfl, hb1⟩
 have tq0 := Ri3.c hb1 w.heap.size a b c
 have tq1 := Wi3.c hb1 (w.heap.size + 1) 0 0 0
 try clear c00 c01 c02
 try clear c10 c11 c12 f10 f11 f12
 obtain ⟨c00, c01, c02, z0⟩ := tq0
 obtain ⟨c10, c11, c12, f10, f11, f12, z1⟩ := tq1
 have hs1 := hb1.size
 go_wp2
 first | go_returns | (refine bodyPost_ret (v := .agg #[.int .i64 (rfA a b c), .int .i64 (rfB a b c), .int .i64 (rfC a b c)]) (by simp [results, Try.results56, go_sem, *]) rfl ?_)
 refine ⟨rfl, ?_⟩
 (repeat' first | with_reducible (first | exact Below.refl _ _ | assumption | refine gr_alloc ?_ _ | refine below_drewN ?_ _ | refine below_drew ?_ | refine gr_call ?_ (by assumption) | refine Below.setCell ?_ ?_ _) | go_size | omega | (simp; omega))

set_option maxRecDepth 100000 in
set_option maxHeartbeats 4000000 in
theorem reClass_a (a b c : Int) (w : World) (h0 : OkF a b c) :
  Calls Try.prog 52 #[.agg #[.int .i64 a, .int .i64 b, .int .i64 c]] w fun e w' => e = .returned (.agg #[.int .i64 (rfA a b c), .int .i64 (rfB a b c), .int .i64 (rfC a b c)]) ∧ Below w.heap.size w w' := by
 go_enter Try.func52, Try.ntmps52
 go_wp2_with fail
 refine (reReduce_a _ _ _ _ (by first | assumption | omega)).mono ?_
 rintro e w1 ⟨rfl, hb1⟩
 have tq0 := Ri3.c hb1 w.heap.size a b c
 have tq1 := Wi3.c hb1 (w.heap.size + 1) 0 0 0
 try clear c00 c01 c02
 try clear c10 c11 c12 f10 f11 f12
 obtain ⟨c00, c01, c02, z0⟩ := tq0
 obtain ⟨c10, c11, c12, f10, f11, f12, z1⟩ := tq1
 have hs1 := hb1.size
 go_wp2
 first | go_returns | (refine bodyPost_ret (v := .agg #[.int .i64 (rfA a b c), .int .i64 (rfB a b c), .int .i64 (rfC a b c)]) (by simp [results, Try.results52, go_sem, *]) rfl ?_)
 refine ⟨rfl, ?_⟩
 (repeat' first | with_reducible (first | exact Below.refl _ _ | assumption | refine gr_alloc ?_ _ | refine below_drewN ?_ _ | refine below_drew ?_ | refine gr_call ?_ (by assumption) | refine Below.setCell ?_ ?_ _) | go_size | omega | (simp; omega))

theorem reClass_rw (a b c x y z : Int) (h : OkF a b c) (hE : rfA a b c = x ∧ rfB a b c = y ∧ rfC a b c = z) (w : World) :
  Calls Try.prog 52 #[.agg #[.int .i64 a, .int .i64 b, .int .i64 c]] w fun e w' => e = .returned (.agg #[.int .i64 x, .int .i64 y, .int .i64 z]) ∧ Below w.heap.size w w' := by
 obtain ⟨rfl, rfl, rfl⟩ := hE
 exact reClass_a a b c w h
end Go.Proofs.Ytaeabefbohlcpaa
namespace Go.Proofs.Ytaeabefbohlcpaa
open Go.RowKit
set_option linter.unusedVariables false
set_option linter.unusedSimpArgs false
attribute [local go_sem] q2 q3 q4 q5 q6 q7 q8 q9 q10 q11 q12

def Sz (a b c m : Int) (k : Nat) : Prop := ∀ k', k' < k → ∀ x' y', x' ≤ k' → y' ≤ k' → hitB a b c m k' x' y' = false
def Rw (a b c m : Int) (k x : Nat) : Prop := ∀ x', x' < x → ∀ y', y' ≤ k → hitB a b c m k x' y' = false
def Cl (a b c m : Int) (k x y : Nat) : Prop := ∀ y', y' < y → hitB a b c m k x y' = false
theorem sz_zero (a b c m : Int) : Sz a b c m 0 := fun k' h => absurd h (Nat.not_lt_zero _)
theorem rw_zero (a b c m : Int) (k : Nat) : Rw a b c m k 0 := fun k' h => absurd h (Nat.not_lt_zero _)
theorem cl_zero (a b c m : Int) (k x : Nat) : Cl a b c m k x 0 := fun k' h => absurd h (Nat.not_lt_zero _)
theorem sz_succ {a b c m : Int} {k : Nat} (h : Sz a b c m k) (r : Rw a b c m k (k + 1)) : Sz a b c m (k + 1) := fun k' hk x' y' hx hy => by
 by_cases q : k' < k
 ·exact h k' q x' y' hx hy
 ·obtain rfl : k' = k := by omega
  exact r x' (by omega) y' hy
theorem rw_succ {a b c m : Int} {k x : Nat} (h : Rw a b c m k x) (r : Cl a b c m k x (k + 1)) : Rw a b c m k (x + 1) := fun x' hx y' hy => by
 by_cases q : x' < x
 ·exact h x' q y' hy
 ·obtain rfl : x' = x := by omega
  exact r y' (by omega)
theorem cl_succ {a b c m : Int} {k x y : Nat} (h : Cl a b c m k x y) (r : hitB a b c m k x y = false) : Cl a b c m k x (y + 1) := fun y' hy => by
 by_cases q : y' < y
 ·exact h y' q
 ·obtain rfl : y' = y := by omega
  exact r
theorem sz_one (a b c m : Int) : Sz a b c m 1 := fun k' hk x' y' hx hy => by
 obtain rfl : k' = 0 := by omega
 obtain rfl : x' = 0 := by omega
 obtain rfl : y' = 0 := by omega
 simp [hitB, igcd]
end Go.Proofs.Ytaeabefbohlcpaa
namespace Go.Proofs.Ytaeabefbohlcpaa
open Go.RowKit
set_option linter.unusedVariables false
set_option linter.unusedSimpArgs false
attribute [local go_sem] q2 q3 q4 q5 q6 q7 q8 q9 q10 q11 q12

theorem euc_ex {a m : Int} (hm : 1 ≤ m) : ∀ (n : Nat) (r s x y : Int), s.toNat ≤ n → EucI a m r s x y → ∃ t, IsInv a m t := by
 intro n
 induction n with
 | zero =>
  intro r s x y hn h
  have := h.s0
  obtain rfl : s = 0 := by omega
  exact ⟨_, (h.last hm).2⟩
 | succ n ih =>
  intro r s x y hn h
  by_cases q : s = 0
  ·subst q; exact ⟨_, (h.last hm).2⟩
  ·obtain ⟨h1, h2, _⟩ := h.step q hm
   have := Int.emod_lt_of_pos r (show 0 < s by have := h.s0; omega)
   exact ih _ _ _ _ (by rw [h2]; omega) h1
theorem euc_impl {a m : Int} (hm : 1 ≤ m) (hg : Int.gcd m a = 1) : EucI a m (a % m) m 1 0 := by
 have m0 := Int.emod_nonneg a (show m ≠ 0 by omega)
 have m1 := Int.emod_lt_of_pos a (show 0 < m by omega)
 have e := Int.emod_add_mul_ediv a m
 exact ⟨m0, by omega, ⟨a / m, by omega⟩, ⟨-1, by omega⟩, .inl ⟨by omega, by omega, by omega⟩, by rw [gcd_mod_left, Int.gcd_comm]; exact hg, by omega, by omega, by omega, by omega⟩
theorem inv_is {a m : Int} (hm : 1 ≤ m) (hg : Int.gcd m a = 1) : IsInv a m (invI a m) := by
 obtain ⟨t, ht⟩ := euc_ex hm _ _ _ _ _ (Nat.le_refl _) (euc_impl hm hg)
 rw [inv_of hg ht]; exact ht
open Classical in
noncomputable def bzS (x y : Nat) : Int := if y = 0 then 1 else invI x y
open Classical in
noncomputable def bzV (x y : Nat) : Int := if y = 0 then 0 else (1 - x * invI x y) / y
theorem exact_div {a m k : Int} (hm : 1 ≤ m) (h : a = m * k) : a.tdiv m = k ∧ a / m = k := by
 subst h
 exact ⟨Int.mul_tdiv_cancel_left _ (by omega), Int.mul_ediv_cancel_left _ (by omega)⟩
theorem bz_facts {x y : Nat} (hx : x ≤ 5) (hy : y ≤ 5) (hg : Int.gcd x y = 1) : (x : Int) * bzS x y + y * bzV x y = 1 ∧ (-10 ≤ bzS x y ∧ bzS x y ≤ 10) ∧ (-10 ≤ bzV x y ∧ bzV x y ≤ 10) ∧ (y ≠ 0 → (1 - x * bzS x y).tdiv y = bzV x y ∧ (x * bzS x y - 1).tdiv y = - bzV x y) := by
 unfold bzS bzV
 by_cases q : y = 0
 ·subst q
  have : x = 1 := by simpa using hg
  subst this
  simp
 ·simp only [if_neg q]
  obtain ⟨i0, i1, k, hk⟩ := inv_is (a := x) (m := y) (by omega) (by rw [Int.gcd_comm]; exact hg)
  generalize invI x y = s at *
  have e1 : 1 - x * s = y * (-k) := by rw [Int.mul_neg]; omega
  obtain ⟨d1, d2⟩ := exact_div (by omega) e1
  obtain ⟨d3, _⟩ := exact_div (by omega) hk
  rw [d2, d1, d3]
  refine ⟨by rw [← e1]; omega, by omega, ?_, fun _ => ⟨rfl, by omega⟩⟩
  have hxs : 0 ≤ (x : Int) * s ∧ (x : Int) * s ≤ 5 * 5 := ⟨Int.mul_nonneg (by omega) i0, Int.mul_le_mul (by omega) (by omega) i0 (by omega)⟩
  have h1y : 1 ≤ y := by omega
  have h5 : (x : Int) * s ≤ 5 * (y - 1) := Int.mul_le_mul (by omega) (by omega) i0 (by omega)
  have kk : (y : Int) * k ≤ y * 5 := by omega
  have k1 : k ≤ 5 := by
   by_cases q2 : k ≤ 5
   ·exact q2
   ·have := Int.mul_le_mul_of_nonneg_left (show 6 ≤ k by omega) (show 0 ≤ (y : Int) by omega); omega
  have k0 : -1 ≤ k := by
   by_cases q2 : -1 ≤ k
   ·exact q2
   ·have := Int.mul_le_mul_of_nonneg_left (show k ≤ -2 by omega) (show 0 ≤ (y : Int) by omega); omega
  omega

end Go.Proofs.Ytaeabefbohlcpaa
namespace Go.Proofs.Ytaeabefbohlcpaa
open Go.RowKit
set_option linter.unusedVariables false
set_option linter.unusedSimpArgs false
attribute [local go_sem] q2 q3 q4 q5 q6 q7 q8 q9 q10 q11 q12

noncomputable def cmK (a0 p b0 q : Int) : Int := ((b0 - a0) / 2 * invI p q) % q
noncomputable def cmT (a0 p b0 q : Int) : Int := (a0 + 2 * p * cmK a0 p b0 q) % (p * (2 * q))
theorem cm_facts {a0 p b0 q : Int} (hp : 1 ≤ p) (hq : 1 ≤ q) (hg : Int.gcd q p = 1) (h2 : 2 ∣ b0 - a0) : 0 ≤ cmT a0 p b0 q ∧ cmT a0 p b0 q < 2 * p * q ∧ 2 * p ∣ cmT a0 p b0 q - a0 ∧ 2 * q ∣ cmT a0 p b0 q - b0 := by
 obtain ⟨d, hd⟩ := h2
 have ed : (b0 - a0) / 2 = d := by omega
 obtain ⟨i0, i1, j, hj⟩ := inv_is hq hg
 unfold cmT cmK
 rw [ed]
 generalize invI p q = s at *
 have k0 := Int.emod_nonneg (d * s) (show q ≠ 0 by omega)
 have k1 := Int.emod_lt_of_pos (d * s) (show 0 < q by omega)
 have k2 := Int.emod_add_mul_ediv (d * s) q
 generalize (d * s) % q = k at *
 generalize (d * s) / q = l at *
 have pq : 0 < p * (2 * q) := Int.mul_pos (by omega) (by omega)
 have t0 := Int.emod_nonneg (a0 + 2 * p * k) (show p * (2 * q) ≠ 0 by omega)
 have t1 := Int.emod_lt_of_pos (a0 + 2 * p * k) pq
 have t2 := Int.emod_add_mul_ediv (a0 + 2 * p * k) (p * (2 * q))
 generalize (a0 + 2 * p * k) % (p * (2 * q)) = t at *
 generalize (a0 + 2 * p * k) / (p * (2 * q)) = n at *
 have e2 : p * (2 * q) = 2 * p * q := by grind
 rw [e2] at t1
 refine ⟨t0, t1, ⟨k - q * n, by grind⟩, ⟨j * d - p * l - p * n, by grind⟩⟩
end Go.Proofs.Ytaeabefbohlcpaa
