/- The completed form on both sides. The completed form (spec). Plain facts of uniting two forms. United forms (impl). The composite (impl). The composite of two classes (impl). -/
import Derived.Test.YtaeabefbohlcpaaCpl
import Derived.Outline
namespace Go.Proofs.Ytaeabefbohlcpaa
open Go.RowKit
set_option linter.unusedVariables false
set_option linter.unusedSimpArgs false
attribute [local go_sem] q2 q3 q4 q5 q6 q7 q8 q9 q10 q11 q12

end Go.Proofs.Ytaeabefbohlcpaa
namespace Go.Proofs.Ytaeabefbohlcpaa
open Go.RowKit
set_option linter.unusedVariables false
set_option linter.unusedSimpArgs false
attribute [local go_sem] q2 q3 q4 q5 q6 q7 q8 q9 q10 q11 q12

end Go.Proofs.Ytaeabefbohlcpaa
namespace Go.Proofs.Ytaeabefbohlcpaa
open Go.RowKit
set_option linter.unusedVariables false
set_option linter.unusedSimpArgs false

theorem par_of {a b c e B C : Int} (h : discI e B C = discI a b c) : 2 ∣ B - b := by
 unfold discI at h
 have e1 : 4 * e * C = 4 * (e * C) := Int.mul_assoc _ _ _
 have e2 : 4 * a * c = 4 * (a * c) := Int.mul_assoc _ _ _
 have h2 : (B * B) % 2 = (b * b) % 2 := by omega
 rw [Int.mul_emod, Int.mul_emod b b] at h2
 rcases Int.emod_two_eq B with hB | hB <;> rcases Int.emod_two_eq b with hb | hb <;> rw [hB, hb] at h2 <;> omega
noncomputable def uT (a b e B : Int) : Int := cmT (b % (2 * a)) a B e
noncomputable def uS (a b c e B : Int) : Int := (uT a b e B * uT a b e B - discI a b c) / (4 * a * e)
structure UniF (a b c p q r : Int) (x y : Nat) (e B C t s : Int) : Prop where
 a0 : 1 ≤ a
 a1 : a ≤ 26
 b0 : -26 ≤ b ∧ b ≤ 26
 e0 : 1 ≤ e
 e1 : e ≤ 20000
 B0 : 0 ≤ B
 B1 : B < 2 * e
 g1 : Int.gcd e a = 1
 par : 2 ∣ B - b % (2 * a)
 t0 : 0 ≤ t
 t1 : t < 2 * a * e
 ae : 0 < a * e ∧ a * e ≤ 520000
 ta : 2 * a ∣ t - b
 te : 2 * e ∣ t - B
 uni : ∀ z, 0 ≤ z → z ≤ t → 2 * a ∣ z - b → 2 * e ∣ z - B → z = t
 tt : 0 ≤ t * t ∧ t * t ≤ 1081600000000
 ss : (t * t - discI a b c).tdiv (4 * a * e) = s
 s0 : 0 < s
 s1 : s ≤ 100000000
 isu : IsU a b c p q r e t s
theorem uni_facts {a b c p q r : Int} {k x y : Nat} (h : RedC a b c) (h' : RedC p q r) (hD : discI p q r = discI a b c) (hf : IsFirst p q r a k x y) :
  (x ≤ 5 ∧ y ≤ 5 ∧ Int.gcd x y = 1) ∧ UniF a b c p q r x y (cpE p q r x y) (cpB p q r x y) (cpC p q r x y) (uT a b (cpE p q r x y) (cpB p q r x y)) (uS a b c (cpE p q r x y) (cpB p q r x y)) := by
 obtain ⟨s1, s2, s3, s4⟩ := red_small h.cls.ok h.red
 have a0 := h.cls.ok.a0
 have hk := first_le (by omega) (by omega) h'.cls.pr hf
 obtain ⟨f1, f2, f3⟩ := hit_facts hf.hit
 have hx : x ≤ 5 := by omega
 have hy : y ≤ 5 := by omega
 refine ⟨⟨hx, hy, f2⟩, ?_⟩
 have hF := cpl_facts h' hx hy f2
 have hcb := hF.cb
 have hE : cpE p q r x y = valI p q r x y := rfl
 have hS : uS a b c (cpE p q r x y) (cpB p q r x y) = (uT a b (cpE p q r x y) (cpB p q r x y) * uT a b (cpE p q r x y) (cpB p q r x y) - discI a b c) / (4 * a * cpE p q r x y) := rfl
 have hT : uT a b (cpE p q r x y) (cpB p q r x y) = cmT (b % (2 * a)) a (cpB p q r x y) (cpE p q r x y) := rfl
 have f4 : Int.gcd (cpE p q r x y) a = 1 := f3
 have e0 := hF.e0
 have e1 := hF.e1
 have B0 := hF.B0
 have B1 := hF.B1
 have dd := hF.dd
 have mk : ∀ t s, IsUB a b (cpE p q r x y) (cpB p q r x y) t → s = (t * t - discI a b c) / (4 * a * cpE p q r x y) → IsU a b c p q r (cpE p q r x y) t s := fun t s h1 h2 => ⟨k, x, y, cpB p q r x y, hf, rfl, hcb, h1, h2⟩
 clear hF hcb hE f1 f3
 generalize uS a b c (cpE p q r x y) (cpB p q r x y) = s at *
 generalize uT a b (cpE p q r x y) (cpB p q r x y) = t at *
 generalize cpE p q r x y = e at *
 generalize cpB p q r x y = B at *
 generalize cpC p q r x y = C at *
 have g0 := Int.emod_add_mul_ediv b (2 * a)
 have par : 2 ∣ B - b % (2 * a) := by
  obtain ⟨z, hz⟩ := par_of (dd.trans hD)
  have e2 : 2 * a * (b / (2 * a)) = 2 * (a * (b / (2 * a))) := Int.mul_assoc _ _ _
  exact ⟨z + a * (b / (2 * a)), by omega⟩
 obtain ⟨t0, t1, t2, t3⟩ := cm_facts (a0 := b % (2 * a)) (p := a) (b0 := B) (q := e) (by omega) e0 f4 par
 rw [← hT] at t0 t1 t2 t3
 have t2' : 2 * a ∣ t - b := by
  obtain ⟨z, hz⟩ := t2
  exact ⟨z - b / (2 * a), by rw [Int.mul_sub, ← hz]; omega⟩
 have hub : IsUB a b e B t := ⟨t0, t1, t2', t3⟩
 have g2 : Int.gcd a e = 1 := by rw [Int.gcd_comm]; exact f4
 have hu := mk t s hub hS
 obtain ⟨_, _, _, _, _, hc, hdd, _, _⟩ := hu.facts h h' hD
 obtain ⟨s', w1, w2, w3⟩ := ub_form a0 (by omega) g2 (dd.trans hD) hub
 rw [← w2] at hS
 subst hS
 have n0 := Int.mul_pos a0 (show 0 < e by omega)
 have n1 : a * e ≤ 26 * 20000 := Int.mul_le_mul s1 e1 (by omega) (by omega)
 have e2 : 2 * a * e = 2 * (a * e) := Int.mul_assoc _ _ _
 have tt0 : 0 ≤ t * t := Int.mul_nonneg t0 t0
 have tt1 : t * t ≤ 1040000 * 1040000 := Int.mul_le_mul (by omega) (by omega) t0 (by omega)
 have e4 : 4 * a * e = 4 * (a * e) := Int.mul_assoc _ _ _
 refine ⟨by omega, s1, ⟨s2, s3⟩, e0, e1, B0, B1, f4, par, t0, t1, ⟨n0, by omega⟩, t2', t3, ?_, ⟨tt0, by omega⟩, ?_, hc.ok.c0, hc.ok.c1, hu⟩
 ·intro z z0 z1 z2 z3
  exact ub_same a0 (by omega) g2 ⟨z0, by omega, z2, z3⟩ hub
 ·have : t * t - discI a b c = 4 * a * e * s := by
   unfold discI at w1 ⊢
   have e5 : 4 * (a * e) * s = 4 * a * e * s := by rw [e4]
   omega
  rw [this, Int.mul_tdiv_cancel_left _ (by omega)]
theorem least {P : Nat → Prop} (h : ∃ n, P n) : ∃ n, P n ∧ ∀ m, m < n → ¬ P m := by
 obtain ⟨n, hn⟩ := h
 induction n using Nat.strongRecOn with
 | _ n ih =>
  by_cases q : ∃ m, m < n ∧ P m
  ·obtain ⟨m, h1, h2⟩ := q
   exact ih m h1 h2
  ·exact ⟨n, hn, fun m h1 h2 => q ⟨m, h1, h2⟩⟩
theorem fp_ex {a b c m : Int} (hm : 1 ≤ m) (hm2 : m ≤ 30) (hp : Prim a b c) : ∃ k, IsFirst a b c m k (fpP a b c m).1 (fpP a b c m).2 := by
 obtain ⟨x', y', h1, h2, h3⟩ := exists_hit hm hm2 (gcd_prim (m := m) hp)
 obtain ⟨k, ⟨x1, y1, hx1, hy1, hh⟩, hk⟩ := least (P := fun k => ∃ x y, x ≤ k ∧ y ≤ k ∧ hitB a b c m k x y = true) ⟨max x' y', x', y', by omega, by omega, h3⟩
 obtain ⟨x, ⟨y2, hy2, hh2⟩, hx⟩ := least (P := fun x => ∃ y, y ≤ k ∧ hitB a b c m k x y = true) ⟨x1, y1, hy1, hh⟩
 obtain ⟨y, hh3, hy⟩ := least (P := fun y => hitB a b c m k x y = true) ⟨y2, hh2⟩
 have hmx := (hit_facts hh3).1
 have nf : ∀ b : Bool, ¬ b = true → b = false := fun b h => by cases b <;> simp at h ⊢
 have hf : IsFirst a b c m k x y := ⟨hh3, by omega, by omega, fun k' h' x' y' hx' hy' => nf _ (fun q => hk k' h' ⟨x', y', hx', hy', q⟩), fun x' h' y' hy' => nf _ (fun q => hx x' h' ⟨y', hy', q⟩), fun y' h' => nf _ (hy y' h')⟩
 obtain ⟨e1, e2⟩ := fp_of hf
 unfold fpX at e1
 unfold fpY at e2
 have e3 : (fpP a b c m).1 = x := by omega
 have e4 : (fpP a b c m).2 = y := by omega
 rw [e3, e4]
 exact ⟨k, hf⟩
end Go.Proofs.Ytaeabefbohlcpaa
namespace Go.Proofs.Ytaeabefbohlcpaa
open Go.RowKit
set_option linter.unusedVariables false
set_option linter.unusedSimpArgs false
attribute [local go_sem] q2 q3 q4 q5 q6 q7 q8 q9 q10 q11 q12

end Go.Proofs.Ytaeabefbohlcpaa
namespace Go.Proofs.Ytaeabefbohlcpaa
open Go.RowKit
set_option linter.unusedVariables false
set_option linter.unusedSimpArgs false
attribute [local go_sem] q2 q3 q4 q5 q6 q7 q8 q9 q10 q11 q12

end Go.Proofs.Ytaeabefbohlcpaa
namespace Go.Proofs.Ytaeabefbohlcpaa
open Go.RowKit
set_option linter.unusedVariables false
set_option linter.unusedSimpArgs false
attribute [local go_sem] q2 q3 q4 q5 q6 q7 q8 q9 q10 q11 q12

theorem reduced_rw (a b c x y z : Int) (h : OkF a b c) (e1 : rfA a b c = x) (e2 : rfB a b c = y) (e3 : rfC a b c = z) (w : World) :
  Calls Try.prog 56 #[.agg #[.int .i64 a, .int .i64 b, .int .i64 c]] w fun e w' => e = .returned (.agg #[.int .i64 x, .int .i64 y, .int .i64 z]) ∧ Below w.heap.size w w' := by
 subst e1 e2 e3; exact reduced_a a b c w h
end Go.Proofs.Ytaeabefbohlcpaa
