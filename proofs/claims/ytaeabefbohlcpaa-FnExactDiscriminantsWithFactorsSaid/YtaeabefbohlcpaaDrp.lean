/- Plain: reduction of definite forms, as both sides do it, one step after the other. Plain: the reduced forms of a discriminant. -/
import Derived.Test.YtaeabefbohlcpaaLevel
import Derived.Test.YtaeabefbohlcpaaPrim
namespace Go.Proofs.Ytaeabefbohlcpaa
set_option linter.unusedVariables false
set_option linter.unusedSimpArgs false

def valI (a b c x y : Int) : Int := a * x * x + b * x * y + c * y * y
def trT (a b : Int) : Int := (a - b) / (2 * a)
def stepA (a b c : Int) : Int := if normB a b then c else a
def stepB (a b c : Int) : Int := if normB a b then -b else 2 * a * trT a b + b
def stepC (a b c : Int) : Int := if normB a b then a else a * trT a b * trT a b + b * trT a b + c
structure OkF (a b c : Int) : Prop where
 a0 : 0 < a
 a1 : a ≤ 100000000
 b0 : -100000000 ≤ b
 b1 : b ≤ 100000000
 c0 : 0 < c
 c1 : c ≤ 100000000
 d0 : -2000 ≤ discI a b c
 d1 : discI a b c < 0
theorem trT_bd {a b : Int} (h : 0 < a) : -a < 2 * a * trT a b + b ∧ 2 * a * trT a b + b ≤ a := by
 unfold trT
 have h1 := Int.emod_add_mul_ediv (a - b) (2 * a)
 have h2 := Int.emod_nonneg (a - b) (show 2 * a ≠ 0 by omega)
 have h3 := Int.emod_lt_of_pos (a - b) (show 0 < 2 * a by omega)
 omega
theorem norm_true {a b : Int} (h : normB a b = true) : -a < b ∧ b ≤ a := by unfold normB at h; simpa using h
theorem norm_false {a b : Int} (h : normB a b = false) : ¬ (-a < b ∧ b ≤ a) := by unfold normB at h; simpa using h
theorem disc_tr (a b c t : Int) : discI a (2 * a * t + b) (a * t * t + b * t + c) = discI a b c := by
 unfold discI; grind
theorem disc_sw (a b c : Int) : discI c (-b) a = discI a b c := by
 unfold discI; grind
theorem sq_le_of {x A : Int} (h : -A ≤ x ∧ x ≤ A) : 0 ≤ x * x ∧ x * x ≤ A * A := by
 have h1 := mul_bd (a := x) (b := x) (A := A) (B := A) (by omega) h h
 refine ⟨?_, h1.2⟩
 by_cases q : 0 ≤ x
 ·exact Int.mul_nonneg q q
 ·exact Int.mul_nonneg_of_nonpos_of_nonpos (by omega) (by omega)
theorem c_bd {a b c : Int} (ha : 0 < a) (ha2 : a ≤ 100000000) (hb : -a ≤ b ∧ b ≤ a) (h0 : -2000 ≤ discI a b c) (h1 : discI a b c < 0) : 0 < c ∧ c ≤ a + 500 := by
 obtain ⟨q0, q1⟩ := sq_le_of hb
 unfold discI at h0 h1
 have e : 4 * a * c = 4 * (a * c) := Int.mul_assoc _ _ _
 refine ⟨?_, ?_⟩
 ·by_cases q : 0 < c
  ·exact q
  ·have := Int.mul_nonneg_of_nonpos_of_nonpos (a := -a) (b := c) (by omega) (by omega)
   rw [Int.neg_mul] at this; omega
 ·by_cases q : c ≤ a + 500
  ·exact q
  ·exfalso
   have h3 := Int.mul_le_mul_of_nonneg_left (show a + 501 ≤ c by omega) (show 0 ≤ a by omega)
   rw [Int.mul_add] at h3
   omega
theorem step_ok {a b c : Int} (h : OkF a b c) : OkF (stepA a b c) (stepB a b c) (stepC a b c) := by
 unfold stepA stepB stepC
 cases hn : normB a b
 ·simp only [Bool.false_eq_true, if_false]
  obtain ⟨t0, t1⟩ := trT_bd (b := b) h.a0
  have hd := disc_tr a b c (trT a b)
  generalize hx : 2 * a * trT a b + b = x at *
  generalize hy : a * trT a b * trT a b + b * trT a b + c = y at *
  have d0 : -2000 ≤ discI a x y := by rw [hd]; exact h.d0
  have d1 : discI a x y < 0 := by rw [hd]; exact h.d1
  obtain ⟨y0, y1⟩ := c_bd h.a0 h.a1 ⟨by omega, t1⟩ d0 d1
  have := h.a1
  by_cases q : a ≤ 1000
  ·exact ⟨h.a0, by omega, by omega, by omega, y0, by omega, d0, d1⟩
  ·refine ⟨h.a0, by omega, by omega, by omega, y0, ?_, d0, d1⟩
   -- a great one: the last coefficient is less than the first
   obtain ⟨q0, q1⟩ := sq_le_of (x := x) (A := a) ⟨by omega, t1⟩
   unfold discI at d0 d1
   have e : 4 * a * y = 4 * (a * y) := Int.mul_assoc _ _ _
   by_cases qq : y ≤ a
   ·omega
   ·exfalso
    have h3 := Int.mul_le_mul_of_nonneg_left (show a + 1 ≤ y by omega) (show 0 ≤ a by omega)
    rw [Int.mul_add] at h3
    omega
 ·simp only [if_true]
  exact ⟨h.c0, h.c1, by have := h.b1; omega, by have := h.b0; omega, h.a0, h.a1, by rw [disc_sw]; exact h.d0, by rw [disc_sw]; exact h.d1⟩

def redN : Nat → Int → Int → Int → Int × Int × Int
 | 0, a, b, c => (a, b, c)
 | n + 1, a, b, c => if redB a b c then (a, b, c) else redN n (stepA a b c) (stepB a b c) (stepC a b c)
def muF (a b c : Int) : Nat := 3 * a.toNat + (if normB a b then (if redB a b c then 0 else 1) else 2)
theorem red_norm {a b c : Int} (h : redB a b c = true) : normB a b = true := by unfold redB at h; simp at h; exact h.1
theorem mu_step {a b c : Int} (h : OkF a b c) (hr : redB a b c = false) : muF (stepA a b c) (stepB a b c) (stepC a b c) < muF a b c := by
 have ha := h.a0
 unfold muF stepA stepB stepC
 cases hn : normB a b
 ·obtain ⟨t0, t1⟩ := trT_bd (b := b) h.a0
  have hn2 : normB a (2 * a * trT a b + b) = true := by unfold normB; simp; omega
  simp only [Bool.false_eq_true, if_false, hn2, if_true]
  split <;> omega
 ·obtain ⟨n0, n1⟩ := norm_true hn
  simp only [if_true, hr, Bool.false_eq_true, if_false]
  have hac : c < a ∨ (a = c ∧ b < 0) := by
   unfold redB at hr; rw [hn] at hr; simp at hr; omega
  rcases hac with hac | ⟨hac, hb⟩
  ·have := h.c0
   split
   ·split <;> omega
   ·omega
  ·subst hac
   have hn2 : normB a (-b) = true := by unfold normB; simp; omega
   have hr2 : redB a (-b) a = true := by unfold redB; rw [hn2]; simp; omega
   simp only [hn2, hr2, if_true]
   omega
theorem redN_more : ∀ n a b c, OkF a b c → muF a b c ≤ n → redN (n + 1) a b c = redN n a b c := by
 intro n
 induction n with
 | zero =>
  intro a b c h hm
  cases hr : redB a b c
  ·have := mu_step h hr; omega
  ·simp [redN, hr]
 | succ n ih =>
  intro a b c h hm
  cases hr : redB a b c
  ·have h1 := mu_step h hr
   have h2 := ih _ _ _ (step_ok h) (by omega)
   have e1 : redN (n + 1 + 1) a b c = redN (n + 1) (stepA a b c) (stepB a b c) (stepC a b c) := by rw [redN, if_neg (by rw [hr]; simp)]
   have e2 : redN (n + 1) a b c = redN n (stepA a b c) (stepB a b c) (stepC a b c) := by rw [redN, if_neg (by rw [hr]; simp)]
   rw [e1, e2]
   exact h2
  ·have e1 : redN (n + 1 + 1) a b c = (a, b, c) := by rw [redN, if_pos hr]
   have e2 : redN (n + 1) a b c = (a, b, c) := by rw [redN, if_pos hr]
   rw [e1, e2]
theorem redN_all {a b c : Int} (h : OkF a b c) {n : Nat} (hn : muF a b c ≤ n) : redN n a b c = redN (muF a b c) a b c := by
 obtain ⟨k, rfl⟩ := Nat.exists_eq_add_of_le hn
 induction k with
 | zero => rfl
 | succ k ih =>
  have h1 := ih (Nat.le_add_right _ _)
  rw [← h1]
  exact redN_more (muF a b c + k) a b c h (Nat.le_add_right _ _)
def redF (a b c : Int) : Int × Int × Int := redN (muF a b c) a b c
theorem redF_yes {a b c : Int} (hr : redB a b c = true) : redF a b c = (a, b, c) := by
 unfold redF
 cases muF a b c with
 | zero => rfl
 | succ n => rw [redN, if_pos hr]
theorem redF_no {a b c : Int} (h : OkF a b c) (hr : redB a b c = false) : redF a b c = redF (stepA a b c) (stepB a b c) (stepC a b c) := by
 have h1 := mu_step h hr
 unfold redF
 obtain ⟨n, hn⟩ := Nat.exists_eq_succ_of_ne_zero (show muF a b c ≠ 0 by omega)
 rw [hn, redN, if_neg (by rw [hr]; simp)]
 exact redN_all (step_ok h) (by omega)
theorem redN_red : ∀ n a b c, OkF a b c → muF a b c ≤ n → redB (redN n a b c).1 (redN n a b c).2.1 (redN n a b c).2.2 = true ∧ OkF (redN n a b c).1 (redN n a b c).2.1 (redN n a b c).2.2 ∧ discI (redN n a b c).1 (redN n a b c).2.1 (redN n a b c).2.2 = discI a b c := by
 intro n
 induction n with
 | zero =>
  intro a b c h hm
  cases hr : redB a b c
  ·have := mu_step h hr; omega
  ·exact ⟨hr, h, rfl⟩
 | succ n ih =>
  intro a b c h hm
  cases hr : redB a b c
  ·have h1 := mu_step h hr
   obtain ⟨i1, i2, i3⟩ := ih _ _ _ (step_ok h) (by omega)
   rw [redN]
   simp only [hr, Bool.false_eq_true, if_false]
   refine ⟨i1, i2, i3.trans ?_⟩
   unfold stepA stepB stepC
   split
   ·exact disc_sw a b c
   ·exact disc_tr a b c _
  ·rw [redN]
   simp only [hr, if_true]
   exact ⟨trivial, h, trivial⟩
theorem redF_red {a b c : Int} (h : OkF a b c) : redB (redF a b c).1 (redF a b c).2.1 (redF a b c).2.2 = true ∧ OkF (redF a b c).1 (redF a b c).2.1 (redF a b c).2.2 ∧ discI (redF a b c).1 (redF a b c).2.1 (redF a b c).2.2 = discI a b c := redN_red _ a b c h (Nat.le_refl _)
theorem red_small {a b c : Int} (h : OkF a b c) (hr : redB a b c = true) : a ≤ 26 ∧ -26 ≤ b ∧ b ≤ 26 ∧ c ≤ 600 := by
 obtain ⟨n0, n1⟩ := norm_true (red_norm hr)
 have hac : a ≤ c := by unfold redB at hr; simp at hr; omega
 have ha := h.a0
 obtain ⟨q0, q1⟩ := sq_le_of (x := b) (A := a) ⟨by omega, n1⟩
 have h2 := h.d0
 unfold discI at h2
 have e : 4 * a * c = 4 * (a * c) := Int.mul_assoc _ _ _
 have h3 := Int.mul_le_mul_of_nonneg_left hac (show 0 ≤ a by omega)
 have h26 : a ≤ 26 := by
  by_cases q : a ≤ 26
  ·exact q
  ·have := sq_mono (show 0 ≤ 27 by omega) (show (27 : Int) ≤ a by omega); omega
 refine ⟨h26, by omega, by omega, ?_⟩
 obtain ⟨c0, c1⟩ := c_bd h.a0 (by omega) ⟨by omega, n1⟩ h.d0 h.d1
 omega
end Go.Proofs.Ytaeabefbohlcpaa
namespace Go.Proofs.Ytaeabefbohlcpaa
open Go.RowKit
set_option linter.unusedVariables false
set_option linter.unusedSimpArgs false
attribute [local go_sem] q2 q3 q4 q5 q6 q7 q8 q9 q10 q11 q12
theorem flN_in {α : Type} {p : Nat → Bool} {e : Nat → α} {j : Nat} (hp : p j = true) : ∀ {k : Nat}, j < k → e j ∈ flN p e k
 | 0, h => by omega
 | k + 1, h => by
  rw [flN]
  by_cases q : j = k
  ·subst q; rw [if_pos hp]; simp
  ·have := flN_in (p := p) (e := e) hp (k := k) (by omega)
   split
   ·rw [List.mem_append]; exact .inl this
   ·exact this
theorem allB3_in {d : Int} {a j : Nat} (hj : j < 2 * a) (hp : rowP d a j = true) : ∀ {n : Nat}, a < n → rowE d a j ∈ allB3 d n
 | 0, h => by omega
 | n + 1, h => by
  rw [allB3_succ, List.mem_append]
  by_cases q : a = n
  ·subst q; exact .inr (flN_in (p := rowP d a) (e := rowE d a) hp hj)
  ·exact .inl (allB3_in hj hp (by omega))
theorem allB3_of {d : Int} {f : Int × Int × Int} : ∀ a, f ∈ allB3 d a → ∃ (a' j : Nat), 1 ≤ a' ∧ a' < a ∧ rowP d a' j = true ∧ f = rowE d a' j
 | 0, h => by cases h
 | a + 1, h => by
  rw [allB3_succ, List.mem_append] at h
  rcases h with h | h
  ·obtain ⟨a', j, h1, h2, h3⟩ := allB3_of a h
   exact ⟨a', j, h1, by omega, h3⟩
  ·obtain ⟨j, h1, h2, h3⟩ := flN_mem h
   exact ⟨a, j, by omega, by omega, h2, h3⟩
structure RfOk (d x y z : Int) : Prop where
 cls : classB x y z = true
 red : redB x y z = true
 disc : discI x y z = d
theorem rf_ok {d : Int} (hd : negB d = true) {f : Int × Int × Int} (hf : f ∈ rfL d) : RfOk d f.1 f.2.1 f.2.2 := by
 obtain ⟨d0, d1⟩ := neg_true hd
 obtain ⟨i, h1, h2, h3⟩ := flN_mem hf
 have hm : f ∈ allR d := by
  rw [h3, List.getD_eq_getElem?_getD, List.getElem?_eq_getElem h1]; exact List.getElem_mem h1
 have hform := allR_form d0 d1 f hm
 have hc : contI f.1 f.2.1 f.2.2 = 1 := by
  have h4 : primI ((allR d).getD i (0, 0, 0)) = true := h2
  have h5 : f = (allR d).getD i (0, 0, 0) := h3
  rw [← h5] at h4
  unfold primI at h4
  simpa using h4
 obtain ⟨a, j, ha, _, hp, he⟩ := allB3_of _ hm
 unfold rowP at hp
 rw [Bool.and_eq_true] at hp
 have hD : discI f.1 f.2.1 f.2.2 = d := by
  have := disc_of (d := d) (b := 1 - (a : Int) + j) ha
  rw [hp.1] at this
  rw [he]
  simpa [rowE] using this
 have hr : redB f.1 f.2.1 f.2.2 = true := by rw [he]; exact hp.2
 refine ⟨?_, hr, hD⟩
 unfold classB shownB defB
 rw [hform, hD, hc]
 have : 0 < f.1 := by rw [he]; show (0 : Int) < (a : Int); omega
 simp [this]; omega
theorem rf_pos {d : Int} (hd : negB d = true) : 0 < (rfL d).length := by
 obtain ⟨d0, d1⟩ := neg_true hd
 have hm4 : d % 4 = 0 ∨ d % 4 = 1 := by unfold negB at hd; simp at hd; omega
 obtain ⟨j, hj, hjd⟩ : ∃ j : Nat, j < 2 ∧ (j : Int) = d % 4 := by
  rcases hm4 with h | h
  ·exact ⟨0, by omega, by omega⟩
  ·exact ⟨1, by omega, by omega⟩
 have hq : ((j : Int) * (j : Int) - d) % 4 = 0 := by
  rcases (show j = 0 ∨ j = 1 by omega) with rfl | rfl <;> simp <;> omega
 have hp : rowP d 1 j = true := by
  unfold rowP
  have e : (1 : Int) - ((1 : Nat) : Int) + (j : Int) = (j : Int) := by omega
  rw [e]
  have hc : 1 ≤ cOf d 1 (j : Int) := by
   unfold cOf
   rcases (show j = 0 ∨ j = 1 by omega) with rfl | rfl <;> simp <;> omega
  have h4 : ((j : Int) * (j : Int) - d) % (4 * ((1 : Nat) : Int)) = 0 := hq
  rw [h4]
  unfold redB normB
  simp
  omega
 have hmem : rowE d 1 j ∈ allR d := allB3_in (by omega) hp ((aN_iff d1).2 (by simp; omega))
 obtain ⟨i, hi, he⟩ := List.getElem_of_mem hmem
 have hpr : primI ((allR d).getD i (0, 0, 0)) = true := by
  have : (allR d).getD i (0, 0, 0) = rowE d 1 j := by rw [List.getD_eq_getElem?_getD, List.getElem?_eq_getElem hi]; exact he
  rw [this]
  unfold primI rowE contI igcd
  simp
 have := flN_in (p := fun i => primI ((allR d).getD i (0, 0, 0))) (e := fun i => (allR d).getD i (0, 0, 0)) hpr hi
 exact List.length_pos_of_mem this
end Go.Proofs.Ytaeabefbohlcpaa
