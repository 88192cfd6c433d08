/-
  Plain: numbers written to a great base; sums of squares and divisors in one product.
-/
import Derived.Test.YtpgpdccidoogcaaConv
namespace Go.Proofs.Ytpgpdccidoogcaa
set_option linter.unusedVariables false
set_option linter.unusedSimpArgs false

def sN (h : Nat → Nat) : Nat → Nat
  | 0 => 0
  | k + 1 => sN h k + h k
theorem sN_congr {h g : Nat → Nat} : ∀ {n : Nat}, (∀ i, i < n → h i = g i) → sN h n = sN g n
  | 0, _ => rfl
  | n + 1, e => by simp only [sN]; rw [sN_congr (fun i hi => e i (by omega)), e n (by omega)]
theorem sN_cast (h : Nat → Nat) : ∀ n, ((sN h n : Nat) : Int) = sumN (fun i => (h i : Int)) n
  | 0 => rfl
  | n + 1 => by simp only [sN, sumN]; rw [Int.natCast_add, sN_cast h n]
theorem sN_mul (c : Nat) (h : Nat → Nat) : ∀ n, sN (fun i => c * h i) n = c * sN h n
  | 0 => rfl
  | n + 1 => by simp only [sN]; rw [sN_mul c h n, Nat.mul_add]
theorem sN_add (g h : Nat → Nat) : ∀ n, sN (fun i => g i + h i) n = sN g n + sN h n
  | 0 => rfl
  | n + 1 => by simp only [sN]; rw [sN_add g h n]; omega
theorem sN_le {g h : Nat → Nat} : ∀ {n : Nat}, (∀ i, i < n → g i ≤ h i) → sN g n ≤ sN h n
  | 0, _ => Nat.le_refl _
  | n + 1, e => by simp only [sN]; exact Nat.add_le_add (sN_le (fun i hi => e i (by omega))) (e n (by omega))
theorem sN_more {h : Nat → Nat} {a : Nat} : ∀ d, (∀ i, a ≤ i → i < a + d → h i = 0) → sN h (a + d) = sN h a
  | 0, _ => rfl
  | d + 1, hz => by
    show sN h (a + d) + h (a + d) = _
    rw [hz (a + d) (by omega) (by omega), sN_more d (fun i h1 h2 => hz i h1 (by omega))]; rfl
theorem sN_split (h : Nat → Nat) (a : Nat) : ∀ b, sN h (a + b) = sN h a + sN (fun i => h (a + i)) b
  | 0 => rfl
  | b + 1 => by
    show sN h (a + b) + h (a + b) = _
    rw [sN_split h a b]; simp only [sN]; omega
/-- A sum by halves: the kernel does not go deep. -/
def rs (f : Nat → Nat) (a : Nat) : Nat → Nat
  | 0 => f a
  | k + 1 => rs f a k + rs f (a + 2 ^ k) k
theorem rs_eq (f : Nat → Nat) : ∀ k a, rs f a k = sN (fun i => f (a + i)) (2 ^ k)
  | 0, a => by simp [rs, sN]
  | k + 1, a => by
    rw [rs, rs_eq f k, rs_eq f k, Nat.pow_succ, Nat.mul_two, sN_split]
    simp only [Nat.add_assoc]

abbrev Bg : Nat := 1099511627776
def ev (f : Nat → Nat) (n : Nat) : Nat := sN (fun i => f i * Bg ^ i) n
theorem ev_succ (f : Nat → Nat) (n : Nat) : ev f (n + 1) = ev f n + f n * Bg ^ n := rfl
theorem Bg_pos (n : Nat) : 0 < Bg ^ n := Nat.pow_pos (by decide)
theorem ev_lt {f : Nat → Nat} : ∀ {n : Nat}, (∀ i, i < n → f i < Bg) → ev f n < Bg ^ n
  | 0, _ => by simp [ev, sN]
  | n + 1, h => by
    rw [ev_succ, Nat.pow_succ]
    have h1 := ev_lt (n := n) (fun i hi => h i (by omega))
    have h2 : (f n + 1) * Bg ^ n ≤ Bg * Bg ^ n := Nat.mul_le_mul_right _ (h n (by omega))
    rw [Nat.add_mul, Nat.one_mul] at h2
    rw [Nat.mul_comm (Bg ^ n)]
    omega
theorem ev_inj {f g : Nat → Nat} : ∀ {n : Nat}, (∀ i, i < n → f i < Bg) → (∀ i, i < n → g i < Bg) → ev f n = ev g n → ∀ i, i < n → f i = g i
  | 0, _, _, _, i, hi => absurd hi (by omega)
  | n + 1, hf, hg, e, i, hi => by
    have l1 := ev_lt (n := n) (fun i hi => hf i (by omega))
    have l2 := ev_lt (n := n) (fun i hi => hg i (by omega))
    rw [ev_succ, ev_succ] at e
    have d1 : (ev f n + f n * Bg ^ n) / Bg ^ n = f n := by rw [Nat.add_mul_div_right _ _ (Bg_pos n), Nat.div_eq_of_lt l1, Nat.zero_add]
    have d2 : (ev g n + g n * Bg ^ n) / Bg ^ n = g n := by rw [Nat.add_mul_div_right _ _ (Bg_pos n), Nat.div_eq_of_lt l2, Nat.zero_add]
    have e1 : f n = g n := by rw [← d1, e, d2]
    by_cases q : i = n
    · subst q; exact e1
    · rw [e1] at e
      exact ev_inj (fun i hi => hf i (by omega)) (fun i hi => hg i (by omega)) (Nat.add_right_cancel e) i (by omega)
theorem ev_congr {f g : Nat → Nat} {n : Nat} (h : ∀ i, i < n → f i = g i) : ev f n = ev g n := sN_congr fun i hi => by rw [h i hi]
theorem ev_add (f g : Nat → Nat) (n : Nat) : ev (fun i => f i + g i) n = ev f n + ev g n := by
  unfold ev; rw [← sN_add]; exact sN_congr fun i _ => Nat.add_mul _ _ _
theorem ev_mul (c : Nat) (f : Nat → Nat) (n : Nat) : ev (fun i => c * f i) n = c * ev f n := by
  unfold ev; rw [← sN_mul]; exact sN_congr fun i _ => Nat.mul_assoc _ _ _
theorem ev_sum (u : Nat → Nat → Nat) (n : Nat) : ∀ D, ev (fun i => sN (fun d => u d i) D) n = sN (fun d => ev (u d) n) D
  | 0 => by
    show ev (fun _ => 0) n = 0
    unfold ev
    induction n with
    | zero => rfl
    | succ n ih => simp only [sN]; rw [ih]; simp
  | D + 1 => by
    show ev (fun i => sN (fun d => u d i) D + u D i) n = sN (fun d => ev (u d) n) D + ev (u D) n
    rw [ev_add, ev_sum u n D]
theorem ev_split (f : Nat → Nat) (a b : Nat) : ev f (a + b) = ev f a + Bg ^ a * ev (fun i => f (a + i)) b := by
  unfold ev
  rw [sN_split, ← sN_mul]
  congr 1
  exact sN_congr fun i _ => by rw [Nat.pow_add]; rw [← Nat.mul_assoc, Nat.mul_comm (f (a + i)), Nat.mul_assoc, Nat.mul_comm (f (a + i)), ← Nat.mul_assoc, Nat.mul_assoc, Nat.mul_comm (Bg ^ i)]
/-- A shift by s, cut at N. -/
theorem ev_shift (f : Nat → Nat) (s N : Nat) (h : s ≤ N) : ev (fun j => if s ≤ j then f (j - s) else 0) N = Bg ^ s * ev f (N - s) := by
  obtain ⟨d, rfl⟩ : ∃ d, N = s + d := ⟨N - s, by omega⟩
  rw [ev_split]
  have e0 : ev (fun j => if s ≤ j then f (j - s) else 0) s = 0 := by
    have : ev (fun j => if s ≤ j then f (j - s) else 0) s = ev (fun _ => 0) s := ev_congr fun i hi => by rw [if_neg (by omega)]
    rw [this]
    have h2 := ev_mul 0 (fun _ => 0) s
    simpa using h2
  rw [e0, Nat.zero_add, show s + d - s = d by omega]
  congr 1
  exact ev_congr fun i hi => by rw [if_pos (by omega), show s + i - s = i by omega]
theorem ev_cut (f : Nat → Nat) (s N : Nat) (h : s ≤ N) : (Bg ^ s * ev f (N - s)) % Bg ^ N = (Bg ^ s * ev f N) % Bg ^ N := by
  obtain ⟨d, rfl⟩ : ∃ d, N = d + s := ⟨N - s, by omega⟩
  rw [show d + s - s = d by omega, ev_split f d s, Nat.mul_add, ← Nat.mul_assoc, ← Nat.pow_add, Nat.add_comm s d, Nat.add_mul_mod_self_left]
/-- Multiplied by a sum of powers. -/
theorem ev_theta (f : Nat → Nat) (c s : Nat → Nat) (N : Nat) : ∀ X, (∀ x, x < X → s x ≤ N) →
    ev (fun j => sN (fun x => if s x ≤ j then c x * f (j - s x) else 0) X) N % Bg ^ N = (sN (fun x => c x * Bg ^ s x) X * ev f N) % Bg ^ N
  | 0, _ => by
    have h2 := ev_mul 0 (fun _ => 0) N
    simp only [sN, Nat.zero_mul] at h2 ⊢
    rw [h2]
  | X + 1, h => by
    have ih := ev_theta f c s N X (fun x hx => h x (by omega))
    have e1 : ev (fun j => sN (fun x => if s x ≤ j then c x * f (j - s x) else 0) (X + 1)) N = ev (fun j => sN (fun x => if s x ≤ j then c x * f (j - s x) else 0) X) N + c X * (Bg ^ s X * ev f (N - s X)) := by
      show ev (fun j => sN (fun x => if s x ≤ j then c x * f (j - s x) else 0) X + (if s X ≤ j then c X * f (j - s X) else 0)) N = _
      rw [ev_add, ← ev_shift f (s X) N (h X (by omega)), ← ev_mul]
      congr 1
      exact ev_congr fun i _ => by split <;> simp
    rw [e1, Nat.add_mod, ih, Nat.mul_mod (c X), ev_cut f (s X) N (h X (by omega)), ← Nat.mul_mod (c X), ← Nat.add_mod]
    simp only [sN]
    rw [Nat.add_mul, Nat.mul_assoc]
def th (x : Nat) : Nat := if x = 0 then 1 else 2
/-- How often a number is a sum of k squares. -/
def scN : Nat → Nat → Nat
  | 0 => fun j => if j = 0 then 1 else 0
  | k + 1 => fun j => sN (fun x => if x * x ≤ j then th x * scN k (j - x * x) else 0) 101
theorem th_cw (x : Nat) : ((th x : Nat) : Int) = cw x := by unfold th cw; split <;> rfl
theorem scN_eq : ∀ k j, j ≤ 10000 → sc 10000 k j = ((scN k j : Nat) : Int)
  | 0, j, _ => by simp only [sc, scN]; split <;> rfl
  | k + 1, j, hj => by
    show nx (sc 10000 k) 10000 j = ((sN (fun x => if x * x ≤ j then th x * scN k (j - x * x) else 0) 101 : Nat) : Int)
    rw [nx_eq _ _ j hj]
    have h1 : isqN j ≤ 100 := by
      have h := (isqN_spec j).1
      by_cases c : isqN j ≤ 100
      · exact c
      · have := Nat.mul_le_mul (show 101 ≤ isqN j by omega) (show 101 ≤ isqN j by omega); omega
    have e : 101 = isqN j + 1 + (100 - isqN j) := by omega
    rw [e, sN_more, sN_cast]
    · refine sumN_congr fun x hx => ?_
      have hx2 := isqN_sq_le (m := j) (x := x) (by omega)
      rw [if_pos hx2, scN_eq k (j - x * x) (by omega), Int.natCast_mul, th_cw, Int.mul_comm]
    · intro i h2 h3
      rw [if_neg (fun q => by have := isqN_mono_sq q; omega)]
theorem scN_lt (k : Nat) (hk : k ≤ 4) (j : Nat) (hj : j ≤ 10000) : scN k j < 2000000000 := by
  have h := (sc_bd 10000 k j hj).2
  rw [scN_eq k j hj] at h
  have h2 : scB 10000 k ≤ 1700000000 := by
    have e : isqN 10000 = 100 := by
      have h1 := isqN_mono_sq (x := 100) (m := 10000) (by omega)
      have h := (isqN_spec 10000).1
      by_cases c : isqN 10000 ≤ 100
      · omega
      · have := Nat.mul_le_mul (show 101 ≤ isqN 10000 by omega) (show 101 ≤ isqN 10000 by omega); omega
    rcases (show k = 0 ∨ k = 1 ∨ k = 2 ∨ k = 3 ∨ k = 4 by omega) with rfl | rfl | rfl | rfl | rfl <;> simp only [scB, e] <;> omega
  omega
def Th : Nat := sN (fun x => th x * Bg ^ (x * x)) 101
theorem ev_sc (N : Nat) (hN1 : 10000 ≤ N) (hN2 : N ≤ 10001) (k : Nat) (hk : k + 1 ≤ 4) : ev (scN (k + 1)) N = (Th * ev (scN k) N) % Bg ^ N := by
  have h1 : ev (scN (k + 1)) N < Bg ^ N := ev_lt fun i hi => Nat.lt_trans (scN_lt (k + 1) hk i (by omega)) (by decide)
  have h2 := ev_theta (scN k) th (fun x => x * x) N 101 (fun x hx => by have := Nat.mul_le_mul (show x ≤ 100 by omega) (show x ≤ 100 by omega); show x * x ≤ N; omega)
  have h3 : ev (fun j => sN (fun x => if x * x ≤ j then th x * scN k (j - x * x) else 0) 101) N = ev (scN (k + 1)) N := rfl
  rw [h3, Nat.mod_eq_of_lt h1] at h2
  exact h2
theorem ev_sc0 (n : Nat) : ev (scN 0) (1 + n) = 1 := by
  have e : ev (scN 0) (1 + n) = ev (scN 0) 1 + Bg ^ 1 * ev (fun i => scN 0 (1 + i)) n := ev_split _ _ _
  have e2 : ev (fun i => scN 0 (1 + i)) n = ev (fun _ => 0 * 0) n := ev_congr fun i _ => by show (if 1 + i = 0 then 1 else 0) = 0 * 0; rw [if_neg (by omega)]
  have e3 : ev (fun _ => 0 * 0) n = 0 := by have := ev_mul 0 (fun _ => 0) n; simpa using this
  rw [e, e2, e3, Nat.mul_zero, Nat.add_zero]
  simp [ev, sN, scN]
/-- The multiples of d from d on, up to 10000. -/
def Gd (d : Nat) : Nat := (Bg ^ (d * (10000 / d + 1)) - Bg ^ d) / (Bg ^ d - 1)
def ind (d : Nat) (n : Nat) : Nat := if n ≠ 0 ∧ n % d = 0 then 1 else 0
theorem ev_ind (d : Nat) (hd : 0 < d) : ∀ n, (Bg ^ d - 1) * ev (ind d) (n + 1) + Bg ^ d = Bg ^ (d * (n / d + 1))
  | 0 => by
    have : ev (ind d) 1 = 0 := by simp [ev, sN, ind]
    rw [this, Nat.zero_div]; simp
  | n + 1 => by
    have ih := ev_ind d hd n
    rw [ev_succ]
    have hB : 1 ≤ Bg ^ d := Bg_pos d
    by_cases q : (n + 1) % d = 0
    · have e1 : ind d (n + 1) = 1 := by unfold ind; rw [if_pos ⟨by omega, q⟩]
      have e2 : (n + 1) / d = n / d + 1 := by
        rw [Nat.succ_div, if_pos (Nat.dvd_of_mod_eq_zero q)]
      have e3 : d * (n / d + 1) = n + 1 := by rw [← e2]; exact Nat.mul_div_cancel' (Nat.dvd_of_mod_eq_zero q)
      rw [e1, e2, Nat.mul_add d (n / d + 1) 1, e3, Nat.mul_one, Nat.one_mul, Nat.mul_add, Nat.pow_add Bg (n + 1) d]
      rw [e3] at ih
      have h3 : (Bg ^ d - 1) * Bg ^ (n + 1) + Bg ^ (n + 1) = Bg ^ d * Bg ^ (n + 1) := by
        rw [Nat.sub_mul, Nat.one_mul, Nat.sub_add_cancel (Nat.le_mul_of_pos_left _ hB)]
      rw [Nat.mul_comm (Bg ^ (n + 1)) (Bg ^ d), ← h3, ← ih]
      omega
    · have e1 : ind d (n + 1) = 0 := by unfold ind; rw [if_neg (fun h => q h.2)]
      have e2 : (n + 1) / d = n / d := by
        rw [Nat.succ_div, if_neg (fun h => q (Nat.mod_eq_zero_of_dvd h)), Nat.add_zero]
      rw [e1, e2, Nat.zero_mul, Nat.add_zero]; exact ih
theorem ev_Gd (d N : Nat) (hN : N = 10001) (hd : 0 < d) : ev (ind d) N = Gd d := by
  have h := ev_ind d hd 10000
  subst hN
  have h2 : 0 < Bg ^ d - 1 := by
    have : Bg ^ 1 ≤ Bg ^ d := Nat.pow_le_pow_right (by decide) hd
    have e : Bg ^ 1 = Bg := Nat.pow_one _
    have e2 : 1 < Bg := by decide
    omega
  unfold Gd
  rw [← h, Nat.add_sub_cancel, Nat.mul_div_cancel_left _ h2]
/-- Weighted divisors of n. -/
def wd (u : Nat → Nat) (n : Nat) : Nat := sN (fun d => u d * ind d n) 16384
def Wg (u : Nat → Nat) : Nat := rs (fun d => if d = 0 then 0 else if 10000 < d then 0 else if u d = 0 then 0 else u d * Gd d) 0 14
theorem ev_wd (N : Nat) (hN : N = 10001) (u : Nat → Nat) (h0 : u 0 = 0) (h1 : ∀ d, 10000 < d → u d = 0) : ev (wd u) N = Wg u := by
  unfold Wg
  rw [rs_eq]
  show ev (fun n => sN (fun d => u d * ind d n) 16384) N = _
  rw [ev_sum (fun d n => u d * ind d n) N 16384]
  refine sN_congr fun d hd => ?_
  rw [ev_mul]
  rw [Nat.zero_add]
  by_cases q0 : d = 0
  · subst q0; rw [h0]; simp
  · rw [if_neg q0]
    by_cases q1 : 10000 < d
    · rw [if_pos q1, h1 d q1, Nat.zero_mul]
    · rw [if_neg q1]
      by_cases q2 : u d = 0
      · rw [if_pos q2, q2, Nat.zero_mul]
      · rw [if_neg q2, ev_Gd d N hN (by omega)]
def u4 (d : Nat) : Nat := if d ≤ 10000 then (if d % 4 = 0 then 0 else d) else 0
def ur (r d : Nat) : Nat := if d ≤ 10000 then (if d % 4 = r then 1 else 0) else 0
end Go.Proofs.Ytpgpdccidoogcaa
