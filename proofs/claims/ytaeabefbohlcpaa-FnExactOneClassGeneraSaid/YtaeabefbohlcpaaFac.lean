/- Prime factors and invariant factors, plainly. -/
import Derived.Test.YtaeabefbohlcpaaGrp
namespace Go.Proofs.Ytaeabefbohlcpaa
set_option linter.unusedVariables false
set_option linter.unusedSimpArgs false

def fcL (p n : Nat) : List Nat :=
 if h : 2 ≤ p ∧ p * p ≤ n then (if n % p = 0 then p :: fcL p (n / p) else fcL (p + 1) n) else if 1 < n then [n] else []
termination_by 2 * n - p
decreasing_by
 ·have h1 : n / p < n := Nat.div_lt_self (by have := Nat.mul_le_mul h.1 h.1; omega) (by omega)
  have h2 : p * 2 ≤ p * p := Nat.mul_le_mul_left p h.1
  omega
 ·have h2 : p * 2 ≤ p * p := Nat.mul_le_mul_left p h.1
  omega
theorem fc_dvd {p n : Nat} (h1 : 2 ≤ p) (h2 : p * p ≤ n) (h3 : n % p = 0) : fcL p n = p :: fcL p (n / p) := by
 rw [fcL, dif_pos ⟨h1, h2⟩, if_pos h3]
theorem fc_no {p n : Nat} (h1 : 2 ≤ p) (h2 : p * p ≤ n) (h3 : n % p ≠ 0) : fcL p n = fcL (p + 1) n := by
 rw [fcL, dif_pos ⟨h1, h2⟩, if_neg h3]
theorem fc_end {p n : Nat} (h2 : n < p * p) (h3 : 1 < n) : fcL p n = [n] := by
 rw [fcL, dif_neg (by omega), if_pos h3]
theorem fc_nil {p n : Nat} (h2 : n < p * p) (h3 : n ≤ 1) : fcL p n = [] := by
 rw [fcL, dif_neg (by omega), if_neg (by omega)]
def prL : List Nat → Nat
 | [] => 1
 | x :: l => x * prL l
structure FcOk (p n : Nat) (l : List Nat) : Prop where
 pr : ∀ x ∈ l, Pr x ∧ p ≤ x ∧ x ∣ n
 mul : prL l = n
 up : l.Pairwise (· ≤ ·)
theorem fc_ok : ∀ m p n : Nat, 2 * n - p ≤ m → 2 ≤ p → 1 ≤ n → (∀ q, Pr q → q ∣ n → p ≤ q) → FcOk p n (fcL p n) := by
 intro m
 induction m with
 | zero =>
  intro p n hm hp hn hq
  have h2 : p * 2 ≤ p * p := Nat.mul_le_mul_left p hp
  by_cases q : n ≤ 1
  ·rw [fc_nil (by omega) q]
   exact ⟨fun x hx => (by cases hx), by simp only [prL]; omega, List.Pairwise.nil⟩
  ·obtain ⟨r, hr, hrd⟩ := Pr.ex (show 2 ≤ n by omega)
   have := hq r hr hrd
   have := Nat.le_of_dvd (by omega) hrd
   omega
 | succ m ih =>
  intro p n hm hp hn hq
  by_cases h2 : p * p ≤ n
  ·have h4 : p * 2 ≤ p * p := Nat.mul_le_mul_left p hp
   by_cases h3 : n % p = 0
   ·rw [fc_dvd hp h2 h3]
    have hd : n = p * (n / p) := by have := Nat.div_add_mod n p; omega
    have h1 : n / p < n := Nat.div_lt_self (by omega) (by omega)
    have hpos : 1 ≤ n / p := by
     rcases Nat.eq_zero_or_pos (n / p) with z | z
     ·rw [z] at hd; omega
     ·exact z
    obtain ⟨a1, a2, a3⟩ := ih p (n / p) (by omega) hp hpos (fun q hq1 hq2 => hq q hq1 (by rw [hd]; exact Nat.dvd_trans hq2 (Nat.dvd_mul_left _ _)))
    have hpp : Pr p := by
     refine ⟨hp, fun d hdp => ?_⟩
     by_cases hd1 : d = 1
     ·exact .inl hd1
     ·have hdp2 := Nat.le_of_dvd (by omega) hdp
      have hd0 : d ≠ 0 := fun e => by rw [e] at hdp; have := Nat.eq_zero_of_zero_dvd hdp; omega
      obtain ⟨r, hr, hrd⟩ := Pr.ex (show 2 ≤ d by omega)
      have := hq r hr (Nat.dvd_trans hrd (Nat.dvd_trans hdp (Nat.dvd_of_mod_eq_zero h3)))
      have := Nat.le_of_dvd (by omega) hrd
      exact .inr (by omega)
    refine ⟨fun x hx => ?_, ?_, ?_⟩
    ·rcases List.mem_cons.1 hx with rfl | hx
     ·exact ⟨hpp, Nat.le_refl _, Nat.dvd_of_mod_eq_zero h3⟩
     ·obtain ⟨b1, b2, b3⟩ := a1 x hx
      exact ⟨b1, b2, by rw [hd]; exact Nat.dvd_trans b3 (Nat.dvd_mul_left _ _)⟩
    ·rw [prL, a2, ← hd]
    ·exact List.pairwise_cons.2 ⟨fun x hx => (a1 x hx).2.1, a3⟩
   ·rw [fc_no hp h2 h3]
    obtain ⟨a1, a2, a3⟩ := ih (p + 1) n (by omega) (by omega) hn (fun q hq1 hq2 => by
     have := hq q hq1 hq2
     by_cases e : q = p
     ·exact absurd (Nat.mod_eq_zero_of_dvd (e ▸ hq2)) h3
     ·omega)
    exact ⟨fun x hx => ⟨(a1 x hx).1, by have := (a1 x hx).2.1; omega, (a1 x hx).2.2⟩, a2, a3⟩
  ·by_cases q : n ≤ 1
   ·rw [fc_nil (by omega) q]
    exact ⟨fun x hx => (by cases hx), by simp only [prL]; omega, List.Pairwise.nil⟩
   ·rw [fc_end (by omega) (by omega)]
    have hpn : Pr n := by
     refine ⟨by omega, fun d hd => ?_⟩
     by_cases hd1 : d = 1
     ·exact .inl hd1
     ·by_cases hd2 : d = n
      ·exact .inr hd2
      ·obtain ⟨e, he⟩ := hd
       have hd0 : d ≠ 0 := fun z => by rw [z] at he; omega
       have he0 : e ≠ 0 := fun z => by rw [z] at he; omega
       have he1 : e ≠ 1 := fun z => by rw [z] at he; omega
       obtain ⟨r, hr, hrd⟩ := Pr.ex (show 2 ≤ d by omega)
       obtain ⟨s, hs, hsd⟩ := Pr.ex (show 2 ≤ e by omega)
       have b1 := hq r hr (by rw [he]; exact Nat.dvd_trans hrd (Nat.dvd_mul_right _ _))
       have b2 := hq s hs (by rw [he]; exact Nat.dvd_trans hsd (Nat.dvd_mul_left _ _))
       have b3 := Nat.le_of_dvd (by omega) hrd
       have b4 := Nat.le_of_dvd (by omega) hsd
       have := Nat.mul_le_mul (show p ≤ d by omega) (show p ≤ e by omega)
       omega
    refine ⟨fun x hx => ?_, by simp [prL], by simp⟩
    obtain rfl : x = n := by simpa using hx
    exact ⟨hpn, hq x hpn (Nat.dvd_refl _), Nat.dvd_refl _⟩
theorem prL_dvd {q : Nat} (hq : Pr q) : ∀ {l : List Nat}, (∀ x ∈ l, Pr x) → q ∣ prL l → q ∈ l
 | [], _, h => by have := Nat.dvd_one.1 h; have := hq.1; omega
 | x :: l, hl, h => by
  rcases hq.mul h with e | e
  ·rcases (hl x (by simp)).2 q e with e2 | e2
   ·have := hq.1; omega
   ·simp [e2]
  ·have := prL_dvd hq (fun y hy => hl y (by simp [hy])) e
   simp [this]
def ddK (fs : List Nat) : Nat → List Nat
 | 0 => []
 | k + 1 => if (ddK fs k).getD ((ddK fs k).length - 1) 0 = fs.getD k 0 then ddK fs k else ddK fs k ++ [fs.getD k 0]
theorem dd_yes {fs : List Nat} {k : Nat} (h : (ddK fs k).getD ((ddK fs k).length - 1) 0 = fs.getD k 0) : ddK fs (k + 1) = ddK fs k := by rw [ddK, if_pos h]
theorem dd_no {fs : List Nat} {k : Nat} (h : (ddK fs k).getD ((ddK fs k).length - 1) 0 ≠ fs.getD k 0) : ddK fs (k + 1) = ddK fs k ++ [fs.getD k 0] := by rw [ddK, if_neg h]
structure DdOk (fs : List Nat) (k : Nat) (l : List Nat) : Prop where
 mem : ∀ x, x ∈ l ↔ ∃ i, i < k ∧ fs.getD i 0 = x
 up : l.Pairwise (· < ·)
 last : l.getD (l.length - 1) 0 = (if k = 0 then 0 else fs.getD (k - 1) 0)
 len : l.length ≤ k
theorem dd_ok {fs : List Nat} (h2 : ∀ x ∈ fs, 1 ≤ x) (hu : fs.Pairwise (· ≤ ·)) : ∀ k, k ≤ fs.length → DdOk fs k (ddK fs k)
 | 0, _ => ⟨fun x => ⟨fun h => by (have : x ∈ ([] : List Nat) := h; cases this), fun ⟨i, h, _⟩ => by omega⟩, List.Pairwise.nil, rfl, Nat.le_refl _⟩
 | k + 1, hk => by
  obtain ⟨a1, a2, a3, a4⟩ := dd_ok h2 hu k (by omega)
  have hf : ∀ i, i < fs.length → fs.getD i 0 ∈ fs := fun i hi => by rw [List.getD_eq_getElem?_getD, List.getElem?_eq_getElem hi]; exact List.getElem_mem hi
  have hle : ∀ i, i < k → fs.getD i 0 ≤ fs.getD k 0 := fun i hi => by
   rw [List.getD_eq_getElem?_getD, List.getElem?_eq_getElem (show i < fs.length by omega), List.getD_eq_getElem?_getD, List.getElem?_eq_getElem (show k < fs.length by omega)]
   exact List.pairwise_iff_getElem.1 hu i k (by omega) (by omega) hi
  by_cases q : (ddK fs k).getD ((ddK fs k).length - 1) 0 = fs.getD k 0
  ·rw [dd_yes q]
   have hk0 : k ≠ 0 := fun z => by
    subst z
    have := h2 _ (hf 0 (by omega))
    rw [a3, if_pos rfl] at q; omega
   refine ⟨fun x => ⟨fun h => ?_, fun ⟨i, hi, he⟩ => ?_⟩, a2, ?_, by omega⟩
   ·obtain ⟨i, hi, he⟩ := (a1 x).1 h
    exact ⟨i, by omega, he⟩
   ·by_cases e : i = k
    ·subst e
     rw [a3, if_neg hk0] at q
     exact (a1 x).2 ⟨i - 1, by omega, by rw [q, he]⟩
    ·exact (a1 x).2 ⟨i, by omega, he⟩
   ·rw [if_neg (by omega), q]; rfl
  ·rw [dd_no q]
   have hlt : ∀ x ∈ ddK fs k, x < fs.getD k 0 := fun x hx => by
    obtain ⟨i, hi, he⟩ := (a1 x).1 hx
    rw [a3, if_neg (by omega)] at q
    have h3 := hle (k - 1) (by omega)
    have h4 : fs.getD i 0 ≤ fs.getD (k - 1) 0 := by
     by_cases e : i = k - 1
     ·rw [e]; exact Nat.le_refl _
     ·rw [List.getD_eq_getElem?_getD, List.getElem?_eq_getElem (show i < fs.length by omega), List.getD_eq_getElem?_getD, List.getElem?_eq_getElem (show k - 1 < fs.length by omega)]
      exact List.pairwise_iff_getElem.1 hu i (k - 1) (by omega) (by omega) (by omega)
    omega
   refine ⟨fun x => ?_, ?_, ?_, by simp; omega⟩
   ·rw [List.mem_append]
    constructor
    ·rintro (h | h)
     ·obtain ⟨i, hi, he⟩ := (a1 x).1 h
      exact ⟨i, by omega, he⟩
     ·have e : x = fs.getD k 0 := List.mem_singleton.1 h
      exact ⟨k, by omega, e.symm⟩
    ·rintro ⟨i, hi, he⟩
     by_cases e : i = k
     ·subst e; exact .inr (List.mem_singleton.2 he.symm)
     ·exact .inl ((a1 x).2 ⟨i, by omega, he⟩)
   ·exact List.pairwise_append.2 ⟨a2, by simp, fun x hx y hy => by
     obtain rfl : y = fs.getD k 0 := by simpa using hy
     exact hlt x hx⟩
   ·rw [if_neg (by omega)]; simp
def psL (n : Nat) : List Nat := ddK (fcL 2 n) (fcL 2 n).length
structure PsOk (n : Nat) (l : List Nat) : Prop where
 nd : l.Nodup
 pr : ∀ p ∈ l, Pr p
 dv : ∀ p ∈ l, p ∣ n
 all : ∀ q, Pr q → q ∣ n → q ∈ l
theorem ps_fc {n : Nat} (hn : 1 ≤ n) : FcOk 2 n (fcL 2 n) := fc_ok _ 2 n (Nat.le_refl _) (Nat.le_refl _) hn (fun q hq _ => hq.1)
theorem ps_dd {n : Nat} (hn : 1 ≤ n) : ∀ k, k ≤ (fcL 2 n).length → DdOk (fcL 2 n) k (ddK (fcL 2 n) k) :=
 dd_ok (fun x hx => by have := ((ps_fc hn).pr x hx).1.1; omega) (ps_fc hn).up
theorem ps_ok {n : Nat} (hn : 1 ≤ n) : PsOk n (psL n) := by
 have hf := ps_fc hn
 have hd := ps_dd hn _ (Nat.le_refl _)
 have hm : ∀ x, x ∈ psL n ↔ x ∈ fcL 2 n := fun x => by
  rw [show psL n = ddK (fcL 2 n) (fcL 2 n).length from rfl, hd.mem]
  constructor
  ·rintro ⟨i, hi, rfl⟩
   rw [List.getD_eq_getElem?_getD, List.getElem?_eq_getElem hi]; exact List.getElem_mem hi
  ·intro h
   obtain ⟨i, hi, he⟩ := List.getElem_of_mem h
   exact ⟨i, hi, by rw [List.getD_eq_getElem?_getD, List.getElem?_eq_getElem hi]; exact he⟩
 refine ⟨hd.up.imp (fun {a b} h e => by omega), fun p hp => (hf.pr p ((hm p).1 hp)).1, fun p hp => (hf.pr p ((hm p).1 hp)).2.2, fun q hq hqn => ?_⟩
 exact (hm q).2 (prL_dvd hq (fun x hx => (hf.pr x hx).1) (by rw [hf.mul]; exact hqn))
theorem prL_len : ∀ {l : List Nat}, (∀ x ∈ l, 2 ≤ x) → l.length < prL l
 | [], _ => Nat.zero_lt_one
 | x :: l, h => by
  have ih := prL_len (l := l) (fun y hy => h y (by simp [hy]))
  have h2 := Nat.mul_le_mul_right (prL l) (h x (by simp))
  rw [prL, List.length_cons]; omega
theorem fc_len {n : Nat} (hn : 1 ≤ n) : (fcL 2 n).length < n := by
 have := prL_len (l := fcL 2 n) (fun x hx => ((ps_fc hn).pr x hx).1.1)
 rwa [(ps_fc hn).mul] at this
def exN (m p : Nat) : Nat := if h : 2 ≤ p ∧ 1 ≤ m ∧ m % p = 0 then exN (m / p) p + 1 else 0
termination_by m
decreasing_by exact Nat.div_lt_self (by omega) (by omega)
theorem ex_yes {m p : Nat} (h1 : 2 ≤ p) (h2 : 1 ≤ m) (h3 : m % p = 0) : exN m p = exN (m / p) p + 1 := by rw [exN, dif_pos ⟨h1, h2, h3⟩]
theorem ex_no {m p : Nat} (h3 : m % p ≠ 0) : exN m p = 0 := by rw [exN, dif_neg (by omega)]
theorem ex_spec {p : Nat} (hp : 2 ≤ p) : ∀ m, 1 ≤ m → ∃ k, m = p ^ exN m p * k ∧ ¬ p ∣ k := by
 intro m
 induction m using Nat.strongRecOn with
 | ind m ih =>
  intro hm
  by_cases h : m % p = 0
  ·have hd : m = p * (m / p) := by have := Nat.div_add_mod m p; omega
   have hlt : m / p < m := Nat.div_lt_self (by omega) (by omega)
   have hpos : 1 ≤ m / p := by
    rcases Nat.eq_zero_or_pos (m / p) with z | z
    ·rw [z] at hd; omega
    ·exact z
   obtain ⟨k, hk, hk2⟩ := ih _ hlt hpos
   refine ⟨k, ?_, hk2⟩
   rw [ex_yes hp hm h, Nat.pow_succ, Nat.mul_comm (p ^ _) p, Nat.mul_assoc, ← hk]; exact hd
  ·exact ⟨m, by rw [ex_no h]; simp, fun c => h (Nat.mod_eq_zero_of_dvd c)⟩
theorem ex_pow {p : Nat} (hp : 2 ≤ p) : ∀ j, exN (p ^ j) p = j
 | 0 => ex_no (by rw [Nat.pow_zero, Nat.mod_eq_of_lt (by omega)]; omega)
 | j + 1 => by
  rw [ex_yes hp (Nat.pow_pos (by omega)) (by rw [Nat.pow_succ]; exact Nat.mul_mod_left _ _), Nat.pow_succ, Nat.mul_div_cancel _ (by omega), ex_pow hp j]
def mulF (p : Nat) : Nat → List Nat → List Nat
 | 0, l => l
 | r + 1, [] => p :: mulF p r []
 | r + 1, x :: l => (x * p) :: mulF p r l
theorem mulF_first (p : Nat) (r : Nat) (l : List Nat) : (mulF p r l).getD 0 1 = (if 1 ≤ r then p else 1) * l.getD 0 1 := by
 cases r with
 | zero => simp [mulF]
 | succ r =>
  cases l with
  | nil => simp [mulF]
  | cons x l => simp [mulF, Nat.mul_comm]
def cntI (os : List Int) (q : Int) : Nat := (os.filter (fun o => q % o == 0)).length
def cK (os : List Int) (p k : Nat) : Nat := if k = 0 then 1 else cntI os ((p ^ k : Nat) : Int)
def rnd (os : List Int) (p : Nat) (l : List Nat) : Nat → List Nat
 | 0 => l
 | k + 1 => mulF p (exN (cK os p (k + 1) / cK os p k) p) (rnd os p l k)
def fsP (os : List Int) : List Nat → List Nat → List Nat
 | [], l => l
 | p :: ps, l => fsP os ps (rnd os p l (exN os.length p))
def fsK (os : List Int) (ps : List Nat) (k : Nat) : List Nat := fsP os (ps.take k) []
def fsL (os : List Int) : List Nat := fsK os (psL os.length) (psL os.length).length
structure OsOk {G : Type} [DecidableEq G] (g : Fab G) (os : List Int) : Prop where
 len : os.length = g.els.length
 pos : ∀ o ∈ os, 1 ≤ o
 cnt : ∀ q : Nat, 1 ≤ q → cntI os (q : Int) = (g.tor q).length
 lcm : ∀ T : Nat, (∀ o ∈ os, o ∣ (T : Int)) ↔ ∀ x, g.pw x T = g.one
 exp : ∃ E, 1 ≤ E ∧ ∀ x, g.pw x E = g.one
namespace OsOk
variable {G : Type} [DecidableEq G] {g : Fab G} {os : List Int} (h : OsOk g os)
theorem pos1 (h : OsOk g os) : 1 ≤ os.length := by rw [h.len]; exact List.length_pos_of_mem (g.all g.one)
theorem ck (h : OsOk g os) {p : Nat} (hp : 2 ≤ p) (k : Nat) : cK os p k = g.ct p k := by
 unfold cK
 split
 ·rename_i e; rw [e, g.ct_zero]
 ·exact h.cnt _ (Nat.pow_pos (by omega))
theorem ck_pp (h : OsOk g os) {p : Nat} (hp : Pr p) (k : Nat) : ∃ i, cK os p k = p ^ i := by
 rw [h.ck hp.1]; exact g.tor_pp hp k
theorem ck_mono (h : OsOk g os) {p : Nat} (hp : Pr p) (k : Nat) : cK os p k ≤ cK os p (k + 1) := by
 rw [h.ck hp.1, h.ck hp.1]; exact g.ct_mono p k
theorem parts (h : OsOk g os) {p : Nat} (hp : Pr p) (k : Nat) : (1 ≤ exN (cK os p (k + 1) / cK os p k) p ↔ cK os p k < cK os p (k + 1)) ∧ 1 ≤ cK os p k ∧ 1 ≤ cK os p (k + 1) / cK os p k := by
 obtain ⟨i, hi⟩ := h.ck_pp hp k
 obtain ⟨j, hj⟩ := h.ck_pp hp (k + 1)
 have hm := h.ck_mono hp k
 rw [hi, hj] at hm ⊢
 have hij : i ≤ j := (Nat.pow_le_pow_iff_right hp.1).1 hm
 have hp0 : 0 < p := by have := hp.1; omega
 rw [Nat.pow_div hij hp0, ex_pow hp.1]
 refine ⟨⟨fun q => (Nat.pow_lt_pow_iff_right hp.1).2 (by omega), fun q => ?_⟩, Nat.pow_pos hp0, Nat.pow_pos hp0⟩
 have := (Nat.pow_lt_pow_iff_right hp.1).1 q
 omega
theorem rnd_first (h : OsOk g os) {p : Nat} (hp : Pr p) (l : List Nat) : ∀ k, (rnd os p l k).getD 0 1 = p ^ g.rk p k * l.getD 0 1
 | 0 => by simp [rnd, Fab.rk]
 | k + 1 => by
  rw [rnd, mulF_first, rnd_first h hp l k, Fab.rk]
  have e := (h.parts hp k).1
  rw [h.ck hp.1, h.ck hp.1] at e
  rw [h.ck hp.1, h.ck hp.1]
  by_cases q : g.ct p k < g.ct p (k + 1)
  ·rw [if_pos (e.2 q), if_pos q, Nat.pow_add, Nat.pow_one, ← Nat.mul_assoc, Nat.mul_comm p]
  ·rw [if_neg (fun c => q (e.1 c)), if_neg q, Nat.one_mul]; rfl
theorem fsP_first (h : OsOk g os) : ∀ {ps : List Nat} (l : List Nat), (∀ p ∈ ps, Pr p) → (fsP os ps l).getD 0 1 = Fab.prd (fun p => p ^ g.rk p (exN os.length p)) ps * l.getD 0 1
 | [], l, _ => by simp [fsP, Fab.prd]
 | p :: ps, l, hp => by
  rw [fsP, fsP_first h _ (fun x hx => hp x (by simp [hx])), h.rnd_first (hp p (by simp)), Fab.prd, ← Nat.mul_assoc, Nat.mul_comm (Fab.prd _ _)]
theorem greatest (h : OsOk g os) (T : Nat) : (∀ o ∈ os, o ∣ (T : Int)) ↔ (fsL os).getD 0 1 ∣ T := by
 obtain ⟨p1, p2, p3, p4⟩ := ps_ok h.pos1
 obtain ⟨E, hE, hx⟩ := h.exp
 have e : (fsL os).getD 0 1 = Fab.prd (fun p => p ^ g.rk p (exN os.length p)) (psL os.length) := by
  unfold fsL fsK
  rw [List.take_length, h.fsP_first [] p2]; simp
 rw [e, h.lcm T]
 refine g.expo hE hx p1 p2 (fun q h1 h2 => p4 q h1 (by rw [h.len]; exact h2)) (fun p hp => ?_) T
 obtain ⟨m, hm⟩ := ex_spec (p2 p hp).1 os.length h.pos1
 exact ⟨m, by rw [← h.len]; exact hm.1, hm.2⟩
end OsOk

end Go.Proofs.Ytaeabefbohlcpaa
