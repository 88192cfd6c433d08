/- Plain facts of uniting two forms. Plain: forms as triples: reduced form, composite, powers as functions of triples. -/
import Derived.Test.YtaeabefbohlcpaaCps
namespace Go.Proofs.Ytaeabefbohlcpaa
open Go.RowKit
set_option linter.unusedVariables false
set_option linter.unusedSimpArgs false

theorem par_of {a b c e B C : Int} (h : discI e B C = discI a b c) : 2 ∣ B - b := by
 unfold discI at h
 have e1 : 4 * e * C = 4 * (e * C) := Int.mul_assoc _ _ _
 have e2 : 4 * a * c = 4 * (a * c) := Int.mul_assoc _ _ _
 have h2 : (B * B) % 2 = (b * b) % 2 := by omega
 rw [Int.mul_emod, Int.mul_emod b b] at h2
 rcases Int.emod_two_eq B with hB | hB <;> rcases Int.emod_two_eq b with hb | hb <;> rw [hB, hb] at h2 <;> omega
noncomputable def uT (a b e B : Int) : Int := cmT (b % (2 * a)) a B e
noncomputable def uS (a b c e B : Int) : Int := (uT a b e B * uT a b e B - discI a b c) / (4 * a * e)
structure UniF (a b c p q r : Int) (x y : Nat) (e B C t s : Int) : Prop where
 a0 : 1 ≤ a
 a1 : a ≤ 26
 b0 : -26 ≤ b ∧ b ≤ 26
 e0 : 1 ≤ e
 e1 : e ≤ 20000
 B0 : 0 ≤ B
 B1 : B < 2 * e
 g1 : Int.gcd e a = 1
 par : 2 ∣ B - b % (2 * a)
 t0 : 0 ≤ t
 t1 : t < 2 * a * e
 ae : 0 < a * e ∧ a * e ≤ 520000
 ta : 2 * a ∣ t - b
 te : 2 * e ∣ t - B
 uni : ∀ z, 0 ≤ z → z ≤ t → 2 * a ∣ z - b → 2 * e ∣ z - B → z = t
 tt : 0 ≤ t * t ∧ t * t ≤ 1081600000000
 ss : (t * t - discI a b c).tdiv (4 * a * e) = s
 s0 : 0 < s
 s1 : s ≤ 100000000
 isu : IsU a b c p q r e t s
theorem uni_facts {a b c p q r : Int} {k x y : Nat} (h : RedC a b c) (h' : RedC p q r) (hD : discI p q r = discI a b c) (hf : IsFirst p q r a k x y) :
  (x ≤ 5 ∧ y ≤ 5 ∧ Int.gcd x y = 1) ∧ UniF a b c p q r x y (cpE p q r x y) (cpB p q r x y) (cpC p q r x y) (uT a b (cpE p q r x y) (cpB p q r x y)) (uS a b c (cpE p q r x y) (cpB p q r x y)) := by
 obtain ⟨s1, s2, s3, s4⟩ := red_small h.cls.ok h.red
 have a0 := h.cls.ok.a0
 have hk := first_le (by omega) (by omega) h'.cls.pr hf
 obtain ⟨f1, f2, f3⟩ := hit_facts hf.hit
 have hx : x ≤ 5 := by omega
 have hy : y ≤ 5 := by omega
 refine ⟨⟨hx, hy, f2⟩, ?_⟩
 have hF := cpl_facts h' hx hy f2
 have hcb := hF.cb
 have hE : cpE p q r x y = valI p q r x y := rfl
 have hS : uS a b c (cpE p q r x y) (cpB p q r x y) = (uT a b (cpE p q r x y) (cpB p q r x y) * uT a b (cpE p q r x y) (cpB p q r x y) - discI a b c) / (4 * a * cpE p q r x y) := rfl
 have hT : uT a b (cpE p q r x y) (cpB p q r x y) = cmT (b % (2 * a)) a (cpB p q r x y) (cpE p q r x y) := rfl
 have f4 : Int.gcd (cpE p q r x y) a = 1 := f3
 have e0 := hF.e0
 have e1 := hF.e1
 have B0 := hF.B0
 have B1 := hF.B1
 have dd := hF.dd
 have mk : ∀ t s, IsUB a b (cpE p q r x y) (cpB p q r x y) t → s = (t * t - discI a b c) / (4 * a * cpE p q r x y) → IsU a b c p q r (cpE p q r x y) t s := fun t s h1 h2 => ⟨k, x, y, cpB p q r x y, hf, rfl, hcb, h1, h2⟩
 clear hF hcb hE f1 f3
 generalize uS a b c (cpE p q r x y) (cpB p q r x y) = s at *
 generalize uT a b (cpE p q r x y) (cpB p q r x y) = t at *
 generalize cpE p q r x y = e at *
 generalize cpB p q r x y = B at *
 generalize cpC p q r x y = C at *
 have g0 := Int.emod_add_mul_ediv b (2 * a)
 have par : 2 ∣ B - b % (2 * a) := by
  obtain ⟨z, hz⟩ := par_of (dd.trans hD)
  have e2 : 2 * a * (b / (2 * a)) = 2 * (a * (b / (2 * a))) := Int.mul_assoc _ _ _
  exact ⟨z + a * (b / (2 * a)), by omega⟩
 obtain ⟨t0, t1, t2, t3⟩ := cm_facts (a0 := b % (2 * a)) (p := a) (b0 := B) (q := e) (by omega) e0 f4 par
 rw [← hT] at t0 t1 t2 t3
 have t2' : 2 * a ∣ t - b := by
  obtain ⟨z, hz⟩ := t2
  exact ⟨z - b / (2 * a), by rw [Int.mul_sub, ← hz]; omega⟩
 have hub : IsUB a b e B t := ⟨t0, t1, t2', t3⟩
 have g2 : Int.gcd a e = 1 := by rw [Int.gcd_comm]; exact f4
 have hu := mk t s hub hS
 obtain ⟨_, _, _, _, _, hc, hdd, _, _⟩ := hu.facts h h' hD
 obtain ⟨s', w1, w2, w3⟩ := ub_form a0 (by omega) g2 (dd.trans hD) hub
 rw [← w2] at hS
 subst hS
 have n0 := Int.mul_pos a0 (show 0 < e by omega)
 have n1 : a * e ≤ 26 * 20000 := Int.mul_le_mul s1 e1 (by omega) (by omega)
 have e2 : 2 * a * e = 2 * (a * e) := Int.mul_assoc _ _ _
 have tt0 : 0 ≤ t * t := Int.mul_nonneg t0 t0
 have tt1 : t * t ≤ 1040000 * 1040000 := Int.mul_le_mul (by omega) (by omega) t0 (by omega)
 have e4 : 4 * a * e = 4 * (a * e) := Int.mul_assoc _ _ _
 refine ⟨by omega, s1, ⟨s2, s3⟩, e0, e1, B0, B1, f4, par, t0, t1, ⟨n0, by omega⟩, t2', t3, ?_, ⟨tt0, by omega⟩, ?_, hc.ok.c0, hc.ok.c1, hu⟩
 ·intro z z0 z1 z2 z3
  exact ub_same a0 (by omega) g2 ⟨z0, by omega, z2, z3⟩ hub
 ·have : t * t - discI a b c = 4 * a * e * s := by
   unfold discI at w1 ⊢
   have e5 : 4 * (a * e) * s = 4 * a * e * s := by rw [e4]
   omega
  rw [this, Int.mul_tdiv_cancel_left _ (by omega)]
theorem least {P : Nat → Prop} (h : ∃ n, P n) : ∃ n, P n ∧ ∀ m, m < n → ¬ P m := by
 obtain ⟨n, hn⟩ := h
 induction n using Nat.strongRecOn with
 | _ n ih =>
  by_cases q : ∃ m, m < n ∧ P m
  ·obtain ⟨m, h1, h2⟩ := q
   exact ih m h1 h2
  ·exact ⟨n, hn, fun m h1 h2 => q ⟨m, h1, h2⟩⟩
theorem fp_ex {a b c m : Int} (hm : 1 ≤ m) (hm2 : m ≤ 30) (hp : Prim a b c) : ∃ k, IsFirst a b c m k (fpP a b c m).1 (fpP a b c m).2 := by
 obtain ⟨x', y', h1, h2, h3⟩ := exists_hit hm hm2 (gcd_prim (m := m) hp)
 obtain ⟨k, ⟨x1, y1, hx1, hy1, hh⟩, hk⟩ := least (P := fun k => ∃ x y, x ≤ k ∧ y ≤ k ∧ hitB a b c m k x y = true) ⟨max x' y', x', y', by omega, by omega, h3⟩
 obtain ⟨x, ⟨y2, hy2, hh2⟩, hx⟩ := least (P := fun x => ∃ y, y ≤ k ∧ hitB a b c m k x y = true) ⟨x1, y1, hy1, hh⟩
 obtain ⟨y, hh3, hy⟩ := least (P := fun y => hitB a b c m k x y = true) ⟨y2, hh2⟩
 have hmx := (hit_facts hh3).1
 have nf : ∀ b : Bool, ¬ b = true → b = false := fun b h => by cases b <;> simp at h ⊢
 have hf : IsFirst a b c m k x y := ⟨hh3, by omega, by omega, fun k' h' x' y' hx' hy' => nf _ (fun q => hk k' h' ⟨x', y', hx', hy', q⟩), fun x' h' y' hy' => nf _ (fun q => hx x' h' ⟨y', hy', q⟩), fun y' h' => nf _ (hy y' h')⟩
 obtain ⟨e1, e2⟩ := fp_of hf
 unfold fpX at e1
 unfold fpY at e2
 have e3 : (fpP a b c m).1 = x := by omega
 have e4 : (fpP a b c m).2 = y := by omega
 rw [e3, e4]
 exact ⟨k, hf⟩
theorem fp_eq {a b c m : Int} {k x y : Nat} (h : IsFirst a b c m k x y) : (fpP a b c m).1 = x ∧ (fpP a b c m).2 = y := by
 obtain ⟨e1, e2⟩ := fp_of h
 unfold fpX at e1
 unfold fpY at e2
 exact ⟨by omega, by omega⟩
def uV0 (a e t s m1 M1 M2 M3 M4 : Int) : Value := .agg #[.int .i64 a, .int .i64 e, .int .i64 t, .int .i64 s, .int .i64 1, .int .i64 m1, .int .i64 0, .int .i64 1, .int .i64 M1, .int .i64 M2, .int .i64 M3, .int .i64 M4]
noncomputable def uV1 (a b c p q r : Int) (x y : Nat) (e B t s : Int) : Value :=
 uV0 a e t s ((t - b).tdiv (2 * a)) (mmP x (cpQ p q r x y) y (cpS p q r x y) 1 ((t - B).tdiv (2 * e)) 0 1) (mmQ x (cpQ p q r x y) y (cpS p q r x y) 1 ((t - B).tdiv (2 * e)) 0 1) (mmR x (cpQ p q r x y) y (cpS p q r x y) 1 ((t - B).tdiv (2 * e)) 0 1) (mmS x (cpQ p q r x y) y (cpS p q r x y) 1 ((t - B).tdiv (2 * e)) 0 1)
noncomputable def uV (a b c p q r : Int) (x y : Nat) : Value :=
 uV1 a b c p q r x y (cpE p q r x y) (cpB p q r x y) (uT a b (cpE p q r x y) (cpB p q r x y)) (uS a b c (cpE p q r x y) (cpB p q r x y))
end Go.Proofs.Ytaeabefbohlcpaa
namespace Go.Proofs.Ytaeabefbohlcpaa
open Go.RowKit
set_option linter.unusedVariables false
set_option linter.unusedSimpArgs false

abbrev T3 := Int × Int × Int
abbrev frm (F : T3) : Value := .agg #[.int .i64 F.1, .int .i64 F.2.1, .int .i64 F.2.2]
def rdT (F : T3) : T3 := redF F.1 F.2.1 F.2.2
def dT (F : T3) : Int := discI F.1 F.2.1 F.2.2
def ClT (F : T3) : Prop := Cls F.1 F.2.1 F.2.2
def RcT (F : T3) : Prop := RedC F.1 F.2.1 F.2.2
theorem RcT.cl {F : T3} (h : RcT F) : ClT F := h.cls
theorem rd_rc {F : T3} (h : ClT F) : RcT (rdT F) := (rdr_of h).rc
theorem rd_cl {F : T3} (h : ClT F) : ClT (rdT F) := (rd_rc h).cl
theorem rd_d {F : T3} (h : ClT F) : dT (rdT F) = dT F := (rdr_of h).dd
theorem rd_same {F : T3} (h : RcT F) : rdT F = F := h.same
theorem rd_rd {F : T3} (h : ClT F) : rdT (rdT F) = rdT F := rd_same (rd_rc h)
theorem rdr_T {F : T3} (h : ClT F) : RdR F.1 F.2.1 F.2.2 (rdT F).1 (rdT F).2.1 (rdT F).2.2 := rdr_of h
theorem cpr_ex {F G : T3} (h1 : ClT F) (h2 : ClT G) (hd : dT G = dT F) : CpR F.1 F.2.1 F.2.2 G.1 G.2.1 G.2.2 (cmp F G).1 (cmp F G).2.1 (cmp F G).2.2 := by
 have r1 := rdr_of h1
 have r2 := rdr_of h2
 have k1 : RedC (redF F.1 F.2.1 F.2.2).1 (redF F.1 F.2.1 F.2.2).2.1 (redF F.1 F.2.1 F.2.2).2.2 := r1.rc
 have k2 : RedC (redF G.1 G.2.1 G.2.2).1 (redF G.1 G.2.1 G.2.2).2.1 (redF G.1 G.2.1 G.2.2).2.2 := r2.rc
 have hD := r2.dd.trans ((show discI G.1 G.2.1 G.2.2 = discI F.1 F.2.1 F.2.2 from hd).trans r1.dd.symm)
 have hs := red_small k1.cls.ok k1.red
 have ha := k1.cls.ok.a0
 obtain ⟨kk, hf⟩ := fp_ex (m := (redF F.1 F.2.1 F.2.2).1) (by omega) (by omega) k2.cls.pr
 obtain ⟨_, hU⟩ := uni_facts k1 k2 hD hf
 have hI := hU.isu
 obtain ⟨_, _, _, _, _, hcl, hdd3, _, _⟩ := hI.facts k1 k2 hD
 have r3 := rdr_of hcl
 have hc : CpR F.1 F.2.1 F.2.2 G.1 G.2.1 G.2.2 _ _ _ := ⟨_, _, _, _, _, _, _, _, _, r1, r2, hd, hI, r3⟩
 have e := cmp_of hc
 have e2 : cmp F G = _ := e
 rw [e2]
 exact hc
theorem cp_rc {F G : T3} (h1 : ClT F) (h2 : ClT G) (hd : dT G = dT F) : RcT (cmp F G) := (cpr_ex h1 h2 hd).rc
theorem cp_cl {F G : T3} (h1 : ClT F) (h2 : ClT G) (hd : dT G = dT F) : ClT (cmp F G) := (cp_rc h1 h2 hd).cl
theorem cp_d {F G : T3} (h1 : ClT F) (h2 : ClT G) (hd : dT G = dT F) : dT (cmp F G) = dT F := (cpr_ex h1 h2 hd).dd
theorem cp_of {F G : T3} {u v k : Int} (h : CpR F.1 F.2.1 F.2.2 G.1 G.2.1 G.2.2 u v k) : cmp F G = (u, v, k) := cmp_of h
theorem cp_rd {F G : T3} (h1 : ClT F) (h2 : ClT G) (hd : dT G = dT F) : cmp (rdT F) (rdT G) = cmp F G := by
 obtain ⟨p, q, r, p', q', r', e, t, s, r1, r2, _, hI, r3⟩ := cpr_ex h1 h2 hd
 obtain ⟨rfl, rfl, rfl⟩ := r1.same (rdr_T h1)
 obtain ⟨rfl, rfl, rfl⟩ := r2.same (rdr_T h2)
 have s1 : RdR (rdT F).1 (rdT F).2.1 (rdT F).2.2 (rdT F).1 (rdT F).2.1 (rdT F).2.2 := rdr_self (rd_rc h1)
 have s2 : RdR (rdT G).1 (rdT G).2.1 (rdT G).2.2 (rdT G).1 (rdT G).2.1 (rdT G).2.2 := rdr_self (rd_rc h2)
 have hd2 : discI (rdT G).1 (rdT G).2.1 (rdT G).2.2 = discI (rdT F).1 (rdT F).2.1 (rdT F).2.2 := (rd_d h2).trans (hd.trans (rd_d h1).symm)
 have hc : CpR (rdT F).1 (rdT F).2.1 (rdT F).2.2 (rdT G).1 (rdT G).2.1 (rdT G).2.2 _ _ _ := ⟨_, _, _, _, _, _, _, _, _, s1, s2, hd2, hI, r3⟩
 exact cp_of hc
theorem cp_rd1 {F G : T3} (h1 : ClT F) (h2 : ClT G) (hd : dT G = dT F) : cmp (rdT F) G = cmp F G := by
 have h3 := rd_cl h1
 have e := cp_rd h3 h2 (hd.trans (rd_d h1).symm)
 rw [rd_rd h1] at e
 rw [← e, cp_rd h1 h2 hd]
structure InD (D : Int) (F : T3) : Prop where
 cl : ClT F
 d : dT F = D
theorem InD.rd {D : Int} {F : T3} (h : InD D F) : InD D (rdT F) := ⟨rd_cl h.cl, (rd_d h.cl).trans h.d⟩
theorem InD.cp {D : Int} {F G : T3} (h : InD D F) (h2 : InD D G) : InD D (cmp F G) := ⟨cp_cl h.cl h2.cl (h2.d.trans h.d.symm), (cp_d h.cl h2.cl (h2.d.trans h.d.symm)).trans h.d⟩
theorem InD.rc {D : Int} {F G : T3} (h : InD D F) (h2 : InD D G) : RcT (cmp F G) := cp_rc h.cl h2.cl (h2.d.trans h.d.symm)
def onT (D : Int) : T3 := (1, D % 2, (D % 2 - D) / 4)
noncomputable def pwL (p f : T3) (k : Nat) : T3 := if h : k = 0 then p else pwL (if k % 2 = 1 then cmp p f else p) (cmp f f) (k / 2)
termination_by k
decreasing_by omega
theorem pwL_in {D : Int} (k : Nat) : ∀ {p f : T3}, InD D p → InD D f → InD D (pwL p f k) := by
 induction k using Nat.strongRecOn with
 | _ k ih =>
  intro p f hp hf
  rw [pwL]
  split
  ·exact hp
  ·refine ih (k / 2) (by omega) ?_ (hf.cp hf)
   split
   ·exact hp.cp hf
   ·exact hp
theorem pwL_rc {D : Int} (k : Nat) : ∀ {p f : T3}, InD D p → InD D f → RcT p → RcT (pwL p f k) := by
 induction k using Nat.strongRecOn with
 | _ k ih =>
  intro p f hp hf hr
  rw [pwL]
  split
  ·exact hr
  ·refine ih (k / 2) (by omega) ?_ (hf.cp hf) ?_
   ·split
    ·exact hp.cp hf
    ·exact hp
   ·split
    ·exact hp.rc hf
    ·exact hr
theorem on_facts {D : Int} (h0 : -2000 ≤ D) (h1 : D < 0) (h4 : 4 ∣ D % 2 - D) : InD D (onT D) ∧ RcT (onT D) := by
 obtain ⟨k, hk⟩ := h4
 have e : (D % 2 - D) / 4 = k := by omega
 have hd : discI 1 (D % 2) k = D := by
  unfold discI
  rcases Int.emod_two_eq D with q | q <;> rw [q] at hk ⊢ <;> omega
 have hc : Cls 1 (D % 2) k := ⟨⟨by omega, by omega, by omega, by omega, by omega, by omega, by rw [hd]; omega, by rw [hd]; omega⟩, fun d h1 _ _ => h1⟩
 have hon : onT D = (1, D % 2, k) := by unfold onT; rw [e]
 rw [hon]
 refine ⟨⟨hc, hd⟩, hc, ?_⟩
 rcases Int.emod_two_eq D with q | q <;> rw [q] at hk ⊢ <;> simp [redB, normB] <;> omega
theorem disc_par (a b c : Int) : 4 ∣ discI a b c % 2 - discI a b c := by
 unfold discI
 have e : 4 * a * c = 4 * (a * c) := Int.mul_assoc _ _ _
 rw [e]
 generalize a * c = n
 rcases Int.emod_two_eq b with q | q
 ·obtain ⟨k, rfl⟩ : ∃ k, b = 2 * k := ⟨b / 2, by omega⟩
  have : 2 * k * (2 * k) = 4 * (k * k) := by grind
  rw [this]; generalize k * k = m; omega
 ·obtain ⟨k, rfl⟩ : ∃ k, b = 2 * k + 1 := ⟨b / 2, by omega⟩
  have : (2 * k + 1) * (2 * k + 1) = 4 * (k * k + k) + 1 := by grind
  rw [this]; generalize k * k + k = m; omega
theorem one_in {F : T3} (h : ClT F) : InD (dT F) (onT (dT F)) ∧ RcT (onT (dT F)) := by
 refine on_facts ?_ ?_ (disc_par _ _ _)
 ·have := h.ok.d0; unfold dT; omega
 ·have := h.ok.d1; unfold dT; omega
end Go.Proofs.Ytaeabefbohlcpaa
