/- Plain: the reduced forms of a discriminant. Plain: forms as triples: reduced form, composite, powers as functions of triples. -/
import Derived.Test.YtaeabefbohlcpaaPrim
import Derived.Test.YtaeabefbohlcpaaRedF
import Derived.Test.YtaeabefbohlcpaaCmpI
namespace Go.Proofs.Ytaeabefbohlcpaa
open Go.RowKit
set_option linter.unusedVariables false
set_option linter.unusedSimpArgs false
attribute [local go_sem] q2 q3 q4 q5 q6 q7 q8 q9 q10 q11 q12
theorem flN_in {α : Type} {p : Nat → Bool} {e : Nat → α} {j : Nat} (hp : p j = true) : ∀ {k : Nat}, j < k → e j ∈ flN p e k
 | 0, h => by omega
 | k + 1, h => by
  rw [flN]
  by_cases q : j = k
  ·subst q; rw [if_pos hp]; simp
  ·have := flN_in (p := p) (e := e) hp (k := k) (by omega)
   split
   ·rw [List.mem_append]; exact .inl this
   ·exact this
theorem allB3_in {d : Int} {a j : Nat} (hj : j < 2 * a) (hp : rowP d a j = true) : ∀ {n : Nat}, a < n → rowE d a j ∈ allB3 d n
 | 0, h => by omega
 | n + 1, h => by
  rw [allB3_succ, List.mem_append]
  by_cases q : a = n
  ·subst q; exact .inr (flN_in (p := rowP d a) (e := rowE d a) hp hj)
  ·exact .inl (allB3_in hj hp (by omega))
theorem allB3_of {d : Int} {f : Int × Int × Int} : ∀ a, f ∈ allB3 d a → ∃ (a' j : Nat), 1 ≤ a' ∧ a' < a ∧ rowP d a' j = true ∧ f = rowE d a' j
 | 0, h => by cases h
 | a + 1, h => by
  rw [allB3_succ, List.mem_append] at h
  rcases h with h | h
  ·obtain ⟨a', j, h1, h2, h3⟩ := allB3_of a h
   exact ⟨a', j, h1, by omega, h3⟩
  ·obtain ⟨j, h1, h2, h3⟩ := flN_mem h
   exact ⟨a, j, by omega, by omega, h2, h3⟩
structure RfOk (d x y z : Int) : Prop where
 cls : classB x y z = true
 red : redB x y z = true
 disc : discI x y z = d
theorem rf_ok {d : Int} (hd : negB d = true) {f : Int × Int × Int} (hf : f ∈ rfL d) : RfOk d f.1 f.2.1 f.2.2 := by
 obtain ⟨d0, d1⟩ := neg_true hd
 obtain ⟨i, h1, h2, h3⟩ := flN_mem hf
 have hm : f ∈ allR d := by
  rw [h3, List.getD_eq_getElem?_getD, List.getElem?_eq_getElem h1]; exact List.getElem_mem h1
 have hform := allR_form d0 d1 f hm
 have hc : contI f.1 f.2.1 f.2.2 = 1 := by
  have h4 : primI ((allR d).getD i (0, 0, 0)) = true := h2
  have h5 : f = (allR d).getD i (0, 0, 0) := h3
  rw [← h5] at h4
  unfold primI at h4
  simpa using h4
 obtain ⟨a, j, ha, _, hp, he⟩ := allB3_of _ hm
 unfold rowP at hp
 rw [Bool.and_eq_true] at hp
 have hD : discI f.1 f.2.1 f.2.2 = d := by
  have := disc_of (d := d) (b := 1 - (a : Int) + j) ha
  rw [hp.1] at this
  rw [he]
  simpa [rowE] using this
 have hr : redB f.1 f.2.1 f.2.2 = true := by rw [he]; exact hp.2
 refine ⟨?_, hr, hD⟩
 unfold classB shownB defB
 rw [hform, hD, hc]
 have : 0 < f.1 := by rw [he]; show (0 : Int) < (a : Int); omega
 simp [this]; omega
end Go.Proofs.Ytaeabefbohlcpaa
namespace Go.Proofs.Ytaeabefbohlcpaa
open Go.RowKit
set_option linter.unusedVariables false
set_option linter.unusedSimpArgs false

abbrev T3 := Int × Int × Int
def rdT (F : T3) : T3 := redF F.1 F.2.1 F.2.2
def dT (F : T3) : Int := discI F.1 F.2.1 F.2.2
def ClT (F : T3) : Prop := Cls F.1 F.2.1 F.2.2
def RcT (F : T3) : Prop := RedC F.1 F.2.1 F.2.2
theorem RcT.cl {F : T3} (h : RcT F) : ClT F := h.cls
theorem rd_rc {F : T3} (h : ClT F) : RcT (rdT F) := (rdr_of h).rc
theorem rd_cl {F : T3} (h : ClT F) : ClT (rdT F) := (rd_rc h).cl
theorem rd_d {F : T3} (h : ClT F) : dT (rdT F) = dT F := (rdr_of h).dd
theorem rd_same {F : T3} (h : RcT F) : rdT F = F := h.same
theorem rd_rd {F : T3} (h : ClT F) : rdT (rdT F) = rdT F := rd_same (rd_rc h)
theorem rdr_T {F : T3} (h : ClT F) : RdR F.1 F.2.1 F.2.2 (rdT F).1 (rdT F).2.1 (rdT F).2.2 := rdr_of h
theorem cpr_ex {F G : T3} (h1 : ClT F) (h2 : ClT G) (hd : dT G = dT F) : CpR F.1 F.2.1 F.2.2 G.1 G.2.1 G.2.2 (cmp F G).1 (cmp F G).2.1 (cmp F G).2.2 := by
 have r1 := rdr_of h1
 have r2 := rdr_of h2
 have k1 : RedC (redF F.1 F.2.1 F.2.2).1 (redF F.1 F.2.1 F.2.2).2.1 (redF F.1 F.2.1 F.2.2).2.2 := r1.rc
 have k2 : RedC (redF G.1 G.2.1 G.2.2).1 (redF G.1 G.2.1 G.2.2).2.1 (redF G.1 G.2.1 G.2.2).2.2 := r2.rc
 have hD := r2.dd.trans ((show discI G.1 G.2.1 G.2.2 = discI F.1 F.2.1 F.2.2 from hd).trans r1.dd.symm)
 have hs := red_small k1.cls.ok k1.red
 have ha := k1.cls.ok.a0
 obtain ⟨kk, hf⟩ := fp_ex (m := (redF F.1 F.2.1 F.2.2).1) (by omega) (by omega) k2.cls.pr
 obtain ⟨_, hU⟩ := uni_facts k1 k2 hD hf
 have hI := hU.isu
 obtain ⟨_, _, _, _, _, hcl, hdd3, _, _⟩ := hI.facts k1 k2 hD
 have r3 := rdr_of hcl
 have hc : CpR F.1 F.2.1 F.2.2 G.1 G.2.1 G.2.2 _ _ _ := ⟨_, _, _, _, _, _, _, _, _, r1, r2, hd, hI, r3⟩
 have e := cmp_of hc
 have e2 : cmp F G = _ := e
 rw [e2]
 exact hc
theorem cp_rc {F G : T3} (h1 : ClT F) (h2 : ClT G) (hd : dT G = dT F) : RcT (cmp F G) := (cpr_ex h1 h2 hd).rc
theorem cp_cl {F G : T3} (h1 : ClT F) (h2 : ClT G) (hd : dT G = dT F) : ClT (cmp F G) := (cp_rc h1 h2 hd).cl
theorem cp_d {F G : T3} (h1 : ClT F) (h2 : ClT G) (hd : dT G = dT F) : dT (cmp F G) = dT F := (cpr_ex h1 h2 hd).dd
theorem cp_of {F G : T3} {u v k : Int} (h : CpR F.1 F.2.1 F.2.2 G.1 G.2.1 G.2.2 u v k) : cmp F G = (u, v, k) := cmp_of h
theorem cp_rd {F G : T3} (h1 : ClT F) (h2 : ClT G) (hd : dT G = dT F) : cmp (rdT F) (rdT G) = cmp F G := by
 obtain ⟨p, q, r, p', q', r', e, t, s, r1, r2, _, hI, r3⟩ := cpr_ex h1 h2 hd
 obtain ⟨rfl, rfl, rfl⟩ := r1.same (rdr_T h1)
 obtain ⟨rfl, rfl, rfl⟩ := r2.same (rdr_T h2)
 have s1 : RdR (rdT F).1 (rdT F).2.1 (rdT F).2.2 (rdT F).1 (rdT F).2.1 (rdT F).2.2 := rdr_self (rd_rc h1)
 have s2 : RdR (rdT G).1 (rdT G).2.1 (rdT G).2.2 (rdT G).1 (rdT G).2.1 (rdT G).2.2 := rdr_self (rd_rc h2)
 have hd2 : discI (rdT G).1 (rdT G).2.1 (rdT G).2.2 = discI (rdT F).1 (rdT F).2.1 (rdT F).2.2 := (rd_d h2).trans (hd.trans (rd_d h1).symm)
 have hc : CpR (rdT F).1 (rdT F).2.1 (rdT F).2.2 (rdT G).1 (rdT G).2.1 (rdT G).2.2 _ _ _ := ⟨_, _, _, _, _, _, _, _, _, s1, s2, hd2, hI, r3⟩
 exact cp_of hc
theorem cp_rd1 {F G : T3} (h1 : ClT F) (h2 : ClT G) (hd : dT G = dT F) : cmp (rdT F) G = cmp F G := by
 have h3 := rd_cl h1
 have e := cp_rd h3 h2 (hd.trans (rd_d h1).symm)
 rw [rd_rd h1] at e
 rw [← e, cp_rd h1 h2 hd]
structure InD (D : Int) (F : T3) : Prop where
 cl : ClT F
 d : dT F = D
theorem InD.rd {D : Int} {F : T3} (h : InD D F) : InD D (rdT F) := ⟨rd_cl h.cl, (rd_d h.cl).trans h.d⟩
theorem InD.cp {D : Int} {F G : T3} (h : InD D F) (h2 : InD D G) : InD D (cmp F G) := ⟨cp_cl h.cl h2.cl (h2.d.trans h.d.symm), (cp_d h.cl h2.cl (h2.d.trans h.d.symm)).trans h.d⟩
theorem InD.rc {D : Int} {F G : T3} (h : InD D F) (h2 : InD D G) : RcT (cmp F G) := cp_rc h.cl h2.cl (h2.d.trans h.d.symm)
def onT (D : Int) : T3 := (1, D % 2, (D % 2 - D) / 4)
noncomputable def pwL (p f : T3) (k : Nat) : T3 := if h : k = 0 then p else pwL (if k % 2 = 1 then cmp p f else p) (cmp f f) (k / 2)
termination_by k
decreasing_by omega
theorem pwL_in {D : Int} (k : Nat) : ∀ {p f : T3}, InD D p → InD D f → InD D (pwL p f k) := by
 induction k using Nat.strongRecOn with
 | _ k ih =>
  intro p f hp hf
  rw [pwL]
  split
  ·exact hp
  ·refine ih (k / 2) (by omega) ?_ (hf.cp hf)
   split
   ·exact hp.cp hf
   ·exact hp
theorem pwL_rc {D : Int} (k : Nat) : ∀ {p f : T3}, InD D p → InD D f → RcT p → RcT (pwL p f k) := by
 induction k using Nat.strongRecOn with
 | _ k ih =>
  intro p f hp hf hr
  rw [pwL]
  split
  ·exact hr
  ·refine ih (k / 2) (by omega) ?_ (hf.cp hf) ?_
   ·split
    ·exact hp.cp hf
    ·exact hp
   ·split
    ·exact hp.rc hf
    ·exact hr
theorem on_facts {D : Int} (h0 : -2000 ≤ D) (h1 : D < 0) (h4 : 4 ∣ D % 2 - D) : InD D (onT D) ∧ RcT (onT D) := by
 obtain ⟨k, hk⟩ := h4
 have e : (D % 2 - D) / 4 = k := by omega
 have hd : discI 1 (D % 2) k = D := by
  unfold discI
  rcases Int.emod_two_eq D with q | q <;> rw [q] at hk ⊢ <;> omega
 have hc : Cls 1 (D % 2) k := ⟨⟨by omega, by omega, by omega, by omega, by omega, by omega, by rw [hd]; omega, by rw [hd]; omega⟩, fun d h1 _ _ => h1⟩
 have hon : onT D = (1, D % 2, k) := by unfold onT; rw [e]
 rw [hon]
 refine ⟨⟨hc, hd⟩, hc, ?_⟩
 rcases Int.emod_two_eq D with q | q <;> rw [q] at hk ⊢ <;> simp [redB, normB] <;> omega
theorem disc_par (a b c : Int) : 4 ∣ discI a b c % 2 - discI a b c := by
 unfold discI
 have e : 4 * a * c = 4 * (a * c) := Int.mul_assoc _ _ _
 rw [e]
 generalize a * c = n
 rcases Int.emod_two_eq b with q | q
 ·obtain ⟨k, rfl⟩ : ∃ k, b = 2 * k := ⟨b / 2, by omega⟩
  have : 2 * k * (2 * k) = 4 * (k * k) := by grind
  rw [this]; generalize k * k = m; omega
 ·obtain ⟨k, rfl⟩ : ∃ k, b = 2 * k + 1 := ⟨b / 2, by omega⟩
  have : (2 * k + 1) * (2 * k + 1) = 4 * (k * k + k) + 1 := by grind
  rw [this]; generalize k * k + k = m; omega
theorem one_in {F : T3} (h : ClT F) : InD (dT F) (onT (dT F)) ∧ RcT (onT (dT F)) := by
 refine on_facts ?_ ?_ (disc_par _ _ _)
 ·have := h.ok.d0; unfold dT; omega
 ·have := h.ok.d1; unfold dT; omega
end Go.Proofs.Ytaeabefbohlcpaa
