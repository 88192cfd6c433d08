/-
  Plain: forms as triples: reduced form, composite, powers as functions of triples.
-/
import Derived.Test.YtligbfegafkpjaaUni
namespace Go.Proofs.Ytligbfegafkpjaa
open Go.RowKit
set_option linter.unusedVariables false
set_option linter.unusedSimpArgs false

abbrev T3 := Int × Int × Int
abbrev frm (F : T3) : Value := .agg #[.int .i64 F.1, .int .i64 F.2.1, .int .i64 F.2.2]
def rdT (F : T3) : T3 := redF F.1 F.2.1 F.2.2
def dT (F : T3) : Int := discI F.1 F.2.1 F.2.2
def ClT (F : T3) : Prop := Cls F.1 F.2.1 F.2.2
def RcT (F : T3) : Prop := RedC F.1 F.2.1 F.2.2
theorem RcT.cl {F : T3} (h : RcT F) : ClT F := h.cls
theorem rd_rc {F : T3} (h : ClT F) : RcT (rdT F) := (rdr_of h).rc
theorem rd_cl {F : T3} (h : ClT F) : ClT (rdT F) := (rd_rc h).cl
theorem rd_d {F : T3} (h : ClT F) : dT (rdT F) = dT F := (rdr_of h).dd
theorem rd_same {F : T3} (h : RcT F) : rdT F = F := h.same
theorem rd_rd {F : T3} (h : ClT F) : rdT (rdT F) = rdT F := rd_same (rd_rc h)
theorem rdr_T {F : T3} (h : ClT F) : RdR F.1 F.2.1 F.2.2 (rdT F).1 (rdT F).2.1 (rdT F).2.2 := rdr_of h
theorem cpr_ex {F G : T3} (h1 : ClT F) (h2 : ClT G) (hd : dT G = dT F) : CpR F.1 F.2.1 F.2.2 G.1 G.2.1 G.2.2 (cmp F G).1 (cmp F G).2.1 (cmp F G).2.2 := by
  have r1 := rdr_of h1
  have r2 := rdr_of h2
  have k1 : RedC (redF F.1 F.2.1 F.2.2).1 (redF F.1 F.2.1 F.2.2).2.1 (redF F.1 F.2.1 F.2.2).2.2 := r1.rc
  have k2 : RedC (redF G.1 G.2.1 G.2.2).1 (redF G.1 G.2.1 G.2.2).2.1 (redF G.1 G.2.1 G.2.2).2.2 := r2.rc
  have hD := r2.dd.trans ((show discI G.1 G.2.1 G.2.2 = discI F.1 F.2.1 F.2.2 from hd).trans r1.dd.symm)
  have hs := red_small k1.cls.ok k1.red
  have ha := k1.cls.ok.a0
  obtain ⟨kk, hf⟩ := fp_ex (m := (redF F.1 F.2.1 F.2.2).1) (by omega) (by omega) k2.cls.pr
  obtain ⟨_, hU⟩ := uni_facts k1 k2 hD hf
  have hI := hU.isu
  obtain ⟨_, _, _, _, _, hcl, hdd3, _, _⟩ := hI.facts k1 k2 hD
  have r3 := rdr_of hcl
  have hc : CpR F.1 F.2.1 F.2.2 G.1 G.2.1 G.2.2 _ _ _ := ⟨_, _, _, _, _, _, _, _, _, r1, r2, hd, hI, r3⟩
  have e := cmp_of hc
  have e2 : cmp F G = _ := e
  rw [e2]
  exact hc
theorem cp_rc {F G : T3} (h1 : ClT F) (h2 : ClT G) (hd : dT G = dT F) : RcT (cmp F G) := (cpr_ex h1 h2 hd).rc
theorem cp_cl {F G : T3} (h1 : ClT F) (h2 : ClT G) (hd : dT G = dT F) : ClT (cmp F G) := (cp_rc h1 h2 hd).cl
theorem cp_d {F G : T3} (h1 : ClT F) (h2 : ClT G) (hd : dT G = dT F) : dT (cmp F G) = dT F := (cpr_ex h1 h2 hd).dd
theorem cp_of {F G : T3} {u v k : Int} (h : CpR F.1 F.2.1 F.2.2 G.1 G.2.1 G.2.2 u v k) : cmp F G = (u, v, k) := cmp_of h
theorem cp_rd {F G : T3} (h1 : ClT F) (h2 : ClT G) (hd : dT G = dT F) : cmp (rdT F) (rdT G) = cmp F G := by
  obtain ⟨p, q, r, p', q', r', e, t, s, r1, r2, _, hI, r3⟩ := cpr_ex h1 h2 hd
  obtain ⟨rfl, rfl, rfl⟩ := r1.same (rdr_T h1)
  obtain ⟨rfl, rfl, rfl⟩ := r2.same (rdr_T h2)
  have s1 : RdR (rdT F).1 (rdT F).2.1 (rdT F).2.2 (rdT F).1 (rdT F).2.1 (rdT F).2.2 := rdr_self (rd_rc h1)
  have s2 : RdR (rdT G).1 (rdT G).2.1 (rdT G).2.2 (rdT G).1 (rdT G).2.1 (rdT G).2.2 := rdr_self (rd_rc h2)
  have hd2 : discI (rdT G).1 (rdT G).2.1 (rdT G).2.2 = discI (rdT F).1 (rdT F).2.1 (rdT F).2.2 := (rd_d h2).trans (hd.trans (rd_d h1).symm)
  have hc : CpR (rdT F).1 (rdT F).2.1 (rdT F).2.2 (rdT G).1 (rdT G).2.1 (rdT G).2.2 _ _ _ := ⟨_, _, _, _, _, _, _, _, _, s1, s2, hd2, hI, r3⟩
  exact cp_of hc
theorem cp_rd2 {F G : T3} (h1 : ClT F) (h2 : ClT G) (hd : dT G = dT F) : cmp F (rdT G) = cmp F G := by
  have h3 := rd_cl h2
  have e := cp_rd h1 h3 ((rd_d h2).trans hd)
  rw [rd_rd h2] at e
  rw [← e, cp_rd h1 h2 hd]
theorem cp_rd1 {F G : T3} (h1 : ClT F) (h2 : ClT G) (hd : dT G = dT F) : cmp (rdT F) G = cmp F G := by
  have h3 := rd_cl h1
  have e := cp_rd h3 h2 (hd.trans (rd_d h1).symm)
  rw [rd_rd h1] at e
  rw [← e, cp_rd h1 h2 hd]
/-- The class forms of one discriminant. -/
structure InD (D : Int) (F : T3) : Prop where
  cl : ClT F
  d : dT F = D
theorem InD.rd {D : Int} {F : T3} (h : InD D F) : InD D (rdT F) := ⟨rd_cl h.cl, (rd_d h.cl).trans h.d⟩
theorem InD.cp {D : Int} {F G : T3} (h : InD D F) (h2 : InD D G) : InD D (cmp F G) := ⟨cp_cl h.cl h2.cl (h2.d.trans h.d.symm), (cp_d h.cl h2.cl (h2.d.trans h.d.symm)).trans h.d⟩
theorem InD.rc {D : Int} {F G : T3} (h : InD D F) (h2 : InD D G) : RcT (cmp F G) := cp_rc h.cl h2.cl (h2.d.trans h.d.symm)
/-- Squared n times. -/
noncomputable def sqN (F : T3) : Nat → T3
  | 0 => F
  | n + 1 => sqN (cmp F F) n
theorem sqN_in {D : Int} : ∀ (n : Nat) {F : T3}, InD D F → InD D (sqN F n)
  | 0, _, h => h
  | n + 1, _, h => sqN_in n (h.cp h)
theorem sqN_rc {D : Int} : ∀ (n : Nat) {F : T3}, InD D F → RcT F → RcT (sqN F n)
  | 0, _, _, h => h
  | n + 1, _, h, _ => sqN_rc n (h.cp h) (h.rc h)
theorem sqN_succ : ∀ (n : Nat) (F : T3), sqN F (n + 1) = cmp (sqN F n) (sqN F n)
  | 0, _ => rfl
  | n + 1, F => sqN_succ n (cmp F F)
/-- The form of the identity. -/
def onT (D : Int) : T3 := (1, D % 2, (D % 2 - D) / 4)
/-- p f^k by the binary digits of k. -/
noncomputable def pwL (p f : T3) (k : Nat) : T3 := if h : k = 0 then p else pwL (if k % 2 = 1 then cmp p f else p) (cmp f f) (k / 2)
termination_by k
decreasing_by omega
theorem pwL_in {D : Int} (k : Nat) : ∀ {p f : T3}, InD D p → InD D f → InD D (pwL p f k) := by
  induction k using Nat.strongRecOn with
  | _ k ih =>
    intro p f hp hf
    rw [pwL]
    split
    · exact hp
    · refine ih (k / 2) (by omega) ?_ (hf.cp hf)
      split
      · exact hp.cp hf
      · exact hp
theorem pwL_rc {D : Int} (k : Nat) : ∀ {p f : T3}, InD D p → InD D f → RcT p → RcT (pwL p f k) := by
  induction k using Nat.strongRecOn with
  | _ k ih =>
    intro p f hp hf hr
    rw [pwL]
    split
    · exact hr
    · refine ih (k / 2) (by omega) ?_ (hf.cp hf) ?_
      · split
        · exact hp.cp hf
        · exact hp
      · split
        · exact hp.rc hf
        · exact hr
noncomputable def pwT (F : T3) (k : Int) : T3 := pwL (onT (dT F)) (rdT F) k.toNat
/-- The quotient's power: n rounds from p with the residue r. -/
noncomputable def quL (f : T3) (l : Int) (p : T3) (r : Int) : Nat → T3
  | 0 => p
  | n + 1 => if l ≤ 2 * r then quL f l (cmp (cmp p p) f) (2 * r - l) n else quL f l (cmp p p) (2 * r) n
theorem quL_in {D l : Int} {f : T3} (hf : InD D f) : ∀ (n : Nat) {p : T3} {r : Int}, InD D p → InD D (quL f l p r n)
  | 0, _, _, h => h
  | n + 1, p, r, h => by
    rw [quL]; split
    · exact quL_in hf n ((h.cp h).cp hf)
    · exact quL_in hf n (h.cp h)
theorem quL_rc {D l : Int} {f : T3} (hf : InD D f) : ∀ (n : Nat) {p : T3} {r : Int}, InD D p → RcT p → RcT (quL f l p r n)
  | 0, _, _, _, h => h
  | n + 1, p, r, h, _ => by
    rw [quL]; split
    · exact quL_rc hf n ((h.cp h).cp hf) ((h.cp h).rc hf)
    · exact quL_rc hf n (h.cp h) (h.rc h)
noncomputable def quT (F : T3) (t l : Int) : T3 := quL F l (onT (dT F)) 1 t.toNat
/-- The key of a class. -/
noncomputable def keyT (F : T3) : Int := (rdT F).1 + 7 * ((rdT F).2.1 % (2 * (rdT F).1))
theorem key_bd {F : T3} (h : ClT F) : 0 ≤ keyT F ∧ keyT F ≤ 1000 := by
  have hr : RedC (rdT F).1 (rdT F).2.1 (rdT F).2.2 := rd_rc h
  obtain ⟨s1, s2, s3, s4⟩ := red_small hr.cls.ok hr.red
  have a0 := hr.cls.ok.a0
  unfold keyT
  have m0 := Int.emod_nonneg (rdT F).2.1 (show 2 * (rdT F).1 ≠ 0 by omega)
  have m1 := Int.emod_lt_of_pos (rdT F).2.1 (show 0 < 2 * (rdT F).1 by omega)
  omega
theorem on_facts {D : Int} (h0 : -2000 ≤ D) (h1 : D < 0) (h4 : 4 ∣ D % 2 - D) : InD D (onT D) ∧ RcT (onT D) := by
  obtain ⟨k, hk⟩ := h4
  have e : (D % 2 - D) / 4 = k := by omega
  have hd : discI 1 (D % 2) k = D := by
    unfold discI
    rcases Int.emod_two_eq D with q | q <;> rw [q] at hk ⊢ <;> omega
  have hc : Cls 1 (D % 2) k := ⟨⟨by omega, by omega, by omega, by omega, by omega, by omega, by rw [hd]; omega, by rw [hd]; omega⟩, fun d h1 _ _ => h1⟩
  have hon : onT D = (1, D % 2, k) := by unfold onT; rw [e]
  rw [hon]
  refine ⟨⟨hc, hd⟩, hc, ?_⟩
  rcases Int.emod_two_eq D with q | q <;> rw [q] at hk ⊢ <;> simp [redB, normB] <;> omega
theorem disc_par (a b c : Int) : 4 ∣ discI a b c % 2 - discI a b c := by
  unfold discI
  have e : 4 * a * c = 4 * (a * c) := Int.mul_assoc _ _ _
  rw [e]
  generalize a * c = n
  rcases Int.emod_two_eq b with q | q
  · obtain ⟨k, rfl⟩ : ∃ k, b = 2 * k := ⟨b / 2, by omega⟩
    have : 2 * k * (2 * k) = 4 * (k * k) := by grind
    rw [this]; generalize k * k = m; omega
  · obtain ⟨k, rfl⟩ : ∃ k, b = 2 * k + 1 := ⟨b / 2, by omega⟩
    have : (2 * k + 1) * (2 * k + 1) = 4 * (k * k + k) + 1 := by grind
    rw [this]; generalize k * k + k = m; omega
theorem one_in {F : T3} (h : ClT F) : InD (dT F) (onT (dT F)) ∧ RcT (onT (dT F)) := by
  refine on_facts ?_ ?_ (disc_par _ _ _)
  · have := h.ok.d0; unfold dT; omega
  · have := h.ok.d1; unfold dT; omega
theorem one_rd {F : T3} (h : ClT F) : rdT (onT (dT F)) = onT (dT F) := rd_same (one_in h).2
end Go.Proofs.Ytligbfegafkpjaa
