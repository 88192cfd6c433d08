/-
  Plain: catalogues with an entry put in or taken out; what a command does.
-/
import Derived.Test.YtligbfegafkpjaaPd
import Derived.Test.YtligbfegafkpjaaNc
import Derived.Test.YtligbfegafkpjaaCmp
import Derived.Test.YtligbfegafkpjaaCmd
namespace Go.Proofs.Ytligbfegafkpjaa
open Go.RowKit
set_option linter.unusedVariables false
set_option linter.unusedSimpArgs false
attribute [local go_sem] q2 q3 q4 q5 q6 q7 q8 q9 q10 q11 q12

theorem bl_asymm : ∀ (x y : List UInt8), Go.Op.bytesLess x y = true → Go.Op.bytesLess y x = false
  | [], [], h => by simp [Go.Op.bytesLess] at h
  | [], _ :: _, _ => by simp [Go.Op.bytesLess]
  | _ :: _, [], h => by simp [Go.Op.bytesLess] at h
  | a :: x, b :: y, h => by
    simp only [Go.Op.bytesLess, Bool.or_eq_true, Bool.and_eq_true, decide_eq_true_eq, beq_iff_eq] at h
    rw [Bool.eq_false_iff]
    intro h2
    simp only [Go.Op.bytesLess, Bool.or_eq_true, Bool.and_eq_true, decide_eq_true_eq, beq_iff_eq] at h2
    rcases h with h | ⟨rfl, h⟩
    · rcases h2 with h2 | ⟨h2, _⟩
      · exact absurd (UInt8.lt_trans h h2) (UInt8.lt_irrefl _)
      · subst h2; exact absurd h (UInt8.lt_irrefl _)
    · rcases h2 with h2 | ⟨_, h2⟩
      · exact absurd h2 (UInt8.lt_irrefl _)
      · rw [bl_asymm x y h] at h2; cases h2
theorem bl_total : ∀ (x y : List UInt8), x ≠ y → Go.Op.bytesLess x y = false → Go.Op.bytesLess y x = true
  | [], [], h, _ => absurd rfl h
  | [], _ :: _, _, h => by simp [Go.Op.bytesLess] at h
  | _ :: _, [], _, _ => by simp [Go.Op.bytesLess]
  | a :: x, b :: y, hne, h => by
    rw [Bool.eq_false_iff] at h
    simp only [Go.Op.bytesLess, ne_eq, Bool.or_eq_true, Bool.and_eq_true, decide_eq_true_eq, beq_iff_eq, not_or, not_and] at h
    simp only [Go.Op.bytesLess, Bool.or_eq_true, Bool.and_eq_true, decide_eq_true_eq, beq_iff_eq]
    obtain ⟨h1, h2⟩ := h
    by_cases q : a = b
    · subst q
      exact .inr ⟨rfl, bl_total x y (fun e => hne (by rw [e])) (by rw [Bool.eq_false_iff]; exact h2 rfl)⟩
    · left
      have n1 : ¬ a.toNat < b.toNat := fun hh => h1 (UInt8.lt_iff_toNat_lt.2 hh)
      have n2 : a.toNat ≠ b.toNat := fun hh => q (UInt8.toNat_inj.1 hh)
      exact UInt8.lt_iff_toNat_lt.2 (by omega)
theorem bl_trans : ∀ (x y z : List UInt8), Go.Op.bytesLess x y = true → Go.Op.bytesLess y z = true → Go.Op.bytesLess x z = true
  | x, [], z, h, _ => by cases x <;> simp [Go.Op.bytesLess] at h
  | x, _ :: _, [], _, h => by simp [Go.Op.bytesLess] at h
  | [], _ :: _, _ :: _, _, _ => by simp [Go.Op.bytesLess]
  | a :: x, b :: y, c :: z, h, h2 => by
    simp only [Go.Op.bytesLess, Bool.or_eq_true, Bool.and_eq_true, decide_eq_true_eq, beq_iff_eq] at h h2 ⊢
    rcases h with h | ⟨rfl, h⟩
    · rcases h2 with h2 | ⟨rfl, h2⟩
      · exact .inl (UInt8.lt_trans h h2)
      · exact .inl h
    · rcases h2 with h2 | ⟨rfl, h2⟩
      · exact .inl h2
      · exact .inr ⟨rfl, bl_trans x y z h h2⟩
theorem ls_asymm {a b : ByteArray} (h : lessB a b = true) : lessB b a = false := bl_asymm _ _ h
theorem ls_total {a b : ByteArray} (hne : a ≠ b) (h : lessB a b = false) : lessB b a = true := bl_total _ _ (fun e => hne (bytes_toList e)) h
theorem ls_trans {a b c : ByteArray} (h : lessB a b = true) (h2 : lessB b c = true) : lessB a c = true := bl_trans _ _ _ h h2
theorem ls_ne {a b : ByteArray} (h : lessB a b = true) : a ≠ b := fun e => by
  subst e; have := ls_asymm h; rw [h] at this; cases this
/-- Names that increase. -/
def Inc (E : Nat → Ent) (n : Nat) : Prop := ∀ i, i + 1 < n → lessB (E i).n (E (i + 1)).n = true
theorem ct_inc {E : Nat → Ent} : ∀ n, ctG E n = true → Inc E n
  | 0, _ => fun i hi => absurd hi (by omega)
  | n + 1, h => by
    rw [ctG, Bool.and_eq_true] at h
    intro i hi
    by_cases q : i + 1 = n
    · subst q
      have h2 := h.2
      unfold goE at h2
      rw [Bool.and_eq_true, Bool.and_eq_true, Bool.or_eq_true] at h2
      rcases h2.2.2 with h3 | h3
      · simp at h3
      · simpa using h3
    · exact ct_inc n h.1 i (by omega)
theorem inc_lt {E : Nat → Ent} {n : Nat} (h : Inc E n) {i : Nat} : ∀ d, i + d + 1 < n → lessB (E i).n (E (i + d + 1)).n = true
  | 0, hd => h i (by omega)
  | d + 1, hd => ls_trans (inc_lt h d (by omega)) (h (i + d + 1) (by omega))
theorem inc_ne {E : Nat → Ent} {n : Nat} (h : Inc E n) {i j : Nat} (hi : i < n) (hj : j < n) (hne : i ≠ j) : (E i).n ≠ (E j).n := by
  rcases (show i < j ∨ j < i by omega) with q | q
  · obtain ⟨d, rfl⟩ : ∃ d, j = i + d + 1 := ⟨j - i - 1, by omega⟩
    exact ls_ne (inc_lt h d hj)
  · obtain ⟨d, rfl⟩ : ∃ d, i = j + d + 1 := ⟨i - j - 1, by omega⟩
    exact (ls_ne (inc_lt h d hi)).symm
theorem enL_snoc (E : Nat → Ent) (a k : Nat) : enL E a (k + 1) = enL E a k ++ [E (a + k)] := by
  unfold enL; rw [List.range'_concat]; simp
theorem wo_none {E : Nat → Ent} {nm : ByteArray} : ∀ n, (∀ i, i < n → ¬ (E i).n = nm) → woL E nm n = enL E 0 n
  | 0, _ => rfl
  | n + 1, h => by
    rw [woL_no (h n (by omega)), wo_none n (fun i hi => h i (by omega)), enL_snoc, Nat.zero_add]
theorem wo_some {E : Nat → Ent} {nm : ByteArray} {k : Nat} (hk : (E k).n = nm) : ∀ d, (∀ i, i < k + d + 1 → i ≠ k → ¬ (E i).n = nm) → woL E nm (k + d + 1) = enL E 0 k ++ enL E (k + 1) d
  | 0, h => by
    rw [woL_yes hk, wo_none k (fun i hi => h i (by omega) (by omega))]; simp [enL]
  | d + 1, h => by
    have e : k + (d + 1) + 1 = (k + d + 1) + 1 := by omega
    rw [e, woL_no (h _ (by omega) (by omega)), wo_some hk d (fun i hi hne => h i (by omega) hne), enL_snoc, List.append_assoc]
    have e2 : k + 1 + d = k + d + 1 := by omega
    rw [e2]
theorem fd_of {E : Nat → Ent} {nm : ByteArray} {n k : Nat} (h : fd E nm n = some k) : k < n ∧ (E k).n = nm := by
  unfold fd at h
  rw [List.find?_eq_some_iff_getElem] at h
  obtain ⟨h1, i, hi, he, h2⟩ := h
  simp only [List.getElem_range] at he
  subst he
  exact ⟨by simpa using hi, by simpa using h1⟩
theorem fd_no {E : Nat → Ent} {nm : ByteArray} {n : Nat} (h : fd E nm n = none) : ∀ i, i < n → ¬ (E i).n = nm := by
  unfold fd at h
  rw [List.find?_eq_none] at h
  intro i hi
  simpa using h i (by simpa using hi)
/-- Without the entry at k. -/
theorem wo_drop {E : Nat → Ent} {nm : ByteArray} {n k : Nat} (hi : Inc E n) (h : fd E nm n = some k) : woL E nm n = enL E 0 k ++ enL E (k + 1) (n - k - 1) := by
  obtain ⟨hk, he⟩ := fd_of h
  obtain ⟨d, rfl⟩ : ∃ d, n = k + d + 1 := ⟨n - k - 1, by omega⟩
  have e : k + d + 1 - k - 1 = d := by omega
  rw [e]
  exact wo_some he d (fun i h1 h2 => by rw [← he]; exact inc_ne hi h1 hk h2)
theorem at_wo {E : Nat → Ent} {nm : ByteArray} {i : Nat} (n : Nat) (h : i < (woL E nm n).length) : (atE (woL E nm n) i).n ≠ nm := by
  have hm : atE (woL E nm n) i ∈ woL E nm n := by
    unfold atE
    rw [List.getD_eq_getElem?_getD, List.getElem?_eq_getElem h, Option.getD_some]
    exact List.getElem_mem h
  revert hm
  generalize atE (woL E nm n) i = x
  clear h
  induction n with
  | zero => intro h; cases h
  | succ n ih =>
    rw [woL]
    split
    · exact ih
    · rename_i q
      intro h
      rw [List.mem_append] at h
      rcases h with h | h
      · exact ih h
      · rw [List.mem_singleton] at h; subst h; exact q

/-- withEntry puts the entry ahead of the first one that is not less. -/
theorem we_put {D : Nat → Ent} {e : Ent} {m jx : Nat} (hj : jx ≤ m) (hne : ∀ i, i < m → (D i).n ≠ e.n) (h1 : ∀ i, i < jx → lessB (D i).n e.n = true) (h2 : jx < m → lessB (D jx).n e.n = false) :
    weL D e m = enL D 0 jx ++ [e] ++ enL D jx (m - jx) := by
  have a1 : ∀ k, k ≤ jx → weS D e k = (enL D 0 k, false) := by
    intro k
    induction k with
    | zero => intro _; rfl
    | succ k ih =>
      intro hk
      rw [weS_wait (ls_asymm (h1 k (by omega))), ih (by omega), enL_snoc, Nat.zero_add]
  by_cases q : jx = m
  · subst q
    unfold weL
    rw [a1 jx (Nat.le_refl _), Nat.sub_self]
    simp [enL]
  · have hlt : jx < m := by omega
    have a2 : ∀ d, jx + d + 1 ≤ m → weS D e (jx + d + 1) = (enL D 0 jx ++ [e] ++ enL D jx (d + 1), true) := by
      intro d
      induction d with
      | zero =>
        intro _
        rw [Nat.add_zero, weS_put (by rw [a1 jx (Nat.le_refl _)]) (ls_total (hne jx hlt) (h2 hlt)), a1 jx (Nat.le_refl _), enL_snoc]
        simp [enL]
      | succ d ih =>
        intro hd
        have e1 : jx + (d + 1) + 1 = (jx + d + 1) + 1 := by omega
        rw [e1, weS_done (by rw [ih (by omega)]), ih (by omega), enL_snoc _ _ (d + 1), ← List.append_assoc]
        have e2 : jx + (d + 1) = jx + d + 1 := by omega
        rw [e2]
    obtain ⟨d, hd⟩ : ∃ d, m = jx + d + 1 := ⟨m - jx - 1, by omega⟩
    subst hd
    unfold weL
    rw [a2 d (Nat.le_refl _)]
    have e3 : jx + d + 1 - jx = d + 1 := by omega
    rw [e3]; rfl
def oppT (F : T3n) : T3n := (F.1, -F.2.1, F.2.2)
/-- What a command answers but for 'full'. -/
noncomputable def rcD (k : Int) (kn ka kb ea eb : Bool) (N A B F : T3n) : Int :=
  if (k = 1 ∨ k = 3 ∨ k = 4) ∧ kn = true then 2
  else if (¬ (k = 1 ∨ k = 3 ∨ k = 4) ∧ kn = false) ∨ (ea = false ∧ ka = false) ∨ (eb = false ∧ kb = false) then 3
  else if k = 3 ∧ ¬ discI A.1 A.2.1 A.2.2 = discI B.1 B.2.1 B.2.2 then 4
  else if k = 5 ∧ eqN (rfN N) (rfN F) = false then 4 else 0
noncomputable def rcC (E : Nat → Ent) (n : Nat) (c : Cmd) : Int := rcD c.k (fdB E c.n n) (fdB E c.a n) (fdB E c.b n) (emB c.a) (emB c.b) (fdF E c.n n) (fdF E c.a n) (fdF E c.b n) c.f
noncomputable def rnF (E : Nat → Ent) (n : Nat) (c : Cmd) : T3n :=
  if c.k = 3 then cmp (fdF E c.a n) (fdF E c.b n) else if c.k = 4 then rfN (oppT (fdF E c.a n)) else c.f
noncomputable def rnW (E : Nat → Ent) (n : Nat) (c : Cmd) : List Ent := weL (atE (woL E c.n n)) ⟨c.n, rnF E n c⟩ (woL E c.n n).length
noncomputable def rnL (E : Nat → Ent) (n : Nat) (c : Cmd) : List Ent :=
  if rcC E n c = 0 then if c.k = 2 then woL E c.n n else if (rnW E n c).length ≤ 20 then rnW E n c else [] else []
noncomputable def rnC (E : Nat → Ent) (n : Nat) (c : Cmd) : Int :=
  if rcC E n c = 0 then if c.k = 2 then 0 else if (rnW E n c).length ≤ 20 then 0 else 5 else rcC E n c
end Go.Proofs.Ytligbfegafkpjaa
