/- Invariant factors: what the walks ask. -/
import Derived.Test.YtaeabefbohlcpaaGro
import Derived.Test.YtaeabefbohlcpaaFaf
import Derived.Test.YtaeabefbohlcpaaFaw
namespace Go.Proofs.Ytaeabefbohlcpaa
open Go.RowKit
set_option linter.unusedVariables false
set_option linter.unusedSimpArgs false
attribute [local go_sem] q2 q3 q4 q5 q6 q7 q8 q9 q10 q11 q12

theorem SI.set {w wr : World} {LO HI n c g : Nat} {S : World → Prop} {l : List Int} (h : SI w LO HI S wr (some ⟨g, 0, none⟩) n c l) (hK : Kept LO HI S) (j : Nat) (z : Int) : SI w LO HI S (wr.setCell ⟨g, j, none⟩ (.int .i64 z)) (some ⟨g, 0, none⟩) n c (l.set j z) := by
 obtain ⟨h1, h2⟩ := IL.stored h.il j z
 have hln := unhide h.len
 have hlo := (World.ownsRow.lt h.sd.own g rfl).1
 have hfar := h.sd.far g rfl
 refine ⟨hide (by rw [List.length_set]; exact hln), ?_, h.sd.far, h.sd.bel.grown h2 h.sd.bel.size (fun k hk => by cases hk; exact hlo), hK _ _ (fun k k1 k2 => h2.block k (Nat.lt_of_lt_of_le k2 h.sd.hi) (fun e => by have := Option.some.inj e; omega)) h.sd.src, Nat.le_trans h.sd.hi h2.size⟩
 have := h1
 unfold IL at this
 rw [List.length_set, ← hln] at this
 exact this
theorem mulF_bd {p : Nat} (hp : 2 ≤ p) : ∀ r (l : List Nat) (M : Nat), 1 ≤ M → (∀ x ∈ l, 1 ≤ x ∧ x ≤ M) → ∀ x ∈ mulF p r l, 1 ≤ x ∧ x ≤ p * M
 | 0, l, M, hM1, hl, x, hx => by
  have := hl x hx
  have h2 : 1 * M ≤ p * M := Nat.mul_le_mul_right M (by omega)
  omega
 | r + 1, [], M, hM1, hl, x, hx => by
  have hpM : p * 1 ≤ p * M := Nat.mul_le_mul_left p hM1
  rcases List.mem_cons.1 hx with rfl | hx
  ·omega
  ·exact mulF_bd hp r [] M hM1 (fun y hy => by cases hy) x hx
 | r + 1, y :: l, M, hM1, hl, x, hx => by
  rcases List.mem_cons.1 hx with rfl | hx
  ·obtain ⟨b1, b2⟩ := hl y (by simp)
   have c1 := Nat.mul_le_mul_right p b2
   have c2 := Nat.mul_le_mul b1 (show 1 ≤ p by omega)
   rw [Nat.mul_comm M p] at c1; omega
  ·exact mulF_bd hp r l M hM1 (fun z hz => hl z (by simp [hz])) x hx
theorem prd_pos1 {f : Nat → Nat} : ∀ {l : List Nat}, (∀ p ∈ l, 1 ≤ f p) → 1 ≤ Fab.prd f l
 | [], _ => Nat.le_refl _
 | p :: l, h => by
  have h1 := h p (by simp)
  have h2 := prd_pos1 (l := l) (fun q hq => h q (by simp [hq]))
  have := Nat.mul_le_mul h1 h2
  rw [Fab.prd]; omega
theorem prd_take {f : Nat → Nat} : ∀ {l : List Nat} (k : Nat), (∀ p ∈ l, 1 ≤ f p) → Fab.prd f (l.take k) ≤ Fab.prd f l
 | l, 0, h => by rw [List.take_zero]; exact prd_pos1 h
 | [], k + 1, h => by simp
 | p :: l, k + 1, h => by
  rw [List.take_succ_cons, Fab.prd, Fab.prd]
  exact Nat.mul_le_mul_left _ (prd_take k (fun q hq => h q (by simp [hq])))
structure OsQ (os : List Int) : Prop where
 n1 : 1 ≤ os.length
 n2 : os.length ≤ 676
 pos : ∀ o ∈ os, 1 ≤ o ∧ o ≤ 2000
 le : ∀ p ∈ psL os.length, 2 ≤ p ∧ p ≤ os.length ∧ p ^ exN os.length p ≤ os.length
 bd : ∀ k, ∀ x ∈ fsK os (psL os.length) k, 1 ≤ x ∧ x ≤ os.length
 rb : ∀ p ∈ psL os.length, ∀ (L : List Nat), (∀ x ∈ L, 1 ≤ x ∧ x ≤ os.length) → ∀ k, ∀ x ∈ rnd os p L k, 1 ≤ x ∧ x ≤ p ^ k * os.length
 top : ∀ p ∈ psL os.length, cK os p (exN os.length p) = p ^ exN os.length p
 full : ∀ p ∈ psL os.length, ∀ (L : List Nat) (k : Nat), k ≤ exN os.length p → p ^ exN os.length p ≤ cK os p k → rnd os p L (exN os.length p) = rnd os p L k
 ck1 : ∀ p ∈ psL os.length, ∀ k, k ≤ exN os.length p → 1 ≤ cK os p k ∧ cK os p k ≤ os.length
 dv1 : ∀ p ∈ psL os.length, ∀ k, 1 ≤ cK os p (k + 1) / cK os p k
theorem os_q {d : Int} (hd : negB d = true) : OsQ (orL d) := by
 have h := cg_os hd
 have hR := rfs hd
 have hl : (orL d).length = (rfL d).length := by unfold orL; rw [List.length_map]
 have h1 := h.pos1
 have hps := ps_ok h1
 have hpp : ∀ p ∈ psL (orL d).length, p ^ exN (orL d).length p ≤ (orL d).length := fun p hp => by
  obtain ⟨k, hk, hk2⟩ := ex_spec (hps.pr p hp).1 (orL d).length h1
  have hk0 : 1 ≤ k := Nat.pos_of_ne_zero fun z => hk2 (z ▸ Nat.dvd_zero p)
  have := Nat.mul_le_mul_left (p ^ exN (orL d).length p) hk0
  omega
 refine ⟨h1, by rw [hl]; exact hR.len, fun o ho => ?_, fun p hp => ⟨(hps.pr p hp).1, Nat.le_of_dvd (by omega) (hps.dv p hp), hpp p hp⟩, fun k x hx => ?_, fun p hp L hL k x hx => OsOk.rnd_bd (hps.pr p hp) hL h1 k x hx, fun p hp => h.ck_top (hps.pr p hp), fun p hp L k h2 h3 => h.rnd_full (hps.pr p hp) h2 h3 L, fun p hp k hk => ⟨(h.parts (hps.pr p hp) k).2.1, Nat.le_trans (h.ck_le (hps.pr p hp) k hk) (hpp p hp)⟩, fun p hp k => (h.parts (hps.pr p hp) k).2.2⟩
 ·obtain ⟨F, hF, rfl⟩ := List.mem_map.1 ho
  have := or_is (rf_in hd hF).1
  exact ⟨by have := this.1; omega, by have := this.2.1; omega⟩
 ·have hpr : ∀ p ∈ (psL (orL d).length).take k, Pr p := fun p hp => hps.pr p (List.mem_of_mem_take hp)
  have q1 := h.fsP_bd hpr (l := []) (M := 1) (Nat.le_refl _) (fun y hy => by cases hy) x hx
  have q2 := prd_take (f := fun p => p ^ exN (orL d).length p) (l := psL (orL d).length) k (fun p hp => Nat.pow_pos (by have := (hps.pr p hp).1; omega))
  have q3 : Fab.prd (fun p => p ^ exN (orL d).length p) (psL (orL d).length) = (orL d).length := Fab.prd_all h1 hps.nd hps.pr hps.all (fun p hp => ex_spec (hps.pr p hp).1 _ h1)
  omega
def cntK (os : List Int) (q : Int) (k : Nat) : Nat := ((os.take k).filter (fun o => q % o == 0)).length
theorem cntK_succ {os : List Int} {q : Int} {k : Nat} (h : k < os.length) {x : Int} (hx : os.getD k 0 = x) : cntK os q (k + 1) = cntK os q k + (if q % x == 0 then 1 else 0) := by
 subst hx
 unfold cntK
 rw [List.take_add_one, List.getElem?_eq_getElem h, List.filter_append, List.length_append, List.getD_eq_getElem?_getD, List.getElem?_eq_getElem h]
 congr 1
 simp only [Option.toList, List.filter_cons, List.filter_nil, Option.getD_some]
 split <;> rfl
theorem cntK_all {os : List Int} {p m : Nat} : cntK os ((p ^ (m + 1) : Nat) : Int) os.length = cK os p (m + 1) := by
 unfold cntK cK cntI
 rw [List.take_length, if_neg (by omega)]
theorem nI_set {L : List Nat} {i x : Nat} : (nI L).set i (x : Int) = nI (L.set i x) := by
 unfold nI
 rw [List.map_set]
theorem nI_rev (L : List Nat) : (nI L).reverse = nI L.reverse := by unfold nI; rw [List.map_reverse]
theorem pow_dvd_iff {p n : Nat} (hp : 2 ≤ p) (hn : 1 ≤ n) (hpr : Pr p) {m : Nat} : n % p ^ (m + 1) = 0 ↔ m < exN n p := by
 obtain ⟨k, hk, hk2⟩ := ex_spec hp n hn
 constructor
 ·intro h
  have h1 : p ^ (m + 1) ∣ p ^ exN n p * k := by rw [← hk]; exact Nat.dvd_of_mod_eq_zero h
  have := hpr.le_of hk2 h1
  omega
 ·intro h
  refine Nat.mod_eq_zero_of_dvd ?_
  have h1 : p ^ (m + 1) ∣ p ^ exN n p := Nat.pow_dvd_pow p h
  exact hk ▸ Nat.dvd_trans h1 (Nat.dvd_mul_right _ _)
theorem mulF_pad (p r : Nat) (L : List Nat) : mulF p r (L ++ List.replicate (r - L.length) 1) = mulF p r L := by
 refine ext_getD (by rw [mulF_len, mulF_len, List.length_append, List.length_replicate]; omega) fun i hi => ?_
 rw [mulF_get, mulF_get]
 congr 1
 by_cases q : i < L.length
 ·exact gdl q
 ·rw [List.getD_eq_getElem?_getD, List.getD_eq_getElem?_getD, List.getElem?_append_right (by omega), List.getElem?_eq_none (l := L) (by omega)]
  by_cases c : i - L.length < r - L.length
  ·rw [List.getElem?_replicate, if_pos c]; rfl
  ·rw [List.getElem?_replicate, if_neg c]
def RvOk (L l : List Int) (t : Nat) : Prop := l.length = L.length ∧ ∀ j, j < L.length → l.getD j 0 = if j < t ∨ L.length ≤ j + t then L.getD (L.length - 1 - j) 0 else L.getD j 0
theorem rv_zero (L : List Int) : RvOk L L 0 := ⟨rfl, fun j hj => by rw [if_neg (by omega)]⟩
theorem gset {l : List Int} {i j : Nat} {x : Int} (hi : i < l.length) : (l.set i x).getD j 0 = if i = j then x else l.getD j 0 := by
 simp only [List.getD_eq_getElem?_getD, List.getElem?_set]
 by_cases q : i = j
 ·rw [if_pos q, if_pos hi, if_pos q]; rfl
 ·rw [if_neg q, if_neg q]
theorem rv_step {L l : List Int} {t : Nat} (h : RvOk L l t) (ht : 2 * t + 1 < L.length) : RvOk L ((l.set t (l.getD (L.length - 1 - t) 0)).set (L.length - 1 - t) (l.getD t 0)) (t + 1) := by
 obtain ⟨h1, h2⟩ := h
 refine ⟨by rw [List.length_set, List.length_set]; exact h1, fun j hj => ?_⟩
 rw [gset (by rw [List.length_set]; omega), gset (by omega)]
 have a := h2 t (by omega)
 have b := h2 (L.length - 1 - t) (by omega)
 rw [if_neg (by omega)] at a b
 by_cases e1 : L.length - 1 - t = j
 ·rw [if_pos e1, if_pos (by omega), a]; congr 1; omega
 ·rw [if_neg e1]
  by_cases e2 : t = j
  ·rw [if_pos e2, if_pos (by omega), b]; congr 1; omega
  ·rw [if_neg e2, h2 j hj]
   by_cases c : j < t ∨ L.length ≤ j + t
   ·rw [if_pos c, if_pos (by omega)]
   ·rw [if_neg c, if_neg (by omega)]
theorem rv_end {L l : List Int} {t : Nat} (h : RvOk L l t) (ht : L.length ≤ 2 * t + 1) : l = L.reverse := by
 obtain ⟨h1, h2⟩ := h
 refine ints_eq (by rw [List.length_reverse]; exact h1) fun i hi => ?_
 rw [h2 i (by omega)]
 have hr : L.reverse.getD i 0 = L.getD (L.length - 1 - i) 0 := by
  rw [List.getD_eq_getElem?_getD, List.getD_eq_getElem?_getD, List.getElem?_reverse (by omega)]
 rw [hr]
 by_cases c : i < t ∨ L.length ≤ i + t
 ·rw [if_pos c]
 ·rw [if_neg c]; congr 1; omega
end Go.Proofs.Ytaeabefbohlcpaa
