/- Plain: numbers read. -/
import Derived.Test.YtfoofbcmaljmoaaGreatDoorPrp
namespace Go.Proofs.YtfoofbcmaljmoaaGreatDoor
open Go.RowKit
set_option linter.unusedVariables false
set_option linter.unusedSimpArgs false

def rdF : Int → List UInt8 → Int
 | a, [] => a
 | a, c :: r => if c.toNat < 48 ∨ 57 < c.toNat then -1 else rdF (10 * a + ((c.toNat : Int) - 48)) r
def rdN (m : Nat) (l : List UInt8) : Int := if l.length < 1 ∨ m < l.length ∨ (l.head? = some 48 ∧ 1 < l.length) then -1 else rdF 0 l
theorem rdF_app : ∀ (x y : List UInt8) (a : Int), (∀ c ∈ x, DgC c) → rdF a (x ++ y) = rdF (rdF a x) y
 | [], y, a, _ => rfl
 | c :: r, y, a, h => by
  have hc := h c (by simp)
  unfold DgC at hc
  rw [List.cons_append, rdF, rdF, if_neg (by omega), if_neg (by omega)]
  exact rdF_app r y _ fun x hx => h x (by simp [hx])
theorem rdF_dec : ∀ (u : Nat), rdF 0 (Lib.decDigits u) = u := by
 intro u
 induction u using Nat.strongRecOn with
 | _ u ih =>
  by_cases q : u < 10
  ·rw [dg_small q]
   simp only [rdF, dgb_nat q]
   rw [if_neg (by omega)]
   omega
  ·rw [dg_next q rfl rfl, rdF_app _ _ _ (dec_all _), ih (u / 10) (by omega)]
   simp only [rdF, dgb_nat (show u % 10 < 10 by omega)]
   rw [if_neg (by omega)]
   omega
theorem dec_len : ∀ (m u : Nat), 1 ≤ m → u < 10 ^ m → (Lib.decDigits u).length ≤ m
 | 0, u, h, _ => by omega
 | m + 1, u, _, h => by
  by_cases q : u < 10
  ·rw [dg_small q]; simp
  ·by_cases hm : m = 0
   ·subst hm; omega
   ·rw [dg_next q rfl rfl, List.length_append]
    have := dec_len m (u / 10) (by omega) (by rw [Nat.pow_succ] at h; omega)
    simp; omega
theorem dec_head : ∀ (u : Nat), 1 ≤ u → (Lib.decDigits u).head? ≠ some 48 := by
 intro u
 induction u using Nat.strongRecOn with
 | _ u ih =>
  intro hu
  by_cases q : u < 10
  ·rw [dg_small q]
   intro h
   simp at h
   have := dgb_nat q
   rw [h] at this
   have e : (48 : UInt8).toNat = 48 := rfl
   omega
  ·rw [dg_next q rfl rfl]
   have h1 := ih (u / 10) (by omega) (by omega)
   have h2 := dec_ne (u / 10)
   cases hd : Lib.decDigits (u / 10) with
   | nil => exact absurd hd h2
   | cons c r => rw [hd] at h1; simpa using h1
theorem rdN_dec {m u : Nat} (hm : 1 ≤ m) (h : u < 10 ^ m) : rdN m (Lib.decDigits u) = u := by
 have h1 := dec_len m u hm h
 have h2 := List.length_pos_iff.2 (dec_ne u)
 unfold rdN
 rw [if_neg, rdF_dec]
 rintro (q | q | ⟨q, q2⟩)
 ·omega
 ·omega
 ·by_cases hu : u < 10
  ·rw [dg_small hu] at q2; simp at q2
  ·exact dec_head u (by omega) q
theorem rdN_itoa {m : Nat} {x : Int} (hm : 1 ≤ m) (h0 : 0 ≤ x) (h : x < 10 ^ m) : rdN m (Lib.itoa x) = x := by
 rw [itoa_pos h0, rdN_dec hm]
 ·omega
 ·have : ((x.toNat : Nat) : Int) < ((10 ^ m : Nat) : Int) := by rw [Int.toNat_of_nonneg h0]; simpa using h
  exact_mod_cast this
theorem rdF_b : ∀ (l : List UInt8) (a : Int), 0 ≤ a → -1 ≤ rdF a l ∧ rdF a l ≤ (a + 1) * 10 ^ l.length
 | [], a, h => by simp [rdF]; omega
 | c :: r, a, h => by
  rw [rdF]
  split
  ·have : (0 : Int) ≤ (a + 1) * 10 ^ (c :: r).length := Int.mul_nonneg (by omega) (Int.le_of_lt (Int.pow_pos (by omega)))
   omega
  ·rename_i q
   have hc : c.toNat < 256 := c.toNat_lt
   obtain ⟨h1, h2⟩ := rdF_b r (10 * a + ((c.toNat : Int) - 48)) (by omega)
   refine ⟨h1, Int.le_trans h2 ?_⟩
   rw [List.length_cons, Int.pow_succ]
   have e : (a + 1) * (10 ^ r.length * 10) = (a * 10 + 10) * 10 ^ r.length := by
    rw [show a * 10 + 10 = (a + 1) * 10 by omega, Int.mul_assoc, Int.mul_comm 10]
   rw [e]
   exact Int.mul_le_mul_of_nonneg_right (by omega) (Int.le_of_lt (Int.pow_pos (by omega)))
theorem rdN_b {m : Nat} (hm : m ≤ 10) (l : List UInt8) : -1 ≤ rdN m l ∧ rdN m l ≤ 10000000000 := by
 unfold rdN
 split
 ·omega
 ·rename_i q
  obtain ⟨h1, h2⟩ := rdF_b l 0 (by omega)
  refine ⟨h1, Int.le_trans h2 ?_⟩
  have hl : l.length ≤ 10 := by omega
  have : (10 : Int) ^ l.length ≤ 10 ^ 10 := by
   have := Nat.pow_le_pow_right (show 0 < 10 by omega) hl
   exact_mod_cast this
  omega
def foMin (l : List UInt8) : Bool := decide (1 < l.length) && decide (l.head? = some 45)
def foI (l : List UInt8) : Int × Bool :=
 if rdN 10 (if foMin l then l.tail else l) < 0 ∨ (foMin l = true ∧ rdN 10 (if foMin l then l.tail else l) = 0) ∨ 1000000 < rdN 10 (if foMin l then l.tail else l) then (0, false)
 else (if foMin l then -rdN 10 (if foMin l then l.tail else l) else rdN 10 (if foMin l then l.tail else l), true)
theorem foI_b (l : List UInt8) : -1000000 ≤ (foI l).1 ∧ (foI l).1 ≤ 1000000 := by
 unfold foI
 generalize rdN 10 (if foMin l then l.tail else l) = n
 generalize foMin l = m
 by_cases q : n < 0 ∨ (m = true ∧ n = 0) ∨ 1000000 < n
 ·rw [if_pos q]; constructor <;> decide
 ·rw [if_neg q]
  simp only [not_or] at q
  cases m
  ·simp only [Bool.false_eq_true, if_false]; omega
  ·simp only [if_true]; omega
theorem foI_itoa {x : Int} (h0 : -1000000 ≤ x) (h1 : x ≤ 1000000) : foI (Lib.itoa x) = (x, true) := by
 by_cases q : 0 ≤ x
 ·have hm : foMin (Lib.itoa x) = false := by
   rw [itoa_pos q]
   cases hd : Lib.decDigits x.toNat with
   | nil => rfl
   | cons c r =>
    have hc := dec_all x.toNat c (by rw [hd]; simp)
    have : c ≠ 45 := fun e => by subst e; unfold DgC at hc; have e : (45 : UInt8).toNat = 45 := rfl; omega
    simp [foMin, this]
  unfold foI
  rw [hm]
  simp only [Bool.false_eq_true, if_false, false_and, false_or]
  rw [rdN_itoa (by omega) q (by omega), if_neg (by omega)]
 ·have hi := itoa_neg' (x := x) (by omega)
  have hl := List.length_pos_iff.2 (dec_ne x.natAbs)
  have hm : foMin (Lib.itoa x) = true := by
   rw [hi]; simp [foMin]; omega
  unfold foI
  rw [hm, hi]
  simp only [if_true, List.tail_cons]
  rw [rdN_dec (by omega) (by omega), if_neg (by omega)]
  congr 1
  omega
def iiOk (x : ByteArray) : Bool := match Lib.atoiAll x.data.toList with | .ok _ => true | _ => false
def iiV (x : ByteArray) : Int := match Lib.atoiAll x.data.toList with | .ok v => v | _ => 0
def iiL (s : ByteArray) : List Int := if (Lib.goFieldsP nmP s).all iiOk then (Lib.goFieldsP nmP s).map iiV else []
theorem ii_itoa {x : Int} (h : I64 x) : iiOk (tx (Lib.itoa x)) = true ∧ iiV (tx (Lib.itoa x)) = x := by
 unfold iiOk iiV
 rw [tx_list, atoi_itoa h]
 exact ⟨rfl, rfl⟩
theorem atoi_b {l : List UInt8} {v : Int} (h : Lib.atoiAll l = .ok v) : I64 v := by
 unfold Lib.atoiAll at h
 split at h
 ·cases h
 ·simp only at h
  split at h
  ·cases h
  ·cases h
  ·split at h
   ·cases h
   ·split at h
    ·cases h
    ·injection h with h
     rw [← h]
     constructor <;> split <;> omega
theorem iiV_b (x : ByteArray) : I64 (iiV x) := by
 unfold iiV
 split
 ·rename_i v h; exact atoi_b h
 ·exact ⟨by omega, by omega⟩
theorem iiL_b (s : ByteArray) : ∀ x ∈ iiL s, I64 x := by
 intro x hx
 unfold iiL at hx
 split at hx
 ·obtain ⟨y, _, rfl⟩ := List.mem_map.1 hx; exact iiV_b y
 ·cases hx
theorem ii_jn (c : UInt8) (hc : c.toNat < 128) (hp : nmP c.toNat = true) (xs : List Int) (hn : xs ≠ []) (h : ∀ x ∈ xs, I64 x) : iiL (tx (jn c (xs.map Lib.itoa))) = xs := by
 have hf := fields_jn c hc hp (xs.map Lib.itoa) (by simpa using hn) (by
  intro w hw
  obtain ⟨x, _, rfl⟩ := List.mem_map.1 hw
  exact ⟨itoa_ne x, itoa_all x⟩)
 unfold iiL
 rw [hf, List.map_map, List.map_map, List.all_map]
 have e1 : (xs.all ((iiOk ∘ tx) ∘ Lib.itoa)) = true := List.all_eq_true.2 fun x hx => (ii_itoa (h x hx)).1
 have e2 : (xs.map ((iiV ∘ tx) ∘ Lib.itoa)) = xs := by
  have : ∀ x ∈ xs, ((iiV ∘ tx) ∘ Lib.itoa) x = x := fun x hx => (ii_itoa (h x hx)).2
  rw [List.map_congr_left this, List.map_id']
 first
  | (rw [if_pos (by simpa [Function.comp_def] using e1)]; simpa [Function.comp_def] using e2)
  | simp_all [Function.comp_def]
end Go.Proofs.YtfoofbcmaljmoaaGreatDoor
