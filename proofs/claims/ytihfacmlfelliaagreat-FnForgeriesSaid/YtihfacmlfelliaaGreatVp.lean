/- Plain: what is proved of delays and forgeries. -/
import Derived.Test.YtihfacmlfelliaaGreatGi
import Derived.Test.YtihfacmlfelliaaGreatHv
import Derived.Test.YtihfacmlfelliaaGreatSo
namespace Go.Proofs.YtihfacmlfelliaaGreat
open Go.RowKit
set_option linter.unusedVariables false
set_option linter.unusedSimpArgs false

theorem pow_emod9 (a m : Int) : ∀ k : Nat, (a % m) ^ k % m = a ^ k % m
 | 0 => by rw [Int.pow_zero, Int.pow_zero]
 | k + 1 => by rw [Int.pow_succ, Int.pow_succ, Int.mul_emod, pow_emod9 a m k, Int.emod_emod_of_dvd _ (Int.dvd_refl m), ← Int.mul_emod]
theorem pmL_pow {m : Int} (hm : 0 < m) (k : Nat) : ∀ {p a : Int}, pmL m p a k % m = p * a ^ k % m := by
 induction k using Nat.strongRecOn with
 | _ k ih =>
  intro p a
  rw [pmL]
  split
  ·rename_i h0
   subst h0
   simp
  ·rename_i h0
   have e1 : (a * a % m) ^ (k / 2) % m = a ^ (2 * (k / 2)) % m := by
    rw [pow_emod9, show a * a = a ^ 2 by rw [Int.pow_succ, Int.pow_succ, Int.pow_zero, Int.one_mul], ← Int.pow_mul]
   split
   ·rename_i h1
    rw [ih (k / 2) (by omega), Int.mul_emod, e1, Int.emod_emod_of_dvd _ (Int.dvd_refl m), ← Int.mul_emod, Int.mul_assoc]
    have e3 : k = 2 * (k / 2) + 1 := by omega
    have e4 : a ^ k = a * a ^ (2 * (k / 2)) := by
     have : a ^ k = a ^ (2 * (k / 2) + 1) := by rw [← e3]
     rw [this, Int.pow_succ, Int.mul_comm]
    rw [e4]
   ·rename_i h1
    rw [ih (k / 2) (by omega), Int.mul_emod, e1, ← Int.mul_emod]
    have e3 : k = 2 * (k / 2) := by omega
    rw [← e3]
theorem pmI_pow {t l : Int} (hl : 2 ≤ l) (ht : 0 ≤ t) : (pmI 2 t l).toNat = 2 ^ t.toNat % l.toNat := by
 have hb := pmI_bd (a := 2) (k := t) (m := l) (by omega)
 have h1 := pmL_pow (m := l) (by omega) t.toNat (p := 1 % l) (a := 2 % l)
 have h2 : pmI 2 t l % l = pmI 2 t l := Int.emod_eq_of_lt hb.1 hb.2
 have h3 : pmI 2 t l = 2 ^ t.toNat % l := by
  rw [← h2]
  unfold pmI
  rw [h1, Int.mul_emod, Int.emod_emod_of_dvd _ (Int.dvd_refl l), pow_emod9, ← Int.mul_emod, Int.one_mul]
 rw [h3]
 obtain ⟨n, rfl⟩ := Int.eq_ofNat_of_zero_le (show 0 ≤ l by omega)
 have : ((2 : Int) ^ t.toNat) = ((2 ^ t.toNat : Nat) : Int) := by rw [Int.natCast_pow]; rfl
 rw [this, ← Int.natCast_emod]
 exact Int.toNat_natCast _
theorem quL_po {D : Int} {F : T3} (hF : InD D F) {l : Nat} : ∀ (n : Nat) (q r : Nat), r < l → quL F (l : Int) (poN D F q) (r : Int) n = poN D F (2 ^ n * (q * l + r) / l)
 | 0, q, r, h => by
  show poN D F q = _
  congr 1
  rw [Nat.pow_zero, Nat.one_mul, Nat.mul_comm q l, Nat.mul_add_div (by omega), Nat.div_eq_of_lt h, Nat.add_zero]
 | n + 1, q, r, h => by
  have e2 : cmp (poN D F q) (poN D F q) = poN D F (2 * q) := by rw [← poN_add hF]; congr 1; omega
  rw [quL, e2]
  split
  ·rename_i hl
   have e3 : cmp (poN D F (2 * q)) F = poN D F (2 * q + 1) := rfl
   have e4 : 2 * (r : Int) - (l : Int) = ((2 * r - l : Nat) : Int) := by omega
   rw [e3, e4, quL_po hF n (2 * q + 1) (2 * r - l) (by omega)]
   congr 1
   congr 1
   have e5 : (2 * q + 1) * l + (2 * r - l) = 2 * (q * l + r) := by
    rw [Nat.add_mul, Nat.mul_assoc]; omega
   rw [e5, Nat.pow_succ, Nat.mul_assoc]
  ·rename_i hl
   have e4 : 2 * (r : Int) = ((2 * r : Nat) : Int) := by omega
   rw [e4, quL_po hF n (2 * q) (2 * r) (by omega)]
   congr 1
   congr 1
   have e5 : 2 * q * l + 2 * r = 2 * (q * l + r) := by rw [Nat.mul_assoc]; omega
   rw [e5, Nat.pow_succ, Nat.mul_assoc]
theorem quD_po {D : Int} {F : T3} (hF : InD D F) {t l : Int} (hl : 2 ≤ l) : quD D F t l = poN D F (2 ^ t.toNat / l.toNat) := by
 obtain ⟨n, rfl⟩ := Int.eq_ofNat_of_zero_le (show 0 ≤ l by omega)
 have := quL_po hF (l := n) t.toNat 0 1 (by omega)
 unfold quD
 rw [show (1 : Int) = ((1 : Nat) : Int) from rfl]
 show quL F (n : Int) (poN D F 0) _ _ = _
 rw [this]
 simp
theorem pwD_po {D : Int} {F : T3} (hF : InD D F) (k : Int) : pwD D F k = poN D F k.toNat := by
 unfold pwD
 rw [pwL_po (F := F) k.toNat (on_in hF).1 (on_in hF).2 hF.rd, one_cmp (poN_in hF.rd _), poN_rd hF.rd, poN_rdT hF]
theorem check_true {D : Int} {F : T3} (hF : InD D F) {t l : Int} (hl : 2 ≤ l) (ht : 0 ≤ t) : cmp (pwD D (quD D F t l) l) (pwD D F (pmI 2 t l)) = poN D F (2 ^ t.toNat) := by
 have hq := quD_po hF (t := t) hl
 have hin : InD D (quD D F t l) := by rw [hq]; exact poN_in hF _
 rw [pwD_po hin, pwD_po hF, hq, poN_mul hF, ← poN_add hF, pmI_pow hl ht]
 congr 1
 rw [Nat.mul_comm]
 exact Nat.div_add_mod _ _
theorem check_forged {D : Int} {F W : T3} (hF : InD D F) (hW : InD D W) {t l : Int} {n : Nat} (hl : 2 ≤ l) (ht : 0 ≤ t) (hn : poN D W n = onT D) {x : Int} (hx : 0 ≤ x) (hi : (x.toNat * l.toNat) % n = 1 % n) :
  cmp (pwD D (cmp (quD D F t l) (pwD D W x)) l) (pwD D F (pmI 2 t l)) = cmp (poN D F (2 ^ t.toNat)) W := by
 have hq := quD_po hF (t := t) hl
 have hc := check_true hF hl ht
 have hin : InD D (quD D F t l) := by rw [hq]; exact poN_in hF _
 have hwx : InD D (pwD D W x) := by rw [pwD_po hW]; exact poN_in hW _
 rw [pwD_po hin] at hc
 have hA := poN_in hin l.toNat
 have hB : InD D (pwD D F (pmI 2 t l)) := by rw [pwD_po hF]; exact poN_in hF _
 have e1 : poN D (pwD D W x) l.toNat = rdT W := by
  rw [pwD_po hW, poN_mul hW, poN_mod hW hn, hi, ← poN_mod hW hn, poN_one hW]
 rw [pwD_po (hin.cp hwx), poN_cmp hin hwx, e1, cmp_assoc hA hW.rd hB, cmp_comm hW.rd hB, ← cmp_assoc hA hB hW.rd, hc]
 have h := poN_in hF (2 ^ t.toNat)
 exact cp_rd2 h.cl hW.cl (hW.d.trans h.d.symm)
theorem forged_ne {D : Int} {X W : T3} (hX : InD D X) (hr : rdT X = X) (hW : InD D W) (hne : rdT W ≠ onT D) : X ≠ cmp X W := fun e => by
 have h1 : cmp X (onT D) = cmp X W := by rw [cmp_one hX, hr]; exact e
 have h2 := cmp_left (on_in hX).1 hW hX h1
 rw [rd_same (on_in hX).2] at h2
 exact hne h2.symm
theorem forged_quot {D : Int} {X W : T3} (hX : InD D X) (hW : InD D W) : cmp (cmp X W) (inT X) = rdT W := by
 rw [cmp_comm hX hW]
 exact cmp_rot hW hX
end Go.Proofs.YtihfacmlfelliaaGreat
