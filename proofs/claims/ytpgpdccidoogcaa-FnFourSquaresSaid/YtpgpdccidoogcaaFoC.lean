/-
  What the law of four squares says of one number.
-/
import Derived.Test.YtpgpdccidoogcaaFoF
import Derived.Test.YtpgpdccidoogcaaCounts
import Derived.Test.YtpgpdccidoogcaaDiv
import Derived.Test.YtpgpdccidoogcaaFirstFour
namespace Go.Proofs.Ytpgpdccidoogcaa
open Go.RowKit
set_option linter.unusedVariables false
set_option linter.unusedSimpArgs false

def g4 (z : Int) : Int := if z % 4 = 0 then 0 else z
theorem gsum_bd {g : Int → Int} {M : Int} (h : ∀ z, 0 ≤ z ∧ z ≤ M → 0 ≤ g z ∧ g z ≤ M) (L : List Int) (hL : ∀ i, i < L.length → 0 ≤ L.getD i 0 ∧ L.getD i 0 ≤ M) (k : Nat) (hk : k ≤ L.length) : 0 ≤ sumN (fun i => g (L.getD i 0)) k ∧ sumN (fun i => g (L.getD i 0)) k ≤ k * M := by
  induction k with
  | zero => simp [sumN]
  | succ k ih =>
    have := ih (by omega)
    have h2 := h _ (hL k (by omega))
    simp only [sumN]
    rw [Int.natCast_add, Int.add_mul]
    simp only [Int.natCast_one, Int.one_mul]
    omega
theorem sq_bd {x : Int} (h : -2000 ≤ x ∧ x ≤ 2000) : 0 ≤ x * x ∧ x * x ≤ 4000000 := by
  have h1 := Int.mul_le_mul_of_nonneg_left (a := x.natAbs) (b := 2000) (c := x.natAbs) (by omega) (by omega)
  have h2 : (x.natAbs : Int) * x.natAbs = x * x := by
    rcases Int.natAbs_eq x with e | e
    · rw [← e]
    · have : (x.natAbs : Int) = -x := by omega
      rw [this, Int.neg_mul_neg]
  have h3 : (x.natAbs : Int) * 2000 ≤ 4000000 := by omega
  have h4 := Int.mul_nonneg (a := (x.natAbs : Int)) (b := x.natAbs) (by omega) (by omega)
  rw [h2] at h1 h4
  omega
theorem sq_bd2 {x : Int} (h : -4000000 ≤ x ∧ x ≤ 4000000) : 0 ≤ x * x ∧ x * x ≤ 16000000000000 := by
  have h1 := Int.mul_le_mul_of_nonneg_left (a := x.natAbs) (b := 4000000) (c := x.natAbs) (by omega) (by omega)
  have h2 : (x.natAbs : Int) * x.natAbs = x * x := by
    rcases Int.natAbs_eq x with e | e
    · rw [← e]
    · have : (x.natAbs : Int) = -x := by omega
      rw [this, Int.neg_mul_neg]
  have h3 : (x.natAbs : Int) * 4000000 ≤ 16000000000000 := by omega
  have h4 := Int.mul_nonneg (a := (x.natAbs : Int)) (b := x.natAbs) (by omega) (by omega)
  rw [h2] at h1 h4
  omega
/-- What the functions say of one number. -/
theorem fo_cases (n : Int) : ∃ (K T P Q X Y Z U S : Int) (D : List Int), cnt (fun m => sc m 4 m) n = K ∧ cnt four n = K ∧
    ((inB n 0 10000 = false) ∨ (inB n 0 10000 = true ∧ n = 0) ∨
      (inB n 0 10000 = true ∧ (0 < n ∧ n ≤ 10000) ∧ D = divsN n.toNat ∧ sumN (fun i => g4 (D.getD i 0)) D.length = S ∧ K = 8 * S ∧ (0 ≤ S ∧ S ≤ 1000000000) ∧
        cnt (fun m => sc m 2 m) n = T ∧ dcV n 1 4 = P ∧ dcV n 3 4 = Q ∧ dcOk n 1 4 = true ∧ dcOk n 3 4 = true ∧ T = 4 * (P - Q) ∧ (0 ≤ P ∧ P ≤ 10000000) ∧ (0 ≤ Q ∧ Q ≤ 10000000) ∧
        gOk (ff n) = true ∧ gX (ff n) = X ∧ gY (ff n) = Y ∧ gZ (ff n) = Z ∧ gW (ff n) = U ∧ X * X + Y * Y + Z * Z + U * U = n ∧ ¬ X < Y ∧ ¬ Y < Z ∧ ¬ Z < U ∧ ¬ U < 0 ∧ (0 ≤ X * X ∧ X * X ≤ 10000) ∧ (0 ≤ Y * Y ∧ Y * Y ≤ 10000) ∧ (0 ≤ Z * Z ∧ Z * Z ≤ 10000) ∧ (0 ≤ U * U ∧ U * U ≤ 10000))) := by
  refine ⟨_, cnt (fun m => sc m 2 m) n, dcV n 1 4, dcV n 3 4, gX (ff n), gY (ff n), gZ (ff n), gW (ff n), sumN (fun i => g4 ((divsN n.toNat).getD i 0)) (divsN n.toNat).length, divsN n.toNat, rfl, (cntCountFour_eq n).symm, ?_⟩
  cases h : inB n 0 10000
  · exact .inl rfl
  · right
    have hb := inB_true h
    by_cases q : n = 0
    · exact .inl ⟨rfl, q⟩
    · right
      obtain ⟨m, rfl⟩ := Int.eq_ofNat_of_zero_le hb.1
      have hm : m ≤ 10000 := by omega
      have h1 : 1 ≤ m := by omega
      have e4 := four_divs m h1 hm
      have e2 := two_divs m h1 hm
      have hd1 : dcOk (m : Int) 1 4 = true := by unfold dcOk inB; simp; omega
      have hd3 : dcOk (m : Int) 3 4 = true := by unfold dcOk inB; simp; omega
      have c1 : dcV (m : Int) 1 4 = gsum (fun z => if z % 4 = 1 then 1 else 0) (divsN m) := by rw [dc_yes hd1]; exact gsum_sum (fun z => if z % 4 = 1 then 1 else 0) (divsN m)
      have c3 : dcV (m : Int) 3 4 = gsum (fun z => if z % 4 = 3 then 1 else 0) (divsN m) := by rw [dc_yes hd3]; exact gsum_sum (fun z => if z % 4 = 3 then 1 else 0) (divsN m)
      have hl := divsN_len m
      have hq := isqN_le_self m
      have b1 := cm_bd (divsN m) 1 4 (divsN m).length
      have b3 := cm_bd (divsN m) 3 4 (divsN m).length
      have hmem : ∀ i, i < (divsN m).length → 0 ≤ (divsN m).getD i 0 ∧ (divsN m).getD i 0 ≤ (10000 : Int) := fun i hi => by have := divsN_mem (n := m) (getD_mem hi); omega
      have hs := gsum_bd (g := g4) (M := 10000) (fun z hz => by unfold g4; split <;> omega) (divsN m) hmem (divsN m).length (Nat.le_refl _)
      have es : gsum (fun z => if z % 4 = 0 then 0 else z) (divsN m) = sumN (fun i => g4 ((divsN m).getD i 0)) (divsN m).length := (gsum_sum g4 (divsN m)).symm
      have hpos : 0 < four m := four_pos m h1 hm
      have hok := ff_ok hm hpos
      obtain ⟨f1, f2, f3, f4, f5⟩ := ff_facts hok
      have u0 := Int.mul_nonneg f5 f5
      have z0 := Int.mul_nonneg (Int.le_trans f5 f4) (Int.le_trans f5 f4)
      have y0 := Int.mul_nonneg (Int.le_trans (Int.le_trans f5 f4) f3) (Int.le_trans (Int.le_trans f5 f4) f3)
      have x0 := Int.mul_nonneg (Int.le_trans (Int.le_trans (Int.le_trans f5 f4) f3) f2) (Int.le_trans (Int.le_trans (Int.le_trans f5 f4) f3) f2)
      rw [Int.toNat_natCast]
      refine ⟨rfl, ⟨by omega, by omega⟩, rfl, rfl, ?_, ?_, rfl, rfl, rfl, hd1, hd3, ?_, ?_, ?_, hok, rfl, rfl, rfl, rfl, f1, by omega, by omega, by omega, by omega, ⟨x0, by omega⟩, ⟨y0, by omega⟩, ⟨z0, by omega⟩, ⟨u0, by omega⟩⟩
      · rw [cntCountFour_eq, cnt_yes h, e4, es]
      · have : ((divsN m).length : Int) * 10000 ≤ 20000 * 10000 := Int.mul_le_mul_of_nonneg_right (by omega) (by omega)
        omega
      · rw [cntCountTwo_eq, cnt_yes h, e2, c1, c3]
      · rw [dc_yes hd1]; omega
      · rw [dc_yes hd3]; omega
end Go.Proofs.Ytpgpdccidoogcaa
