/- The completed form: plain facts. -/
import Derived.Test.YtaeabefbohlcpaaCom
namespace Go.Proofs.Ytaeabefbohlcpaa
open Go.RowKit
set_option linter.unusedVariables false
set_option linter.unusedSimpArgs false
attribute [local go_sem] q2 q3 q4 q5 q6 q7 q8 q9 q10 q11 q12

theorem at_wide {a b c x y : Int} (ha : -1000 ≤ a ∧ a ≤ 1000) (hb : -1000 ≤ b ∧ b ≤ 1000) (hc : -1000 ≤ c ∧ c ≤ 1000) (hx : -1000000 ≤ x ∧ x ≤ 1000000) (hy : -1000000 ≤ y ∧ y ≤ 1000000) : AtOk a b c x y := by
 have p1 := mul_bd (A := 1000) (B := 1000000) (by omega) ha hx
 have p2 := mul_bd (A := 1000000000) (B := 1000000) (by omega) (show -1000000000 ≤ a * x ∧ a * x ≤ 1000000000 by omega) hx
 have p3 := mul_bd (A := 1000) (B := 1000000) (by omega) hb hx
 have p4 := mul_bd (A := 1000000000) (B := 1000000) (by omega) (show -1000000000 ≤ b * x ∧ b * x ≤ 1000000000 by omega) hy
 have p5 := mul_bd (A := 1000) (B := 1000000) (by omega) hc hy
 have p6 := mul_bd (A := 1000000000) (B := 1000000) (by omega) (show -1000000000 ≤ c * y ∧ c * y ≤ 1000000000 by omega) hy
 exact ⟨by omega, by omega, by omega, by omega, by omega, by omega⟩
theorem po_wide {a b c x y u v : Int} (ha : -1000 ≤ a ∧ a ≤ 1000) (hb : -1000 ≤ b ∧ b ≤ 1000) (hc : -1000 ≤ c ∧ c ≤ 1000) (hx : -1000 ≤ x ∧ x ≤ 1000) (hy : -1000 ≤ y ∧ y ≤ 1000) (hu : -1000000 ≤ u ∧ u ≤ 1000000) (hv : -1000000 ≤ v ∧ v ≤ 1000000) : PoOk a b c x y u v := by
 have p1 := mul_bd (A := 2000) (B := 1000) (by omega) (show -2000 ≤ 2 * a ∧ 2 * a ≤ 2000 by omega) hx
 have p2 := mul_bd (A := 2000000) (B := 1000000) (by omega) (show -2000000 ≤ 2 * a * x ∧ 2 * a * x ≤ 2000000 by omega) hu
 have p3 := mul_bd (A := 1000) (B := 1000000) (by omega) hx hv
 have p4 := mul_bd (A := 1000) (B := 1000000) (by omega) hy hu
 have p5 := mul_bd (A := 1000) (B := 2000000000) (by omega) hb (show -2000000000 ≤ x * v + y * u ∧ x * v + y * u ≤ 2000000000 by omega)
 have p6 := mul_bd (A := 2000) (B := 1000) (by omega) (show -2000 ≤ 2 * c ∧ 2 * c ≤ 2000 by omega) hy
 have p7 := mul_bd (A := 2000000) (B := 1000000) (by omega) (show -2000000 ≤ 2 * c * y ∧ 2 * c * y ≤ 2000000 by omega) hv
 exact ⟨by omega, by omega, by omega, by omega, by omega, by omega, by omega, by omega, by omega⟩
theorem pol_bd {a b c x y u v : Int} (ha : -26 ≤ a ∧ a ≤ 26) (hb : -26 ≤ b ∧ b ≤ 26) (hc : -600 ≤ c ∧ c ≤ 600) (hx : -5 ≤ x ∧ x ≤ 5) (hy : -5 ≤ y ∧ y ≤ 5) (hu : -10 ≤ u ∧ u ≤ 10) (hv : -10 ≤ v ∧ v ≤ 10) : -100000 ≤ polI a b c x y u v ∧ polI a b c x y u v ≤ 100000 := by
 have p1 := mul_bd (A := 52) (B := 5) (by omega) (show -52 ≤ 2 * a ∧ 2 * a ≤ 52 by omega) hx
 have p2 := mul_bd (A := 260) (B := 10) (by omega) (show -260 ≤ 2 * a * x ∧ 2 * a * x ≤ 260 by omega) hu
 have p3 := mul_bd (A := 5) (B := 10) (by omega) hx hv
 have p4 := mul_bd (A := 5) (B := 10) (by omega) hy hu
 have p5 := mul_bd (A := 26) (B := 100) (by omega) hb (show -100 ≤ x * v + y * u ∧ x * v + y * u ≤ 100 by omega)
 have p6 := mul_bd (A := 1200) (B := 5) (by omega) (show -1200 ≤ 2 * c ∧ 2 * c ≤ 1200 by omega) hy
 have p7 := mul_bd (A := 6000) (B := 10) (by omega) (show -6000 ≤ 2 * c * y ∧ 2 * c * y ≤ 6000 by omega) hv
 unfold polI
 omega
noncomputable def cpE (a b c : Int) (x y : Nat) : Int := valI a b c x y
noncomputable def cpP (a b c : Int) (x y : Nat) : Int := polI a b c x y (-bzV x y) (bzS x y)
noncomputable def cpT (a b c : Int) (x y : Nat) : Int := -(cpP a b c x y / (2 * cpE a b c x y))
noncomputable def cpB (a b c : Int) (x y : Nat) : Int := cpP a b c x y % (2 * cpE a b c x y)
noncomputable def cpC (a b c : Int) (x y : Nat) : Int := (cpB a b c x y * cpB a b c x y - discI a b c) / (4 * cpE a b c x y)
noncomputable def cpQ (a b c : Int) (x y : Nat) : Int := -bzV x y + cpT a b c x y * x
noncomputable def cpS (a b c : Int) (x y : Nat) : Int := bzS x y + cpT a b c x y * y
structure CplF (a b c : Int) (x y : Nat) (e P t B C : Int) : Prop where
 e0 : 1 ≤ e
 e1 : e ≤ 20000
 P0 : -100000 ≤ P
 P1 : P ≤ 100000
 pd : -100000 ≤ P / (2 * e) ∧ P / (2 * e) ≤ 100000
 tt : t = -(P / (2 * e))
 tx : -500000 ≤ t * x ∧ t * x ≤ 500000
 ty : -500000 ≤ t * y ∧ t * y ≤ 500000
 B0 : 0 ≤ B
 B1 : B < 2 * e
 PB : P + 2 * e * t = B
 dv : (P % (2 * e) - P).tdiv (2 * e) = t
 B2 : 0 ≤ B * B ∧ B * B ≤ 1600000000
 et : -20000000000 ≤ 2 * e * t ∧ 2 * e * t ≤ 20000000000
 C0 : 0 ≤ C
 C1 : C ≤ 1000000000
 cd : (B * B - discI a b c).tdiv (4 * e) = C
 vq : valI a b c (-bzV x y + t * x) (bzS x y + t * y) = C
 pq : polI a b c x y (-bzV x y + t * x) (bzS x y + t * y) = B
 cb : IsCB a b c x y B
 dd : discI e B C = discI a b c
theorem cpl_facts {a b c : Int} {x y : Nat} (h : RedC a b c) (hx : x ≤ 5) (hy : y ≤ 5) (hg : Int.gcd x y = 1) : CplF a b c x y (cpE a b c x y) (cpP a b c x y) (cpT a b c x y) (cpB a b c x y) (cpC a b c x y) := by
 obtain ⟨s1, s2, s3, s4⟩ := red_small h.cls.ok h.red
 have a0 := h.cls.ok.a0
 have c0 := h.cls.ok.c0
 obtain ⟨b1, b2, b3, _⟩ := bz_facts hx hy hg
 obtain ⟨v0, v1⟩ := val_bd h.cls.ok h.red hx hy hg
 have hP := pol_bd (x := x) (y := y) (u := -bzV x y) (v := bzS x y) (show -26 ≤ a ∧ a ≤ 26 by omega) (show -26 ≤ b ∧ b ≤ 26 by omega) (show -600 ≤ c ∧ c ≤ 600 by omega) (by omega) (by omega) (by omega) (by omega)
 have hd : (x : Int) * bzS x y - y * (-bzV x y) = 1 := by grind
 have hvp := pol_shift a b c x y (-bzV x y) (bzS x y) (cpT a b c x y)
 have hd2 : (x : Int) * (bzS x y + y * cpT a b c x y) - y * (-bzV x y + x * cpT a b c x y) = 1 := by grind
 have hdisc := sub_disc (a := a) (b := b) (c := c) hd2
 rw [hvp] at hdisc
 have ex : -bzV x y + cpT a b c x y * x = -bzV x y + x * cpT a b c x y := by grind
 have ey : bzS x y + cpT a b c x y * y = bzS x y + y * cpT a b c x y := by grind
 rw [← ex, ← ey] at hdisc
 rw [← ex, ← ey] at hvp
 have dm := Int.emod_add_mul_ediv (cpP a b c x y) (2 * cpE a b c x y)
 have e1 : cpE a b c x y = valI a b c x y := rfl
 have e2 : cpP a b c x y = polI a b c x y (-bzV x y) (bzS x y) := rfl
 rw [← e1] at v0 v1 hdisc hvp
 rw [← e2] at hP hdisc hvp
 have m0 := Int.emod_nonneg (cpP a b c x y) (show 2 * cpE a b c x y ≠ 0 by omega)
 have m1 := Int.emod_lt_of_pos (cpP a b c x y) (show 0 < 2 * cpE a b c x y by omega)
 have hB : cpB a b c x y = cpP a b c x y % (2 * cpE a b c x y) := rfl
 have hT : cpT a b c x y = -(cpP a b c x y / (2 * cpE a b c x y)) := rfl
 have hC : cpC a b c x y = (cpB a b c x y * cpB a b c x y - discI a b c) / (4 * cpE a b c x y) := rfl
 have hcb : IsCB a b c x y (cpB a b c x y) → IsCB a b c x y (cpB a b c x y) := id
 have mkcb : 0 ≤ cpB a b c x y → cpB a b c x y < 2 * cpE a b c x y → cpB a b c x y = cpP a b c x y + 2 * cpE a b c x y * cpT a b c x y → IsCB a b c x y (cpB a b c x y) := fun q0 q1 q2 => ⟨q0, q1, -bzV x y, bzS x y, cpT a b c x y, hd, q2⟩
 rw [← hB] at m0 m1 dm
 have h0 := h.cls.ok.d0
 have h1 := h.cls.ok.d1
 clear hcb h e1 e2 hB hd hd2
 generalize hVQ : valI a b c (-bzV x y + cpT a b c x y * x) (bzS x y + cpT a b c x y * y) = VQ at *
 generalize hPQ : polI a b c x y (-bzV x y + cpT a b c x y * x) (bzS x y + cpT a b c x y * y) = PQ at *
 generalize cpE a b c x y = e at *
 generalize cpP a b c x y = P at *
 generalize cpC a b c x y = C at *
 generalize cpT a b c x y = t at *
 generalize cpB a b c x y = B at *
 generalize hq : P / (2 * e) = q at *
 have hq1 : -100000 ≤ q ∧ q ≤ 100000 := by
  refine ⟨?_, ?_⟩
  ·by_cases z : -100000 ≤ q
   ·exact z
   ·have := Int.mul_le_mul_of_nonneg_left (show q ≤ -100001 by omega) (show 0 ≤ 2 * e by omega); omega
  ·by_cases z : q ≤ 100000
   ·exact z
   ·have := Int.mul_le_mul_of_nonneg_left (show 100001 ≤ q by omega) (show 0 ≤ 2 * e by omega); omega
 have et : 2 * e * t = -(2 * e * q) := by rw [hT, Int.mul_neg]
 have hPB : P + 2 * e * t = B := by omega
 rw [hPB] at hdisc
 have hBB : 0 ≤ B * B ∧ B * B ≤ 40000 * 40000 := ⟨Int.mul_nonneg m0 m0, Int.mul_le_mul (by omega) (by omega) m0 (by omega)⟩
 have hdd : B * B - discI a b c = 4 * e * VQ := by unfold discI at hdisc ⊢; omega
 have hVC : VQ = C := by rw [hC, hdd, Int.mul_ediv_cancel_left _ (by omega)]
 have e4 : 4 * e * VQ = 4 * (e * VQ) := Int.mul_assoc _ _ _
 have V0 : 0 < VQ := by
  by_cases z : 0 < VQ
  ·exact z
  ·have := Int.mul_nonneg_of_nonpos_of_nonpos (a := -e) (b := VQ) (by omega) (by omega)
   rw [Int.neg_mul] at this; omega
 have V1 : VQ ≤ 1000000000 := by
  have := Int.mul_le_mul_of_nonneg_right (show 1 ≤ e by omega) (show 0 ≤ VQ by omega)
  omega
 refine ⟨by omega, v1, by omega, by omega, by omega, by omega, ?_, ?_, m0, m1, hPB, ?_, by omega, ?_, by omega, by omega, ?_, hVQ.trans hVC, hPQ.trans (by omega), mkcb m0 m1 hPB.symm, ?_⟩
 ·exact mul_bd (A := 100000) (B := 5) (by omega) (by omega) (by omega)
 ·exact mul_bd (A := 100000) (B := 5) (by omega) (by omega) (by omega)
 ·have z : P % (2 * e) - P = 2 * e * t := by
   have := Int.emod_add_mul_ediv P (2 * e)
   rw [hq] at this; omega
  rw [z]; exact Int.mul_tdiv_cancel_left _ (by omega)
 ·have z1 : -100000 ≤ t ∧ t ≤ 100000 := by omega
  have z2 := mul_bd (a := 2 * e) (b := t) (A := 40000) (B := 100000) (by omega) (by omega) z1
  omega
 ·rw [hdd, Int.mul_tdiv_cancel_left _ (by omega)]; exact hVC
 ·rw [← hVC]; exact hdisc
theorem red_form {a b c : Int} (h : RedC a b c) : formB a b c = true := by
 obtain ⟨s1, s2, s3, s4⟩ := red_small h.cls.ok h.red
 have a0 := h.cls.ok.a0
 have c0 := h.cls.ok.c0
 rw [form_num]; simp [numB, inB]; omega
end Go.Proofs.Ytaeabefbohlcpaa
