/- Plain: orders of classes, forgeries. Orders of classes on both sides. Plain: what is proved of delays and forgeries. DivideForms, ComposeForms, AreEquivalent where they answer. -/
import Derived.Test.YtihfacmlfelliaaGreatGi
import Derived.Test.YtihfacmlfelliaaGreatHc
import Derived.Test.YtihfacmlfelliaaGreatPt
import Derived.Test.YtihfacmlfelliaaGreatInv
import Derived.Test.YtihfacmlfelliaaGreatGqu
import Derived.Test.YtihfacmlfelliaaGreatRw
import Derived.Test.YtihfacmlfelliaaGreatHv
import Derived.Test.YtihfacmlfelliaaGreatGc
import Derived.Test.YtihfacmlfelliaaGreatDpB
namespace Go.Proofs.YtihfacmlfelliaaGreat
open Go.RowKit
set_option linter.unusedVariables false
set_option linter.unusedSimpArgs false

end Go.Proofs.YtihfacmlfelliaaGreat
namespace Go.Proofs.YtihfacmlfelliaaGreat
open Go.RowKit
set_option linter.unusedVariables false
set_option linter.unusedSimpArgs false
attribute [local go_sem] q2 q3 q4 q5 q6 q7 q8 q9 q10 q11 q12

end Go.Proofs.YtihfacmlfelliaaGreat
namespace Go.Proofs.YtihfacmlfelliaaGreat
open Go.RowKit
set_option linter.unusedVariables false
set_option linter.unusedSimpArgs false

theorem pow_emod9 (a m : Int) : ∀ k : Nat, (a % m) ^ k % m = a ^ k % m
 | 0 => by rw [Int.pow_zero, Int.pow_zero]
 | k + 1 => by rw [Int.pow_succ, Int.pow_succ, Int.mul_emod, pow_emod9 a m k, Int.emod_emod_of_dvd _ (Int.dvd_refl m), ← Int.mul_emod]
theorem pmL_pow {m : Int} (hm : 0 < m) (k : Nat) : ∀ {p a : Int}, pmL m p a k % m = p * a ^ k % m := by
 induction k using Nat.strongRecOn with
 | _ k ih =>
  intro p a
  rw [pmL]
  split
  ·rename_i h0
   subst h0
   simp
  ·rename_i h0
   have e1 : (a * a % m) ^ (k / 2) % m = a ^ (2 * (k / 2)) % m := by
    rw [pow_emod9, show a * a = a ^ 2 by rw [Int.pow_succ, Int.pow_succ, Int.pow_zero, Int.one_mul], ← Int.pow_mul]
   split
   ·rename_i h1
    rw [ih (k / 2) (by omega), Int.mul_emod, e1, Int.emod_emod_of_dvd _ (Int.dvd_refl m), ← Int.mul_emod, Int.mul_assoc]
    have e3 : k = 2 * (k / 2) + 1 := by omega
    have e4 : a ^ k = a * a ^ (2 * (k / 2)) := by
     have : a ^ k = a ^ (2 * (k / 2) + 1) := by rw [← e3]
     rw [this, Int.pow_succ, Int.mul_comm]
    rw [e4]
   ·rename_i h1
    rw [ih (k / 2) (by omega), Int.mul_emod, e1, ← Int.mul_emod]
    have e3 : k = 2 * (k / 2) := by omega
    rw [← e3]
theorem pmI_pow {t l : Int} (hl : 2 ≤ l) (ht : 0 ≤ t) : (pmI 2 t l).toNat = 2 ^ t.toNat % l.toNat := by
 have hb := pmI_bd (a := 2) (k := t) (m := l) (by omega)
 have h1 := pmL_pow (m := l) (by omega) t.toNat (p := 1 % l) (a := 2 % l)
 have h2 : pmI 2 t l % l = pmI 2 t l := Int.emod_eq_of_lt hb.1 hb.2
 have h3 : pmI 2 t l = 2 ^ t.toNat % l := by
  rw [← h2]
  unfold pmI
  rw [h1, Int.mul_emod, Int.emod_emod_of_dvd _ (Int.dvd_refl l), pow_emod9, ← Int.mul_emod, Int.one_mul]
 rw [h3]
 obtain ⟨n, rfl⟩ := Int.eq_ofNat_of_zero_le (show 0 ≤ l by omega)
 have : ((2 : Int) ^ t.toNat) = ((2 ^ t.toNat : Nat) : Int) := by rw [Int.natCast_pow]; rfl
 rw [this, ← Int.natCast_emod]
 exact Int.toNat_natCast _
theorem quL_po {D : Int} {F : T3} (hF : InD D F) {l : Nat} : ∀ (n : Nat) (q r : Nat), r < l → quL F (l : Int) (poN D F q) (r : Int) n = poN D F (2 ^ n * (q * l + r) / l)
 | 0, q, r, h => by
  show poN D F q = _
  congr 1
  rw [Nat.pow_zero, Nat.one_mul, Nat.mul_comm q l, Nat.mul_add_div (by omega), Nat.div_eq_of_lt h, Nat.add_zero]
 | n + 1, q, r, h => by
  have e2 : cmp (poN D F q) (poN D F q) = poN D F (2 * q) := by rw [← poN_add hF]; congr 1; omega
  rw [quL, e2]
  split
  ·rename_i hl
   have e3 : cmp (poN D F (2 * q)) F = poN D F (2 * q + 1) := rfl
   have e4 : 2 * (r : Int) - (l : Int) = ((2 * r - l : Nat) : Int) := by omega
   rw [e3, e4, quL_po hF n (2 * q + 1) (2 * r - l) (by omega)]
   congr 1
   congr 1
   have e5 : (2 * q + 1) * l + (2 * r - l) = 2 * (q * l + r) := by
    rw [Nat.add_mul, Nat.mul_assoc]; omega
   rw [e5, Nat.pow_succ, Nat.mul_assoc]
  ·rename_i hl
   have e4 : 2 * (r : Int) = ((2 * r : Nat) : Int) := by omega
   rw [e4, quL_po hF n (2 * q) (2 * r) (by omega)]
   congr 1
   congr 1
   have e5 : 2 * q * l + 2 * r = 2 * (q * l + r) := by rw [Nat.mul_assoc]; omega
   rw [e5, Nat.pow_succ, Nat.mul_assoc]
theorem quD_po {D : Int} {F : T3} (hF : InD D F) {t l : Int} (hl : 2 ≤ l) : quD D F t l = poN D F (2 ^ t.toNat / l.toNat) := by
 obtain ⟨n, rfl⟩ := Int.eq_ofNat_of_zero_le (show 0 ≤ l by omega)
 have := quL_po hF (l := n) t.toNat 0 1 (by omega)
 unfold quD
 rw [show (1 : Int) = ((1 : Nat) : Int) from rfl]
 show quL F (n : Int) (poN D F 0) _ _ = _
 rw [this]
 simp
theorem pwD_po {D : Int} {F : T3} (hF : InD D F) (k : Int) : pwD D F k = poN D F k.toNat := by
 unfold pwD
 rw [pwL_po (F := F) k.toNat (on_in hF).1 (on_in hF).2 hF.rd, one_cmp (poN_in hF.rd _), poN_rd hF.rd, poN_rdT hF]
theorem check_true {D : Int} {F : T3} (hF : InD D F) {t l : Int} (hl : 2 ≤ l) (ht : 0 ≤ t) : cmp (pwD D (quD D F t l) l) (pwD D F (pmI 2 t l)) = poN D F (2 ^ t.toNat) := by
 have hq := quD_po hF (t := t) hl
 have hin : InD D (quD D F t l) := by rw [hq]; exact poN_in hF _
 rw [pwD_po hin, pwD_po hF, hq, poN_mul hF, ← poN_add hF, pmI_pow hl ht]
 congr 1
 rw [Nat.mul_comm]
 exact Nat.div_add_mod _ _
theorem halve_inv {D : Int} {x m y : T3} (hx : InD D x) {e r : Nat} (hm : m = poN D x e) (hy : y = poN D x (e * e)) : cmp (poN D m r) y = poN D (cmp (poN D x r) m) e := by
 subst hm hy
 rw [poN_mul hx, ← poN_add hx, ← poN_add hx, poN_mul hx]
 congr 1
 rw [Nat.add_mul, Nat.mul_comm e r]
end Go.Proofs.YtihfacmlfelliaaGreat
namespace Go.Proofs.YtihfacmlfelliaaGreat
open Go.RowKit
set_option linter.unusedVariables false
set_option linter.unusedSimpArgs false
attribute [local go_sem] q2 q3 q4 q5 q6 q7 q8 q9 q10 q11 q12

theorem cl_of_frm {D : Int} {F : T3} (h : Frm D F) : clB F = true := by
 have ho := h.i.cl.ok
 have hp := h.i.cl.pr
 have hc : contI F.1 F.2.1 F.2.2 = 1 := by
  obtain ⟨g, hg⟩ : ∃ g : Nat, Int.gcd F.1 (Int.gcd F.2.1 F.2.2 : Int) = g := ⟨_, rfl⟩
  have e : contI F.1 F.2.1 F.2.2 = (g : Int) := by unfold contI igcd; rw [hg]
  have d1 : (g : Int) ∣ F.1 := by rw [← hg]; first | exact Int.gcd_dvd_left _ _ | exact Int.gcd_dvd_left
  have d2 : (g : Int) ∣ ((Int.gcd F.2.1 F.2.2 : Nat) : Int) := by rw [← hg]; first | exact Int.gcd_dvd_right _ _ | exact Int.gcd_dvd_right
  have d3 : (g : Int) ∣ F.2.1 := Int.dvd_trans d2 (by first | exact Int.gcd_dvd_left _ _ | exact Int.gcd_dvd_left)
  have d4 : (g : Int) ∣ F.2.2 := Int.dvd_trans d2 (by first | exact Int.gcd_dvd_right _ _ | exact Int.gcd_dvd_right)
  have := Int.eq_one_of_dvd_one (by omega) (hp _ d1 d3 d4)
  omega
 unfold clB classB shownB defB
 rw [h.f, hc]
 have := ho.a0
 have := ho.d0
 have := ho.d1
 simp
 omega
theorem pr_of_frm {D : Int} {F G : T3} (h : Frm D F) (h2 : Frm D G) : prB F G = true := by
 unfold prB
 rw [cl_of_frm h, cl_of_frm h2, h.i.d, h2.i.d]
 simp
theorem i64_of_frm {D : Int} {F : T3} (h : Frm D F) : I64T F := by
 have := form_true h.f
 unfold I64T I64; omega
theorem arePair_y {D : Int} (F G : T3) (w : World) (h : Frm D F) (h2 : Frm D G) : Calls Tryz.prog 27 #[frm F, frm G] w fun e w' => e = .returned (.bool true) ∧ Below w.heap.size w w' := by
 have := arePair_p F G w (i64_of_frm h) (i64_of_frm h2)
 rw [pr_of_frm h h2] at this
 exact this
theorem cmp_rw9 {D : Int} (F G X : T3) (w : World) (h : InD D F) (h2 : InD D G) (hX : cmp F G = X) : Calls Tryz.prog 30 #[frm F, frm G] w fun e w' => e = .returned (frm X) ∧ Below w.heap.size w w' := by
 subst hX; exact compose_D F G w h h2
set_option maxRecDepth 100000 in
set_option maxHeartbeats 4000000 in
theorem composeF_y {D : Int} (F G X : T3) (w : World) (hF : Frm D F) (hG : Frm D G) (hX : cmp F G = X) : Calls Tryz.prog 17 #[frm F, frm G] w fun e w' => e = .returned (.tuple #[frm X, .bool true]) ∧ Below w.heap.size w w' := by
 have hGb := hide (form_true hG.f).2.1
 have hF := hide hF
 have hG := hide hG
 have hX := hide hX
 go_enter Tryz.func17, Tryz.ntmps17
 go_wp2_with fail
 refine (arePair_y F G _ (unhide hF) (unhide hG)).mono ?_
 rintro en w1 ⟨rfl, hb1⟩
 have tq0 := Ri3.c hb1 w.heap.size F.1 F.2.1 F.2.2
 have tq1 := Ri3.c hb1 (w.heap.size + 1) G.1 G.2.1 G.2.2
 have tq2 := Wi3.c hb1 (w.heap.size + 1 + 1) 0 0 0
 try clear c00 c01 c02
 try clear c10 c11 c12
 try clear c20 c21 c22 f20 f21 f22
 obtain ⟨c00, c01, c02, z0⟩ := tq0
 obtain ⟨c10, c11, c12, z1⟩ := tq1
 obtain ⟨c20, c21, c22, f20, f21, f22, z2⟩ := tq2
 have hs1 := hb1.size
 go_wp2_with fail
 refine (cmp_rw9 F G X _ (unhide hF).i (unhide hG).i (unhide hX)).mono ?_
 rintro en w2 ⟨rfl, hb2⟩
 have tq0 := Ri3.c hb2 w.heap.size F.1 F.2.1 F.2.2
 have tq1 := Ri3.c hb2 (w.heap.size + 1) G.1 G.2.1 G.2.2
 have tq2 := Wi3.c hb2 (w.heap.size + 1 + 1) 0 0 0
 try clear c00 c01 c02
 try clear c10 c11 c12
 try clear c20 c21 c22 f20 f21 f22
 obtain ⟨c00, c01, c02, z0⟩ := tq0
 obtain ⟨c10, c11, c12, z1⟩ := tq1
 obtain ⟨c20, c21, c22, f20, f21, f22, z2⟩ := tq2
 have hs2 := hb2.size
 go_wp2
 refine bodyPost_ret (v := .tuple #[frm X, .bool true]) (by simp [results, Tryz.results17, go_sem, *]) rfl ?_
 exact ⟨rfl, byGG⟩

end Go.Proofs.YtihfacmlfelliaaGreat
