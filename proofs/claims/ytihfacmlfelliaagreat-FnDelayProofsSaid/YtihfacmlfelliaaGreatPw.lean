/- Powers modulo m and keys on both sides. -/
import Derived.Test.YtihfacmlfelliaaGreatGb
namespace Go.Proofs.YtihfacmlfelliaaGreat
open Go.RowKit
set_option linter.unusedVariables false
set_option linter.unusedSimpArgs false
attribute [local go_sem] q2 q3 q4 q5 q6 q7 q8 q9 q10 q11 q12

def pmL (m p a : Int) (k : Nat) : Int := if h : k = 0 then p else pmL m (if k % 2 = 1 then p * a % m else p) (a * a % m) (k / 2)
termination_by k
decreasing_by omega
def pmI (a k m : Int) : Int := pmL m (1 % m) (a % m) k.toNat
theorem pm_odd {m p a n : Int} (h0 : 0 ≤ n) (h : n % 2 = 1) : pmL m p a n.toNat = pmL m (p * a % m) (a * a % m) (n / 2).toNat := by
 rw [pmL, dif_neg (by omega), if_pos (by omega), show n.toNat / 2 = (n / 2).toNat by omega]
theorem pm_even {m p a n : Int} (h0 : 0 < n) (h : ¬ n % 2 = 1) : pmL m p a n.toNat = pmL m p (a * a % m) (n / 2).toNat := by
 rw [pmL, dif_neg (by omega), if_neg (by omega), show n.toNat / 2 = (n / 2).toNat by omega]
theorem pm_zero {m p a : Int} : pmL m p a (0 : Int).toNat = p := by rw [pmL]; simp
theorem pm_bd {m : Int} (hm : 0 < m) (k : Nat) : ∀ {p a : Int}, 0 ≤ p → p < m → 0 ≤ pmL m p a k ∧ pmL m p a k < m := by
 induction k using Nat.strongRecOn with
 | _ k ih =>
  intro p a h0 h1
  rw [pmL]
  split
  ·exact ⟨h0, h1⟩
  ·refine ih (k / 2) (by omega) ?_ ?_
   ·split
    ·exact Int.emod_nonneg _ (by omega)
    ·exact h0
   ·split
    ·exact Int.emod_lt_of_pos _ hm
    ·exact h1
theorem pmI_bd {a k m : Int} (hm : 0 < m) : 0 ≤ pmI a k m ∧ pmI a k m < m := pm_bd hm _ (Int.emod_nonneg _ (by omega)) (Int.emod_lt_of_pos _ hm)
theorem prod_bd {a b m : Int} (a0 : 0 ≤ a) (a1 : a < m) (b0 : 0 ≤ b) (b1 : b < m) (hm : m ≤ 1000000) : 0 ≤ a * b ∧ a * b ≤ 1000000000000 :=
 ⟨Int.mul_nonneg a0 b0, Int.le_trans (Int.mul_le_mul (show a ≤ 1000000 by omega) (show b ≤ 1000000 by omega) b0 (by omega)) (by omega)⟩

set_option maxRecDepth 100000 in
set_option maxHeartbeats 4000000 in
theorem power_i (a k m : Int) (w : World) (h0 : -1000000 ≤ a ∧ a ≤ 1000000) (h1 : 0 ≤ k ∧ k ≤ 1000000) (h2 : 1 ≤ m) (h3 : m ≤ 1000000) :
  Calls Tryz.prog 52 #[.int .i64 a, .int .i64 k, .int .i64 m] w fun e w' => e = .returned (.int .i64 (pmI a k m)) ∧ w = w' := by
 have hm0 := Int.emod_nonneg a (show m ≠ 0 by omega)
 have hm1 := Int.emod_lt_of_pos a (show 0 < m by omega)
 have h10 := Int.emod_nonneg 1 (show m ≠ 0 by omega)
 have h11 := Int.emod_lt_of_pos 1 (show 0 < m by omega)
 have h12 : (1 : Int).tmod m = 1 % m := rem_in (by omega) (by omega)
 have hne : ¬ m = 0 := by omega
 go_enter Tryz.func52, Tryz.ntmps52
 go_wp2_with (go_at_call 75; refine (mod_a _ _ _ (by first | assumption | omega) (by first | assumption | omega) (by first | assumption | omega)).mono ?_; rintro e w' ⟨rfl, rfl⟩)
 go_loop [0, 1, 7] (fun sa sk sp => ∃ n p b : Int, Hid (pmL m p b n.toNat = pmI a k m) ∧ 0 ≤ n ∧ n ≤ 1000000 ∧ 0 ≤ p ∧ p < m ∧ 0 ≤ b ∧ b < m ∧ sk = .int .i64 n ∧ sp = .int .i64 p ∧ sa = .int .i64 b) (fun sa sk sp => (intOf sk).toNat)
 case atStart => exact ⟨k, 1 % m, a % m, hide rfl, by omega, by omega, h10, h11, hm0, hm1, rfl, rfl, rfl⟩
 case round =>
  obtain ⟨n, p, b, HS, n0, n1, p0', p1', b0, b1, rfl, rfl, rfl⟩ := hrel
  clear hm0 hm1 h10 h11 h12
  by_cases q : n = 0
  ·subst q
   have HE : p = pmI a k m := by have := unhide HS; rw [pm_zero] at this; exact this
   go_wp2
   go_ret
   exact ⟨rfl, rfl⟩
  ·have hn2 : 0 < n := by omega
   have HM := tq_mod n0
   have HW := int_wrap n0 n1
   have P1 := prod_bd p0' p1' b0 b1 h3
   have P2 := prod_bd b0 b1 b0 b1 h3
   have R1 : (p * b).tmod m = p * b % m := rem_in (by omega) (by omega)
   have R2 : (b * b).tmod m = b * b % m := rem_in (by omega) (by omega)
   by_cases q2 : n % 2 = 1
   ·have HE := hide ((pm_odd (m := m) (p := p) (a := b) n0 q2).symm.trans (unhide HS))
    have p0 := Int.emod_nonneg (p * b) (show m ≠ 0 by omega)
    have p1 := Int.emod_lt_of_pos (p * b) (show 0 < m by omega)
    clear HS
    rw [q2] at HM
    go_wp2
    go_round
    case rel => first | exact ⟨n / 2, p * b % m, b * b % m, HE, by omega, by omega, p0, p1, Int.emod_nonneg _ (by omega), Int.emod_lt_of_pos _ (by omega), rfl, rfl, rfl⟩ | ((repeat apply Exists.intro); exact ⟨⟨n / 2, p * b % m, b * b % m, HE, by omega, by omega, p0, p1, Int.emod_nonneg _ (by omega), Int.emod_lt_of_pos _ (by omega), rfl, rfl, rfl⟩, rfl⟩)
    case measure => (simp only [intOf]; omega)
   ·have HE := hide ((pm_even (m := m) (p := p) (a := b) hn2 q2).symm.trans (unhide HS))
    have p0 := p0'
    have p1 := p1'
    clear HS
    rw [show n % 2 = 0 by omega] at HM
    go_wp2
    go_round
    case rel => first | exact ⟨n / 2, p, b * b % m, HE, by omega, by omega, p0, p1, Int.emod_nonneg _ (by omega), Int.emod_lt_of_pos _ (by omega), rfl, rfl, rfl⟩ | ((repeat apply Exists.intro); exact ⟨⟨n / 2, p, b * b % m, HE, by omega, by omega, p0, p1, Int.emod_nonneg _ (by omega), Int.emod_lt_of_pos _ (by omega), rfl, rfl, rfl⟩, rfl⟩)
    case measure => (simp only [intOf]; omega)

set_option maxRecDepth 100000 in
set_option maxHeartbeats 4000000 in
theorem nuPower_i (a k m : Int) (w : World) (h0 : -1000000 ≤ a ∧ a ≤ 1000000) (h1 : 0 ≤ k ∧ k ≤ 1000000) (h2 : 1 ≤ m) (h3 : m ≤ 1000000) :
  Calls Tryz.prog 59 #[.int .i64 a, .int .i64 k, .int .i64 m] w fun e w' => e = .returned (.int .i64 (pmI a k m)) ∧ Below w.heap.size w w' := by
 have hm0 := Int.emod_nonneg a (show m ≠ 0 by omega)
 have hm1 := Int.emod_lt_of_pos a (show 0 < m by omega)
 have h10 := Int.emod_nonneg 1 (show m ≠ 0 by omega)
 have h11 := Int.emod_lt_of_pos 1 (show 0 < m by omega)
 have h12 : (1 : Int).tmod m = 1 % m := rem_in (by omega) (by omega)
 have hne : ¬ m = 0 := by omega
 go_enter Tryz.func59, Tryz.ntmps59
 go_wp2
 go_quiet ((go_at_call 81; exact Calls.quiet_of_same ((nuMod_a _ _ _ (by first | assumption | omega) (by first | assumption | omega) (by first | assumption | omega)).mono fun _ _ h => ⟨h.1, h.2.symm⟩)))
 go_wp2
 go_loop [1, 7, 8] (fun sk sp sa => ∃ n p b : Int, Hid (pmL m p b n.toNat = pmI a k m) ∧ 0 ≤ n ∧ n ≤ 1000000 ∧ 0 ≤ p ∧ p < m ∧ 0 ≤ b ∧ b < m ∧ sk = .int .i64 n ∧ sp = .int .i64 p ∧ sa = .int .i64 b) (fun sk sp sa => (intOf sk).toNat)
 case atStart => exact ⟨k, 1 % m, a % m, hide rfl, by omega, by omega, h10, h11, hm0, hm1, rfl, rfl, rfl⟩
 case round =>
  obtain ⟨n, p, b, HS, n0, n1, p0', p1', b0, b1, rfl, rfl, rfl⟩ := hrel
  clear hm0 hm1 h10 h11 h12
  by_cases q : n = 0
  ·subst q
   have HE : p = pmI a k m := by have := unhide HS; rw [pm_zero] at this; exact this
   go_wp2
   go_ret
   exact ⟨rfl, byGG⟩
  ·have hn2 : 0 < n := by omega
   have HM := tq_mod n0
   have HW := int_wrap n0 n1
   have P1 := prod_bd p0' p1' b0 b1 h3
   have P2 := prod_bd b0 b1 b0 b1 h3
   have R1 : (p * b).tmod m = p * b % m := rem_in (by omega) (by omega)
   have R2 : (b * b).tmod m = b * b % m := rem_in (by omega) (by omega)
   by_cases q2 : n % 2 = 1
   ·have HE := hide ((pm_odd (m := m) (p := p) (a := b) n0 q2).symm.trans (unhide HS))
    have p0 := Int.emod_nonneg (p * b) (show m ≠ 0 by omega)
    have p1 := Int.emod_lt_of_pos (p * b) (show 0 < m by omega)
    clear HS
    rw [q2] at HM
    go_wp2
    go_round
    case rel => first | exact ⟨n / 2, p * b % m, b * b % m, HE, by omega, by omega, p0, p1, Int.emod_nonneg _ (by omega), Int.emod_lt_of_pos _ (by omega), rfl, rfl, rfl⟩ | ((repeat apply Exists.intro); exact ⟨⟨n / 2, p * b % m, b * b % m, HE, by omega, by omega, p0, p1, Int.emod_nonneg _ (by omega), Int.emod_lt_of_pos _ (by omega), rfl, rfl, rfl⟩, rfl⟩)
    case measure => (simp only [intOf]; omega)
   ·have HE := hide ((pm_even (m := m) (p := p) (a := b) hn2 q2).symm.trans (unhide HS))
    have p0 := p0'
    have p1 := p1'
    clear HS
    rw [show n % 2 = 0 by omega] at HM
    go_wp2
    go_round
    case rel => first | exact ⟨n / 2, p, b * b % m, HE, by omega, by omega, p0, p1, Int.emod_nonneg _ (by omega), Int.emod_lt_of_pos _ (by omega), rfl, rfl, rfl⟩ | ((repeat apply Exists.intro); exact ⟨⟨n / 2, p, b * b % m, HE, by omega, by omega, p0, p1, Int.emod_nonneg _ (by omega), Int.emod_lt_of_pos _ (by omega), rfl, rfl, rfl⟩, rfl⟩)
    case measure => (simp only [intOf]; omega)

set_option maxRecDepth 100000 in
set_option maxHeartbeats 4000000 in
theorem key_D {D : Int} (F : T3) (w : World) (h0 : InD D F) :
  Calls Tryz.prog 76 #[frm F] w fun e w' => e = .returned (.int .i64 (keyT F)) ∧ Below w.heap.size w w' := by
 have bb := bnd_of (rd_rc h0.cl)
 have m0 := Int.emod_nonneg (((rdT F)).2.1) (show 2 * (((rdT F)).1) ≠ 0 by omega)
 have m1 := Int.emod_lt_of_pos (((rdT F)).2.1) (show 0 < 2 * (((rdT F)).1) by omega)
 have HX : IntKind.i64.wrap ((((rdT F)).1) + 7 * ((((rdT F)).2.1) % (2 * (((rdT F)).1)))) = keyT F := int_in (by omega)
 go_enter Tryz.func76, Tryz.ntmps76
 go_wp2_with fail
 refine (reduced_D F _ h0).mono ?_
 rintro en w1 ⟨rfl, hb1⟩
 have tq0 := Ri3.c hb1 w.heap.size F.1 F.2.1 F.2.2
 try clear c00 c01 c02
 obtain ⟨c00, c01, c02, z0⟩ := tq0
 have hs1 := hb1.size
 have o10 := z0
 go_upto_region 2 with fail
 go_cut [2] (fun s2 wx => s2 = .int .i64 (keyT F) ∧ Wi3 wx w1.heap.size (((rdT F)).1) (((rdT F)).2.1) (((rdT F)).2.2) ∧ Below w.heap.size w wx)
 case first =>
  have h1 := trivial
  rename_i K2 h2 h3
  refine region_n0 (by kernel_rfl) (fun j => #[6,7,8,9,10,11,12,13,14,15,2].getD j 0) (fun j => Kd.ok ((fun j => match j with | 0 => Kd.val (.pointer (some ⟨w1.heap.size, 0, none⟩)) | 1 => Kd.val (.int .i64 (((rdT F)).1)) | 2 => Kd.val (.pointer (some ⟨w1.heap.size, 1, none⟩)) | 3 => Kd.val (.int .i64 (((rdT F)).2.1)) | 4 => Kd.val (.pointer (some ⟨w1.heap.size, 0, none⟩)) | 5 => Kd.val (.int .i64 (((rdT F)).1)) | 6 => Kd.val (.int .i64 (2 * (((rdT F)).1))) | 7 => Kd.val (.int .i64 ((((rdT F)).2.1) % (2 * (((rdT F)).1)))) | 8 => Kd.val (.int .i64 (7 * ((((rdT F)).2.1) % (2 * (((rdT F)).1))))) | 9 => Kd.val (.int .i64 (keyT F)) | 10 => Kd.val (.int .i64 (keyT F)) | _ => Kd.any : Nat → Kd) j)) (Sy w (w1.heap.size + 1) [(⟨w1.heap.size, 0, none⟩, .int .i64 (((rdT F)).1)), (⟨w1.heap.size, 1, none⟩, .int .i64 (((rdT F)).2.1)), (⟨w1.heap.size, 2, none⟩, .int .i64 (((rdT F)).2.2))] [⟨w1.heap.size, 0, none⟩, ⟨w1.heap.size, 1, none⟩, ⟨w1.heap.size, 2, none⟩]) (by kernel_rfl) (by kernel_rfl) ?_ ?_ ?_ ?_
  ·intro j hj
   have hj2 : j < 11 := hj
   have : ∀ j, j < 11 → (#[6,7,8,9,10,11,12,13,14,15,2] : Array Nat).getD j 0 < 16 := by decide
   exact this j hj2
  ·refine Sy.drew (Sy.mk_of ?_ ?_ ?_ ?_)
   ·first | rfl | (simp; done) | (simp; omega)
   ·intro c hc
    simp only [List.mem_cons, List.not_mem_nil, or_false] at hc
    rcases hc with rfl | rfl | rfl <;> exact byCT
   ·intro p hp
    simp only [List.mem_cons, List.not_mem_nil, or_false] at hp
    rcases hp with rfl | rfl | rfl <;> exact ⟨by first | ((repeat' with_reducible (first | refine ex_set _ ?_ | refine ex_al _ ?_ | exact ⟨_, by assumption⟩)); done) | first | exact ⟨_, by assumption⟩ | assumption | (go_simp; done) | (go_simp; exact ⟨_, rfl⟩), by first | ((repeat' first | with_reducible (first | assumption | refine frz_al _ ?_ ?_ | refine frz_set _ ?_) | omega | (simp; omega)); done) | assumption | (go_simp; done)⟩
   ·(repeat' first | with_reducible (first | exact Below.refl _ _ | assumption | refine gr_alloc ?_ _ | refine below_drewN ?_ _ | refine below_drew ?_ | refine gr_call ?_ (by assumption) | refine Below.setCell ?_ ?_ _) | go_size | omega | (simp; omega))
  ·clear h1 h2 h3
   refine ⟨?r17x0, ?r17x1, ?r17x2, ?r17x3, ?r17x4, ?r17x5, ?r17x6, ?r17x7, ?r17x8, ?r17x9, ?r17x10, trivial⟩
   all_goals intro _ aq wx Kq hf hS hdep ev1 ev2 hK
   case' r17x0 =>
    have F3 : aq.eval (.tmp 3) = .pointer (some ⟨w1.heap.size, 0, none⟩) := hf 3
   case' r17x1 =>
    have D0 : aq.eval (.tmp 6) = _ := hdep 0
    have c0 := hS.cells (⟨w1.heap.size, 0, none⟩, .int .i64 (((rdT F)).1)) (by simp)
   case' r17x2 =>
    have F3 : aq.eval (.tmp 3) = .pointer (some ⟨w1.heap.size, 0, none⟩) := hf 3
   case' r17x3 =>
    have D2 : aq.eval (.tmp 8) = _ := hdep 2
    have c0 := hS.cells (⟨w1.heap.size, 1, none⟩, .int .i64 (((rdT F)).2.1)) (by simp)
   case' r17x4 =>
    have F3 : aq.eval (.tmp 3) = .pointer (some ⟨w1.heap.size, 0, none⟩) := hf 3
   case' r17x5 =>
    have D4 : aq.eval (.tmp 10) = _ := hdep 4
    have c0 := hS.cells (⟨w1.heap.size, 0, none⟩, .int .i64 (((rdT F)).1)) (by simp)
   case' r17x6 =>
    have D5 : aq.eval (.tmp 11) = _ := hdep 5
   case' r17x7 =>
    have D3 : aq.eval (.tmp 9) = _ := hdep 3
    have D6 : aq.eval (.tmp 12) = _ := hdep 6
   case' r17x8 =>
    have D7 : aq.eval (.tmp 13) = _ := hdep 7
   case' r17x9 =>
    have D1 : aq.eval (.tmp 7) = _ := hdep 1
    have D8 : aq.eval (.tmp 14) = _ := hdep 8
   case' r17x10 =>
    have D9 : aq.eval (.tmp 15) = _ := hdep 9
   all_goals (clear hf hdep; unfold Oper.wp; generalize Act.eval _ = ev at *; go_simp)
   case r17x7 =>
    refine ((mod_a (((rdT F)).2.1) (2 * (((rdT F)).1)) _ (by omega) (by omega) (by omega))).mono ?_
    rintro e w2 ⟨rfl, rfl⟩
    refine hK _ _ (hS.call (below_refl_self _)) ?_ (fun j u _ h => Kd.ok_below (below_refl_self _) h)
    rw [if_pos (by rfl)]
    show (_ : Value) = _
    first | rfl | (refine congrArg (Value.int .i64) ?_; first | rfl | exact int_in (by omega) | exact quo_in (by omega) (by omega) (by omega) | exact rem_in (by omega) (by omega) | omega | exact HX) | (simp; done) | (simp [*]; done)
   all_goals (refine hK _ _ hS ?_ (fun j u _ h => h); rw [if_pos (by rfl)]; show (_ : Value) = _; (first | rfl | (refine congrArg (Value.int .i64) ?_; first | rfl | exact int_in (by omega) | exact quo_in (by omega) (by omega) (by omega) | exact rem_in (by omega) (by omega) | omega | exact HX) | (simp; done) | (simp [*]; done)))
  ·intro aq wx hd hw hf hS hg
   have G2 : tau aq 2 = .int .i64 (keyT F) := hg 10 (by decide)
   have haq : aq = ⟨#[tau aq 0, tau aq 1, tau aq 2, tau aq 3, tau aq 4, tau aq 5, tau aq 6, tau aq 7, tau aq 8, tau aq 9, tau aq 10, tau aq 11, tau aq 12, tau aq 13, tau aq 14, tau aq 15], []⟩ := by
    obtain ⟨tq, dq⟩ := aq
    have h5 := arr_eq (show tq.size = 16 from hw)
    have h6 : dq = [] := hd
    subst h6
    exact congrArg (fun z => Act.mk z []) h5
   show K2 aq wx
   rw [haq, hf 0, hf 1, hf 3, hf 4, hf 5, G2]
   clear haq hf hd hw
   try dsimp only
   refine h3 _ _ ?_
   go_meet
   refine ⟨rfl, Wi3.m ?_ ?_ ?_ ?_ ?_ ?_, hS.below⟩
   all_goals first | exact hS.cells (_, _) (by simp) | exact (hS.free _ (by simp)).2
 obtain ⟨rfl, ⟨c00, c01, c02, f00, f01, f02, z0⟩, hb0⟩ := hcut
 go_wp2
 refine bodyPost_ret (v := .int .i64 (keyT F)) (by simp [results, Tryz.results76, go_sem, *]) rfl ?_
 exact ⟨rfl, hb0⟩

set_option maxRecDepth 100000 in
set_option maxHeartbeats 4000000 in
theorem dlKey_D {D : Int} (F : T3) (w : World) (h0 : InD D F) :
  Calls Tryz.prog 85 #[frm F] w fun e w' => e = .returned (.int .i64 (keyT F)) ∧ Below w.heap.size w w' := by
 have bb := bnd_of (rd_rc h0.cl)
 have m0 := Int.emod_nonneg (((rdT F)).2.1) (show 2 * (((rdT F)).1) ≠ 0 by omega)
 have m1 := Int.emod_lt_of_pos (((rdT F)).2.1) (show 0 < 2 * (((rdT F)).1) by omega)
 have HX : IntKind.i64.wrap ((((rdT F)).1) + 7 * ((((rdT F)).2.1) % (2 * (((rdT F)).1)))) = keyT F := int_in (by omega)
 go_enter Tryz.func85, Tryz.ntmps85
 go_wp2_with fail
 refine (reClass_D F _ h0).mono ?_
 rintro en w1 ⟨rfl, hb1⟩
 have tq0 := Ri3.c hb1 w.heap.size F.1 F.2.1 F.2.2
 try clear c00 c01 c02
 obtain ⟨c00, c01, c02, z0⟩ := tq0
 have hs1 := hb1.size
 have o10 := z0
 go_upto_region 2 with fail
 go_cut [2] (fun s2 wx => s2 = .int .i64 (keyT F) ∧ Wi3 wx w1.heap.size (((rdT F)).1) (((rdT F)).2.1) (((rdT F)).2.2) ∧ Below w.heap.size w wx)
 case first =>
  have h1 := trivial
  rename_i K2 h2 h3
  refine region_n0 (by kernel_rfl) (fun j => #[6,7,8,9,10,11,12,13,14,15,2].getD j 0) (fun j => Kd.ok ((fun j => match j with | 0 => Kd.val (.pointer (some ⟨w1.heap.size, 0, none⟩)) | 1 => Kd.val (.int .i64 (((rdT F)).1)) | 2 => Kd.val (.pointer (some ⟨w1.heap.size, 1, none⟩)) | 3 => Kd.val (.int .i64 (((rdT F)).2.1)) | 4 => Kd.val (.pointer (some ⟨w1.heap.size, 0, none⟩)) | 5 => Kd.val (.int .i64 (((rdT F)).1)) | 6 => Kd.val (.int .i64 (2 * (((rdT F)).1))) | 7 => Kd.val (.int .i64 ((((rdT F)).2.1) % (2 * (((rdT F)).1)))) | 8 => Kd.val (.int .i64 (7 * ((((rdT F)).2.1) % (2 * (((rdT F)).1))))) | 9 => Kd.val (.int .i64 (keyT F)) | 10 => Kd.val (.int .i64 (keyT F)) | _ => Kd.any : Nat → Kd) j)) (Sy w (w1.heap.size + 1) [(⟨w1.heap.size, 0, none⟩, .int .i64 (((rdT F)).1)), (⟨w1.heap.size, 1, none⟩, .int .i64 (((rdT F)).2.1)), (⟨w1.heap.size, 2, none⟩, .int .i64 (((rdT F)).2.2))] [⟨w1.heap.size, 0, none⟩, ⟨w1.heap.size, 1, none⟩, ⟨w1.heap.size, 2, none⟩]) (by kernel_rfl) (by kernel_rfl) ?_ ?_ ?_ ?_
  ·intro j hj
   have hj2 : j < 11 := hj
   have : ∀ j, j < 11 → (#[6,7,8,9,10,11,12,13,14,15,2] : Array Nat).getD j 0 < 16 := by decide
   exact this j hj2
  ·refine Sy.drew (Sy.mk_of ?_ ?_ ?_ ?_)
   ·first | rfl | (simp; done) | (simp; omega)
   ·intro c hc
    simp only [List.mem_cons, List.not_mem_nil, or_false] at hc
    rcases hc with rfl | rfl | rfl <;> exact byCT
   ·intro p hp
    simp only [List.mem_cons, List.not_mem_nil, or_false] at hp
    rcases hp with rfl | rfl | rfl <;> exact ⟨by first | ((repeat' with_reducible (first | refine ex_set _ ?_ | refine ex_al _ ?_ | exact ⟨_, by assumption⟩)); done) | first | exact ⟨_, by assumption⟩ | assumption | (go_simp; done) | (go_simp; exact ⟨_, rfl⟩), by first | ((repeat' first | with_reducible (first | assumption | refine frz_al _ ?_ ?_ | refine frz_set _ ?_) | omega | (simp; omega)); done) | assumption | (go_simp; done)⟩
   ·(repeat' first | with_reducible (first | exact Below.refl _ _ | assumption | refine gr_alloc ?_ _ | refine below_drewN ?_ _ | refine below_drew ?_ | refine gr_call ?_ (by assumption) | refine Below.setCell ?_ ?_ _) | go_size | omega | (simp; omega))
  ·clear h1 h2 h3
   refine ⟨?r18x0, ?r18x1, ?r18x2, ?r18x3, ?r18x4, ?r18x5, ?r18x6, ?r18x7, ?r18x8, ?r18x9, ?r18x10, trivial⟩
   all_goals intro _ aq wx Kq hf hS hdep ev1 ev2 hK
   case' r18x0 =>
    have F3 : aq.eval (.tmp 3) = .pointer (some ⟨w1.heap.size, 0, none⟩) := hf 3
   case' r18x1 =>
    have D0 : aq.eval (.tmp 6) = _ := hdep 0
    have c0 := hS.cells (⟨w1.heap.size, 0, none⟩, .int .i64 (((rdT F)).1)) (by simp)
   case' r18x2 =>
    have F3 : aq.eval (.tmp 3) = .pointer (some ⟨w1.heap.size, 0, none⟩) := hf 3
   case' r18x3 =>
    have D2 : aq.eval (.tmp 8) = _ := hdep 2
    have c0 := hS.cells (⟨w1.heap.size, 1, none⟩, .int .i64 (((rdT F)).2.1)) (by simp)
   case' r18x4 =>
    have F3 : aq.eval (.tmp 3) = .pointer (some ⟨w1.heap.size, 0, none⟩) := hf 3
   case' r18x5 =>
    have D4 : aq.eval (.tmp 10) = _ := hdep 4
    have c0 := hS.cells (⟨w1.heap.size, 0, none⟩, .int .i64 (((rdT F)).1)) (by simp)
   case' r18x6 =>
    have D5 : aq.eval (.tmp 11) = _ := hdep 5
   case' r18x7 =>
    have D3 : aq.eval (.tmp 9) = _ := hdep 3
    have D6 : aq.eval (.tmp 12) = _ := hdep 6
   case' r18x8 =>
    have D7 : aq.eval (.tmp 13) = _ := hdep 7
   case' r18x9 =>
    have D1 : aq.eval (.tmp 7) = _ := hdep 1
    have D8 : aq.eval (.tmp 14) = _ := hdep 8
   case' r18x10 =>
    have D9 : aq.eval (.tmp 15) = _ := hdep 9
   all_goals (clear hf hdep; unfold Oper.wp; generalize Act.eval _ = ev at *; go_simp)
   case r18x7 =>
    refine ((nuMod_a (((rdT F)).2.1) (2 * (((rdT F)).1)) _ (by omega) (by omega) (by omega))).mono ?_
    rintro e w2 ⟨rfl, rfl⟩
    refine hK _ _ (hS.call (below_refl_self _)) ?_ (fun j u _ h => Kd.ok_below (below_refl_self _) h)
    rw [if_pos (by rfl)]
    show (_ : Value) = _
    first | rfl | (refine congrArg (Value.int .i64) ?_; first | rfl | exact int_in (by omega) | exact quo_in (by omega) (by omega) (by omega) | exact rem_in (by omega) (by omega) | omega | exact HX) | (simp; done) | (simp [*]; done)
   all_goals (refine hK _ _ hS ?_ (fun j u _ h => h); rw [if_pos (by rfl)]; show (_ : Value) = _; (first | rfl | (refine congrArg (Value.int .i64) ?_; first | rfl | exact int_in (by omega) | exact quo_in (by omega) (by omega) (by omega) | exact rem_in (by omega) (by omega) | omega | exact HX) | (simp; done) | (simp [*]; done)))
  ·intro aq wx hd hw hf hS hg
   have G2 : tau aq 2 = .int .i64 (keyT F) := hg 10 (by decide)
   have haq : aq = ⟨#[tau aq 0, tau aq 1, tau aq 2, tau aq 3, tau aq 4, tau aq 5, tau aq 6, tau aq 7, tau aq 8, tau aq 9, tau aq 10, tau aq 11, tau aq 12, tau aq 13, tau aq 14, tau aq 15], []⟩ := by
    obtain ⟨tq, dq⟩ := aq
    have h5 := arr_eq (show tq.size = 16 from hw)
    have h6 : dq = [] := hd
    subst h6
    exact congrArg (fun z => Act.mk z []) h5
   show K2 aq wx
   rw [haq, hf 0, hf 1, hf 3, hf 4, hf 5, G2]
   clear haq hf hd hw
   try dsimp only
   refine h3 _ _ ?_
   go_meet
   refine ⟨rfl, Wi3.m ?_ ?_ ?_ ?_ ?_ ?_, hS.below⟩
   all_goals first | exact hS.cells (_, _) (by simp) | exact (hS.free _ (by simp)).2
 obtain ⟨rfl, ⟨c00, c01, c02, f00, f01, f02, z0⟩, hb0⟩ := hcut
 go_wp2
 refine bodyPost_ret (v := .int .i64 (keyT F)) (by simp [results, Tryz.results85, go_sem, *]) rfl ?_
 exact ⟨rfl, hb0⟩
end Go.Proofs.YtihfacmlfelliaaGreat
