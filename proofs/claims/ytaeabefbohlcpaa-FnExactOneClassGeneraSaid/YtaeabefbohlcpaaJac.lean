/- The Jacobi symbol, the program's side. -/
import Derived.Test.YtaeabefbohlcpaaNum
import Derived.Test.YtaeabefbohlcpaaFilter
import Derived.Test.YtaeabefbohlcpaaOwn
namespace Go.Proofs.Ytaeabefbohlcpaa
open Go.RowKit
set_option linter.unusedVariables false
set_option linter.unusedSimpArgs false
attribute [local go_sem] q2 q3 q4 q5 q6 q7 q8 q9 q10 q11 q12

def two8 (n : Int) : Int := if n % 8 = 1 ∨ n % 8 = 7 then 1 else -1
def sg4 (a n : Nat) : Int := if a % 4 = 3 ∧ n % 4 = 3 then -1 else 1
def jcb (a n : Nat) : Int := if h : a = 0 then (if n = 1 then 1 else 0) else if a % 2 = 0 then two8 n * jcb (a / 2) n else sg4 a n * jcb (n % a) a
termination_by a
decreasing_by
 ·omega
 ·exact Nat.mod_lt _ (by omega)
theorem jcb_zero (n : Nat) : jcb 0 n = if n = 1 then 1 else 0 := by rw [jcb]; simp
theorem jcb_even {a n : Nat} (h : 1 ≤ a) (h2 : a % 2 = 0) : jcb a n = two8 n * jcb (a / 2) n := by rw [jcb, dif_neg (by omega), if_pos h2]
theorem jcb_odd {a n : Nat} (h2 : a % 2 = 1) : jcb a n = sg4 a n * jcb (n % a) a := by rw [jcb, dif_neg (by omega), if_neg (by omega)]
theorem jcb_one (n : Nat) : jcb 1 n = 1 := by
 rw [jcb_odd (by decide), Nat.mod_one, jcb_zero, if_pos rfl]; rfl
theorem two8_pm (n : Int) : two8 n = 1 ∨ two8 n = -1 := by unfold two8; split <;> simp
theorem pm_mul {s t : Int} (h : s = 1 ∨ s = -1) (k : t = 1 ∨ t = -1) : s * t = 1 ∨ s * t = -1 := by rcases h with rfl | rfl <;> rcases k with rfl | rfl <;> simp

theorem symbolOfTwo_a (n : Int) (w : World) (h0 : -4611686018427387904 ≤ n ∧ n ≤ 4611686018427387904) : Calls Try.prog 98 #[.int .i64 n] w fun e w' => e = .returned (.int .i64 (two8 n)) ∧ w = w' := by
 obtain ⟨r, hr⟩ : ∃ r, n % 8 = r := ⟨_, rfl⟩
 have hE : Hid (two8 n = if r = 1 ∨ r = 7 then 1 else -1) := hide (by unfold two8; rw [hr])
 have HM : ∀ W, Calls Try.prog 75 #[.int .i64 n, .int .i64 8] W fun e w' => e = .returned (.int .i64 r) ∧ W = w' := fun W => by rw [← hr]; exact mod_a n 8 W h0 (by omega) (by omega)
 have HM := hide HM
 by_cases c1 : r = 1
 ·have HV : Hid (two8 n = 1) := hide (by rw [unhide hE, if_pos (.inl c1)])
  subst c1
  go_enter Try.func98, Try.ntmps98
  go_wp2_with (go_at_call 75; refine ((unhide HM) _).mono ?_; rintro e w' ⟨rfl, rfl⟩)
  go_ret
  exact ⟨by rw [unhide HV]; rfl, rfl⟩
 ·by_cases c7 : r = 7
  ·have HV : Hid (two8 n = 1) := hide (by rw [unhide hE, if_pos (.inr c7)])
   subst c7
   go_enter Try.func98, Try.ntmps98
   go_wp2_with (go_at_call 75; refine ((unhide HM) _).mono ?_; rintro e w' ⟨rfl, rfl⟩)
   go_ret
   exact ⟨by rw [unhide HV]; rfl, rfl⟩
  ·have HV : Hid (two8 n = -1) := hide (by rw [unhide hE, if_neg (by omega)])
   have e1 : (r == 1) = false := by simpa using c1
   have e7 : (r == 7) = false := by simpa using c7
   go_enter Try.func98, Try.ntmps98
   go_wp2_with (go_at_call 75; refine ((unhide HM) _).mono ?_; rintro e w' ⟨rfl, rfl⟩)
   go_ret
   exact ⟨by rw [unhide HV]; rfl, rfl⟩

set_option maxRecDepth 100000 in
set_option maxHeartbeats 4000000 in
theorem jacobi_a (a : Int) (N : Nat) (w : World) (h0 : -4611686018427387904 ≤ a ∧ a ≤ 4611686018427387904) (h1 : 1 ≤ N) (h2 : N ≤ 1000000) :
  Calls Try.prog 97 #[.int .i64 a, .int .i64 (N : Int)] w fun e w' => e = .returned (.int .i64 (jcb (a % (N : Int)).toNat N)) ∧ w = w' := by
 obtain ⟨u0, hu0⟩ : ∃ u : Nat, a % (N : Int) = (u : Int) := ⟨(a % (N : Int)).toNat, by have := Int.emod_nonneg a (show (N : Int) ≠ 0 by omega); omega⟩
 have hul : u0 < N := by have := Int.emod_lt_of_pos a (show 0 < (N : Int) by omega); omega
 obtain ⟨R, hR⟩ : ∃ R, jcb (a % (N : Int)).toNat N = R := ⟨_, rfl⟩
 have HR0 : Hid (1 * jcb u0 N = R) := hide (by rw [← hR, hu0, Int.one_mul]; rfl)
 have HM : ∀ W, Calls Try.prog 75 #[.int .i64 a, .int .i64 (N : Int)] W fun e w' => e = .returned (.int .i64 (u0 : Int)) ∧ W = w' := fun W => by rw [← hu0]; exact mod_a a N W h0 (by omega) (by omega)
 have HM := hide HM
 have HRR := hide hR
 clear hR hu0
 go_enter Try.func97, Try.ntmps97
 go_wp2_with (go_at_call 75; refine ((unhide HM) _).mono ?_; rintro e w' ⟨rfl, rfl⟩)
 go_loop [0, 1, 5] (fun au ns ss => ∃ (u m : Nat) (s : Int), au = .int .i64 (u : Int) ∧ ns = .int .i64 (m : Int) ∧ ss = .int .i64 s ∧ (s = 1 ∨ s = -1) ∧ u < m ∧ m ≤ N ∧ Hid (s * jcb u m = R)) (fun au _ _ => (intOf au).toNat)
 case atStart => exact ⟨u0, N, 1, rfl, rfl, rfl, .inl rfl, hul, Nat.le_refl _, HR0⟩
 case round =>
  obtain ⟨u, m, s, rfl, rfl, rfl, hs, hum, hmN, hR1⟩ := hrel
  by_cases c : u = 0
  ·subst c
   by_cases c1 : m = 1
   ·have HV : Hid (R = s) := hide (by rw [← unhide hR1, jcb_zero, if_pos c1, Int.mul_one])
    subst c1
    clear hs
    go_wp2
    go_ret
    exact ⟨by rw [unhide HRR, unhide HV]; rfl, rfl⟩
   ·have HV : Hid (R = 0) := hide (by rw [← unhide hR1, jcb_zero, if_neg c1, Int.mul_zero])
    have c1' : ¬ (m : Int) = 1 := by omega
    clear hs
    go_wp2
    go_ret
    exact ⟨by rw [unhide HRR, unhide HV]; rfl, rfl⟩
  ·have c' : ¬ (u : Int) = 0 := by omega
   have HS := hide hs
   clear hs
   go_wp2
   go_loop [0, 5] (fun au ss => ∃ (v : Nat) (t : Int), au = .int .i64 (v : Int) ∧ ss = .int .i64 t ∧ Hid (t = 1 ∨ t = -1) ∧ 1 ≤ v ∧ v ≤ u ∧ Hid (t * jcb v m = R)) (fun au _ => (intOf au).toNat)
   case atStart => exact ⟨u, s, rfl, rfl, HS, by omega, Nat.le_refl _, hR1⟩
   case round =>
    obtain ⟨v, t, rfl, rfl, hT, hv1, hvu, hR2⟩ := hrel
    by_cases c2 : v % 2 = 0
    ·have h2' : Int.tmod (v : Int) 2 = 0 := by rw [Int.tmod_eq_emod_of_nonneg (by omega)]; omega
     have h3 : Int.tdiv (v : Int) 2 = ((v / 2 : Nat) : Int) := by rw [Int.tdiv_eq_ediv_of_nonneg (by omega)]; omega
     obtain ⟨y, hy⟩ : ∃ y, two8 (m : Int) = y := ⟨_, rfl⟩
     have hy1 := two8_pm (m : Int)
     rw [hy] at hy1
     have HN : Hid (t * y * jcb (v / 2) m = R) := hide (by rw [← unhide hR2, jcb_even hv1 c2, hy, Int.mul_assoc])
     have HT2 : Hid (t * y = 1 ∨ t * y = -1) := hide (pm_mul (unhide hT) hy1)
     have HY : ∀ W, Calls Try.prog 98 #[.int .i64 (m : Int)] W fun e w' => e = .returned (.int .i64 y) ∧ W = w' := fun W => by rw [← hy]; exact symbolOfTwo_a m W (by omega)
     have HY := hide HY
     obtain ⟨z, hz⟩ : ∃ z, t * y = z := ⟨_, rfl⟩
     have hz1 := unhide HT2
     rw [hz] at hz1
     have hz0 : -1 ≤ z ∧ z ≤ 1 := by omega
     have hv2 : 1 ≤ v / 2 := by omega
     clear hy hy1 c2
     go_wp2_with (go_at_call 98; refine ((unhide HY) _).mono ?_; rintro e w' ⟨rfl, rfl⟩)
     go_round
     case rel => exact ⟨v / 2, t * y, by first | rfl | go_num, by first | rfl | (rw [hz]; done) | go_num, HT2, by omega, by omega, HN⟩
     case measure => simp [intOf]; omega
    ·have h2' : Int.tmod (v : Int) 2 = 1 := by rw [Int.tmod_eq_emod_of_nonneg (by omega)]; omega
     have ht := unhide hT
     by_cases c4 : v % 4 = 3
     ·by_cases d4 : m % 4 = 3
      ·have h4 : Int.tmod (v : Int) 4 = 3 := by rw [Int.tmod_eq_emod_of_nonneg (by omega)]; omega
       have h5 : Int.tmod (m : Int) 4 = 3 := by rw [Int.tmod_eq_emod_of_nonneg (by omega)]; omega
       have HN : Hid (-t * jcb (m % v) v = R) := hide (by rw [← unhide hR2, jcb_odd (a := v) (n := m) (by omega)]; unfold sg4; rw [if_pos ⟨c4, d4⟩]; rw [Int.neg_mul, Int.neg_mul, Int.one_mul, Int.mul_neg])
       have h6 : Int.tmod (m : Int) (v : Int) = ((m % v : Nat) : Int) := by rw [Int.tmod_eq_emod_of_nonneg (by omega)]; rfl
       have h7 := Nat.mod_lt m (show 0 < v by omega)
       have h8 : ¬ (v : Int) = 0 := by omega
       have ht0 : -1 ≤ t ∧ t ≤ 1 := by omega
       have HT : Hid (-t = 1 ∨ -t = -1) := hide (by omega)
       clear c4 d4 ht
       go_wp2
       go_round
       case rel => exact ⟨m % v, v, -t, by first | rfl | go_num, rfl, by first | rfl | go_num, unhide HT, by omega, by omega, HN⟩
       case measure => simp [intOf]; omega
      ·have h4 : Int.tmod (v : Int) 4 = 3 := by rw [Int.tmod_eq_emod_of_nonneg (by omega)]; omega
       obtain ⟨r5, hr5⟩ : ∃ r : Int, Int.tmod (m : Int) 4 = r := ⟨_, rfl⟩
       have h5 : ¬ r5 = 3 := by rw [Int.tmod_eq_emod_of_nonneg (by omega)] at hr5; omega
       have HN : Hid (t * jcb (m % v) v = R) := hide (by rw [← unhide hR2, jcb_odd (a := v) (n := m) (by omega)]; unfold sg4; rw [if_neg (by omega)]; rw [Int.one_mul])
       have h6 : Int.tmod (m : Int) (v : Int) = ((m % v : Nat) : Int) := by rw [Int.tmod_eq_emod_of_nonneg (by omega)]; rfl
       have h7 := Nat.mod_lt m (show 0 < v by omega)
       have h8 : ¬ (v : Int) = 0 := by omega
       have ht0 : -1 ≤ t ∧ t ≤ 1 := by omega
       have HT : Hid (t = 1 ∨ t = -1) := hide (by omega)
       clear c4 d4 ht
       go_wp2
       go_round
       case rel => exact ⟨m % v, v, t, by first | rfl | go_num, rfl, by first | rfl | go_num, unhide HT, by omega, by omega, HN⟩
       case measure => simp [intOf]; omega
     ·obtain ⟨r4, hr4⟩ : ∃ r : Int, Int.tmod (v : Int) 4 = r := ⟨_, rfl⟩
      have h4 : ¬ r4 = 3 := by rw [Int.tmod_eq_emod_of_nonneg (by omega)] at hr4; omega
      have HN : Hid (t * jcb (m % v) v = R) := hide (by rw [← unhide hR2, jcb_odd (a := v) (n := m) (by omega)]; unfold sg4; rw [if_neg (by omega)]; rw [Int.one_mul])
      have h6 : Int.tmod (m : Int) (v : Int) = ((m % v : Nat) : Int) := by rw [Int.tmod_eq_emod_of_nonneg (by omega)]; rfl
      have h7 := Nat.mod_lt m (show 0 < v by omega)
      have h8 : ¬ (v : Int) = 0 := by omega
      have ht0 : -1 ≤ t ∧ t ≤ 1 := by omega
      have HT : Hid (t = 1 ∨ t = -1) := hide (by omega)
      clear c4  ht
      go_wp2
      go_round
      case rel => exact ⟨m % v, v, t, by first | rfl | go_num, rfl, by first | rfl | go_num, unhide HT, by omega, by omega, HN⟩
      case measure => simp [intOf]; omega
end Go.Proofs.Ytaeabefbohlcpaa
