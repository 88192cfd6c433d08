/- The Jacobi symbol: syJacobi. Values of the characters, both sides. -/
import Derived.Test.YtaeabefbohlcpaaGreatJas
import Derived.Test.YtaeabefbohlcpaaGreatJac
namespace Go.Proofs.YtaeabefbohlcpaaGreat
open Go.RowKit
set_option linter.unusedVariables false
set_option linter.unusedSimpArgs false
attribute [local go_sem] q2 q3 q4 q5 q6 q7 q8 q9 q10 q11 q12

def muJ (T B : Int) : Nat := if 0 ≤ T ∧ T < B then 2 * T.toNat else 2 * B.toNat - 1
def endB (T : Int) : Bool := decide (T = 0 ∨ T = 1)
theorem syEnd_a (T B S : Int) (w : World) : Calls Tryz.prog 126 #[.agg #[.int .i64 T, .int .i64 B, .int .i64 S]] w fun e w' => e = .returned (.bool (endB T)) ∧ Below w.heap.size w w' := by
 by_cases c0 : T = 0
 ·subst c0
  go_enter Tryz.func126, Tryz.ntmps126
  go_wp2
  go_ret
  exact ⟨rfl, byGG⟩
 ·by_cases c1 : T = 1
  ·subst c1
   go_enter Tryz.func126, Tryz.ntmps126
   go_wp2
   go_ret
   exact ⟨rfl, byGG⟩
  ·have HV : Hid (endB T = false) := hide (by unfold endB; simp [c0, c1])
   have e0 : (T == 0) = false := by simpa using c0
   have e1 : (T == 1) = false := by simpa using c1
   go_enter Tryz.func126, Tryz.ntmps126
   go_wp2
   go_ret
   exact ⟨by rw [unhide HV]; rfl, byGG⟩
theorem jac_mod {T B : Int} (h : 1 ≤ B) : (T % B % B).toNat = (T % B).toNat := by rw [Int.emod_emod_of_dvd T (Int.dvd_refl B)]
theorem jac_even {T B : Int} (h : 2 ≤ T ∧ T < B) (he : T % 2 = 0) : jcb (T % B).toNat B.toNat = two8 B * jcb (T / 2 % B).toNat B.toNat := by
 rw [Int.emod_eq_of_lt (by omega) h.2, Int.emod_eq_of_lt (by omega) (by omega), jcb_even (by omega) (by omega), show (T.toNat / 2) = (T / 2).toNat by omega, show ((B.toNat : Nat) : Int) = B by omega]
theorem jac_odd {T B : Int} (h : 1 ≤ T ∧ T < B) (ho : T % 2 = 1) : jcb (T % B).toNat B.toNat = (if T % 4 = 3 ∧ B % 4 = 3 then -1 else 1) * jcb (B % T).toNat T.toNat := by
 rw [Int.emod_eq_of_lt (by omega) h.2, jcb_odd (by omega), Int.toNat_emod (by omega) (by omega)]
 congr 1
 unfold sg4
 have e : (T.toNat % 4 = 3 ∧ B.toNat % 4 = 3) ↔ (T % 4 = 3 ∧ B % 4 = 3) := by constructor <;> intro h <;> omega
 simp only [e]
set_option maxRecDepth 100000 in
set_option maxHeartbeats 4000000 in
theorem syJacobi_a (a : Int) (N : Nat) (w : World) (h0 : -4611686018427387904 ≤ a ∧ a ≤ 4611686018427387904) (h1 : 1 ≤ N) (h2 : N ≤ 1000000) (hodd : N % 2 = 1) :
  Calls Tryz.prog 110 #[.int .i64 a, .int .i64 (N : Int)] w fun e w' => e = .returned (.int .i64 (jcb (a % (N : Int)).toNat N)) ∧ Below w.heap.size w w' := by
 obtain ⟨R, hR⟩ : ∃ R, jcb (a % (N : Int)).toNat N = R := ⟨_, rfl⟩
 have HR0 : Hid (1 * jcb (a % (N : Int)).toNat (N : Int).toNat = R) := hide (by rw [← hR, Int.one_mul]; rfl)
 have HRR := hide hR
 clear hR
 go_enter Tryz.func110, Tryz.ntmps110
 go_wp2
 go_loopg [] (muJ a N) (fun g wr => ∃ (T B S : Int), g = muJ T B ∧ (-4611686018427387904 ≤ T ∧ T ≤ 4611686018427387904) ∧ (1 ≤ B ∧ B ≤ 1000000) ∧ B % 2 = 1 ∧ (S = 1 ∨ S = -1) ∧ Hid (S * jcb (T % B).toNat B.toNat = R) ∧ wr.cell? ⟨w.heap.size, 0, none⟩ = some (.int .i64 T) ∧ wr.frozen? ⟨w.heap.size, 0, none⟩ = false ∧ wr.cell? ⟨w.heap.size, 1, none⟩ = some (.int .i64 B) ∧ wr.frozen? ⟨w.heap.size, 1, none⟩ = false ∧ wr.cell? ⟨w.heap.size, 2, none⟩ = some (.int .i64 S) ∧ wr.frozen? ⟨w.heap.size, 2, none⟩ = false ∧ Below w.heap.size w wr)
 case atStart => exact ⟨a, N, 1, rfl, h0, by omega, by omega, .inl rfl, HR0, byCT, byFT, byCT, byFT, byCT, byFT, byGG⟩
 case round =>
  obtain ⟨T, B, S, rfl, hT, hB, hBo, hS, hJ, c0, f0, c1, f1, c2, f2, hb⟩ := hrel
  obtain ⟨wl, rfl⟩ : ∃ wl : World, wl = wr := ⟨_, rfl⟩
  have hz := hb.size
  have hbz := World.block_lt_of_cell? _ _ c0
  change w.heap.size < wl.heap.size at hbz
  have hS1 : -1 ≤ S ∧ S ≤ 1 := by omega
  have HS := hide hS
  by_cases k0 : T = 0
  ·subst k0
   by_cases kb : B = 1
   ·subst kb
    have HV : Hid (R = S) := hide (by rw [← unhide hJ]; simp [jcb_zero])
    go_wp2_with fail
    refine (syEnd_a 0 1 S _).mono ?_
    rintro en w1 ⟨rfl, hb1⟩
    have tq0 := Wi3.c hb1 w.heap.size 0 1 S
    try clear c00 c01 c02 f00 f01 f02
    obtain ⟨c00, c01, c02, f00, f01, f02, z0⟩ := tq0
    go_wp2
    go_ret
    exact ⟨by rw [unhide HRR, unhide HV]; rfl, byGG⟩
   ·have HV : Hid (R = 0) := hide (by rw [← unhide hJ, Int.zero_emod]; show S * jcb 0 B.toNat = 0; rw [jcb_zero, if_neg (by omega), Int.mul_zero])
    have kb2 : 1 < B := by omega
    go_wp2_with fail
    refine (syEnd_a 0 B S _).mono ?_
    rintro en w1 ⟨rfl, hb1⟩
    have tq0 := Wi3.c hb1 w.heap.size 0 B S
    try clear c00 c01 c02 f00 f01 f02
    obtain ⟨c00, c01, c02, f00, f01, f02, z0⟩ := tq0
    go_wp2
    go_ret
    exact ⟨by rw [unhide HRR, unhide HV]; rfl, byGG⟩
  ·by_cases k1 : T = 1
   ·subst k1
    have HV : Hid (R = S) := hide (by
     rw [← unhide hJ]
     by_cases kb : B = 1
     ·subst kb; simp [jcb_zero]
     ·rw [Int.emod_eq_of_lt (by omega) (by omega)]; show S * jcb 1 B.toNat = S; rw [jcb_one, Int.mul_one])
    go_wp2_with fail
    refine (syEnd_a 1 B S _).mono ?_
    rintro en w1 ⟨rfl, hb1⟩
    have tq0 := Wi3.c hb1 w.heap.size 1 B S
    try clear c00 c01 c02 f00 f01 f02
    obtain ⟨c00, c01, c02, f00, f01, f02, z0⟩ := tq0
    go_wp2
    go_ret
    exact ⟨by rw [unhide HRR, unhide HV]; rfl, byGG⟩
   ·by_cases kn : T < 0 ∨ B ≤ T
    ·have q1 := Int.emod_nonneg T (show B ≠ 0 by omega)
     have q2 := Int.emod_lt_of_pos T (show 0 < B by omega)

     have he : endB T = false := by unfold endB; simp; omega
     have HEN := hide he
     go_wp2_with fail
     refine (syEnd_a T B S _).mono ?_
     rintro en w1 ⟨rfl, hb1⟩
     have tq0 := Wi3.c hb1 w.heap.size T B S
     try clear c00 c01 c02 f00 f01 f02
     obtain ⟨c00, c01, c02, f00, f01, f02, z0⟩ := tq0
     rw [unhide HEN]
     have hg1 : Below w.heap.size w w1 := hb.trans (hb1.mono hz)
     go_wp2_with fail
     refine (sySucc_mod T B S _ hT hB kn).mono ?_
     rintro en w2 ⟨rfl, hb2⟩
     have tq0 := Wi3.c hb2 w.heap.size T B S
     try clear c00 c01 c02 f00 f01 f02
     obtain ⟨c00, c01, c02, f00, f01, f02, z0⟩ := tq0
     have hg2 : Below w.heap.size w w2 := hg1.trans (hb2.mono hg1.size)
     have HJ2 : Hid (S * jcb ((T % B) % B).toNat (B).toNat = R) := hide (by rw [jac_mod hB.1]; exact unhide hJ)
     go_wp2
     go_roundg (muJ (T % B) B)
     case rel => exact ⟨(T % B), B, S, rfl, by omega, by omega, by omega, by first | assumption | omega, HJ2, byCT, byFT, byCT, byFT, byCT, byFT, byGG⟩
     case measure => (unfold muJ; rw [if_pos ⟨q1, q2⟩, if_neg (by omega)]; omega)
    ·by_cases ke : T % 2 = 0
     ·have hS2 := pm_mul hS (two8_pm B)
      have he : endB T = false := by unfold endB; simp; omega
      have HEN := hide he
      go_wp2_with fail
      refine (syEnd_a T B S _).mono ?_
      rintro en w1 ⟨rfl, hb1⟩
      have tq0 := Wi3.c hb1 w.heap.size T B S
      try clear c00 c01 c02 f00 f01 f02
      obtain ⟨c00, c01, c02, f00, f01, f02, z0⟩ := tq0
      rw [unhide HEN]
      have hg1 : Below w.heap.size w w1 := hb.trans (hb1.mono hz)
      go_wp2_with fail
      refine (sySucc_even T B S _ (by omega) ke hBo hS1).mono ?_
      rintro en w2 ⟨rfl, hb2⟩
      have tq0 := Wi3.c hb2 w.heap.size T B S
      try clear c00 c01 c02 f00 f01 f02
      obtain ⟨c00, c01, c02, f00, f01, f02, z0⟩ := tq0
      have hg2 : Below w.heap.size w w2 := hg1.trans (hb2.mono hg1.size)
      have HJ2 : Hid ((S * two8 B) * jcb ((T / 2) % B).toNat (B).toNat = R) := hide (by rw [Int.mul_assoc, ← jac_even (by omega) ke]; exact unhide hJ)
      go_wp2
      go_roundg (muJ (T / 2) B)
      case rel => exact ⟨(T / 2), B, (S * two8 B), rfl, by omega, by omega, by omega, by first | assumption | omega, HJ2, byCT, byFT, byCT, byFT, byCT, byFT, byGG⟩
      case measure => (unfold muJ; rw [if_pos (by omega), if_pos (by omega)]; omega)
     ·obtain ⟨S3, hS3e⟩ : ∃ q, (if T % 4 = 3 ∧ B % 4 = 3 then -S else S) = q := ⟨_, rfl⟩
      have hS3 : S3 = 1 ∨ S3 = -1 := by rw [← hS3e]; split <;> omega
      have HJ3 : Hid (S3 * jcb (B % T).toNat T.toNat = R) := hide (by
       have h9 := unhide hJ
       rw [jac_odd (by omega) (by omega)] at h9
       rw [← h9, ← hS3e]
       by_cases hc : T % 4 = 3 ∧ B % 4 = 3
       ·rw [if_pos hc, if_pos hc, Int.neg_mul, Int.neg_mul, Int.one_mul, Int.mul_neg]
       ·rw [if_neg hc, if_neg hc, Int.one_mul])
      have HSO : ∀ W, Calls Tryz.prog 127 #[.agg #[.int .i64 T, .int .i64 B, .int .i64 S]] W fun e w' => e = .returned (.agg #[.int .i64 B, .int .i64 T, .int .i64 S3]) ∧ Below W.heap.size W w' := fun W => by rw [← hS3e]; exact sySucc_odd T B S W (by omega) (by omega) hS1
      have HSO := hide HSO
      clear hS3e
      have he : endB T = false := by unfold endB; simp; omega
      have HEN := hide he
      go_wp2_with fail
      refine (syEnd_a T B S _).mono ?_
      rintro en w1 ⟨rfl, hb1⟩
      have tq0 := Wi3.c hb1 w.heap.size T B S
      try clear c00 c01 c02 f00 f01 f02
      obtain ⟨c00, c01, c02, f00, f01, f02, z0⟩ := tq0
      rw [unhide HEN]
      have hg1 : Below w.heap.size w w1 := hb.trans (hb1.mono hz)
      go_wp2_with fail
      refine ((unhide HSO) _).mono ?_
      rintro en w2 ⟨rfl, hb2⟩
      have tq0 := Wi3.c hb2 w.heap.size T B S
      try clear c00 c01 c02 f00 f01 f02
      obtain ⟨c00, c01, c02, f00, f01, f02, z0⟩ := tq0
      have hg2 : Below w.heap.size w w2 := hg1.trans (hb2.mono hg1.size)
      have HJ2 : Hid (S3 * jcb (B % T).toNat (T).toNat = R) := HJ3
      go_wp2
      go_roundg (muJ B T)
      case rel => exact ⟨B, T, S3, rfl, by omega, by omega, by omega, by first | assumption | omega, HJ2, byCT, byFT, byCT, byFT, byCT, byFT, byGG⟩
      case measure => (unfold muJ; rw [if_neg (by omega), if_pos (by omega)]; omega)
end Go.Proofs.YtaeabefbohlcpaaGreat
namespace Go.Proofs.YtaeabefbohlcpaaGreat
open Go.RowKit
set_option linter.unusedVariables false
set_option linter.unusedSimpArgs false
attribute [local go_sem] q2 q3 q4 q5 q6 q7 q8 q9 q10 q11 q12

def chv (k p n : Int) : Int := if k = 1 then jcb (n % p).toNat p.toNat else if k = 2 then 2 - n % 4 else if k = 3 then two8 n else (2 - n % 4) * two8 n
def ChOk (k p : Int) : Prop := (k = 1 ∧ ∃ P : Nat, p = (P : Int) ∧ 1 ≤ P ∧ P ≤ 1000000 ∧ P % 2 = 1) ∨ k = 2 ∨ k = 3 ∨ k = 4
theorem chP_ok {ps : List Nat} (h : ∀ p ∈ ps, Pr p ∧ p ≤ 2000) : ∀ k, k ≤ ps.length → ∀ z ∈ chP ps k, ChOk z.1 z.2
 | 0, _ => fun z hz => by cases hz
 | k + 1, hk => fun z hz => by
  have hm := gdm (l := ps) (i := k) (d := 0) (by omega)
  rw [chP] at hz
  split at hz
  ·rename_i h2
   rw [List.mem_append] at hz
   rcases hz with hz | hz
   ·exact chP_ok h k (by omega) z hz
   ·obtain rfl := List.mem_singleton.1 hz
    obtain ⟨q1, q2⟩ := h _ hm
    refine .inl ⟨rfl, ps.getD k 0, rfl, by omega, by omega, ?_⟩
    rcases Nat.mod_two_eq_zero_or_one (ps.getD k 0) with e | e
    ·rcases q1.2 2 (Nat.dvd_of_mod_eq_zero e) with r | r <;> omega
    ·exact e
  ·exact chP_ok h k (by omega) z hz
theorem chL_ok {d : Int} (h0 : -2000 ≤ d) (h1 : d ≤ -3) : ∀ z ∈ chL d, ChOk z.1 z.2 := by
 intro z hz
 unfold chL at hz
 rw [List.mem_append] at hz
 rcases hz with hz | hz
 ·have hp := ps_ok (n := (-d).toNat) (by omega)
  exact chP_ok (fun p hp2 => ⟨hp.pr p hp2, by have := Nat.le_of_dvd (by omega) (hp.dv p hp2); omega⟩) _ (Nat.le_refl _) z hz
 ·unfold chT at hz
  right
  (repeat' split at hz) <;> simp at hz <;> first | (rcases hz with rfl | rfl <;> simp; done) | (subst hz; simp)

set_option maxRecDepth 100000 in
set_option maxHeartbeats 4000000 in
theorem value_a (k p n : Int) (w : World) (hc : ChOk k p) (h0 : 1 ≤ n) (h1 : n ≤ 1000000000000) (ho : n % 2 = 1) :
  Calls Tryz.prog 103 #[.agg #[.int .i64 k, .int .i64 p], .int .i64 n] w fun e w' => e = .returned (.int .i64 (chv k p n)) ∧ Below w.heap.size w w' := by
 obtain ⟨v, hv⟩ : ∃ v, chv k p n = v := ⟨_, rfl⟩
 rw [hv]
 rcases hc with ⟨rfl, P, rfl, p1, p2, p3⟩ | hc
 ·have HJ : ∀ W, Calls Tryz.prog 121 #[.int .i64 n, .int .i64 (P : Int)] W fun e w' => e = .returned (.int .i64 v) ∧ W = w' := fun W => by
   have : v = jcb (n % (P : Int)).toNat P := by rw [← hv]; rfl
   rw [this]; exact jacobi_a n P W (by omega) p1 p2
  have HJ := hide HJ
  clear hv
  go_enter Tryz.func103, Tryz.ntmps103
  go_wp2_with (go_at_call 121; refine ((unhide HJ) _).mono ?_; rintro e w' ⟨rfl, rfl⟩)
  go_ret
  exact ⟨rfl, byGG⟩
 ·have t2 : Int.tmod n 2 = 1 := by rw [Int.tmod_eq_emod_of_nonneg (by omega)]; exact ho
  obtain ⟨r, hr⟩ : ∃ r, n % 4 = r := ⟨_, rfl⟩
  have hr4 : r = 1 ∨ r = 3 := by omega
  obtain ⟨t, ht⟩ : ∃ t, two8 n = t := ⟨_, rfl⟩
  have ht1 : t = 1 ∨ t = -1 := by rw [← ht]; exact two8_pm n
  have HM : ∀ W, Calls Tryz.prog 42 #[.int .i64 n, .int .i64 4] W fun e w' => e = .returned (.int .i64 r) ∧ W = w' := fun W => by rw [← hr]; exact mod_a n 4 W (by omega) (by omega) (by omega)
  have HT : ∀ W, Calls Tryz.prog 122 #[.int .i64 n] W fun e w' => e = .returned (.int .i64 t) ∧ W = w' := fun W => by rw [← ht]; exact symbolOfTwo_a n W (by omega)
  have HM := hide HM
  have HT := hide HT
  rcases hc with rfl | rfl | rfl
  ·have HV : Hid (v = 2 - r) := hide (by rw [← hv, ← hr]; rfl)
   clear hv hr ht
   rcases hr4 with rfl | rfl <;> rcases ht1 with rfl | rfl
   all_goals
    go_enter Tryz.func103, Tryz.ntmps103
    go_wp2_with (first | (go_at_call 42; refine ((unhide HM) _).mono ?_; rintro e w' ⟨rfl, rfl⟩) | (go_at_call 122; refine ((unhide HT) _).mono ?_; rintro e w' ⟨rfl, rfl⟩))
    go_ret
    exact ⟨by rw [unhide HV]; rfl, byGG⟩
  ·have HV : Hid (v = t) := hide (by rw [← hv, ← ht]; rfl)
   clear hv hr ht
   rcases hr4 with rfl | rfl <;> rcases ht1 with rfl | rfl
   all_goals
    go_enter Tryz.func103, Tryz.ntmps103
    go_wp2_with (first | (go_at_call 42; refine ((unhide HM) _).mono ?_; rintro e w' ⟨rfl, rfl⟩) | (go_at_call 122; refine ((unhide HT) _).mono ?_; rintro e w' ⟨rfl, rfl⟩))
    go_ret
    exact ⟨by rw [unhide HV]; rfl, byGG⟩
  ·have HV : Hid (v = (2 - r) * t) := hide (by rw [← hv, ← hr, ← ht]; rfl)
   clear hv hr ht
   rcases hr4 with rfl | rfl <;> rcases ht1 with rfl | rfl
   all_goals
    go_enter Tryz.func103, Tryz.ntmps103
    go_wp2_with (first | (go_at_call 42; refine ((unhide HM) _).mono ?_; rintro e w' ⟨rfl, rfl⟩) | (go_at_call 122; refine ((unhide HT) _).mono ?_; rintro e w' ⟨rfl, rfl⟩))
    go_ret
    exact ⟨by rw [unhide HV]; rfl, byGG⟩

set_option maxRecDepth 100000 in
set_option maxHeartbeats 4000000 in
theorem chAt_a (k p n : Int) (w : World) (hc : ChOk k p) (h0 : 1 ≤ n) (h1 : n ≤ 1000000000000) (ho : n % 2 = 1) :
  Calls Tryz.prog 95 #[.agg #[.int .i64 k, .int .i64 p], .int .i64 n] w fun e w' => e = .returned (.int .i64 (chv k p n)) ∧ Below w.heap.size w w' := by
 obtain ⟨v, hv⟩ : ∃ v, chv k p n = v := ⟨_, rfl⟩
 rw [hv]
 rcases hc with ⟨rfl, P, rfl, p1, p2, p3⟩ | hc
 ·have HJ : ∀ W, Calls Tryz.prog 110 #[.int .i64 n, .int .i64 (P : Int)] W fun e w' => e = .returned (.int .i64 v) ∧ Below W.heap.size W w' := fun W => by
   have : v = jcb (n % (P : Int)).toNat P := by rw [← hv]; rfl
   rw [this]; exact syJacobi_a n P W (by omega) p1 p2 p3
  have HJ := hide HJ
  clear hv
  go_enter Tryz.func95, Tryz.ntmps95
  go_wp2_with (go_at_call 110; refine ((unhide HJ) _).mono ?_; rintro e w2 ⟨rfl, hb2⟩)
  go_ret
  exact ⟨rfl, byGG⟩
 ·have t2 : Int.tmod n 2 = 1 := by rw [Int.tmod_eq_emod_of_nonneg (by omega)]; exact ho
  obtain ⟨r, hr⟩ : ∃ r, n % 4 = r := ⟨_, rfl⟩
  have hr4 : r = 1 ∨ r = 3 := by omega
  obtain ⟨t, ht⟩ : ∃ t, two8 n = t := ⟨_, rfl⟩
  have ht1 : t = 1 ∨ t = -1 := by rw [← ht]; exact two8_pm n
  have HM : ∀ W, Calls Tryz.prog 38 #[.int .i64 n, .int .i64 4] W fun e w' => e = .returned (.int .i64 r) ∧ W = w' := fun W => by rw [← hr]; exact nuMod_a n 4 W (by omega) (by omega) (by omega)
  have HT : ∀ W, Calls Tryz.prog 111 #[.int .i64 n] W fun e w' => e = .returned (.int .i64 t) ∧ W = w' := fun W => by rw [← ht]; exact syTwo_a n W (by omega) ho
  have HM := hide HM
  have HT := hide HT
  rcases hc with rfl | rfl | rfl
  ·have HV : Hid (v = 2 - r) := hide (by rw [← hv, ← hr]; rfl)
   clear hv hr ht
   rcases hr4 with rfl | rfl <;> rcases ht1 with rfl | rfl
   all_goals
    go_enter Tryz.func95, Tryz.ntmps95
    go_wp2_with (first | (go_at_call 38; refine ((unhide HM) _).mono ?_; rintro e w' ⟨rfl, rfl⟩) | (go_at_call 111; refine ((unhide HT) _).mono ?_; rintro e w' ⟨rfl, rfl⟩))
    go_ret
    exact ⟨by rw [unhide HV]; rfl, byGG⟩
  ·have HV : Hid (v = t) := hide (by rw [← hv, ← ht]; rfl)
   clear hv hr ht
   rcases hr4 with rfl | rfl <;> rcases ht1 with rfl | rfl
   all_goals
    go_enter Tryz.func95, Tryz.ntmps95
    go_wp2_with (first | (go_at_call 38; refine ((unhide HM) _).mono ?_; rintro e w' ⟨rfl, rfl⟩) | (go_at_call 111; refine ((unhide HT) _).mono ?_; rintro e w' ⟨rfl, rfl⟩))
    go_ret
    exact ⟨by rw [unhide HV]; rfl, byGG⟩
  ·have HV : Hid (v = (2 - r) * t) := hide (by rw [← hv, ← hr, ← ht]; rfl)
   clear hv hr ht
   rcases hr4 with rfl | rfl <;> rcases ht1 with rfl | rfl
   all_goals
    go_enter Tryz.func95, Tryz.ntmps95
    go_wp2_with (first | (go_at_call 38; refine ((unhide HM) _).mono ?_; rintro e w' ⟨rfl, rfl⟩) | (go_at_call 111; refine ((unhide HT) _).mono ?_; rintro e w' ⟨rfl, rfl⟩))
    go_ret
    exact ⟨by rw [unhide HV]; rfl, byGG⟩
end Go.Proofs.YtaeabefbohlcpaaGreat
