/- Values of the characters, both sides. -/
import Derived.Test.YtaeabefbohlcpaaChl
import Derived.Test.YtaeabefbohlcpaaJaj
namespace Go.Proofs.Ytaeabefbohlcpaa
open Go.RowKit
set_option linter.unusedVariables false
set_option linter.unusedSimpArgs false
attribute [local go_sem] q2 q3 q4 q5 q6 q7 q8 q9 q10 q11 q12

def chv (k p n : Int) : Int := if k = 1 then jcb (n % p).toNat p.toNat else if k = 2 then 2 - n % 4 else if k = 3 then two8 n else (2 - n % 4) * two8 n
def ChOk (k p : Int) : Prop := (k = 1 ∧ ∃ P : Nat, p = (P : Int) ∧ 1 ≤ P ∧ P ≤ 1000000 ∧ P % 2 = 1) ∨ k = 2 ∨ k = 3 ∨ k = 4
theorem chP_ok {ps : List Nat} (h : ∀ p ∈ ps, Pr p ∧ p ≤ 2000) : ∀ k, k ≤ ps.length → ∀ z ∈ chP ps k, ChOk z.1 z.2
 | 0, _ => fun z hz => by cases hz
 | k + 1, hk => fun z hz => by
  have hm := gdm (l := ps) (i := k) (d := 0) (by omega)
  rw [chP] at hz
  split at hz
  ·rename_i h2
   rw [List.mem_append] at hz
   rcases hz with hz | hz
   ·exact chP_ok h k (by omega) z hz
   ·obtain rfl := List.mem_singleton.1 hz
    obtain ⟨q1, q2⟩ := h _ hm
    refine .inl ⟨rfl, ps.getD k 0, rfl, by omega, by omega, ?_⟩
    rcases Nat.mod_two_eq_zero_or_one (ps.getD k 0) with e | e
    ·rcases q1.2 2 (Nat.dvd_of_mod_eq_zero e) with r | r <;> omega
    ·exact e
  ·exact chP_ok h k (by omega) z hz
theorem chL_ok {d : Int} (h0 : -2000 ≤ d) (h1 : d ≤ -3) : ∀ z ∈ chL d, ChOk z.1 z.2 := by
 intro z hz
 unfold chL at hz
 rw [List.mem_append] at hz
 rcases hz with hz | hz
 ·have hp := ps_ok (n := (-d).toNat) (by omega)
  exact chP_ok (fun p hp2 => ⟨hp.pr p hp2, by have := Nat.le_of_dvd (by omega) (hp.dv p hp2); omega⟩) _ (Nat.le_refl _) z hz
 ·unfold chT at hz
  right
  (repeat' split at hz) <;> simp at hz <;> first | (rcases hz with rfl | rfl <;> simp; done) | (subst hz; simp)

set_option maxRecDepth 100000 in
set_option maxHeartbeats 4000000 in
theorem value_a (k p n : Int) (w : World) (hc : ChOk k p) (h0 : 1 ≤ n) (h1 : n ≤ 1000000000000) (ho : n % 2 = 1) :
  Calls Try.prog 79 #[.agg #[.int .i64 k, .int .i64 p], .int .i64 n] w fun e w' => e = .returned (.int .i64 (chv k p n)) ∧ Below w.heap.size w w' := by
 obtain ⟨v, hv⟩ : ∃ v, chv k p n = v := ⟨_, rfl⟩
 rw [hv]
 rcases hc with ⟨rfl, P, rfl, p1, p2, p3⟩ | hc
 ·have HJ : ∀ W, Calls Try.prog 97 #[.int .i64 n, .int .i64 (P : Int)] W fun e w' => e = .returned (.int .i64 v) ∧ W = w' := fun W => by
   have : v = jcb (n % (P : Int)).toNat P := by rw [← hv]; rfl
   rw [this]; exact jacobi_a n P W (by omega) p1 p2
  have HJ := hide HJ
  clear hv
  go_enter Try.func79, Try.ntmps79
  go_wp2_with (go_at_call 97; refine ((unhide HJ) _).mono ?_; rintro e w' ⟨rfl, rfl⟩)
  go_ret
  exact ⟨rfl, byGG⟩
 ·have t2 : Int.tmod n 2 = 1 := by rw [Int.tmod_eq_emod_of_nonneg (by omega)]; exact ho
  obtain ⟨r, hr⟩ : ∃ r, n % 4 = r := ⟨_, rfl⟩
  have hr4 : r = 1 ∨ r = 3 := by omega
  obtain ⟨t, ht⟩ : ∃ t, two8 n = t := ⟨_, rfl⟩
  have ht1 : t = 1 ∨ t = -1 := by rw [← ht]; exact two8_pm n
  have HM : ∀ W, Calls Try.prog 75 #[.int .i64 n, .int .i64 4] W fun e w' => e = .returned (.int .i64 r) ∧ W = w' := fun W => by rw [← hr]; exact mod_a n 4 W (by omega) (by omega) (by omega)
  have HT : ∀ W, Calls Try.prog 98 #[.int .i64 n] W fun e w' => e = .returned (.int .i64 t) ∧ W = w' := fun W => by rw [← ht]; exact symbolOfTwo_a n W (by omega)
  have HM := hide HM
  have HT := hide HT
  rcases hc with rfl | rfl | rfl
  ·have HV : Hid (v = 2 - r) := hide (by rw [← hv, ← hr]; rfl)
   clear hv hr ht
   rcases hr4 with rfl | rfl <;> rcases ht1 with rfl | rfl
   all_goals
    go_enter Try.func79, Try.ntmps79
    go_wp2_with (first | (go_at_call 75; refine ((unhide HM) _).mono ?_; rintro e w' ⟨rfl, rfl⟩) | (go_at_call 98; refine ((unhide HT) _).mono ?_; rintro e w' ⟨rfl, rfl⟩))
    go_ret
    exact ⟨by rw [unhide HV]; rfl, byGG⟩
  ·have HV : Hid (v = t) := hide (by rw [← hv, ← ht]; rfl)
   clear hv hr ht
   rcases hr4 with rfl | rfl <;> rcases ht1 with rfl | rfl
   all_goals
    go_enter Try.func79, Try.ntmps79
    go_wp2_with (first | (go_at_call 75; refine ((unhide HM) _).mono ?_; rintro e w' ⟨rfl, rfl⟩) | (go_at_call 98; refine ((unhide HT) _).mono ?_; rintro e w' ⟨rfl, rfl⟩))
    go_ret
    exact ⟨by rw [unhide HV]; rfl, byGG⟩
  ·have HV : Hid (v = (2 - r) * t) := hide (by rw [← hv, ← hr, ← ht]; rfl)
   clear hv hr ht
   rcases hr4 with rfl | rfl <;> rcases ht1 with rfl | rfl
   all_goals
    go_enter Try.func79, Try.ntmps79
    go_wp2_with (first | (go_at_call 75; refine ((unhide HM) _).mono ?_; rintro e w' ⟨rfl, rfl⟩) | (go_at_call 98; refine ((unhide HT) _).mono ?_; rintro e w' ⟨rfl, rfl⟩))
    go_ret
    exact ⟨by rw [unhide HV]; rfl, byGG⟩

set_option maxRecDepth 100000 in
set_option maxHeartbeats 4000000 in
theorem chAt_a (k p n : Int) (w : World) (hc : ChOk k p) (h0 : 1 ≤ n) (h1 : n ≤ 1000000000000) (ho : n % 2 = 1) :
  Calls Try.prog 71 #[.agg #[.int .i64 k, .int .i64 p], .int .i64 n] w fun e w' => e = .returned (.int .i64 (chv k p n)) ∧ Below w.heap.size w w' := by
 obtain ⟨v, hv⟩ : ∃ v, chv k p n = v := ⟨_, rfl⟩
 rw [hv]
 rcases hc with ⟨rfl, P, rfl, p1, p2, p3⟩ | hc
 ·have HJ : ∀ W, Calls Try.prog 86 #[.int .i64 n, .int .i64 (P : Int)] W fun e w' => e = .returned (.int .i64 v) ∧ Below W.heap.size W w' := fun W => by
   have : v = jcb (n % (P : Int)).toNat P := by rw [← hv]; rfl
   rw [this]; exact syJacobi_a n P W (by omega) p1 p2 p3
  have HJ := hide HJ
  clear hv
  go_enter Try.func71, Try.ntmps71
  go_wp2_with (go_at_call 86; refine ((unhide HJ) _).mono ?_; rintro e w2 ⟨rfl, hb2⟩)
  go_ret
  exact ⟨rfl, byGG⟩
 ·have t2 : Int.tmod n 2 = 1 := by rw [Int.tmod_eq_emod_of_nonneg (by omega)]; exact ho
  obtain ⟨r, hr⟩ : ∃ r, n % 4 = r := ⟨_, rfl⟩
  have hr4 : r = 1 ∨ r = 3 := by omega
  obtain ⟨t, ht⟩ : ∃ t, two8 n = t := ⟨_, rfl⟩
  have ht1 : t = 1 ∨ t = -1 := by rw [← ht]; exact two8_pm n
  have HM : ∀ W, Calls Try.prog 48 #[.int .i64 n, .int .i64 4] W fun e w' => e = .returned (.int .i64 r) ∧ W = w' := fun W => by rw [← hr]; exact nuMod_a n 4 W (by omega) (by omega) (by omega)
  have HT : ∀ W, Calls Try.prog 87 #[.int .i64 n] W fun e w' => e = .returned (.int .i64 t) ∧ W = w' := fun W => by rw [← ht]; exact syTwo_a n W (by omega) ho
  have HM := hide HM
  have HT := hide HT
  rcases hc with rfl | rfl | rfl
  ·have HV : Hid (v = 2 - r) := hide (by rw [← hv, ← hr]; rfl)
   clear hv hr ht
   rcases hr4 with rfl | rfl <;> rcases ht1 with rfl | rfl
   all_goals
    go_enter Try.func71, Try.ntmps71
    go_wp2_with (first | (go_at_call 48; refine ((unhide HM) _).mono ?_; rintro e w' ⟨rfl, rfl⟩) | (go_at_call 87; refine ((unhide HT) _).mono ?_; rintro e w' ⟨rfl, rfl⟩))
    go_ret
    exact ⟨by rw [unhide HV]; rfl, byGG⟩
  ·have HV : Hid (v = t) := hide (by rw [← hv, ← ht]; rfl)
   clear hv hr ht
   rcases hr4 with rfl | rfl <;> rcases ht1 with rfl | rfl
   all_goals
    go_enter Try.func71, Try.ntmps71
    go_wp2_with (first | (go_at_call 48; refine ((unhide HM) _).mono ?_; rintro e w' ⟨rfl, rfl⟩) | (go_at_call 87; refine ((unhide HT) _).mono ?_; rintro e w' ⟨rfl, rfl⟩))
    go_ret
    exact ⟨by rw [unhide HV]; rfl, byGG⟩
  ·have HV : Hid (v = (2 - r) * t) := hide (by rw [← hv, ← hr, ← ht]; rfl)
   clear hv hr ht
   rcases hr4 with rfl | rfl <;> rcases ht1 with rfl | rfl
   all_goals
    go_enter Try.func71, Try.ntmps71
    go_wp2_with (first | (go_at_call 48; refine ((unhide HM) _).mono ?_; rintro e w' ⟨rfl, rfl⟩) | (go_at_call 87; refine ((unhide HT) _).mono ?_; rintro e w' ⟨rfl, rfl⟩))
    go_ret
    exact ⟨by rw [unhide HV]; rfl, byGG⟩
end Go.Proofs.Ytaeabefbohlcpaa
