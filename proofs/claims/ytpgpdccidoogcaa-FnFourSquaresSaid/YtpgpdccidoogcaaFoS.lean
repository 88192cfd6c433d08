/-
  Plain: sums of two and of four squares follow from the divisors.
-/
import Derived.Test.YtpgpdccidoogcaaFoK
import Derived.Test.YtpgpdccidoogcaaDiv
namespace Go.Proofs.Ytpgpdccidoogcaa
open Go.RowKit
set_option linter.unusedVariables false
set_option linter.unusedSimpArgs false

theorem u4_zero : u4 0 = 0 := rfl
theorem u4_big {d : Nat} (h : 10000 < d) : u4 d = 0 := by unfold u4; rw [if_neg (by omega)]
theorem ur_zero {r : Nat} (h : r ≠ 0) : ur r 0 = 0 := by unfold ur; rw [if_pos (by omega), if_neg (by omega)]
theorem ur_big {r d : Nat} (h : 10000 < d) : ur r d = 0 := by unfold ur; rw [if_neg (by omega)]
theorem sN_const (c : Nat) : ∀ n, sN (fun _ => c) n = n * c
  | 0 => by simp [sN]
  | n + 1 => by simp only [sN]; rw [sN_const c n, Nat.add_mul, Nat.one_mul]
theorem wd_lt (u : Nat → Nat) (h : ∀ d, u d ≤ 10000) (n : Nat) : wd u n ≤ 163840000 := by
  unfold wd
  refine Nat.le_trans (sN_le (h := fun _ => 10000) fun d _ => ?_) (by rw [sN_const]; omega)
  have : ind d n ≤ 1 := by unfold ind; split <;> omega
  have h2 := Nat.mul_le_mul (h d) this
  omega
theorem u4_le (d : Nat) : u4 d ≤ 10000 := by unfold u4; split <;> (try split) <;> omega
theorem ur_le (r d : Nat) : ur r d ≤ 10000 := by unfold ur; split <;> (try split) <;> omega
theorem kF_parts (M : Nat) (h : kF M = true) : Th * ((Th * ((Th * (Th * 1 % M)) % M)) % M) % M = 1 + 8 * Wg u4 ∧ Th * (Th * 1 % M) % M + 4 * Wg (ur 3) = 1 + 4 * Wg (ur 1) := by
  unfold kF at h
  rw [Bool.and_eq_true, beq_iff_eq, beq_iff_eq] at h
  exact h
theorem four_two (N : Nat) (hN : N = 10001) (h : kF (Bg ^ N) = true) (n : Nat) (hn : n ≤ 10000) :
    scN 4 n = scN 0 n + 8 * wd u4 n ∧ scN 2 n + 4 * wd (ur 3) n = scN 0 n + 4 * wd (ur 1) n := by
  obtain ⟨h1, h2⟩ := kF_parts _ h
  have e0 : ev (scN 0) N = 1 := by rw [hN, show 10001 = 1 + 10000 from rfl]; exact ev_sc0 10000
  have e1 : ev (scN 1) N = Th * 1 % Bg ^ N := by rw [ev_sc N (by omega) (by omega) 0 (by omega), e0]
  have e2 : ev (scN 2) N = Th * (Th * 1 % Bg ^ N) % Bg ^ N := by rw [ev_sc N (by omega) (by omega) 1 (by omega), e1]
  have e3 : ev (scN 3) N = Th * (Th * (Th * 1 % Bg ^ N) % Bg ^ N) % Bg ^ N := by rw [ev_sc N (by omega) (by omega) 2 (by omega), e2]
  have e4 : ev (scN 4) N = Th * (Th * (Th * (Th * 1 % Bg ^ N) % Bg ^ N) % Bg ^ N) % Bg ^ N := by rw [ev_sc N (by omega) (by omega) 3 (by omega), e3]
  rw [← e4, ← ev_wd N hN u4 u4_zero (fun d => u4_big)] at h1
  rw [← e2, ← ev_wd N hN (ur 3) (ur_zero (by omega)) (fun d => ur_big), ← ev_wd N hN (ur 1) (ur_zero (by omega)) (fun d => ur_big)] at h2
  have b4 := fun i => wd_lt u4 u4_le i
  have b3 := fun i => wd_lt (ur 3) (ur_le 3) i
  have b1 := fun i => wd_lt (ur 1) (ur_le 1) i
  have c0 : ∀ i, scN 0 i ≤ 1 := fun i => by simp only [scN]; split <;> omega
  constructor
  · have hh : ev (scN 4) N = ev (fun i => scN 0 i + 8 * wd u4 i) N := by rw [ev_add, ev_mul, e0]; exact h1
    refine ev_inj (fun i hi => ?_) (fun i hi => ?_) hh n (by omega)
    · have := scN_lt 4 (by omega) i (by omega); show scN 4 i < 1099511627776; omega
    · have := b4 i; have := c0 i; show scN 0 i + 8 * wd u4 i < 1099511627776; omega
  · have hh : ev (fun i => scN 2 i + 4 * wd (ur 3) i) N = ev (fun i => scN 0 i + 4 * wd (ur 1) i) N := by rw [ev_add, ev_mul, ev_add, ev_mul, e0]; exact h2
    have := ev_inj (f := fun i => scN 2 i + 4 * wd (ur 3) i) (g := fun i => scN 0 i + 4 * wd (ur 1) i) (fun i hi => ?_) (fun i hi => ?_) hh n (by omega)
    · exact this
    · have := scN_lt 2 (by omega) i (by omega); have := b3 i; show scN 2 i + 4 * wd (ur 3) i < 1099511627776; omega
    · have := b1 i; have := c0 i; show scN 0 i + 4 * wd (ur 1) i < 1099511627776; omega
/-- Sums over a list of integers. -/
def gsum (g : Int → Int) : List Int → Int
  | [] => 0
  | z :: L => g z + gsum g L
theorem gsum_app (g : Int → Int) : ∀ (L M : List Int), gsum g (L ++ M) = gsum g L + gsum g M
  | [], M => by simp [gsum]
  | z :: L, M => by rw [List.cons_append, gsum, gsum, gsum_app g L M]; omega
theorem gsum_rev (g : Int → Int) : ∀ (L : List Int), gsum g L.reverse = gsum g L
  | [] => rfl
  | z :: L => by rw [List.reverse_cons, gsum_app, gsum_rev g L]; simp only [gsum]; omega
theorem gsum_sum (g : Int → Int) : ∀ (L : List Int), sumN (fun i => g (L.getD i 0)) L.length = gsum g L := by
  intro L
  have h : ∀ (M : List Int), sumN (fun i => g ((M.reverse).getD i 0)) M.length = gsum g M := by
    intro M
    induction M with
    | nil => rfl
    | cons z M ih =>
      rw [List.length_cons]
      simp only [sumN, gsum]
      have e1 : sumN (fun i => g ((z :: M).reverse.getD i 0)) M.length = sumN (fun i => g (M.reverse.getD i 0)) M.length := sumN_congr fun i hi => by
        rw [List.reverse_cons, List.getD_eq_getElem?_getD, List.getElem?_append_left (by simpa using hi), ← List.getD_eq_getElem?_getD]
      have e2 : (z :: M).reverse.getD M.length 0 = z := by
        rw [List.reverse_cons, List.getD_eq_getElem?_getD, List.getElem?_append_right (by simp)]
        simp
      rw [e1, ih, e2]; omega
  have := h L.reverse
  rw [List.reverse_reverse, List.length_reverse, gsum_rev] at this
  exact this
theorem gsum_low (g : Int → Int) (n : Nat) : ∀ k, gsum g (lowN n k) = sumN (fun i => if n % (i + 1) = 0 then g ((i + 1 : Nat) : Int) else 0) k
  | 0 => rfl
  | k + 1 => by
    simp only [lowN, sumN]
    split
    · rw [gsum_app, gsum_low g n k]; simp [gsum]
    · rw [gsum_low g n k]; omega
theorem gsum_high (g : Int → Int) (n : Nat) : ∀ k, gsum g (highN n k) = sumN (fun i => if n % (i + 1) = 0 then (if (i + 1) * (i + 1) = n then 0 else g ((n / (i + 1) : Nat) : Int)) else 0) k
  | 0 => rfl
  | k + 1 => by
    simp only [highN, sumN]
    split
    · split
      · rw [gsum_high g n k]; omega
      · rw [gsum_app, gsum_high g n k]; simp [gsum]
    · rw [gsum_high g n k]; omega
theorem sumN_pt (v : Int) (i0 : Nat) : ∀ n, sumN (fun i => if i = i0 then v else 0) n = if i0 < n then v else 0
  | 0 => by simp [sumN]
  | n + 1 => by
    simp only [sumN]
    rw [sumN_pt v i0 n]
    by_cases q : n = i0
    · subst q; rw [if_neg (by omega), if_pos rfl, if_pos (by omega)]; omega
    · rw [if_neg q]
      by_cases p : i0 < n
      · rw [if_pos p, if_pos (by omega)]; omega
      · rw [if_neg p, if_neg (by omega)]; omega
theorem sumN_split (h : Nat → Int) (a : Nat) : ∀ b, sumN h (a + b) = sumN h a + sumN (fun i => h (a + i)) b
  | 0 => by simp [sumN]
  | b + 1 => by
    show sumN h (a + b) + h (a + b) = _
    rw [sumN_split h a b]; simp only [sumN]; omega
/-- All divisors are the small ones and their partners. -/
theorem gsum_divs (g : Int → Int) (n : Nat) (hn : 0 < n) : gsum g (divsN n) = sumN (fun i => if n % (i + 1) = 0 then g ((i + 1 : Nat) : Int) else 0) n := by
  obtain ⟨hr1, hr2⟩ := isqN_spec n
  unfold divsN
  obtain ⟨r, hr⟩ : ∃ r, r = isqN n := ⟨_, rfl⟩
  rw [← hr] at hr1 hr2 ⊢
  have hrn : r ≤ n := by
    by_cases q : r ≤ n
    · exact q
    · have := Nat.mul_le_mul (show n + 1 ≤ r by omega) (show 1 ≤ r by omega); omega
  rw [gsum_app, gsum_rev, gsum_low, gsum_high]
  have e : n = r + (n - r) := by omega
  have es : sumN (fun i => if n % (i + 1) = 0 then g ((i + 1 : Nat) : Int) else 0) n = sumN (fun i => if n % (i + 1) = 0 then g ((i + 1 : Nat) : Int) else 0) r + sumN (fun i => if n % (r + i + 1) = 0 then g ((r + i + 1 : Nat) : Int) else 0) (n - r) := by
    have := sumN_split (fun i => if n % (i + 1) = 0 then g ((i + 1 : Nat) : Int) else 0) r (n - r)
    rw [← e] at this
    exact this
  rw [es]
  congr 1
  -- both sides as one double sum
  have hL : sumN (fun k => if n % (k + 1) = 0 then (if (k + 1) * (k + 1) = n then 0 else g ((n / (k + 1) : Nat) : Int)) else 0) r = sumN (fun k => sumN (fun i => if (k + 1) * (r + i + 1) = n then g ((r + i + 1 : Nat) : Int) else 0) (n - r)) r := sumN_congr fun k hk => by
    by_cases q : n % (k + 1) = 0
    · rw [if_pos q]
      have hd : (k + 1) * (n / (k + 1)) = n := Nat.mul_div_cancel' (Nat.dvd_of_mod_eq_zero q)
      obtain ⟨d, hdd⟩ : ∃ d, d = n / (k + 1) := ⟨_, rfl⟩
      rw [← hdd] at hd ⊢
      have key : ∀ i, (k + 1) * (r + i + 1) = n ↔ r + i + 1 = d := fun i => ⟨fun h => Nat.eq_of_mul_eq_mul_left (show 0 < k + 1 by omega) (h.trans hd.symm), fun h => by rw [h]; exact hd⟩
      have e1 : sumN (fun i => if (k + 1) * (r + i + 1) = n then g ((r + i + 1 : Nat) : Int) else 0) (n - r) = sumN (fun i => if r + i + 1 = d then g (d : Int) else 0) (n - r) := sumN_congr fun i hi => by
        by_cases p : r + i + 1 = d
        · rw [if_pos ((key i).2 p), if_pos p, p]
        · rw [if_neg (fun h => p ((key i).1 h)), if_neg p]
      rw [e1]
      by_cases s : (k + 1) * (k + 1) = n
      · rw [if_pos s]
        have hdk : d = k + 1 := Nat.eq_of_mul_eq_mul_left (show 0 < k + 1 by omega) (hd.trans s.symm)
        exact (sumN_zero fun i hi => by rw [if_neg (by omega)]).symm
      · rw [if_neg s]
        have hdr : r + 1 ≤ d := by
          by_cases p : r + 1 ≤ d
          · exact p
          · exfalso
            have h1 := Nat.mul_le_mul (show k + 1 ≤ r by omega) (show d ≤ r by omega)
            have h2 : (k + 1) * d = r * r := by omega
            have h3 : k + 1 = r := by
              by_cases z : k + 1 = r
              · exact z
              · have := Nat.mul_le_mul (show k + 2 ≤ r by omega) (show d ≤ r by omega)
                rw [show k + 2 = (k + 1) + 1 from rfl, Nat.add_mul, Nat.one_mul] at this
                have hd0 : d = 0 := by omega
                subst hd0; omega
            apply s
            rw [h3]; omega
        have e2 : sumN (fun i => if r + i + 1 = d then g (d : Int) else 0) (n - r) = sumN (fun i => if i = d - r - 1 then g (d : Int) else 0) (n - r) := sumN_congr fun i hi => by
          by_cases p : r + i + 1 = d
          · rw [if_pos p, if_pos (by omega)]
          · rw [if_neg p, if_neg (by omega)]
        have hdn : d ≤ n := by rw [← hd]; exact Nat.le_mul_of_pos_left _ (by omega)
        rw [e2, sumN_pt, if_pos (by omega)]
    · rw [if_neg q]
      exact (sumN_zero fun i hi => by rw [if_neg (fun h => q (Nat.mod_eq_zero_of_dvd ⟨_, h.symm⟩))]).symm
  rw [hL, sumN_swap]
  refine (sumN_congr fun i hi => ?_)
  by_cases q : n % (r + i + 1) = 0
  · rw [if_pos q]
    have hd : (r + i + 1) * (n / (r + i + 1)) = n := Nat.mul_div_cancel' (Nat.dvd_of_mod_eq_zero q)
    obtain ⟨d, hdd⟩ : ∃ d, d = n / (r + i + 1) := ⟨_, rfl⟩
    rw [← hdd] at hd
    have hd1 : 1 ≤ d := by
      by_cases z : d = 0
      · subst z; omega
      · omega
    have hdr : d ≤ r := by
      by_cases p : d ≤ r
      · exact p
      · have := Nat.mul_le_mul (show r + 1 ≤ r + i + 1 by omega) (show r + 1 ≤ d by omega); omega
    have e1 : sumN (fun k => if (k + 1) * (r + i + 1) = n then g ((r + i + 1 : Nat) : Int) else 0) r = sumN (fun k => if k = d - 1 then g ((r + i + 1 : Nat) : Int) else 0) r := sumN_congr fun k hk => by
      by_cases p : k = d - 1
      · rw [if_pos p, if_pos (by rw [p, show d - 1 + 1 = d by omega, Nat.mul_comm]; exact hd)]
      · rw [if_neg p, if_neg (fun h => p (by
          have : (r + i + 1) * (k + 1) = (r + i + 1) * d := by rw [Nat.mul_comm]; exact h.trans hd.symm
          have := Nat.eq_of_mul_eq_mul_left (show 0 < r + i + 1 by omega) this
          omega))]
    rw [e1, sumN_pt, if_pos (by omega)]
  · rw [if_neg q]
    exact sumN_zero fun k hk => by rw [if_neg (fun h => q (Nat.mod_eq_zero_of_dvd ⟨k + 1, by rw [Nat.mul_comm]; exact h.symm⟩))]
theorem wd_int (u : Nat → Nat) (n : Nat) (h1 : 1 ≤ n) (hn : n ≤ 10000) : ((wd u n : Nat) : Int) = sumN (fun i => if n % (i + 1) = 0 then ((u (i + 1) : Nat) : Int) else 0) n := by
  unfold wd
  have e : 16384 = (n + 1) + (16384 - n - 1) := by omega
  rw [e, sN_more]
  · rw [sN_cast, Nat.add_comm n 1, sumN_split]
    have z : sumN (fun d => ((u d * ind d n : Nat) : Int)) 1 = 0 := by
      simp only [sumN]
      have : ind 0 n = 0 := by unfold ind; rw [if_neg (fun h => by have := h.2; rw [Nat.mod_zero] at this; omega)]
      rw [this]; simp
    rw [z, Int.zero_add]
    refine sumN_congr fun i hi => ?_
    rw [Nat.add_comm 1 i]
    unfold ind
    by_cases q : n % (i + 1) = 0
    · rw [if_pos ⟨by omega, q⟩, if_pos q, Nat.mul_one]
    · rw [if_neg (fun h => q h.2), if_neg q, Nat.mul_zero]; rfl
  · intro d h2 h3
    unfold ind
    rw [if_neg (fun h => by have := Nat.mod_eq_of_lt (show n < d by omega); omega), Nat.mul_zero]
/-- Four squares: eight times the divisors that 4 does not divide. -/
theorem four_divs (n : Nat) (h1 : 1 ≤ n) (hn : n ≤ 10000) : four n = 8 * gsum (fun z => if z % 4 = 0 then 0 else z) (divsN n) := by
  have h := (four_two 10001 rfl kF_true n hn).1
  have z0 : scN 0 n = 0 := by simp only [scN]; rw [if_neg (by omega)]
  rw [z0, Nat.zero_add] at h
  rw [← sc_four 10000 n hn, scN_eq 4 n hn, h, Int.natCast_mul, wd_int u4 n h1 hn, gsum_divs _ _ (by omega)]
  congr 1
  refine sumN_congr fun i hi => ?_
  by_cases q : n % (i + 1) = 0
  · rw [if_pos q, if_pos q]
    unfold u4
    rw [if_pos (by omega)]
    by_cases p : (i + 1) % 4 = 0
    · rw [if_pos p, if_pos (by omega)]; rfl
    · rw [if_neg p, if_neg (by omega)]
  · rw [if_neg q, if_neg q]
theorem two_divs (n : Nat) (h1 : 1 ≤ n) (hn : n ≤ 10000) : two n = 4 * (gsum (fun z => if z % 4 = 1 then 1 else 0) (divsN n) - gsum (fun z => if z % 4 = 3 then 1 else 0) (divsN n)) := by
  have h := (four_two 10001 rfl kF_true n hn).2
  have z0 : scN 0 n = 0 := by simp only [scN]; rw [if_neg (by omega)]
  rw [z0, Nat.zero_add] at h
  have hh : ∀ r : Nat, r = 1 ∨ r = 3 → ((wd (ur r) n : Nat) : Int) = gsum (fun z => if z % 4 = (r : Int) then 1 else 0) (divsN n) := fun r hr => by
    rw [wd_int (ur r) n h1 hn, gsum_divs _ _ (by omega)]
    refine sumN_congr fun i hi => ?_
    by_cases q : n % (i + 1) = 0
    · rw [if_pos q, if_pos q]
      unfold ur
      rw [if_pos (by omega)]
      by_cases p : (i + 1) % 4 = r
      · rw [if_pos p, if_pos (by omega)]; rfl
      · rw [if_neg p, if_neg (by omega)]; rfl
    · rw [if_neg q, if_neg q]
  have w1 := hh 1 (.inl rfl)
  have w3 := hh 3 (.inr rfl)
  rw [← sc_two 10000 n hn, scN_eq 2 n hn]
  have e1 : gsum (fun z => if z % 4 = 1 then 1 else 0) (divsN n) = ((wd (ur 1) n : Nat) : Int) := w1.symm
  have e3 : gsum (fun z => if z % 4 = 3 then 1 else 0) (divsN n) = ((wd (ur 3) n : Nat) : Int) := w3.symm
  rw [e1, e3]
  omega
end Go.Proofs.Ytpgpdccidoogcaa
