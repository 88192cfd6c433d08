/-
  Plain arithmetic: numbers of representations by sums of squares, by finite sums. No program in sight.
-/
import Derived.Test.YtpgpdccidoogcaaBase
namespace Go.Proofs.Ytpgpdccidoogcaa

def sumN (h : Nat → Int) : Nat → Int
  | 0 => 0
  | k + 1 => sumN h k + h k

theorem sumN_congr {h g : Nat → Int} {n : Nat} (e : ∀ i, i < n → h i = g i) : sumN h n = sumN g n := by
  induction n with
  | zero => rfl
  | succ n ih => simp only [sumN]; rw [ih (fun i hi => e i (by omega)), e n (by omega)]
theorem sumN_zero {h : Nat → Int} {n : Nat} (e : ∀ i, i < n → h i = 0) : sumN h n = 0 := by
  induction n with
  | zero => rfl
  | succ n ih => simp only [sumN]; rw [ih (fun i hi => e i (by omega)), e n (by omega)]; rfl
theorem sumN_add (h g : Nat → Int) (n : Nat) : sumN (fun i => h i + g i) n = sumN h n + sumN g n := by
  induction n with
  | zero => rfl
  | succ n ih => simp only [sumN]; rw [ih]; omega
theorem sumN_mul (c : Int) (h : Nat → Int) (n : Nat) : sumN (fun i => c * h i) n = c * sumN h n := by
  induction n with
  | zero => simp [sumN]
  | succ n ih => simp only [sumN]; rw [ih, Int.mul_add]
theorem sumN_mul_right (c : Int) (h : Nat → Int) (n : Nat) : sumN (fun i => h i * c) n = sumN h n * c := by
  induction n with
  | zero => simp [sumN]
  | succ n ih => simp only [sumN]; rw [ih, Int.add_mul]
theorem sumN_tail {h : Nat → Int} {a b : Nat} (hab : a ≤ b) (e : ∀ i, a ≤ i → i < b → h i = 0) : sumN h b = sumN h a := by
  induction b with
  | zero => rw [show a = 0 from by omega]
  | succ b ih =>
    by_cases c : a = b + 1
    · rw [c]
    · simp only [sumN]; rw [ih (by omega) (fun i hi hj => e i hi (by omega)), e b (by omega) (by omega)]; omega
theorem sumN_le {h g : Nat → Int} {n : Nat} (e : ∀ i, i < n → h i ≤ g i) : sumN h n ≤ sumN g n := by
  induction n with
  | zero => exact Int.le_refl _
  | succ n ih => simp only [sumN]; have := ih (fun i hi => e i (by omega)); have := e n (by omega); omega
theorem sumN_nonneg {h : Nat → Int} {n : Nat} (e : ∀ i, i < n → 0 ≤ h i) : 0 ≤ sumN h n := by
  induction n with
  | zero => exact Int.le_refl _
  | succ n ih => simp only [sumN]; have := ih (fun i hi => e i (by omega)); have := e n (by omega); omega
theorem sumN_mono {h : Nat → Int} {a b : Nat} (hab : a ≤ b) (e : ∀ i, i < b → 0 ≤ h i) : sumN h a ≤ sumN h b := by
  induction b with
  | zero => rw [show a = 0 from by omega]; exact Int.le_refl _
  | succ b ih =>
    by_cases c : a = b + 1
    · rw [c]; exact Int.le_refl _
    · have := ih (by omega) (fun i hi => e i (by omega)); have := e b (by omega); simp only [sumN]; omega
theorem sumN_const (c : Int) (n : Nat) : sumN (fun _ => c) n = n * c := by
  induction n with
  | zero => simp [sumN]
  | succ n ih => simp only [sumN]; rw [ih]; rw [show ((n + 1 : Nat) : Int) = (n : Int) + 1 from by omega, Int.add_mul]; omega
/-- One term alone. -/
theorem sumN_one (h : Nat → Int) (a n : Nat) : sumN (fun i => if i = a then h i else 0) n = if a < n then h a else 0 := by
  induction n with
  | zero => simp [sumN]
  | succ n ih =>
    simp only [sumN]; rw [ih]
    by_cases c : n = a
    · subst c; simp
    · by_cases d : a < n
      · rw [if_pos d, if_neg c, if_pos (by omega)]; omega
      · rw [if_neg d, if_neg c, if_neg (by omega)]; rfl
theorem sumN_swap (h : Nat → Nat → Int) (m n : Nat) : sumN (fun i => sumN (fun j => h i j) n) m = sumN (fun j => sumN (fun i => h i j) m) n := by
  induction m with
  | zero => simp only [sumN]; exact (sumN_zero (fun _ _ => rfl)).symm
  | succ m ih => simp only [sumN]; rw [ih]; exact (sumN_add _ _ _).symm

/-- The weight of a root: it stands for itself and its opposite. -/
def cw (x : Nat) : Int := if x = 0 then 1 else 2
theorem cw_pos (x : Nat) : 1 ≤ cw x ∧ cw x ≤ 2 := by unfold cw; split <;> omega
theorem cw_min (x : Nat) : min ((x : Int) + 1) 2 = cw x := by unfold cw; split <;> omega

theorem isqN_mono_sq {x m : Nat} (h : x * x ≤ m) : x ≤ isqN m := by
  by_cases c : x ≤ isqN m
  · exact c
  · have := (isqN_spec m).2
    have h2 := Nat.mul_le_mul (show isqN m + 1 ≤ x by omega) (show isqN m + 1 ≤ x by omega)
    omega
theorem isqN_sq_le {x m : Nat} (h : x ≤ isqN m) : x * x ≤ m := Nat.le_trans (Nat.mul_le_mul h h) (isqN_spec m).1
theorem isqN_iff {x m : Nat} : x * x ≤ m ↔ x < isqN m + 1 := ⟨fun h => by have := isqN_mono_sq h; omega, fun h => isqN_sq_le (by omega)⟩
theorem isqN_le_of_le {a b : Nat} (h : a ≤ b) : isqN a ≤ isqN b := isqN_mono_sq (Nat.le_trans (isqN_spec a).1 h)
theorem isqN_le_self (a : Nat) : isqN a ≤ a := by
  have := (isqN_spec a).1
  by_cases c : isqN a ≤ a
  · exact c
  · have h2 := Nat.mul_le_mul (show 1 ≤ isqN a by omega) (show a + 1 ≤ isqN a by omega); omega

/-- The cells at n + x*x, x below a bound, have cn times their weight added. -/
def addx (cn : Int) (n : Nat) : Nat → (Nat → Int) → Nat → Int
  | 0, g => g
  | x + 1, g => fun j => if j = n + x * x then addx cn n x g j + cn * cw x else addx cn n x g j
theorem addx_eq (cn : Int) (n : Nat) (g : Nat → Int) (X j : Nat) : addx cn n X g j = g j + sumN (fun x => if j = n + x * x then cn * cw x else 0) X := by
  induction X with
  | zero => simp [addx, sumN]
  | succ X ih => simp only [addx, sumN]; split <;> rw [ih] <;> omega
def addn (f : Nat → Int) (most : Nat) : Nat → Nat → Int
  | 0 => fun _ => 0
  | n + 1 => addx (f n) n (isqN (most - n) + 1) (addn f most n)
def nx (f : Nat → Int) (most : Nat) : Nat → Int := addn f most (most + 1)
def sc (most : Nat) : Nat → Nat → Int
  | 0 => fun j => if j = 0 then 1 else 0
  | k + 1 => nx (sc most k) most

theorem addn_eq (f : Nat → Int) (most n j : Nat) (hj : j ≤ most) :
    addn f most n j = sumN (fun x => if x * x ≤ j ∧ j - x * x < n then f (j - x * x) * cw x else 0) (isqN most + 1) := by
  induction n with
  | zero => simp only [addn]; exact (sumN_zero (fun i _ => by simp)).symm
  | succ n ih =>
    simp only [addn]
    rw [addx_eq, ih]
    have e : sumN (fun x => if j = n + x * x then f n * cw x else 0) (isqN (most - n) + 1) = sumN (fun x => if j = n + x * x then f n * cw x else 0) (isqN most + 1) := by
      refine (sumN_tail (by have := isqN_le_of_le (show most - n ≤ most by omega); omega) (fun x h1 _ => ?_)).symm
      have : ¬ x * x ≤ most - n := fun c => by have := isqN_mono_sq c; omega
      rw [if_neg (by omega)]
    rw [e, ← sumN_add]
    refine sumN_congr fun x _ => ?_
    by_cases c : j = n + x * x
    · rw [if_neg (by omega), if_pos c, if_pos (by omega), show j - x * x = n from by omega]; omega
    · rw [if_neg c]
      by_cases d : x * x ≤ j ∧ j - x * x < n
      · rw [if_pos d, if_pos (by omega)]; omega
      · rw [if_neg d, if_neg (by omega)]; rfl

theorem nx_eq (f : Nat → Int) (most j : Nat) (hj : j ≤ most) : nx f most j = sumN (fun x => f (j - x * x) * cw x) (isqN j + 1) := by
  unfold nx
  rw [addn_eq f most _ j hj]
  rw [sumN_tail (a := isqN j + 1) (by have := isqN_le_of_le hj; omega) (fun x h1 _ => by
    have : ¬ x * x ≤ j := fun c => by have := isqN_mono_sq c; omega
    rw [if_neg (by omega)])]
  exact sumN_congr fun x hx => by have := isqN_iff.2 hx; rw [if_pos (by omega)]

/-! bounds -/
theorem addn_nonneg {f : Nat → Int} {most : Nat} (h0 : ∀ i, i ≤ most → 0 ≤ f i) (n j : Nat) (hj : j ≤ most) : 0 ≤ addn f most n j := by
  rw [addn_eq f most n j hj]
  refine sumN_nonneg fun x _ => ?_
  split
  · exact Int.mul_nonneg (h0 _ (by omega)) (by have := cw_pos x; omega)
  · exact Int.le_refl _
theorem addn_le {f : Nat → Int} {most : Nat} {M : Int} (h0 : ∀ i, i ≤ most → 0 ≤ f i) (h1 : ∀ i, i ≤ most → f i ≤ M) (n j : Nat) (hj : j ≤ most) :
    addn f most n j ≤ (isqN most + 1 : Nat) * (2 * M) := by
  rw [addn_eq f most n j hj, ← sumN_const]
  refine sumN_le fun x _ => ?_
  have hM : 0 ≤ M := Int.le_trans (h0 0 (by omega)) (h1 0 (by omega))
  split
  · have a := h0 (j - x * x) (by omega)
    have b := h1 (j - x * x) (by omega)
    unfold cw; split <;> omega
  · omega
theorem addx_bd {f : Nat → Int} {most : Nat} {M : Int} (h0 : ∀ i, i ≤ most → 0 ≤ f i) (h1 : ∀ i, i ≤ most → f i ≤ M) (n X j : Nat) (hj : j ≤ most) (hn : n ≤ most) (hX : X ≤ isqN (most - n) + 1) :
    0 ≤ addx (f n) n X (addn f most n) j ∧ addx (f n) n X (addn f most n) j ≤ (isqN most + 1 : Nat) * (2 * M) := by
  have hp : ∀ i, 0 ≤ (if j = n + i * i then f n * cw i else 0) := fun i => by
    split
    · exact Int.mul_nonneg (h0 n hn) (by have := cw_pos i; omega)
    · exact Int.le_refl _
  have h2 := addn_nonneg h0 n j hj
  have h3 := addn_le h0 h1 (n + 1) j hj
  simp only [addn] at h3
  rw [addx_eq] at h3 ⊢
  have h4 := sumN_mono (h := fun x => if j = n + x * x then f n * cw x else 0) hX (fun i _ => hp i)
  have h5 := sumN_nonneg (h := fun x => if j = n + x * x then f n * cw x else 0) (n := X) (fun i _ => hp i)
  omega

def scB (most : Nat) : Nat → Int
  | 0 => 1
  | k + 1 => (isqN most + 1 : Nat) * (2 * scB most k)
theorem sc_bd (most k : Nat) : ∀ j, j ≤ most → 0 ≤ sc most k j ∧ sc most k j ≤ scB most k := by
  induction k with
  | zero => intro j _; simp only [sc, scB]; split <;> omega
  | succ k ih =>
    intro j hj
    exact ⟨addn_nonneg (fun i hi => (ih i hi).1) _ j hj, addn_le (fun i hi => (ih i hi).1) (fun i hi => (ih i hi).2) _ j hj⟩
theorem sc_ge {most k j : Nat} (hj : j ≤ most) : 0 ≤ sc most k j := (sc_bd most k j hj).1

/-! the closed forms -/
/-- Is j a square? Its weight if so. -/
def e1 (j : Nat) : Int := if isqN j * isqN j = j then cw (isqN j) else 0
theorem e1_eq (j : Nat) {K : Nat} (hK : isqN j < K) : e1 j = sumN (fun x => if x * x = j then cw x else 0) K := by
  have hp : ∀ x, x * x = j → x = isqN j := fun x h => by
    have a := isqN_mono_sq (show x * x ≤ j by omega)
    have b : isqN j ≤ x := by
      by_cases c : isqN j ≤ x
      · exact c
      · have h1 := (isqN_spec j).1
        have h2 := Nat.mul_le_mul (show x + 1 ≤ isqN j by omega) (show x + 1 ≤ isqN j by omega)
        have h3 : (x + 1) * (x + 1) = x * x + 2 * x + 1 := by rw [Nat.add_mul, Nat.mul_add]; omega
        omega
    omega
  unfold e1
  split
  · rename_i h
    have := sumN_one cw (isqN j) K
    rw [if_pos hK] at this
    rw [← this]
    refine sumN_congr fun x _ => ?_
    by_cases c : x = isqN j
    · rw [if_pos c, if_pos (by rw [c]; exact h)]
    · rw [if_neg c, if_neg (fun d => c (hp x d))]
  · rename_i h
    refine (sumN_zero fun x _ => ?_).symm
    rw [if_neg (fun d => h (by rw [← hp x d]; exact d))]
theorem sc_one (most j : Nat) (hj : j ≤ most) : sc most 1 j = e1 j := by
  simp only [sc]
  rw [nx_eq _ most j hj, e1_eq j (show isqN j < isqN j + 1 by omega)]
  refine sumN_congr fun x hx => ?_
  have := isqN_iff.2 hx
  by_cases c : x * x = j
  · rw [if_pos (by omega), if_pos c]; omega
  · rw [if_neg (by omega), if_neg c]; omega
/-- How often n is a sum of two squares, as the reference counts it. -/
def tt (n x : Nat) : Int := if isqN (n - x * x) * isqN (n - x * x) = n - x * x then cw x * cw (isqN (n - x * x)) else 0
def two (n : Nat) : Int := sumN (tt n) (isqN n + 1)
theorem tt_e1 (n x : Nat) : tt n x = e1 (n - x * x) * cw x := by
  unfold tt e1; split
  · rw [Int.mul_comm]
  · simp
theorem sc_two (most j : Nat) (hj : j ≤ most) : sc most 2 j = two j := by
  show nx (sc most 1) most j = _
  rw [nx_eq _ most j hj]
  exact sumN_congr fun x _ => by rw [sc_one most _ (by omega), tt_e1]
def three (n : Nat) : Int := sumN (fun x => cw x * two (n - x * x)) (isqN n + 1)
theorem sc_three (most j : Nat) (hj : j ≤ most) : sc most 3 j = three j := by
  show nx (sc most 2) most j = _
  rw [nx_eq _ most j hj]
  exact sumN_congr fun x _ => by rw [sc_two most _ (by omega), Int.mul_comm]
def four (n : Nat) : Int := sumN (fun k => two k * two (n - k)) (n + 1)
theorem sc_four (most n : Nat) (hn : n ≤ most) : sc most 4 n = four n := by
  show nx (sc most 3) most n = _
  rw [nx_eq _ most n hn]
  have hK : ∀ m, m ≤ n → isqN m < n + 1 := fun m h => by have := isqN_le_self m; omega
  -- both sides as double sums over x, y below n + 1
  have L : sumN (fun x => sc most 3 (n - x * x) * cw x) (isqN n + 1) = sumN (fun x => sumN (fun y => if x * x + y * y ≤ n then cw x * cw y * two (n - (x * x + y * y)) else 0) (n + 1)) (n + 1) := by
    rw [sumN_tail (a := isqN n + 1) (b := n + 1) (by have := hK n (by omega); omega) (fun x h1 _ => by
      have : ¬ x * x ≤ n := fun c => by have := isqN_mono_sq c; omega
      exact sumN_zero fun y _ => by rw [if_neg (by omega)])]
    refine sumN_congr fun x hx => ?_
    have hx := isqN_iff.2 hx
    rw [sc_three most _ (by omega)]
    unfold three
    rw [← sumN_mul_right]
    rw [sumN_tail (a := isqN (n - x * x) + 1) (b := n + 1) (by have := hK (n - x * x) (by omega); omega) (fun y h1 _ => by
      have : ¬ y * y ≤ n - x * x := fun c => by have := isqN_mono_sq c; omega
      rw [if_neg (by omega)])]
    refine sumN_congr fun y hy => ?_
    have hy := isqN_iff.2 hy
    rw [if_pos (by omega), show n - x * x - y * y = n - (x * x + y * y) from by omega]
    rw [Int.mul_comm (cw y * _) (cw x), Int.mul_assoc]
  have R : four n = sumN (fun x => sumN (fun y => if x * x + y * y ≤ n then cw x * cw y * two (n - (x * x + y * y)) else 0) (n + 1)) (n + 1) := by
    unfold four
    have h1 : ∀ k, k < n + 1 → two k * two (n - k) = sumN (fun x => sumN (fun y => if k = x * x + y * y then cw x * cw y * two (n - k) else 0) (n + 1)) (n + 1) := fun k hk => by
      unfold two
      rw [← sumN_mul_right]
      have e : sumN (fun x => tt k x * sumN (tt (n - k)) (isqN (n - k) + 1)) (isqN k + 1) = sumN (fun x => if x * x ≤ k then tt k x * sumN (tt (n - k)) (isqN (n - k) + 1) else 0) (n + 1) := by
        rw [sumN_tail (a := isqN k + 1) (b := n + 1) (by have := hK k (by omega); omega) (fun x h1 _ => by
          have : ¬ x * x ≤ k := fun c => by have := isqN_mono_sq c; omega
          rw [if_neg this])]
        exact sumN_congr fun x hx => by rw [if_pos (isqN_iff.2 hx)]
      rw [e]
      refine sumN_congr fun x _ => ?_
      by_cases c : x * x ≤ k
      · rw [if_pos c, tt_e1, e1_eq (k - x * x) (hK (k - x * x) (by omega)), ← sumN_mul_right, ← sumN_mul_right]
        refine sumN_congr fun y _ => ?_
        by_cases d : y * y = k - x * x
        · rw [if_pos d, if_pos (by omega), Int.mul_comm (cw y) (cw x)]
        · rw [if_neg d, if_neg (by omega)]; simp
      · rw [if_neg c]
        exact (sumN_zero fun y _ => by rw [if_neg (by omega)]).symm
    rw [sumN_congr h1, sumN_swap]
    refine sumN_congr fun x _ => ?_
    rw [sumN_swap]
    refine sumN_congr fun y _ => ?_
    have := sumN_one (fun k => cw x * cw y * two (n - k)) (x * x + y * y) (n + 1)
    rw [this]
    by_cases c : x * x + y * y ≤ n
    · rw [if_pos (by omega), if_pos c]
    · rw [if_neg (by omega), if_neg c]
  rw [L, R]

/-! the reference's table of sums of two squares -/
def addm (most : Nat) : Nat → Nat → Int
  | 0 => fun _ => 0
  | x + 1 => addx (cw x) (x * x) (isqN (most - x * x) + 1) (addm most x)
theorem addm_eq (most X j : Nat) (hj : j ≤ most) : addm most X j = sumN (fun x => if x * x ≤ j then tt j x else 0) X := by
  induction X with
  | zero => rfl
  | succ X ih =>
    simp only [addm, sumN]
    rw [addx_eq, ih]
    congr 1
    by_cases c : X * X ≤ j
    · rw [if_pos c, tt_e1, e1_eq (j - X * X) (K := isqN (most - X * X) + 1) (by have := isqN_le_of_le (show j - X * X ≤ most - X * X by omega); omega), ← sumN_mul_right]
      refine sumN_congr fun y _ => ?_
      by_cases d : y * y = j - X * X
      · rw [if_pos d, if_pos (by omega), Int.mul_comm]
      · rw [if_neg d, if_neg (by omega)]; simp
    · rw [if_neg c]
      exact sumN_zero fun y _ => by rw [if_neg (by omega)]
theorem addm_two (most j : Nat) (hj : j ≤ most) : addm most (isqN most + 1) j = two j := by
  rw [addm_eq most _ j hj]
  rw [sumN_tail (a := isqN j + 1) (by have := isqN_le_of_le hj; omega) (fun x h1 _ => by
    have : ¬ x * x ≤ j := fun c => by have := isqN_mono_sq c; omega
    rw [if_neg this])]
  exact sumN_congr fun x hx => by rw [if_pos (isqN_iff.2 hx)]
end Go.Proofs.Ytpgpdccidoogcaa
