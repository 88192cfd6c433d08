/-
  The walks of impl.firstThree and spec.sqFirst, FirstThree: both search the first three squares with a sum in one order.
-/
import Derived.Test.YtpgpdccidoogcaaRoot
namespace Go.Proofs.Ytpgpdccidoogcaa
open Go.RowKit
set_option linter.unusedVariables false
set_option linter.unusedSimpArgs false

/-- z is the root of what remains, and at most y. -/
def chk (n x y : Int) : Bool := isSqB (n - x * x - y * y) && decide (isq (n - x * x - y * y) ≤ y)
/-- The first y below k that fits. -/
def fyN (n x : Int) : Nat → Option Int
  | 0 => none
  | k + 1 => if chk n x k then some k else fyN n x k
def fyI (n x y : Int) : Option Int := fyN n x (y + 1).toNat
def ftN (n : Int) : Nat → Option (Int × Int × Int)
  | 0 => none
  | k + 1 => match fyI n k (min (k : Int) (isq (n - k * k))) with
    | some y => some (k, y, isq (n - k * k - y * y))
    | none => ftN n k
def ftI (n x : Int) : Option (Int × Int × Int) := ftN n (x + 1).toNat

theorem fyI_neg (n x : Int) {y : Int} (h : y < 0) : fyI n x y = none := by
  unfold fyI; rw [Int.toNat_of_nonpos (by omega)]; rfl
theorem fyI_yes {n x y : Int} (h : 0 ≤ y) (c : chk n x y = true) : fyI n x y = some y := by
  obtain ⟨k, rfl⟩ := Int.eq_ofNat_of_zero_le h
  unfold fyI; rw [show ((k : Int) + 1).toNat = k + 1 from by omega]; simp [fyN, c]
theorem fyI_no {n x y : Int} (h : 0 ≤ y) (c : chk n x y = false) : fyI n x y = fyI n x (y - 1) := by
  obtain ⟨k, rfl⟩ := Int.eq_ofNat_of_zero_le h
  unfold fyI; rw [show ((k : Int) + 1).toNat = k + 1 from by omega, show ((k : Int) - 1 + 1).toNat = k from by omega]; simp [fyN, c]
theorem ftI_neg (n : Int) {x : Int} (h : x < 0) : ftI n x = none := by
  unfold ftI; rw [Int.toNat_of_nonpos (by omega)]; rfl
theorem ftI_yes {n x y : Int} (h : 0 ≤ x) (c : fyI n x (min x (isq (n - x * x))) = some y) : ftI n x = some (x, y, isq (n - x * x - y * y)) := by
  obtain ⟨k, rfl⟩ := Int.eq_ofNat_of_zero_le h
  unfold ftI; rw [show ((k : Int) + 1).toNat = k + 1 from by omega]; simp [ftN, c]
theorem ftI_no {n x : Int} (h : 0 ≤ x) (c : fyI n x (min x (isq (n - x * x))) = none) : ftI n x = ftI n (x - 1) := by
  obtain ⟨k, rfl⟩ := Int.eq_ofNat_of_zero_le h
  unfold ftI; rw [show ((k : Int) + 1).toNat = k + 1 from by omega, show ((k : Int) - 1 + 1).toNat = k from by omega]; simp [ftN, c]

def fX (o : Option (Int × Int × Int)) : Int := match o with | some t => t.1 | none => 0
def fY (o : Option (Int × Int × Int)) : Int := match o with | some t => t.2.1 | none => 0
def fZ (o : Option (Int × Int × Int)) : Int := match o with | some t => t.2.2 | none => 0
def fOk (o : Option (Int × Int × Int)) : Bool := o.isSome
def tup3 (o : Option (Int × Int × Int)) : Value := .tuple #[.int .i64 (fX o), .int .i64 (fY o), .int .i64 (fZ o), .bool (fOk o)]

theorem sq_bds {n x : Int} (_hn : 0 ≤ n) (h0 : 0 ≤ x) (h : x ≤ isq n) : 0 ≤ x * x ∧ x * x ≤ n :=
  ⟨Int.mul_nonneg h0 h0, Int.le_trans (sq_mono h0 h) (isq_le _hn)⟩

theorem root_bds {n x : Int} (hn : 0 ≤ n) (h9 : n ≤ 1000000) (h : x ≤ isq n) : x ≤ 1000 := by
  have := isq_bound (n := n) (k := 1000) (by omega) (by omega); omega

theorem yes_of {n x y m : Int} (hx : 0 ≤ x) (h : fyI n x y = fyI n x (min x (isq (n - x * x)))) (hf : ftI n x = ftI n m) (h0 : 0 ≤ y) (c : chk n x y = true) :
    fX (ftI n m) = x ∧ fY (ftI n m) = y ∧ fZ (ftI n m) = isq (n - x * x - y * y) ∧ fOk (ftI n m) = true := by
  rw [fyI_yes h0 c] at h
  rw [← hf, ftI_yes hx h.symm]; simp [fX, fY, fZ, fOk]
theorem no_of {n x y m : Int} (hx : 0 ≤ x) (h : fyI n x y = fyI n x (min x (isq (n - x * x)))) (hf : ftI n x = ftI n m) (h0 : y < 0) : ftI n (x - 1) = ftI n m := by
  rw [fyI_neg _ _ h0] at h
  rw [← hf, ftI_no hx h.symm]
theorem none_of {n x m : Int} (h0 : x < 0) (hf : ftI n x = ftI n m) : fX (ftI n m) = 0 ∧ fY (ftI n m) = 0 ∧ fZ (ftI n m) = 0 ∧ fOk (ftI n m) = false := by
  rw [← hf, ftI_neg _ h0]; simp [fX, fY, fZ, fOk]

theorem ret4 {a b c a' b' c' : Int} {d d' : Bool} (h1 : a = a') (h2 : b = b') (h3 : c = c') (h4 : d = d') :
    Ending.returned (.tuple #[.int .i64 a, .int .i64 b, .int .i64 c, .bool d]) = .returned (.tuple #[.int .i64 a', .int .i64 b', .int .i64 c', .bool d']) := by rw [h1, h2, h3, h4]

set_option maxHeartbeats 1000000 in
theorem firstThree_any (n m : Int) (w : World) (hn : 0 ≤ n) (h9 : n ≤ 1000000) (hm0 : 0 ≤ m) (hm : m ≤ isq n) :
    Calls Try.prog 37 #[.int .i64 n, .int .i64 m] w fun e w' => e = .returned (.tuple #[.int .i64 (fX (ftI n m)), .int .i64 (fY (ftI n m)), .int .i64 (fZ (ftI n m)), .bool (fOk (ftI n m))]) ∧ w = w' := by
  go_enter Try.func37, Try.ntmps37
  go_wp2
  go_loop [8, 9, 10] (fun xs _ _ => ∃ x : Int, -1 ≤ x ∧ x ≤ m ∧ xs = .int .i64 x ∧ ftI n x = ftI n m) (fun xs _ _ => (intOf xs + 1).toNat)
  case atStart => exact ⟨m, by omega, by omega, rfl, rfl⟩
  case round =>
    obtain ⟨x, h0, h1, rfl, hf⟩ := hrel
    have hF := hide hf
    clear hf
    have hx3 : x ≤ 1000 := root_bds hn h9 (by omega)
    by_cases c : 0 ≤ x
    · obtain ⟨b0, b1⟩ := sq_bds hn c (by omega : x ≤ isq n)
      have hr0 := isq_nonneg (n - x * x)
      go_wp2_with (go_at_call 36; refine (root_any _ _ (by omega)).mono ?_; rintro e w' ⟨rfl, rfl⟩)
      all_goals
        go_loop [9, 10] (fun ys _ => ∃ y : Int, -1 ≤ y ∧ y ≤ x ∧ y ≤ isq (n - x * x) ∧ ys = .int .i64 y ∧ fyI n x y = fyI n x (min x (isq (n - x * x)))) (fun ys _ => (intOf ys + 1).toNat)
        case atStart => exact ⟨_, by omega, by omega, by omega, rfl, congrArg (fyI n x) (by omega)⟩
        case round =>
          obtain ⟨y, g0, g1, g2, rfl, hg⟩ := hrel
          have hG := hide hg
          clear hg
          by_cases c2 : 0 ≤ y
          · obtain ⟨d0, d1⟩ := sq_bds (by omega : 0 ≤ n - x * x) c2 g2
            have hs0 := isq_nonneg (n - x * x - y * y)
            have hs1 := isq_sq_bd (by omega : 0 ≤ n - x * x - y * y)
            cases c3 : chk n x y
            · have e1 := fyI_no c2 c3
              have E1 := hide e1
              clear e1
              cases c4 : isSqB (n - x * x - y * y)
              · have H3 := hide c3
                clear c3
                go_wp2_with (first | (go_at_call 36; refine (root_any _ _ (by omega)).mono ?_; rintro e w' ⟨rfl, rfl⟩) | (go_at_call 45; refine (isSquare_any _ _ (by omega) (by omega)).mono ?_; rintro e w' ⟨rfl, rfl⟩))
                go_round
                case rel => exact ⟨y - 1, by omega, by omega, by omega, rfl, (unhide E1).symm.trans (unhide hG)⟩
                case measure => simp [intOf]; omega
              · have c5 : ¬ isq (n - x * x - y * y) ≤ y := by simpa [chk, c4] using c3
                have H3 := hide c3
                clear c3
                go_wp2_with (first | (go_at_call 36; refine (root_any _ _ (by omega)).mono ?_; rintro e w' ⟨rfl, rfl⟩) | (go_at_call 45; refine (isSquare_any _ _ (by omega) (by omega)).mono ?_; rintro e w' ⟨rfl, rfl⟩))
                go_round
                case rel => exact ⟨y - 1, by omega, by omega, by omega, rfl, (unhide E1).symm.trans (unhide hG)⟩
                case measure => simp [intOf]; omega
            · have c4 : isSqB (n - x * x - y * y) = true := by simp [chk] at c3; exact c3.1
              have c5 : isq (n - x * x - y * y) ≤ y := by simp [chk] at c3; exact c3.2
              obtain ⟨e1, e2, e3, e4⟩ := yes_of c (unhide hG) (unhide hF) c2 c3
              have H3 := hide c3
              have E1 := hide e1
              have E2 := hide e2
              have E3 := hide e3
              have E4 := hide e4
              clear e1 e2 e3 e4 c3
              go_wp2_with (first | (go_at_call 36; refine (root_any _ _ (by omega)).mono ?_; rintro e w' ⟨rfl, rfl⟩) | (go_at_call 45; refine (isSquare_any _ _ (by omega) (by omega)).mono ?_; rintro e w' ⟨rfl, rfl⟩))
              refine bodyPost_ret (results_tmp4 rfl _ _ _) rfl ?_
              exact ⟨ret4 (unhide E1).symm (unhide E2).symm (unhide E3).symm (unhide E4).symm, rfl⟩
          · have e1 := no_of c (unhide hG) (unhide hF) (by omega)
            have E1 := hide e1
            clear e1
            go_wp2
            go_round
            case rel => exact ⟨x - 1, by omega, by omega, rfl, unhide E1⟩
            case measure => simp [intOf]; omega
    · obtain ⟨e1, e2, e3, e4⟩ := none_of (by omega) (unhide hF)
      have E1 := hide e1
      have E2 := hide e2
      have E3 := hide e3
      have E4 := hide e4
      clear e1 e2 e3 e4
      go_wp2
      refine bodyPost_ret (results_tmp4 rfl _ _ _) rfl ?_
      exact ⟨ret4 (unhide E1).symm (unhide E2).symm (unhide E3).symm (unhide E4).symm, rfl⟩
end Go.Proofs.Ytpgpdccidoogcaa
