/-
  FirstFour on both sides, and the law's walk.
-/
import Derived.Test.YtpgpdccidoogcaaFirstThree
import Derived.Handy
namespace Go.Proofs.Ytpgpdccidoogcaa
open Go.RowKit
set_option linter.unusedVariables false
set_option linter.unusedSimpArgs false

def ft4 (n x : Int) : Option (Int × Int × Int) := ftI (n - x * x) (min x (isq (n - x * x)))
def ffN (n : Int) : Nat → Option (Int × Int × Int × Int)
  | 0 => none
  | k + 1 => if fOk (ft4 n k) then some ((k : Int), fX (ft4 n k), fY (ft4 n k), fZ (ft4 n k)) else ffN n k
def ffI (n x : Int) : Option (Int × Int × Int × Int) := ffN n (x + 1).toNat
theorem ffI_neg (n : Int) {x : Int} (h : x < 0) : ffI n x = none := by unfold ffI; rw [Int.toNat_of_nonpos (by omega)]; rfl
theorem ffI_yes {n x : Int} (h : 0 ≤ x) (c : fOk (ft4 n x) = true) : ffI n x = some (x, fX (ft4 n x), fY (ft4 n x), fZ (ft4 n x)) := by
  obtain ⟨k, rfl⟩ := Int.eq_ofNat_of_zero_le h
  unfold ffI; rw [show ((k : Int) + 1).toNat = k + 1 from by omega]; simp [ffN, c]
theorem ffI_no {n x : Int} (h : 0 ≤ x) (c : fOk (ft4 n x) = false) : ffI n x = ffI n (x - 1) := by
  obtain ⟨k, rfl⟩ := Int.eq_ofNat_of_zero_le h
  unfold ffI; rw [show ((k : Int) + 1).toNat = k + 1 from by omega, show ((k : Int) - 1 + 1).toNat = k from by omega]; simp [ffN, c]
def gX (o : Option (Int × Int × Int × Int)) : Int := match o with | some t => t.1 | none => 0
def gY (o : Option (Int × Int × Int × Int)) : Int := match o with | some t => t.2.1 | none => 0
def gZ (o : Option (Int × Int × Int × Int)) : Int := match o with | some t => t.2.2.1 | none => 0
def gW (o : Option (Int × Int × Int × Int)) : Int := match o with | some t => t.2.2.2 | none => 0
def gOk (o : Option (Int × Int × Int × Int)) : Bool := o.isSome
def ff (n : Int) : Option (Int × Int × Int × Int) := if inB n 0 10000 then ffI n (isq n) else none
theorem ff_no {n : Int} (h : inB n 0 10000 = false) : ff n = none := by simp [ff, h]
theorem ff_yes {n : Int} (h : inB n 0 10000 = true) : ff n = ffI n (isq n) := by simp [ff, h]

theorem ft_left (n x : Int) (w : World) (h0 : 0 ≤ n - x * x) (h9 : n - x * x ≤ 1000000) (hx : 0 ≤ x) (h : x ≤ isq (n - x * x)) : Calls Try.prog 37 #[.int .i64 (n - x * x), .int .i64 x] w fun e w' => e = .returned (.tuple #[.int .i64 (fX (ft4 n x)), .int .i64 (fY (ft4 n x)), .int .i64 (fZ (ft4 n x)), .bool (fOk (ft4 n x))]) ∧ w = w' := by
  have := firstThree_any (n - x * x) x w h0 h9 hx h
  unfold ft4; rw [Int.min_eq_left h]; exact this
theorem ft_right (n x : Int) (w : World) (h0 : 0 ≤ n - x * x) (h9 : n - x * x ≤ 1000000) (h : isq (n - x * x) ≤ x) : Calls Try.prog 37 #[.int .i64 (n - x * x), .int .i64 (isq (n - x * x))] w fun e w' => e = .returned (.tuple #[.int .i64 (fX (ft4 n x)), .int .i64 (fY (ft4 n x)), .int .i64 (fZ (ft4 n x)), .bool (fOk (ft4 n x))]) ∧ w = w' := by
  have := firstThree_any (n - x * x) (isq (n - x * x)) w h0 h9 (isq_nonneg _) (Int.le_refl _)
  unfold ft4; rw [Int.min_eq_right h]; exact this
set_option maxRecDepth 100000 in
set_option maxHeartbeats 2000000 in
theorem implFirstFour_any (n : Int) (w : World) :
    Calls Try.prog 12 #[.int .i64 n] w fun e w' => e = .returned (.tuple #[.agg #[.int .i64 (gX (ff n)), .int .i64 (gY (ff n)), .int .i64 (gZ (ff n)), .int .i64 (gW (ff n))], .bool (gOk (ff n))]) ∧ Below w.heap.size w w' := by
  cases h : inB n 0 10000
  · rw [ff_no h]
    go_enter Try.func12, Try.ntmps12
    go_wp2_with (go_at_call 35; refine (isSum_any _ _).mono ?_; rintro e w' ⟨rfl, rfl⟩)
    go_returns
    exact ⟨rfl, by go_grown⟩
  · obtain ⟨h0, h1⟩ := inB_true h
    rw [ff_yes h]
    have hr0 := isq_nonneg n
    generalize hR : ffI n (isq n) = R at *
    have HR := hide hR
    clear hR
    go_enter Try.func12, Try.ntmps12
    go_wp2_with (first | (go_at_call 35; refine (isSum_any _ _).mono ?_; rintro e w' ⟨rfl, rfl⟩) | (go_at_call 36; refine (root_any _ _ (by omega)).mono ?_; rintro e w' ⟨rfl, rfl⟩))
    go_loop [4] (fun xs => ∃ x : Int, -1 ≤ x ∧ x ≤ isq n ∧ xs = .int .i64 x ∧ ffI n x = R) (fun xs => (intOf xs + 1).toNat)
    case atStart => exact ⟨isq n, by omega, by omega, rfl, unhide HR⟩
    case round =>
      obtain ⟨x, g0, g1, rfl, hf⟩ := hrel
      have HF := hide hf
      clear hf
      have hx3 : x ≤ 1000 := root_bds h0 (by omega) (by omega)
      by_cases c : 0 ≤ x
      · obtain ⟨b0, b1⟩ := sq_bds h0 c (by omega : x ≤ isq n)
        have hs0 := isq_nonneg (n - x * x)
        by_cases hm : x ≤ isq (n - x * x)
        · skip
          cases hk : fOk (ft4 n x)
          · have hn := ffI_no c hk
            have HN := hide hn
            clear hn
            go_wp2_with (first | (go_at_call 36; refine (root_any _ _ (by omega)).mono ?_; rintro e w' ⟨rfl, rfl⟩) | (go_at_call 37; refine (ft_left n x _ (by omega) (by omega) (by omega) (by omega)).mono ?_; rintro e w' ⟨rfl, rfl⟩))
            go_round
            case rel => exact ⟨x - 1, by omega, by omega, rfl, (unhide HN).symm.trans (unhide HF)⟩
            case measure => simp [intOf]; omega
          · have hy := ffI_yes c hk
            have hR2 : R = some (x, fX (ft4 n x), fY (ft4 n x), fZ (ft4 n x)) := (unhide HF).symm.trans hy
            have HR2 := hide hR2
            clear hy hR2
            go_wp2_with (first | (go_at_call 36; refine (root_any _ _ (by omega)).mono ?_; rintro e w' ⟨rfl, rfl⟩) | (go_at_call 37; refine (ft_left n x _ (by omega) (by omega) (by omega) (by omega)).mono ?_; rintro e w' ⟨rfl, rfl⟩))
            go_returns
            rw [unhide HR2]
            exact ⟨rfl, by go_grown⟩
        · have hm2 : isq (n - x * x) < x := by omega
          cases hk : fOk (ft4 n x)
          · have hn := ffI_no c hk
            have HN := hide hn
            clear hn
            go_wp2_with (first | (go_at_call 36; refine (root_any _ _ (by omega)).mono ?_; rintro e w' ⟨rfl, rfl⟩) | (go_at_call 37; refine (ft_right n x _ (by omega) (by omega) (by omega)).mono ?_; rintro e w' ⟨rfl, rfl⟩))
            go_round
            case rel => exact ⟨x - 1, by omega, by omega, rfl, (unhide HN).symm.trans (unhide HF)⟩
            case measure => simp [intOf]; omega
          · have hy := ffI_yes c hk
            have hR2 : R = some (x, fX (ft4 n x), fY (ft4 n x), fZ (ft4 n x)) := (unhide HF).symm.trans hy
            have HR2 := hide hR2
            clear hy hR2
            go_wp2_with (first | (go_at_call 36; refine (root_any _ _ (by omega)).mono ?_; rintro e w' ⟨rfl, rfl⟩) | (go_at_call 37; refine (ft_right n x _ (by omega) (by omega) (by omega)).mono ?_; rintro e w' ⟨rfl, rfl⟩))
            go_returns
            rw [unhide HR2]
            exact ⟨rfl, by go_grown⟩
      · have hz : R = none := (unhide HF).symm.trans (ffI_neg n (by omega))
        have HZ := hide hz
        clear hz
        go_wp2
        go_returns
        rw [unhide HZ]
        exact ⟨rfl, by go_grown⟩

end Go.Proofs.Ytpgpdccidoogcaa
