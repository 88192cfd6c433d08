/-
  TwoSquares on both sides, and the law's walk.
-/
import Derived.Test.YtgjbefchbjpjmaaTwo
import Derived.Test.YtgjbefchbjpjmaaPointS
namespace Go.Proofs.Ytgjbefchbjpjmaa
open Go.RowKit
set_option linter.unusedVariables false
set_option linter.unusedSimpArgs false

/-- x has a partner y that is at most x. -/
def tsB (n x : Nat) : Bool := isSqB ((n : Int) - (x : Int) * (x : Int)) && decide (isq ((n : Int) - (x : Int) * (x : Int)) ≤ (x : Int))
def tsL (n : Nat) : Nat → List Int
  | 0 => []
  | x + 1 => if tsB n x then tsL n x ++ [(x : Int), isq ((n : Int) - (x : Int) * (x : Int))] else tsL n x
def tsC (n : Nat) : Nat → Nat
  | 0 => 0
  | x + 1 => if tsB n x then tsC n x + 1 else tsC n x
theorem tsC_le (n x : Nat) : tsC n x ≤ x := by
  induction x with
  | zero => exact Nat.le_refl _
  | succ x ih => simp only [tsC]; split <;> omega
def tsN (n : Int) : Nat := if inB n 0 10000 then tsC n.toNat (isqN n.toNat + 1) else 0
def tsF (n : Int) (i : Nat) : Int := (tsL n.toNat (isqN n.toNat + 1)).getD i 0
theorem tsN_le (n : Int) : tsN n ≤ 100000000 := by
  unfold tsN
  split
  · rename_i h
    obtain ⟨h0, h1⟩ := inB_true h
    have := tsC_le n.toNat (isqN n.toNat + 1)
    have := isqN_le_self n.toNat
    omega
  · omega
theorem ts_no {n : Int} (h : inB n 0 10000 = false) : tsN n = 0 := by simp [tsN, h]
theorem ts_yes {n : Nat} (h : inB (n : Int) 0 10000 = true) : tsN (n : Int) = tsC n (isqN n + 1) := by simp [tsN, h]

set_option maxRecDepth 100000 in
set_option maxHeartbeats 2000000 in
theorem implTwoSquares_any (n : Int) (w : World) :
    Calls Try.prog 45 #[.int .i64 n] w (RetPoints w (tsN n) (tsF n) (inB n 0 10000)) := by
  cases h : inB n 0 10000
  · rw [ts_no h]
    go_enter Try.func45, Try.ntmps45
    go_wp2_with (go_at_call 50; refine (isSum_any _ _).mono ?_; rintro e w' ⟨rfl, rfl⟩)
    go_ret2
    exact ⟨_, _, rfl, .inl rfl, (Below.refl _ _).alloc (Nat.le_refl _) _⟩
  · obtain ⟨h0, h1⟩ := inB_true h
    obtain ⟨m, rfl⟩ := Int.eq_ofNat_of_zero_le h0
    rw [ts_yes h]
    have hn : m ≤ 10000 := by omega
    have h100 := isqN_le_100 hn
    go_enter Try.func45, Try.ntmps45
    go_wp2_with (go_at_call 50; refine (isSum_any _ _).mono ?_; rintro e w' ⟨rfl, rfl⟩)
    go_loopw [4, 5, 6] (fun ls xs _ wr => ∃ (x : Nat) (a : Option Addr) (c : Nat), x ≤ isqN m + 1 ∧ xs = .int .i64 (x : Int) ∧ ls = .slice a (tsC m x) c ∧ PointL wr w.heap.size (.slice a (tsC m x) c) (tsC m x) (tsL m x) ∧ Below w.heap.size w wr) (fun _ xs _ _ => isqN m + 1 - (intOf xs).toNat)
    case atStart => exact ⟨0, some ⟨w.heap.size, 0, none⟩, 0, by omega, rfl, rfl, PointL.made w _ (Nat.le_refl _), (Below.refl _ _).alloc (Nat.le_refl _) _⟩
    case round =>
      obtain ⟨x, a, c, hx, rfl, rfl, hl, hb⟩ := hrel
      obtain ⟨w1, rfl⟩ : ∃ w1 : World, w1 = wr := ⟨_, rfl⟩
      have hz := hb.size
      have hC := tsC_le m x
      by_cases c1 : x < isqN m + 1
      · have hq := isqN_iff.2 c1
        have hq1 := Int.natCast_mul x x
        have hq2 : (x : Int) * (x : Int) ≤ (m : Int) := by omega
        have hq3 : (0 : Int) ≤ (x : Int) * (x : Int) := Int.mul_nonneg (by omega) (by omega)
        have hs0 := isq_nonneg ((m : Int) - (x : Int) * (x : Int))
        have hs1 := isq_sq_bd (by omega : 0 ≤ (m : Int) - (x : Int) * (x : Int))
        have Q1 := hide hq1
        clear hq1
        cases hB : tsB m x
        · have el : tsL m (x + 1) = tsL m x := by simp [tsL, hB]
          have ec : tsC m (x + 1) = tsC m x := by simp [tsC, hB]
          have EL := hide el
          have EC := hide ec
          clear el ec
          cases hS : isSqB ((m : Int) - (x : Int) * (x : Int))
          · have HB := hide hB
            clear hB
            go_wp2_with (first | (go_at_call 52; refine (root_any _ _ (by omega)).mono ?_; rintro e w' ⟨rfl, rfl⟩) | (go_at_call 62; refine (isSquare_any _ _ (by omega) (by omega)).mono ?_; rintro e w' ⟨rfl, rfl⟩))
            all_goals
              go_roundw
              case rel => exact ⟨x + 1, a, c, by omega, by go_num, by rw [unhide EC], by rw [unhide EC, unhide EL]; exact hl, hb⟩
              case measure => simp [intOf]; omega
          · have hle : ¬ isq ((m : Int) - (x : Int) * (x : Int)) ≤ (x : Int) := by simpa [tsB, hS] using hB
            have HB := hide hB
            clear hB
            go_wp2_with (first | (go_at_call 52; refine (root_any _ _ (by omega)).mono ?_; rintro e w' ⟨rfl, rfl⟩) | (go_at_call 62; refine (isSquare_any _ _ (by omega) (by omega)).mono ?_; rintro e w' ⟨rfl, rfl⟩))
            all_goals
              go_roundw
              case rel => exact ⟨x + 1, a, c, by omega, by go_num, by rw [unhide EC], by rw [unhide EC, unhide EL]; exact hl, hb⟩
              case measure => simp [intOf]; omega
        · have el : tsL m (x + 1) = tsL m x ++ [(x : Int), isq ((m : Int) - (x : Int) * (x : Int))] := by simp [tsL, hB]
          have ec : tsC m (x + 1) = tsC m x + 1 := by simp [tsC, hB]
          have EL := hide el
          have EC := hide ec
          clear el ec
          have hB1 : isSqB ((m : Int) - (x : Int) * (x : Int)) = true := by simp [tsB] at hB; exact hB.1
          have hB2 : isq ((m : Int) - (x : Int) * (x : Int)) ≤ (x : Int) := by simp [tsB] at hB; exact hB.2
          have HB := hide hB
          clear hB

          go_wp2_with (first | (go_at_call 52; refine (root_any _ _ (by omega)).mono ?_; rintro e w' ⟨rfl, rfl⟩) | (go_at_call 62; refine (isSquare_any _ _ (by omega) (by omega)).mono ?_; rintro e w' ⟨rfl, rfl⟩) | (at_builtin; refine app_Point _ rfl (.tmp 32) (.tmp 37) rfl w.heap.size (.slice a (tsC m x) c) (tsC m x) (tsL m x) (x : Int) (isq ((m : Int) - (x : Int) * (x : Int))) w1.heap.size rfl rfl (hl.alloc _) (by simp) (by simp) (by omega) (by simp; omega) ?_; intro g cap w2 hown hgrow hat hlt))
          go_roundw
          case rel =>
            refine ⟨x + 1, some ⟨g, 0, none⟩, cap, by omega, by go_num, ?_, ?_, (hb.alloc hz _).grown hgrow (by simp; omega) (fun k hk => (hl.lt k hk).1)⟩
            · rw [unhide EC]
            · rw [unhide EC, unhide EL]; exact hown
          case measure => simp [intOf]; omega
      · have hx2 : x = isqN m + 1 := by omega
        have hq : ¬ x * x ≤ m := fun h => c1 (isqN_iff.1 h)
        have hq1 := Int.natCast_mul x x
        have hq3 : x * x ≤ 101 * 101 := Nat.mul_le_mul (by omega) (by omega)
        have hq2 : (m : Int) < (x : Int) * (x : Int) := by omega
        have hq4 : (x : Int) * (x : Int) ≤ 10201 := by omega
        have HX := hide hx2
        have Q1 := hide hq1
        clear hx2 hq1 hq hq3
        go_wp2
        go_ret2
        have hp := hl.at.2
        rw [unhide HX] at hp
        exact ⟨a, c, by rw [unhide HX]; rfl, hp.keep (fun _ _ _ => rfl), hb⟩

set_option maxRecDepth 100000 in
set_option maxHeartbeats 2000000 in
theorem specTwoSquares_any (n : Int) (w : World) :
    Calls Try.prog 44 #[.int .i64 n] w (RetPoints w (tsN n) (tsF n) (inB n 0 10000)) := by
  cases h : inB n 0 10000
  · rw [ts_no h]
    go_enter Try.func44, Try.ntmps44
    go_wp2_with (go_at_call 49; refine (sqGood_any _ _).mono ?_; rintro e w' ⟨rfl, rfl⟩)
    go_ret2
    exact ⟨_, _, rfl, .inl rfl, Below.refl _ _⟩
  · obtain ⟨h0, h1⟩ := inB_true h
    obtain ⟨m, rfl⟩ := Int.eq_ofNat_of_zero_le h0
    rw [ts_yes h]
    have hn : m ≤ 10000 := by omega
    have h100 := isqN_le_100 hn
    go_enter Try.func44, Try.ntmps44
    go_wp2_with (go_at_call 49; refine (sqGood_any _ _).mono ?_; rintro e w' ⟨rfl, rfl⟩)
    go_loopw [4, 5, 6] (fun ls xs _ wr => ∃ (x : Nat) (a : Option Addr) (c : Nat), x ≤ isqN m + 1 ∧ xs = .int .i64 (x : Int) ∧ ls = .slice a (tsC m x) c ∧ PointL wr w.heap.size (.slice a (tsC m x) c) (tsC m x) (tsL m x) ∧ Below w.heap.size w wr) (fun _ xs _ _ => isqN m + 1 - (intOf xs).toNat)
    case atStart => exact ⟨0, none, 0, by omega, rfl, rfl, PointL.nil _ _, Below.refl _ _⟩
    case round =>
      obtain ⟨x, a, c, hx, rfl, rfl, hl, hb⟩ := hrel
      obtain ⟨w1, rfl⟩ : ∃ w1 : World, w1 = wr := ⟨_, rfl⟩
      have hz := hb.size
      have hC := tsC_le m x
      by_cases c1 : x < isqN m + 1
      · have hq := isqN_iff.2 c1
        have hq1 := Int.natCast_mul x x
        have hq2 : (x : Int) * (x : Int) ≤ (m : Int) := by omega
        have hq3 : (0 : Int) ≤ (x : Int) * (x : Int) := Int.mul_nonneg (by omega) (by omega)
        have hs0 := isq_nonneg ((m : Int) - (x : Int) * (x : Int))
        have hs1 := isq_sq_bd (by omega : 0 ≤ (m : Int) - (x : Int) * (x : Int))
        have Q1 := hide hq1
        clear hq1
        cases hB : tsB m x
        · have el : tsL m (x + 1) = tsL m x := by simp [tsL, hB]
          have ec : tsC m (x + 1) = tsC m x := by simp [tsC, hB]
          have EL := hide el
          have EC := hide ec
          clear el ec
          by_cases hle : isq ((m : Int) - (x : Int) * (x : Int)) ≤ (x : Int)
          · have hS : (isq ((m : Int) - (x : Int) * (x : Int)) * isq ((m : Int) - (x : Int) * (x : Int)) == (m : Int) - (x : Int) * (x : Int)) = false := by simpa [tsB, hle, isSqB] using hB
            have HB := hide hB
            clear hB
            go_wp2_with (first | (go_at_call 65; refine (nuRoot_any _ _ (by omega) (by omega)).mono ?_; rintro e w' ⟨rfl, rfl⟩))
            all_goals
              go_roundw
              case rel => exact ⟨x + 1, a, c, by omega, by go_num, by rw [unhide EC], by rw [unhide EC, unhide EL]; exact hl, hb⟩
              case measure => simp [intOf]; omega
          · have HB := hide hB
            clear hB
            go_wp2_with (first | (go_at_call 65; refine (nuRoot_any _ _ (by omega) (by omega)).mono ?_; rintro e w' ⟨rfl, rfl⟩))
            all_goals
              go_roundw
              case rel => exact ⟨x + 1, a, c, by omega, by go_num, by rw [unhide EC], by rw [unhide EC, unhide EL]; exact hl, hb⟩
              case measure => simp [intOf]; omega
        · have el : tsL m (x + 1) = tsL m x ++ [(x : Int), isq ((m : Int) - (x : Int) * (x : Int))] := by simp [tsL, hB]
          have ec : tsC m (x + 1) = tsC m x + 1 := by simp [tsC, hB]
          have EL := hide el
          have EC := hide ec
          clear el ec
          have hB1 : isSqB ((m : Int) - (x : Int) * (x : Int)) = true := by simp [tsB] at hB; exact hB.1
          have hB2 : isq ((m : Int) - (x : Int) * (x : Int)) ≤ (x : Int) := by simp [tsB] at hB; exact hB.2
          have HB := hide hB
          clear hB
          have hB3 : (isq ((m : Int) - (x : Int) * (x : Int)) * isq ((m : Int) - (x : Int) * (x : Int)) == (m : Int) - (x : Int) * (x : Int)) = true := hB1
          have HB1 := hide hB1
          clear hB1
          go_wp2_with (first | (go_at_call 65; refine (nuRoot_any _ _ (by omega) (by omega)).mono ?_; rintro e w' ⟨rfl, rfl⟩) | (at_builtin; refine app_Point _ rfl (.tmp 37) (.tmp 41) rfl w.heap.size (.slice a (tsC m x) c) (tsC m x) (tsL m x) (x : Int) (isq ((m : Int) - (x : Int) * (x : Int))) w1.heap.size rfl rfl (hl.alloc _) (by simp) (by simp) (by omega) (by simp; omega) ?_; intro g cap w2 hown hgrow hat hlt))
          go_roundw
          case rel =>
            refine ⟨x + 1, some ⟨g, 0, none⟩, cap, by omega, by go_num, ?_, ?_, (hb.alloc hz _).grown hgrow (by simp; omega) (fun k hk => (hl.lt k hk).1)⟩
            · rw [unhide EC]
            · rw [unhide EC, unhide EL]; exact hown
          case measure => simp [intOf]; omega
      · have hx2 : x = isqN m + 1 := by omega
        have hq : ¬ x * x ≤ m := fun h => c1 (isqN_iff.1 h)
        have hq1 := Int.natCast_mul x x
        have hq3 : x * x ≤ 101 * 101 := Nat.mul_le_mul (by omega) (by omega)
        have hq2 : (m : Int) < (x : Int) * (x : Int) := by omega
        have hq4 : (x : Int) * (x : Int) ≤ 10201 := by omega
        have HX := hide hx2
        have Q1 := hide hq1
        clear hx2 hq1 hq hq3
        go_wp2
        go_ret2
        have hp := hl.at.2
        rw [unhide HX] at hp
        exact ⟨a, c, by rw [unhide HX]; rfl, hp.keep (fun _ _ _ => rfl), hb⟩

set_option maxHeartbeats 2000000 in
theorem lawTwoSquares (n : Int) (w : World) :
    Calls Try.prog 14 #[.int .i64 n] w fun e w' => e = .returned (.bool true) ∧ Below w.heap.size w w' := by
  have hn : tsN n ≤ 100000000 := tsN_le n
  generalize hN : tsN n = N at *
  generalize hF : tsF n = f at *
  generalize hO : inB n 0 10000 = ok at *
  go_enter Try.func14, Try.ntmps14
  have HN := hide hN
  have HF := hide hF
  have HO := hide hO
  clear hN hF hO
  go_wp2_with fail
  have c1 := specTwoSquares_any n w
  rw [unhide HN, unhide HF, unhide HO] at c1
  refine c1.mono ?_
  clear c1
  rintro e w1 ⟨a1, d1, rfl, i1, b1⟩
  go_wp2_with fail
  have c2 := implTwoSquares_any n w1
  rw [unhide HN, unhide HF, unhide HO] at c2
  refine c2.mono ?_
  clear c2
  rintro e w2 ⟨a2, d2, rfl, i2, b2⟩
  have s1 := b1.size
  have s2 := b2.size
  have j1 := i1.below b2 (Nat.le_refl _)
  go_wp2_with fail
  refine (eqPointS_any a2 a1 _ _ _ _ N d2 d1 f w2 hn i2 j1).mono ?_
  rintro e w3 ⟨rfl, b3⟩
  have s3 := b3.size
  have k2 := i2.below b3 (Nat.le_refl _)
  have l1 := j1.below b3 s2
  go_wp2_with fail
  refine (markPointS_any a2 w1.heap.size w2.heap.size N d2 1 f w3 hn (by omega) k2).mono ?_
  rintro e w4 ⟨rfl, i4, h4, s4, b4⟩
  have S4 := hide s4
  clear s4
  go_wp2_with fail
  refine (heldPointS_any a2 w1.heap.size w2.heap.size N d2 1 w4 hn (by omega) i4).mono ?_
  rintro e w5 ⟨rfl, rfl⟩
  go_wp2_with fail
  have c3 := implTwoSquares_any n w4
  rw [unhide HN, unhide HF, unhide HO] at c3
  refine c3.mono ?_
  clear c3
  rintro e w6 ⟨a6, d6, rfl, i6, b6⟩
  have s6 := b6.size
  have hs : w1.heap.size ≤ w4.heap.size := by have := unhide S4; omega
  have hs2 : w2.heap.size ≤ w4.heap.size := by have := unhide S4; omega
  have m1 : PointsAt w6 w.heap.size w1.heap.size a1 N f := (l1.keep (w' := w4) (fun k _ h2 => h4 k h2)).below b6 hs
  have m2 : PointsAt w6 w1.heap.size w2.heap.size a2 N (fun i => ((1 : Nat) : Int) + i) := i4.below b6 hs2
  go_wp2_with fail
  refine (eqPointS_any a6 a1 _ _ _ _ N d6 d1 f w6 hn i6 m1).mono ?_
  rintro e w7 ⟨rfl, b7⟩
  have m3 := m2.below b7 (by omega)
  go_wp2_with fail
  refine (heldPointS_any a2 w1.heap.size w2.heap.size N d2 1 w7 hn (by omega) m3).mono ?_
  rintro e w8 ⟨rfl, rfl⟩
  go_wp2
  go_ret
  exact ⟨rfl, ((((b1.trans (b2.mono s1)).trans (b3.mono (by omega))).trans (b4.mono s1)).trans (b6.mono (by omega))).trans (b7.mono (by omega))⟩
end Go.Proofs.Ytgjbefchbjpjmaa
