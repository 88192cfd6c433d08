/-
  SquareSeries on both sides, and the law's walk.
-/
import Derived.Test.YtpgpdccidoogcaaCounts
import Derived.Test.YtpgpdccidoogcaaInts
namespace Go.Proofs.Ytpgpdccidoogcaa
open Go.RowKit
set_option linter.unusedVariables false
set_option linter.unusedSimpArgs false

def ssOk (k m : Int) : Bool := inB k 0 8 && inB m 0 200
def ssLen (k m : Int) : Nat := if ssOk k m then m.toNat + 1 else 0
def ssF (k m : Int) (j : Nat) : Int := sc m.toNat k.toNat j
theorem ssLen_le (k m : Int) : ssLen k m ≤ 1000000000 := by
  unfold ssLen ssOk inB; split
  · rename_i h; simp at h; omega
  · omega
theorem ss_no {k m : Int} (h : ssOk k m = false) : ssLen k m = 0 := by simp [ssLen, h]

set_option maxHeartbeats 1000000 in
theorem implSquareSeries_any (k m : Int) (w : World) :
    Calls Try.prog 25 #[.int .i64 k, .int .i64 m] w (RetInts w (ssLen k m) (ssF k m) (ssOk k m)) := by
  have hS : RetInts w (ssLen k m) (ssF k m) (ssOk k m) = fun e w' => RetInts w (ssLen k m) (ssF k m) (ssOk k m) e w' := rfl
  cases h : ssOk k m
  · rw [ss_no h]
    have h1 : ¬ (0 ≤ k ∧ k ≤ 8 ∧ 0 ≤ m ∧ m ≤ 200) := by intro c; simp [ssOk, inB] at h; omega
    go_enter Try.func25, Try.ntmps25
    go_wp2
    all_goals first
      | (go_ret2; exact ⟨_, _, rfl, .inl rfl, (Below.refl _ _).alloc (Nat.le_refl _) _⟩)
      | (exfalso; omega)
  · have h1 : 0 ≤ k ∧ k ≤ 8 ∧ 0 ≤ m ∧ m ≤ 200 := by simp [ssOk, inB] at h; omega
    obtain ⟨h2, h3, h4, h5⟩ := h1
    obtain ⟨K, rfl⟩ := Int.eq_ofNat_of_zero_le h2
    obtain ⟨M, rfl⟩ := Int.eq_ofNat_of_zero_le h4
    have hl : ssLen (K : Int) (M : Int) = M + 1 := by simp [ssLen, h]
    rw [hl]
    clear hl
    go_enter Try.func25, Try.ntmps25
    go_wp2_with (go_at_call 48; refine (squareCounts_any K M _ (by omega) (by omega) (by omega)).mono ?_; rintro e w1 ⟨b, rfl, hrow, hbw, hbel⟩)
    go_ret2
    exact ⟨_, _, rfl, .inr ⟨b, M + 1, _, rfl, hbw, hrow.lt, Nat.le_refl _, hrow, fun i _ => rfl⟩, hbel⟩

theorem ser_val {A s : Int} {x : Nat} (hs0 : 0 ≤ s) (hs1 : s ≤ 1000000000000) (hA0 : 0 ≤ A) (hA1 : A ≤ 1000000000000) (h : 0 < x) : wrap64 (A + s) = A + s ∧ wrap64 (wrap64 (A + s) + s) = A + s * cw x := by
  have e : wrap64 (A + s) = A + s := by unfold wrap64; omega
  refine ⟨e, ?_⟩
  rw [e]
  unfold cw; rw [if_neg (by omega)]; unfold wrap64; omega

set_option maxHeartbeats 2000000 in
theorem specSquareSeries_any (k m : Int) (w : World) :
    Calls Try.prog 26 #[.int .i64 k, .int .i64 m] w (RetInts w (ssLen k m) (ssF k m) (ssOk k m)) := by
  cases h : ssOk k m
  · rw [ss_no h]
    cases h1 : inB k 0 8
    · go_enter Try.func26, Try.ntmps26
      go_wp2_with (go_at_call 46; refine (l1In_any _ _ _ _).mono ?_; rintro e w' ⟨rfl, rfl⟩)
      go_ret2
      exact ⟨_, _, rfl, .inl rfl, Below.refl _ _⟩
    · have h2 : inB m 0 200 = false := by simpa [ssOk, h1] using h
      go_enter Try.func26, Try.ntmps26
      go_wp2_with (go_at_call 46; refine (l1In_any _ _ _ _).mono ?_; rintro e w' ⟨rfl, rfl⟩)
      go_ret2
      exact ⟨_, _, rfl, .inl rfl, Below.refl _ _⟩
  · have h1 : 0 ≤ k ∧ k ≤ 8 ∧ 0 ≤ m ∧ m ≤ 200 := by simp [ssOk, inB] at h; omega
    have hk8 : inB k 0 8 = true := by simp [ssOk] at h; exact h.1
    have hm2 : inB m 0 200 = true := by simp [ssOk] at h; exact h.2
    obtain ⟨g2, g3, g4, g5⟩ := h1
    obtain ⟨K, rfl⟩ := Int.eq_ofNat_of_zero_le g2
    obtain ⟨M, rfl⟩ := Int.eq_ofNat_of_zero_le g4
    have hl : ssLen (K : Int) (M : Int) = M + 1 := by simp [ssLen, h]
    rw [hl]
    clear hl
    have hm : M ≤ 10000 := by omega
    have hm9 : M ≤ 200 := by omega
    have hk : K ≤ 8 := by omega
    have hmk := make_ints M (by omega)
    have h0 : (madeCells #[Value.int .i64 0] (M + 1))[0]? = some (.int .i64 0) := made_get _ (by omega)
    go_enter Try.func26, Try.ntmps26
    go_wp2_with (go_at_call 46; refine (l1In_any _ _ _ _).mono ?_; rintro e w' ⟨rfl, rfl⟩)
    go_loopw [0, 6] (fun ks cs wr => ∃ i b : Nat, i ≤ K ∧ ks = .int .i64 ((K : Int) - i) ∧ cs = .slice (some ⟨b, 0, none⟩) (M + 1) (M + 1) ∧ wr.rowIs b 3 (M + 1) (fun j => .int .i64 (sc M i j)) ∧ w.heap.size ≤ b ∧ Below w.heap.size w wr) (fun ks _ _ => (intOf ks).toNat)
    case atStart =>
      refine ⟨0, w.heap.size, by omega, by simp, rfl, ?_, Nat.le_refl _, (Below.refl _ _).alloc (Nat.le_refl _) _⟩
      exact (rowIs_made_set w _ _ _ _ 0).congr (fun j _ => by by_cases c : j = 0 <;> simp [sc, c])
    case round =>
      obtain ⟨i, b, hi, rfl, rfl, hrow, hbw, hbel⟩ := hrel
      obtain ⟨w1, rfl⟩ : ∃ w1 : World, w1 = wr := ⟨_, rfl⟩
      by_cases c : i < K
      · have hz := hbel.size
        have hbl := hrow.lt
        go_wp2
        go_loopw [33] (fun ns wx => ∃ n : Nat, n ≤ M + 1 ∧ ns = .int .i64 (n : Int) ∧ wx.rowIs b 3 (M + 1) (fun j => .int .i64 (sc M i j)) ∧ wx.rowIs w1.heap.size 3 (M + 1) (fun j => .int .i64 (addn (sc M i) M n j)) ∧ Below w.heap.size w wx) (fun ns _ => M + 1 - (intOf ns).toNat)
        case atStart => exact ⟨0, by omega, rfl, hrow.alloc _, (World.rowIs_made _ _ _ _).congr (fun j _ => by simp [addn]), hbel.alloc hz _⟩
        case round =>
          obtain ⟨n, hn, rfl, hr1, hr2, hb2⟩ := hrel
          obtain ⟨w2, rfl⟩ : ∃ w2 : World, w2 = wr := ⟨_, rfl⟩
          by_cases c2 : n < M + 1
          · have hcell := hr1.cell c2
            have hc0 : (n : Int) < (M : Int) + 1 := by omega
            go_wp2
            go_loopw [10] (fun xs wx => ∃ x : Nat, x ≤ isqN (M - n) + 1 ∧ xs = .int .i64 (x : Int) ∧ wx.rowIs b 3 (M + 1) (fun j => .int .i64 (sc M i j)) ∧ wx.rowIs w1.heap.size 3 (M + 1) (fun j => .int .i64 (addx (sc M i n) n x (addn (sc M i) M n) j)) ∧ Below w.heap.size w wx) (fun xs _ => isqN (M - n) + 1 - (intOf xs).toNat)
            case atStart => exact ⟨0, by omega, rfl, hr1, hr2, hb2⟩
            case round =>
              obtain ⟨x, hx, rfl, hs1, hs2, hb3⟩ := hrel
              by_cases c3 : x < isqN (M - n) + 1
              · have hq := isqN_iff.2 c3
                have hq1 : ((n + x * x : Nat) : Int) ≤ (M : Int) := by omega
                have hq2 : (0 : Int) ≤ (x : Int) * (x : Int) := Int.mul_nonneg (by omega) (by omega)
                rw [Int.natCast_add, Int.natCast_mul] at hq1
                have hcell2 := hs2.cell (i := n + x * x) (by omega)
                have hfr := hs2.frozen (n + x * x)
                have hx1 := isqN_le_self (M - n)
                have hA := addx_bd (f := sc M i) (M := scB M i) (fun j hj => sc_ge hj) (fun j hj => (sc_bd M i j hj).2) n x (n + x * x) (by omega) (by omega) hx
                have hS := sc_bd M i n (by omega)
                have hM := scB_le (m := M) (k := i) hm (by omega)
                have hM1 := scB_le (m := M) (k := i + 1) hm (by omega)
                by_cases hx0 : x = 0
                · have hv : wrap64 (addx (sc M i n) n x (addn (sc M i) M n) (n + x * x) + sc M i n) = addx (sc M i n) n x (addn (sc M i) M n) (n + x * x) + sc M i n * cw x := by
                    have a1 := hA.1
                    have a2 := Int.le_trans hA.2 hM1
                    unfold cw; rw [if_pos hx0]; unfold wrap64; omega
                  have hxq : ¬ (0 : Int) < (x : Int) := by omega
                  have HV := hide hv
                  have HX := hide hx0
                  clear hv hA hS hM hM1 hx0
                  go_wp2
                  go_roundw
                  case rel =>
                    refine ⟨x + 1, by omega, by go_num, hs1.setOther (by simp; omega) _, (hs2.set _ _).congr (fun j _ => ?_), hb3.setCell (by simp; omega) _⟩
                    rw [unhide HV]
                    by_cases e : j = n + x * x
                    · subst e; simp [addx]
                    · simp [addx, e]
                  case measure => simp [intOf]; omega
                · have hxp : 0 < x := by omega
                  obtain ⟨v1, v2⟩ := ser_val (A := addx (sc M i n) n x (addn (sc M i) M n) (n + x * x)) (s := sc M i n) (x := x) hS.1 (by omega) hA.1 (Int.le_trans hA.2 hM1) hxp
                  have hxq : (0 : Int) < (x : Int) := by omega
                  have V1 := hide v1
                  have V2 := hide v2
                  clear v1 v2 hA hS hM hM1
                  go_wp2
                  go_roundw
                  case rel =>
                    refine ⟨x + 1, by omega, by go_num, (hs1.setOther (by simp; omega) _).setOther (by simp; omega) _, ((hs2.set _ _).set _ _).congr (fun j _ => ?_), (hb3.setCell (by simp; omega) _).setCell (by simp; omega) _⟩
                    rw [unhide V2]
                    by_cases e : j = n + x * x
                    · subst e; simp [addx]
                    · simp [addx, e]
                  case measure => simp [intOf]; omega
              · have hx2 : x = isqN (M - n) + 1 := by omega
                have hq : ¬ n + x * x ≤ M := fun h => c3 (isqN_iff.1 (by omega))
                have hq1 : (M : Int) < ((n + x * x : Nat) : Int) := by omega
                have hx1 := isqN_le_self (M - n)
                have hq3 : x * x ≤ 10001 * 10001 := Nat.mul_le_mul (by omega) (by omega)
                have hq4 : ((x * x : Nat) : Int) ≤ 100020001 := by omega
                rw [Int.natCast_mul] at hq4
                rw [Int.natCast_add, Int.natCast_mul] at hq1
                have hX := hide hx2
                clear hx2
                go_wp2
                go_roundw
                case rel =>
                  refine ⟨n + 1, by omega, congrArg (Value.int .i64) (by omega), hs1, hs2.congr (fun j _ => ?_), hb3⟩
                  rw [unhide hX]; rfl
                case measure => simp [intOf]; omega
          · have hn2 : n = M + 1 := by omega
            have hN := hide hn2
            clear hn2
            go_wp2
            go_roundw
            case rel =>
              refine ⟨i + 1, w1.heap.size, by omega, congrArg (Value.int .i64) (by omega), rfl, hr2.congr (fun j _ => ?_), by omega, hb2⟩
              rw [unhide hN]; rfl
            case measure => simp [intOf]; omega
      · have hi2 : i = K := by omega
        have hI := hide hi2
        clear hi2
        go_wp2
        go_ret2
        exact ⟨_, _, rfl, .inr ⟨b, M + 1, _, rfl, hbw, hrow.lt, Nat.le_refl _, hrow, fun j _ => by rw [unhide hI]; rfl⟩, hbel⟩

end Go.Proofs.Ytpgpdccidoogcaa
