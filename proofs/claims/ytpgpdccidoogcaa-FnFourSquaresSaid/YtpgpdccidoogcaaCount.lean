/-
  The walk of impl.squareCounts: the table of the numbers of representations.
-/
import Derived.Test.YtpgpdccidoogcaaRoot
import Derived.Test.YtpgpdccidoogcaaConv
import Derived.Deep.OwnRows
namespace Go.Proofs.Ytpgpdccidoogcaa
open Go.RowKit
set_option linter.unusedVariables false
set_option linter.unusedSimpArgs false

theorem Try.infoInt : (Try.prog.info? 3).map (fun i => (i.zero, i.size, i.bytes)) = some (some (.int .i64 0), 1, 8) := by kernel_rfl

theorem make_ints (n : Nat) (hn : n ≤ 1000000) (w : World) :
    (Instr.makeSlice 27 (.int .i64 ((n : Int) + 1)) (.int .i64 ((n : Int) + 1))).run Try.prog w = .ok (.slice (some ⟨w.heap.size, 0, none⟩) (n + 1) (n + 1)) (w.alloc (.cells (madeCells #[.int .i64 0] (n + 1)) 3)) := by
  have h := run_make_row' (P := Try.prog) 27 3 (.int .i64 0) 8 Try.underlying27 Try.infoInt rfl .i64 .i64 (n + 1) (by omega) (by omega) w
  rw [show ((n + 1 : Nat) : Int) = (n : Int) + 1 from by omega] at h
  exact h

theorem made_get (z : Value) {n i : Nat} (h : i < n) : (madeCells #[z] n)[i]? = some z := by simp [madeCells, h, Nat.mod_one]
theorem rowIs_made_set (w : World) (z v : Value) (n : Nat) (t : TypeId) (i : Nat) : (w.alloc (.cells ((madeCells #[z] n).setIfInBounds i v) t)).rowIs w.heap.size t n (fun j => if j = i then v else z) := by
  refine ⟨_, Go.Deep.blk_alloc_new _ _, by simp [size_madeCells], fun j hj => ?_⟩
  rw [Array.getElem?_setIfInBounds]
  by_cases e : i = j
  · subst e; simp [size_madeCells, hj]
  · rw [if_neg e, made_get z hj]; simp [Ne.symm e]

theorem wrap64_up {x : Nat} (hx : x ≤ 1000000000) : wrap64 ((x : Int) + 1) = ((x + 1 : Nat) : Int) := by unfold wrap64; omega
theorem meas_up {a x : Nat} (h : x < a) (hx : x ≤ 1000000000) : a - (intOf (.int .i64 (wrap64 ((x : Int) + 1)))).toNat < a - (intOf (.int .i64 (x : Int))).toNat := by
  rw [wrap64_up hx]
  show a - ((x + 1 : Nat) : Int).toNat < a - ((x : Nat) : Int).toNat
  rw [Int.toNat_natCast, Int.toNat_natCast]
  omega
theorem cnt_val {A s : Int} {x : Nat} (hx : x ≤ 10000) (hs0 : 0 ≤ s) (hs1 : s ≤ 1000000000000) (hA0 : 0 ≤ A) (hA1 : A ≤ 1000000000000) :
    wrap64 (A + wrap64 (s * if 2 < wrap64 ((x : Int) + 1) then 2 else wrap64 ((x : Int) + 1))) = A + s * cw x := by
  have e : wrap64 ((x : Int) + 1) = (x : Int) + 1 := by unfold wrap64; omega
  rw [e]
  have c := cw_min x
  by_cases h : 2 < (x : Int) + 1
  · rw [if_pos h]; rw [← c, Int.min_eq_right (by omega)]; unfold wrap64; omega
  · rw [if_neg h]; rw [← c, Int.min_eq_left (by omega)]
    by_cases h0 : x = 0
    · subst h0; simp; unfold wrap64; omega
    · have : x = 1 := by omega
      subst this; simp; unfold wrap64; omega
theorem scB_pow (m k Q : Nat) (h : isqN m ≤ Q) : scB m k ≤ ((2 * (Q + 1)) ^ k : Nat) ∧ 0 ≤ scB m k := by
  induction k with
  | zero => simp [scB]
  | succ k ih =>
    obtain ⟨h1, h2⟩ := ih
    simp only [scB]
    refine ⟨?_, Int.mul_nonneg (by omega) (by omega)⟩
    have a : ((isqN m + 1 : Nat) : Int) * (2 * scB m k) ≤ ((Q + 1 : Nat) : Int) * (2 * ((2 * (Q + 1)) ^ k : Nat)) := Int.mul_le_mul (by omega) (by omega) (by omega) (by omega)
    refine Int.le_trans a ?_
    rw [Nat.pow_succ]
    have b : (Q + 1) * (2 * (2 * (Q + 1)) ^ k) = (2 * (Q + 1)) ^ k * (2 * (Q + 1)) := by rw [Nat.mul_comm (Q + 1), Nat.mul_comm 2, Nat.mul_assoc]
    have b' : (((Q + 1) * (2 * (2 * (Q + 1)) ^ k) : Nat) : Int) = (((2 * (Q + 1)) ^ k * (2 * (Q + 1)) : Nat) : Int) := by rw [b]
    rw [← b', Int.natCast_mul, Int.natCast_mul]
    exact Int.le_refl _
theorem scB_le {m k : Nat} (hm : m ≤ 10000) (h : k ≤ 4 ∨ (k ≤ 8 ∧ m ≤ 200)) : scB m k ≤ 1000000000000 := by
  rcases h with h | ⟨h, h2⟩
  · have q : isqN m ≤ 100 := by
      by_cases c : isqN m ≤ 100
      · exact c
      · have := (isqN_spec m).1
        have := Nat.mul_le_mul (show 101 ≤ isqN m by omega) (show 101 ≤ isqN m by omega)
        omega
    have h1 := (scB_pow m k 100 q).1
    have h3 : (2 * (100 + 1)) ^ k ≤ (2 * (100 + 1)) ^ 4 := Nat.pow_le_pow_right (by decide) h
    have h4 : (2 * (100 + 1)) ^ 4 = 1664966416 := by decide
    omega
  · have q : isqN m ≤ 14 := by
      by_cases c : isqN m ≤ 14
      · exact c
      · have := (isqN_spec m).1
        have := Nat.mul_le_mul (show 15 ≤ isqN m by omega) (show 15 ≤ isqN m by omega)
        omega
    have h1 := (scB_pow m k 14 q).1
    have h3 : (2 * (14 + 1)) ^ k ≤ (2 * (14 + 1)) ^ 8 := Nat.pow_le_pow_right (by decide) h
    have h4 : (2 * (14 + 1)) ^ 8 = 656100000000 := by decide
    omega

set_option maxHeartbeats 1000000 in
theorem squareCounts_any (k m : Nat) (w : World) (hk : k ≤ 8) (hm : m ≤ 10000) (hB : k ≤ 4 ∨ m ≤ 200) :
    Calls Try.prog 48 #[.int .i64 (k : Int), .int .i64 (m : Int)] w fun e w' => ∃ b, e = .returned (.slice (some ⟨b, 0, none⟩) (m + 1) (m + 1)) ∧ w'.rowIs b 3 (m + 1) (fun j => .int .i64 (sc m k j)) ∧ w.heap.size ≤ b ∧ Below w.heap.size w w' := by
  have hmk := make_ints m (by omega)
  have h0 : (madeCells #[Value.int .i64 0] (m + 1))[0]? = some (.int .i64 0) := made_get _ (by omega)
  go_enter Try.func48, Try.ntmps48
  go_wp2
  go_loopw [0, 5] (fun ks cs wr => ∃ i b : Nat, i ≤ k ∧ ks = .int .i64 ((k : Int) - i) ∧ cs = .slice (some ⟨b, 0, none⟩) (m + 1) (m + 1) ∧ wr.rowIs b 3 (m + 1) (fun j => .int .i64 (sc m i j)) ∧ w.heap.size ≤ b ∧ Below w.heap.size w wr) (fun ks _ _ => (intOf ks).toNat)
  case atStart =>
    refine ⟨0, w.heap.size, by omega, by simp, rfl, ?_, Nat.le_refl _, (Below.refl _ _).alloc (Nat.le_refl _) _⟩
    exact (rowIs_made_set w _ _ _ _ 0).congr (fun j _ => by by_cases c : j = 0 <;> simp [sc, c])
  case round =>
    obtain ⟨i, b, hi, rfl, rfl, hrow, hbw, hbel⟩ := hrel
    obtain ⟨w1, rfl⟩ : ∃ w1 : World, w1 = wr := ⟨_, rfl⟩
    by_cases c : i < k
    · have hz := hbel.size
      have hbl := hrow.lt
      go_wp2
      go_loopw [24] (fun ns wx => ∃ n : Nat, n ≤ m + 1 ∧ ns = .int .i64 (n : Int) ∧ wx.rowIs b 3 (m + 1) (fun j => .int .i64 (sc m i j)) ∧ wx.rowIs w1.heap.size 3 (m + 1) (fun j => .int .i64 (addn (sc m i) m n j)) ∧ Below w.heap.size w wx) (fun ns _ => m + 1 - (intOf ns).toNat)
      case atStart =>
        exact ⟨0, by omega, rfl, hrow.alloc _, (World.rowIs_made _ _ _ _).congr (fun j _ => by simp [addn]), hbel.alloc hz _⟩
      case round =>
        obtain ⟨n, hn, rfl, hr1, hr2, hb2⟩ := hrel
        obtain ⟨w2, rfl⟩ : ∃ w2 : World, w2 = wr := ⟨_, rfl⟩
        by_cases c2 : n < m + 1
        · have hcell := hr1.cell c2
          have hc0 : (n : Int) < (m : Int) + 1 := by omega
          go_wp2
          go_loopw [9] (fun xs wx => ∃ x : Nat, x ≤ isqN (m - n) + 1 ∧ xs = .int .i64 (x : Int) ∧ wx.rowIs b 3 (m + 1) (fun j => .int .i64 (sc m i j)) ∧ wx.rowIs w1.heap.size 3 (m + 1) (fun j => .int .i64 (addx (sc m i n) n x (addn (sc m i) m n) j)) ∧ Below w.heap.size w wx) (fun xs _ => isqN (m - n) + 1 - (intOf xs).toNat)
          case atStart => exact ⟨0, by omega, rfl, hr1, hr2, hb2⟩
          case round =>
            obtain ⟨x, hx, rfl, hs1, hs2, hb3⟩ := hrel
            by_cases c3 : x < isqN (m - n) + 1
            · have hq := isqN_iff.2 c3
              have hq1 : ((n + x * x : Nat) : Int) ≤ (m : Int) := by omega
              have hq2 : (0 : Int) ≤ (x : Int) * (x : Int) := Int.mul_nonneg (by omega) (by omega)
              rw [Int.natCast_add, Int.natCast_mul] at hq1
              have hcell2 := hs2.cell (i := n + x * x) (by omega)
              have hfr := hs2.frozen (n + x * x)
              go_wp2
              have hx1 := isqN_le_self (m - n)
              have hA := addx_bd (f := sc m i) (M := scB m i) (fun j hj => sc_ge hj) (fun j hj => (sc_bd m i j hj).2) n x (n + x * x) (by omega) (by omega) hx
              have hS := sc_bd m i n (by omega)
              have hM := scB_le (m := m) (k := i) hm (by omega)
              have hM1 := scB_le (m := m) (k := i + 1) hm (by omega)
              have hval := cnt_val (A := addx (sc m i n) n x (addn (sc m i) m n) (n + x * x)) (s := sc m i n) (x := x) (by omega) hS.1 (by omega) hA.1 (Int.le_trans hA.2 hM1)
              go_roundw
              case rel =>
                refine ⟨x + 1, by omega, congrArg (Value.int .i64) (wrap64_up (by omega)), hs1.setOther (by simp; omega) _, (hs2.set _ _).congr (fun j _ => ?_), hb3.setCell (by simp; omega) _⟩
                rw [hval]
                simp only [addx]
                split
                · rename_i hj; rw [hj]
                · rfl
              case measure => exact meas_up c3 (by omega)
            · have hx2 : x = isqN (m - n) + 1 := by omega
              have hq : ¬ n + x * x ≤ m := fun h => c3 (isqN_iff.1 (by omega))
              have hq1 : (m : Int) < ((n + x * x : Nat) : Int) := by omega
              have hx1 := isqN_le_self (m - n)
              have hq3 : x * x ≤ 10001 * 10001 := Nat.mul_le_mul (by omega) (by omega)
              have hq4 : ((x * x : Nat) : Int) ≤ 100020001 := by omega
              rw [Int.natCast_mul] at hq4
              rw [Int.natCast_add, Int.natCast_mul] at hq1
              have hX := hide hx2
              clear hx2
              go_wp2
              go_roundw
              case rel =>
                refine ⟨n + 1, by omega, congrArg (Value.int .i64) (by omega), hs1, hs2.congr (fun j _ => ?_), hb3⟩
                rw [unhide hX]; rfl
              case measure => simp [intOf]; omega
        · have hn2 : n = m + 1 := by omega
          have hN := hide hn2
          clear hn2
          go_wp2
          go_roundw
          case rel =>
            refine ⟨i + 1, w1.heap.size, by omega, congrArg (Value.int .i64) (by omega), rfl, hr2.congr (fun j _ => ?_), by omega, hb2⟩
            rw [unhide hN]; rfl
          case measure => simp [intOf]; omega
    · have hi2 : i = k := by omega
      have hI := hide hi2
      clear hi2
      go_wp2
      go_ret
      exact ⟨b, rfl, hrow.congr (fun j _ => by rw [unhide hI]), hbw, hbel⟩
end Go.Proofs.Ytpgpdccidoogcaa
