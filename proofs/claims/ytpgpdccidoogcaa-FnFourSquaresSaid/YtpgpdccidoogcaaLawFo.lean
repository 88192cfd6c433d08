/-
  The law of four squares.
-/
import Derived.Test.YtpgpdccidoogcaaBig
import Derived.Test.YtpgpdccidoogcaaFoE
import Derived.Test.YtpgpdccidoogcaaFoD
import Derived.Test.YtpgpdccidoogcaaDfp
namespace Go.Proofs.Ytpgpdccidoogcaa
open Go.RowKit
set_option linter.unusedVariables false
set_option linter.unusedSimpArgs false
attribute [local go_sem] q2 q3 q4 q5 q6 q7 q8 q9 q10 q11 q12
theorem implCountFour_b (n K : Int) (b : Bool) (w : World) (hK : cnt (fun m => sc m 4 m) n = K) (hb : inB n 0 10000 = b) : Calls Try.prog 7 #[.int .i64 n] w fun e w' => e = .returned (.tuple #[.int .i64 K, .bool b]) ∧ Below w.heap.size w w' := by
  subst hK hb; exact implCountFour_any n w
theorem specCountFour_b (n K : Int) (b : Bool) (w : World) (hK : cnt four n = K) (hb : inB n 0 10000 = b) : Calls Try.prog 8 #[.int .i64 n] w fun e w' => e = .returned (.tuple #[.int .i64 K, .bool b]) ∧ Below w.heap.size w w' := by
  subst hK hb; exact specCountFour_any n w
theorem implCountTwo_b (n K : Int) (b : Bool) (w : World) (hK : cnt (fun m => sc m 2 m) n = K) (hb : inB n 0 10000 = b) : Calls Try.prog 10 #[.int .i64 n] w fun e w' => e = .returned (.tuple #[.int .i64 K, .bool b]) ∧ Below w.heap.size w w' := by
  subst hK hb; exact implCountTwo_any n w
theorem implDC_b (n r K : Int) (b : Bool) (w : World) (hK : dcV n r 4 = K) (hb : dcOk n r 4 = b) : Calls Try.prog 11 #[.int .i64 n, .int .i64 r, .int .i64 4] w fun e w' => e = .returned (.tuple #[.int .i64 K, .bool b]) ∧ Below w.heap.size w w' := by
  subst hK hb; exact implDivisorCount_any n r 4 w
theorem implFF_b (n X Y Z U : Int) (t : Bool) (w : World) (hX : gX (ff n) = X) (hY : gY (ff n) = Y) (hZ : gZ (ff n) = Z) (hU : gW (ff n) = U) (ht : gOk (ff n) = t) : Calls Try.prog 12 #[.int .i64 n] w fun e w' => e = .returned (.tuple #[.agg #[.int .i64 X, .int .i64 Y, .int .i64 Z, .int .i64 U], .bool t]) ∧ Below w.heap.size w w' := by
  subst hX hY hZ hU ht; exact implFirstFour_any n w
theorem implFP_b (x1 y1 z1 u1 x2 y2 z2 u2 r0 r1 r2 r3 : Int) (ok : Bool) (w : World) (h : Bd8 x1 y1 z1 u1 x2 y2 z2 u2) (h0 : FourProductR0 x1 y1 z1 u1 x2 y2 z2 u2 = r0) (h1 : FourProductR1 x1 y1 z1 u1 x2 y2 z2 u2 = r1) (h2 : FourProductR2 x1 y1 z1 u1 x2 y2 z2 u2 = r2) (h3 : FourProductR3 x1 y1 z1 u1 x2 y2 z2 u2 = r3) (ho : FourProductOk x1 y1 z1 u1 x2 y2 z2 u2 = ok) : Calls Try.prog 14 #[.agg #[.int .i64 x1, .int .i64 y1, .int .i64 z1, .int .i64 u1], .agg #[.int .i64 x2, .int .i64 y2, .int .i64 z2, .int .i64 u2]] w fun e w' => e = .returned (.tuple #[.agg #[.int .i64 r0, .int .i64 r1, .int .i64 r2, .int .i64 r3], .bool ok]) ∧ Below w.heap.size w w' := by
  subst h0 h1 h2 h3 ho
  obtain ⟨b1, b2, b3, b4, b5, b6, b7, b8⟩ := h
  exact implFourProduct_any x1 y1 z1 u1 x2 y2 z2 u2 w (by unfold I64; omega) (by unfold I64; omega) (by unfold I64; omega) (by unfold I64; omega) (by unfold I64; omega) (by unfold I64; omega) (by unfold I64; omega) (by unfold I64; omega)
theorem specFP_b (x1 y1 z1 u1 x2 y2 z2 u2 r0 r1 r2 r3 : Int) (ok : Bool) (w : World) (h : Bd8 x1 y1 z1 u1 x2 y2 z2 u2) (h0 : FourProductR0 x1 y1 z1 u1 x2 y2 z2 u2 = r0) (h1 : FourProductR1 x1 y1 z1 u1 x2 y2 z2 u2 = r1) (h2 : FourProductR2 x1 y1 z1 u1 x2 y2 z2 u2 = r2) (h3 : FourProductR3 x1 y1 z1 u1 x2 y2 z2 u2 = r3) (ho : FourProductOk x1 y1 z1 u1 x2 y2 z2 u2 = ok) : Calls Try.prog 15 #[.agg #[.int .i64 x1, .int .i64 y1, .int .i64 z1, .int .i64 u1], .agg #[.int .i64 x2, .int .i64 y2, .int .i64 z2, .int .i64 u2]] w fun e w' => e = .returned (.tuple #[.agg #[.int .i64 r0, .int .i64 r1, .int .i64 r2, .int .i64 r3], .bool ok]) ∧ Below w.heap.size w w' := by
  subst h0 h1 h2 h3 ho
  obtain ⟨b1, b2, b3, b4, b5, b6, b7, b8⟩ := h
  exact specFourProduct_any x1 y1 z1 u1 x2 y2 z2 u2 w (by unfold I64; omega) (by unfold I64; omega) (by unfold I64; omega) (by unfold I64; omega) (by unfold I64; omega) (by unfold I64; omega) (by unfold I64; omega) (by unfold I64; omega)

set_option maxRecDepth 100000 in
set_option maxHeartbeats 16000000 in
theorem lawFourSquares (v1 v2 : Value) (n1 n2 : Nat) (w : World) (h1 : ArgB w v1 n1) (h2 : ArgB w v2 n2) (m1 : n1 ≤ 9223372036854775807) (m2 : n2 ≤ 9223372036854775807) :
    Calls Try.prog 3 #[v1, v2] w fun e w' => e = .returned (.bool true) ∧ Below w.heap.size w w' := by
  have HA2 := hide h2
  have HA1 := hide h1
  go_enter Try.func3, Try.ntmps3
  go_wp2_with fail
  refine (big_a v1 v2 n1 n2 w h1 h2 m1 m2).mono ?_
  rintro e0 w0 ⟨tb, rfl, rfl⟩
  clear h1 h2
  cases tb
  rotate_left
  · go_wp2
    go_ret
    exact ⟨rfl, Below.refl _ _⟩
  · go_wp2_with fail
    refine (drawCountFour_a v1 n1 w (unhide HA1)).mono ?_
    rintro e1 w1 ⟨n, rfl, gw1⟩
    obtain ⟨K, T, P, Q, X, Y, Z, U, S, D, hK1, hK2, hcs⟩ := fo_cases n
    obtain ⟨b, hb⟩ : ∃ b, inB n 0 10000 = b := ⟨_, rfl⟩
    have HK1 := hide hK1
    have HK2 := hide hK2
    have HB := hide hb
    rw [hb] at hcs
    clear hK1 hK2 hb
    go_wp2_with fail
    refine (implCountFour_b n K b _ (unhide HK1) (unhide HB)).mono ?_
    rintro e3 w3 ⟨rfl, hb3⟩
    have gw3 : Below w.heap.size w w3 := gw1.trans (hb3.mono gw1.size)
    clear hb3
    go_wp2_with fail
    refine (specCountFour_b n K b _ (unhide HK2) (unhide HB)).mono ?_
    rintro e4 w4 ⟨rfl, hb4⟩
    have gw4 : Below w.heap.size w w4 := gw3.trans (hb4.mono gw3.size)
    clear hb4
    rcases hcs with rfl | ⟨rfl, hn0⟩ | ⟨rfl, hn1, hD, hSV, hKS, ⟨hS0, hS1⟩, hT, hP, hQ, hO1, hO3, hTP, ⟨hP0, hP1⟩, ⟨hQ0, hQ1⟩, hOKF, hX, hY, hZ, hU, hsq, hxy, hyz, hzu, hu0, ⟨xx0, xx1⟩, ⟨yy0, yy1⟩, ⟨zz0, zz1⟩, ⟨uu0, uu1⟩⟩
    · skip
      go_wp2_with fail
      refine (drawFourProduct_a v2 n2 _ ((unhide HA2).below gw4)).mono ?_
      rintro e20 wp ⟨xa, ya, za, ua, xb, yb, zb, ub, rfl, hbd, hb20⟩
      have gwp : Below w.heap.size w wp := (gw4).trans (hb20.mono (gw4).size)
      clear hb20
      obtain ⟨r0, r1, r2, r3, ok, hr0, hr1, hr2, hr3, hok, hcs⟩ := fp_cases xa ya za ua xb yb zb ub hbd
      have HR0 := hide hr0
      have HR1 := hide hr1
      have HR2 := hide hr2
      have HR3 := hide hr3
      have HOK := hide hok
      have HBD := hide hbd
      clear hr0 hr1 hr2 hr3 hok hbd
      go_wp2_with fail
      refine (implFP_b xa ya za ua xb yb zb ub r0 r1 r2 r3 ok _ (unhide HBD) (unhide HR0) (unhide HR1) (unhide HR2) (unhide HR3) (unhide HOK)).mono ?_
      rintro e21 wr1 ⟨rfl, hb21⟩
      have hcs9 := cells_calls hb21 [⟨wp.heap.size, 0, none⟩, ⟨wp.heap.size, 1, none⟩, ⟨wp.heap.size, 2, none⟩, ⟨wp.heap.size, 3, none⟩, ⟨(wp.heap.size + 1), 0, none⟩, ⟨(wp.heap.size + 1), 1, none⟩, ⟨(wp.heap.size + 1), 2, none⟩, ⟨(wp.heap.size + 1), 3, none⟩] [.int .i64 xa, .int .i64 ya, .int .i64 za, .int .i64 ua, .int .i64 xb, .int .i64 yb, .int .i64 zb, .int .i64 ub] (by refine ⟨?_, ?_, ?_, ?_, ?_, ?_, ?_, ?_, trivial⟩ <;> exact byCT)
      have hzs9 := blocks_calls hb21 [wp.heap.size, (wp.heap.size + 1)] (by refine ⟨?_, ?_, trivial⟩ <;> first | with_reducible assumption | omega | (simp; omega) | (simp; done))
      try clear c00 c01 c02 c03
      try clear c10 c11 c12 c13
      obtain ⟨c00, c01, c02, c03, c10, c11, c12, c13, -⟩ := hcs9
      obtain ⟨z0, z1, -⟩ := hzs9
      have gr1 : Below w.heap.size w wr1 := byGG
      have hs21 := hb21.size
      simp only [World.size_alloc] at hs21
      clear hb21
      go_wp2_with fail
      refine (specFP_b xa ya za ua xb yb zb ub r0 r1 r2 r3 ok _ (unhide HBD) (unhide HR0) (unhide HR1) (unhide HR2) (unhide HR3) (unhide HOK)).mono ?_
      rintro e22 wr2 ⟨rfl, hb22⟩
      have hcs9 := cells_calls hb22 [⟨wp.heap.size, 0, none⟩, ⟨wp.heap.size, 1, none⟩, ⟨wp.heap.size, 2, none⟩, ⟨wp.heap.size, 3, none⟩, ⟨(wp.heap.size + 1), 0, none⟩, ⟨(wp.heap.size + 1), 1, none⟩, ⟨(wp.heap.size + 1), 2, none⟩, ⟨(wp.heap.size + 1), 3, none⟩, ⟨wr1.heap.size, 0, none⟩, ⟨wr1.heap.size, 1, none⟩, ⟨wr1.heap.size, 2, none⟩, ⟨wr1.heap.size, 3, none⟩] [.int .i64 xa, .int .i64 ya, .int .i64 za, .int .i64 ua, .int .i64 xb, .int .i64 yb, .int .i64 zb, .int .i64 ub, .int .i64 r0, .int .i64 r1, .int .i64 r2, .int .i64 r3] (by refine ⟨?_, ?_, ?_, ?_, ?_, ?_, ?_, ?_, ?_, ?_, ?_, ?_, trivial⟩ <;> exact byCT)
      have hzs9 := blocks_calls hb22 [wp.heap.size, (wp.heap.size + 1), wr1.heap.size] (by refine ⟨?_, ?_, ?_, trivial⟩ <;> first | with_reducible assumption | omega | (simp; omega) | (simp; done))
      try clear c00 c01 c02 c03
      try clear c10 c11 c12 c13
      try clear c20 c21 c22 c23
      obtain ⟨c00, c01, c02, c03, c10, c11, c12, c13, c20, c21, c22, c23, -⟩ := hcs9
      obtain ⟨z0, z1, z2, -⟩ := hzs9
      have gr2 : Below w.heap.size w wr2 := byGG
      have hs22 := hb22.size
      simp only [World.size_alloc] at hs22
      clear hb22
      rcases hcs with rfl | ⟨rfl, heu, ⟨r00, r01⟩, ⟨r10, r11⟩, ⟨r20, r21⟩, ⟨r30, r31⟩⟩
      · go_wp2
        go_ret
        exact ⟨rfl, byGG⟩
      · obtain ⟨b1, b2, b3, b4, b5, b6, b7, b8⟩ := unhide HBD
        obtain ⟨s10, s11⟩ := sq_bd b1
        obtain ⟨s20, s21⟩ := sq_bd b2
        obtain ⟨s30, s31⟩ := sq_bd b3
        obtain ⟨s40, s41⟩ := sq_bd b4
        obtain ⟨s50, s51⟩ := sq_bd b5
        obtain ⟨s60, s61⟩ := sq_bd b6
        obtain ⟨s70, s71⟩ := sq_bd b7
        obtain ⟨s80, s81⟩ := sq_bd b8
        clear b1 b2 b3 b4 b5 b6 b7 b8
        go_wp2
        go_ret
        exact ⟨rfl, byGG⟩
    · have hn2 : ¬ 0 < n := by omega
      clear hn0
      go_wp2_with fail
      refine (drawFourProduct_a v2 n2 _ ((unhide HA2).below gw4)).mono ?_
      rintro e20 wp ⟨xa, ya, za, ua, xb, yb, zb, ub, rfl, hbd, hb20⟩
      have gwp : Below w.heap.size w wp := (gw4).trans (hb20.mono (gw4).size)
      clear hb20
      obtain ⟨r0, r1, r2, r3, ok, hr0, hr1, hr2, hr3, hok, hcs⟩ := fp_cases xa ya za ua xb yb zb ub hbd
      have HR0 := hide hr0
      have HR1 := hide hr1
      have HR2 := hide hr2
      have HR3 := hide hr3
      have HOK := hide hok
      have HBD := hide hbd
      clear hr0 hr1 hr2 hr3 hok hbd
      go_wp2_with fail
      refine (implFP_b xa ya za ua xb yb zb ub r0 r1 r2 r3 ok _ (unhide HBD) (unhide HR0) (unhide HR1) (unhide HR2) (unhide HR3) (unhide HOK)).mono ?_
      rintro e21 wr1 ⟨rfl, hb21⟩
      have hcs9 := cells_calls hb21 [⟨wp.heap.size, 0, none⟩, ⟨wp.heap.size, 1, none⟩, ⟨wp.heap.size, 2, none⟩, ⟨wp.heap.size, 3, none⟩, ⟨(wp.heap.size + 1), 0, none⟩, ⟨(wp.heap.size + 1), 1, none⟩, ⟨(wp.heap.size + 1), 2, none⟩, ⟨(wp.heap.size + 1), 3, none⟩] [.int .i64 xa, .int .i64 ya, .int .i64 za, .int .i64 ua, .int .i64 xb, .int .i64 yb, .int .i64 zb, .int .i64 ub] (by refine ⟨?_, ?_, ?_, ?_, ?_, ?_, ?_, ?_, trivial⟩ <;> exact byCT)
      have hzs9 := blocks_calls hb21 [wp.heap.size, (wp.heap.size + 1)] (by refine ⟨?_, ?_, trivial⟩ <;> first | with_reducible assumption | omega | (simp; omega) | (simp; done))
      try clear c00 c01 c02 c03
      try clear c10 c11 c12 c13
      obtain ⟨c00, c01, c02, c03, c10, c11, c12, c13, -⟩ := hcs9
      obtain ⟨z0, z1, -⟩ := hzs9
      have gr1 : Below w.heap.size w wr1 := byGG
      have hs21 := hb21.size
      simp only [World.size_alloc] at hs21
      clear hb21
      go_wp2_with fail
      refine (specFP_b xa ya za ua xb yb zb ub r0 r1 r2 r3 ok _ (unhide HBD) (unhide HR0) (unhide HR1) (unhide HR2) (unhide HR3) (unhide HOK)).mono ?_
      rintro e22 wr2 ⟨rfl, hb22⟩
      have hcs9 := cells_calls hb22 [⟨wp.heap.size, 0, none⟩, ⟨wp.heap.size, 1, none⟩, ⟨wp.heap.size, 2, none⟩, ⟨wp.heap.size, 3, none⟩, ⟨(wp.heap.size + 1), 0, none⟩, ⟨(wp.heap.size + 1), 1, none⟩, ⟨(wp.heap.size + 1), 2, none⟩, ⟨(wp.heap.size + 1), 3, none⟩, ⟨wr1.heap.size, 0, none⟩, ⟨wr1.heap.size, 1, none⟩, ⟨wr1.heap.size, 2, none⟩, ⟨wr1.heap.size, 3, none⟩] [.int .i64 xa, .int .i64 ya, .int .i64 za, .int .i64 ua, .int .i64 xb, .int .i64 yb, .int .i64 zb, .int .i64 ub, .int .i64 r0, .int .i64 r1, .int .i64 r2, .int .i64 r3] (by refine ⟨?_, ?_, ?_, ?_, ?_, ?_, ?_, ?_, ?_, ?_, ?_, ?_, trivial⟩ <;> exact byCT)
      have hzs9 := blocks_calls hb22 [wp.heap.size, (wp.heap.size + 1), wr1.heap.size] (by refine ⟨?_, ?_, ?_, trivial⟩ <;> first | with_reducible assumption | omega | (simp; omega) | (simp; done))
      try clear c00 c01 c02 c03
      try clear c10 c11 c12 c13
      try clear c20 c21 c22 c23
      obtain ⟨c00, c01, c02, c03, c10, c11, c12, c13, c20, c21, c22, c23, -⟩ := hcs9
      obtain ⟨z0, z1, z2, -⟩ := hzs9
      have gr2 : Below w.heap.size w wr2 := byGG
      have hs22 := hb22.size
      simp only [World.size_alloc] at hs22
      clear hb22
      rcases hcs with rfl | ⟨rfl, heu, ⟨r00, r01⟩, ⟨r10, r11⟩, ⟨r20, r21⟩, ⟨r30, r31⟩⟩
      · go_wp2
        go_ret
        exact ⟨rfl, byGG⟩
      · obtain ⟨b1, b2, b3, b4, b5, b6, b7, b8⟩ := unhide HBD
        obtain ⟨s10, s11⟩ := sq_bd b1
        obtain ⟨s20, s21⟩ := sq_bd b2
        obtain ⟨s30, s31⟩ := sq_bd b3
        obtain ⟨s40, s41⟩ := sq_bd b4
        obtain ⟨s50, s51⟩ := sq_bd b5
        obtain ⟨s60, s61⟩ := sq_bd b6
        obtain ⟨s70, s71⟩ := sq_bd b7
        obtain ⟨s80, s81⟩ := sq_bd b8
        clear b1 b2 b3 b4 b5 b6 b7 b8
        go_wp2
        go_ret
        exact ⟨rfl, byGG⟩
    · have hnp : 0 < n := hn1.1
      have HDD := hide hD
      have HSV := hide hSV
      have HT := hide hT
      have HP := hide hP
      have HQ := hide hQ
      have HO1 := hide hO1
      have HO3 := hide hO3
      have HOKF := hide hOKF
      have HX := hide hX
      have HY := hide hY
      have HZ := hide hZ
      have HU := hide hU
      clear hD hSV hT hP hQ hO1 hO3 hOKF hX hY hZ hU
      go_wp2_with fail
      refine (implDivisorsA n D _ hn1 (unhide HDD)).mono ?_
      rintro e10 w10 ⟨a10, c10, rfl, hI, hb10⟩
      have gw10 : Below w.heap.size w w10 := gw4.trans (hb10.mono gw4.size)
      clear hb10
      have hmem : ∀ i, i < D.length → 0 ≤ D.getD i 0 ∧ D.getD i 0 ≤ (10000 : Int) := fun i hi => by
        have e := unhide HDD
        have := divsN_mem (n := n.toNat) (getD_mem (show i < (divsN n.toNat).length by rw [← e]; exact hi))
        rw [← e] at this
        omega
      have hlen : D.length ≤ 20000 := by rw [unhide HDD]; have := divsN_len n.toNat; have := isqN_le_self n.toNat; omega
      have hsum : ∀ k, k ≤ D.length → 0 ≤ sumN (fun i => g4 (D.getD i 0)) k ∧ sumN (fun i => g4 (D.getD i 0)) k ≤ k * 10000 := fun k hk => gsum_bd (g := g4) (M := 10000) (fun z hz => by unfold g4; split <;> omega) D hmem k hk
      have HM := hide hmem
      have HSB := hide hsum
      have HI := hide hI
      clear hmem hsum hI
      go_wp2
      go_loop [12, 66] (fun ss is => ∃ (jx : Nat) (s : Int), jx ≤ D.length ∧ is = .int .i64 (jx : Int) ∧ ss = .int .i64 s ∧ Hid (s = sumN (fun i => g4 (D.getD i 0)) jx)) (fun _ is => D.length - (intOf is).toNat)
      case atStart => exact ⟨0, 0, by omega, rfl, rfl, hide rfl⟩
      case round =>
        obtain ⟨jx, s, hj, rfl, rfl, HSS⟩ := hrel
        have hsb : 0 ≤ s ∧ s ≤ 1000000000 := by
          have h1 := unhide HSB jx hj
          rw [← unhide HSS] at h1
          have : (jx : Int) * 10000 ≤ 20000 * 10000 := Int.mul_le_mul_of_nonneg_right (by omega) (by omega)
          omega
        by_cases q : jx < D.length
        · have hci : (jx : Int) < (D.length : Int) := by omega
          rcases unhide HI with h0 | ⟨g, cap, FF, rfl, q1, q2, q3, q4, q5⟩
          · omega
          · have hc := q4.cell (i := jx) (by omega)
            rw [q5 jx q] at hc
            replace hc : w10.cell? ⟨g, jx, none⟩ = some (.int .i64 (D.getD jx 0)) := hc
            obtain ⟨d, hd⟩ : ∃ d, d = D.getD jx 0 := ⟨_, rfl⟩
            have hm := unhide HM jx q
            rw [← hd] at hc hm
            have HN : Hid (sumN (fun i => g4 (D.getD i 0)) (jx + 1) = s + g4 d) := hide (by simp only [sumN]; rw [← unhide HSS, hd])
            have htm : d.tmod 4 = d % 4 := Int.tmod_eq_emod_of_nonneg hm.1
            clear hd q5
            by_cases hz : d % 4 = 0
            · have HG : Hid (g4 d = 0) := hide (by unfold g4; rw [if_pos hz])
              go_wp2
              go_round
              case rel => exact ⟨jx + 1, s, by omega, by first | rfl | go_num, rfl, hide (by rw [unhide HN, unhide HG]; omega)⟩
              case measure => simp [intOf]; omega
            · have HG : Hid (g4 d = d) := hide (by unfold g4; rw [if_neg hz])
              go_wp2
              go_round
              case rel => exact ⟨jx + 1, s + d, by omega, by first | rfl | go_num, by first | rfl | go_num, hide (by rw [unhide HN, unhide HG])⟩
              case measure => simp [intOf]; omega
        · obtain rfl : jx = D.length := by omega
          obtain rfl : s = S := (unhide HSS).trans (unhide HSV)
          clear HSB HSS
          go_wp2_with fail
          refine (implCountTwo_b n T true _ (unhide HT) (unhide HB)).mono ?_
          rintro e11 w11 ⟨rfl, hb11⟩
          have gw11 : Below w.heap.size w w11 := gw10.trans (hb11.mono gw10.size)
          clear hb11
          go_wp2_with fail
          refine (implDC_b n 1 P true _ (unhide HP) (unhide HO1)).mono ?_
          rintro e12 w12 ⟨rfl, hb12⟩
          have gw12 : Below w.heap.size w w12 := gw11.trans (hb12.mono gw11.size)
          clear hb12
          go_wp2_with fail
          refine (implDC_b n 3 Q true _ (unhide HQ) (unhide HO3)).mono ?_
          rintro e13 w13 ⟨rfl, hb13⟩
          have gw13 : Below w.heap.size w w13 := gw12.trans (hb13.mono gw12.size)
          clear hb13
          go_wp2_with fail
          refine (implFF_b n X Y Z U true _ (unhide HX) (unhide HY) (unhide HZ) (unhide HU) (unhide HOKF)).mono ?_
          rintro e14 w14 ⟨rfl, hb14⟩
          have gw14 : Below w.heap.size w w14 := gw13.trans (hb14.mono gw13.size)
          clear hb14
          have gw15 : Below w.heap.size w (w14.alloc (.cells #[.int .i64 X, .int .i64 Y, .int .i64 Z, .int .i64 U] 32)) := gr_alloc gw14 _
          go_wp2_with fail
          refine (drawFourProduct_a v2 n2 _ ((unhide HA2).below gw15)).mono ?_
          rintro e20 wp ⟨xa, ya, za, ua, xb, yb, zb, ub, rfl, hbd, hb20⟩
          have gwp : Below w.heap.size w wp := (gw15).trans (hb20.mono (gw15).size)
          clear hb20
          obtain ⟨r0, r1, r2, r3, ok, hr0, hr1, hr2, hr3, hok, hcs⟩ := fp_cases xa ya za ua xb yb zb ub hbd
          have HR0 := hide hr0
          have HR1 := hide hr1
          have HR2 := hide hr2
          have HR3 := hide hr3
          have HOK := hide hok
          have HBD := hide hbd
          clear hr0 hr1 hr2 hr3 hok hbd
          go_wp2_with fail
          refine (implFP_b xa ya za ua xb yb zb ub r0 r1 r2 r3 ok _ (unhide HBD) (unhide HR0) (unhide HR1) (unhide HR2) (unhide HR3) (unhide HOK)).mono ?_
          rintro e21 wr1 ⟨rfl, hb21⟩
          have hcs9 := cells_calls hb21 [⟨wp.heap.size, 0, none⟩, ⟨wp.heap.size, 1, none⟩, ⟨wp.heap.size, 2, none⟩, ⟨wp.heap.size, 3, none⟩, ⟨(wp.heap.size + 1), 0, none⟩, ⟨(wp.heap.size + 1), 1, none⟩, ⟨(wp.heap.size + 1), 2, none⟩, ⟨(wp.heap.size + 1), 3, none⟩] [.int .i64 xa, .int .i64 ya, .int .i64 za, .int .i64 ua, .int .i64 xb, .int .i64 yb, .int .i64 zb, .int .i64 ub] (by refine ⟨?_, ?_, ?_, ?_, ?_, ?_, ?_, ?_, trivial⟩ <;> exact byCT)
          have hzs9 := blocks_calls hb21 [wp.heap.size, (wp.heap.size + 1)] (by refine ⟨?_, ?_, trivial⟩ <;> first | with_reducible assumption | omega | (simp; omega) | (simp; done))
          try clear c00 c01 c02 c03
          try clear c10 c11 c12 c13
          obtain ⟨c00, c01, c02, c03, c10, c11, c12, c13, -⟩ := hcs9
          obtain ⟨z0, z1, -⟩ := hzs9
          have gr1 : Below w.heap.size w wr1 := byGG
          have hs21 := hb21.size
          simp only [World.size_alloc] at hs21
          clear hb21
          go_wp2_with fail
          refine (specFP_b xa ya za ua xb yb zb ub r0 r1 r2 r3 ok _ (unhide HBD) (unhide HR0) (unhide HR1) (unhide HR2) (unhide HR3) (unhide HOK)).mono ?_
          rintro e22 wr2 ⟨rfl, hb22⟩
          have hcs9 := cells_calls hb22 [⟨wp.heap.size, 0, none⟩, ⟨wp.heap.size, 1, none⟩, ⟨wp.heap.size, 2, none⟩, ⟨wp.heap.size, 3, none⟩, ⟨(wp.heap.size + 1), 0, none⟩, ⟨(wp.heap.size + 1), 1, none⟩, ⟨(wp.heap.size + 1), 2, none⟩, ⟨(wp.heap.size + 1), 3, none⟩, ⟨wr1.heap.size, 0, none⟩, ⟨wr1.heap.size, 1, none⟩, ⟨wr1.heap.size, 2, none⟩, ⟨wr1.heap.size, 3, none⟩] [.int .i64 xa, .int .i64 ya, .int .i64 za, .int .i64 ua, .int .i64 xb, .int .i64 yb, .int .i64 zb, .int .i64 ub, .int .i64 r0, .int .i64 r1, .int .i64 r2, .int .i64 r3] (by refine ⟨?_, ?_, ?_, ?_, ?_, ?_, ?_, ?_, ?_, ?_, ?_, ?_, trivial⟩ <;> exact byCT)
          have hzs9 := blocks_calls hb22 [wp.heap.size, (wp.heap.size + 1), wr1.heap.size] (by refine ⟨?_, ?_, ?_, trivial⟩ <;> first | with_reducible assumption | omega | (simp; omega) | (simp; done))
          try clear c00 c01 c02 c03
          try clear c10 c11 c12 c13
          try clear c20 c21 c22 c23
          obtain ⟨c00, c01, c02, c03, c10, c11, c12, c13, c20, c21, c22, c23, -⟩ := hcs9
          obtain ⟨z0, z1, z2, -⟩ := hzs9
          have gr2 : Below w.heap.size w wr2 := byGG
          have hs22 := hb22.size
          simp only [World.size_alloc] at hs22
          clear hb22
          rcases hcs with rfl | ⟨rfl, heu, ⟨r00, r01⟩, ⟨r10, r11⟩, ⟨r20, r21⟩, ⟨r30, r31⟩⟩
          · go_wp2
            go_ret
            exact ⟨rfl, byGG⟩
          · obtain ⟨b1, b2, b3, b4, b5, b6, b7, b8⟩ := unhide HBD
            obtain ⟨s10, s11⟩ := sq_bd b1
            obtain ⟨s20, s21⟩ := sq_bd b2
            obtain ⟨s30, s31⟩ := sq_bd b3
            obtain ⟨s40, s41⟩ := sq_bd b4
            obtain ⟨s50, s51⟩ := sq_bd b5
            obtain ⟨s60, s61⟩ := sq_bd b6
            obtain ⟨s70, s71⟩ := sq_bd b7
            obtain ⟨s80, s81⟩ := sq_bd b8
            clear b1 b2 b3 b4 b5 b6 b7 b8
            go_wp2
            go_ret
            exact ⟨rfl, byGG⟩
end Go.Proofs.Ytpgpdccidoogcaa
