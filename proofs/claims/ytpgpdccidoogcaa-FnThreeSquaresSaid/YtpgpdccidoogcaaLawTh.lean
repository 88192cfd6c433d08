/-
  The law of three squares.
-/
import Derived.Test.YtpgpdccidoogcaaBig
import Derived.Test.YtpgpdccidoogcaaThC
namespace Go.Proofs.Ytpgpdccidoogcaa
open Go.RowKit
set_option linter.unusedVariables false
set_option linter.unusedSimpArgs false
attribute [local go_sem] q2 q3 q4 q5 q6 q7 q8 q9 q10 q11 q12

theorem implCountThree_b (n K : Int) (b : Bool) (w : World) (hK : cnt (fun m => sc m 3 m) n = K) (hb : inB n 0 10000 = b) : Calls Try.prog 17 #[.int .i64 n] w fun e w' => e = .returned (.tuple #[.int .i64 K, .bool b]) ∧ Below w.heap.size w w' := by
  subst hK hb; exact implCountThree_any n w
theorem specCountThree_b (n K : Int) (b : Bool) (w : World) (hK : cnt three n = K) (hb : inB n 0 10000 = b) : Calls Try.prog 18 #[.int .i64 n] w fun e w' => e = .returned (.tuple #[.int .i64 K, .bool b]) ∧ Below w.heap.size w w' := by
  subst hK hb; exact specCountThree_any n w
theorem implIsSum_b (n : Int) (s b : Bool) (w : World) (hs : is3 n = s) (hb : inB n 0 10000 = b) : Calls Try.prog 19 #[.int .i64 n] w fun e w' => e = .returned (.tuple #[.bool s, .bool b]) ∧ w = w' := by
  subst hs hb; exact implIsSum_any n w
theorem implFirstThree_b (n X Y Z : Int) (t : Bool) (w : World) (hX : fX (f3 n) = X) (hY : fY (f3 n) = Y) (hZ : fZ (f3 n) = Z) (ht : fOk (f3 n) = t) : Calls Try.prog 20 #[.int .i64 n] w fun e w' => e = .returned (.tuple #[.int .i64 X, .int .i64 Y, .int .i64 Z, .bool t]) ∧ w = w' := by
  subst hX hY hZ ht; exact implFirstThree_any n w
theorem implTri_b (n T : Int) (b : Bool) (w : World) (hT : cntT n = T) (hb : inB n 0 1000 = b) : Calls Try.prog 22 #[.int .i64 n] w fun e w' => e = .returned (.tuple #[.int .i64 T, .bool b]) ∧ w = w' := by
  subst hT hb; exact implCountTriangular_any n w
theorem specTri_b (n T : Int) (b : Bool) (w : World) (hT : cntT n = T) (hb : inB n 0 1000 = b) : Calls Try.prog 23 #[.int .i64 n] w fun e w' => e = .returned (.tuple #[.int .i64 T, .bool b]) ∧ w = w' := by
  subst hT hb; exact specCountTriangular_any n w
set_option maxRecDepth 100000 in
set_option maxHeartbeats 16000000 in
theorem lawThreeSquares (v1 v2 : Value) (n1 n2 : Nat) (w : World) (h1 : ArgB w v1 n1) (h2 : ArgB w v2 n2) (m1 : n1 ≤ 9223372036854775807) (m2 : n2 ≤ 9223372036854775807) :
    Calls Try.prog 4 #[v1, v2] w fun e w' => e = .returned (.bool true) ∧ Below w.heap.size w w' := by
  have HA2 := hide h2
  have HA1 := hide h1
  go_enter Try.func4, Try.ntmps4
  go_wp2_with fail
  refine (big_a v1 v2 n1 n2 w h1 h2 m1 m2).mono ?_
  rintro e0 w0 ⟨tb, rfl, rfl⟩
  clear h1 h2
  cases tb
  rotate_left
  · go_wp2
    go_ret
    exact ⟨rfl, Below.refl _ _⟩
  · go_wp2_with fail
    refine (drawCountThree_a v1 n1 w (unhide HA1)).mono ?_
    rintro e1 w1 ⟨n, rfl, gw1⟩
    obtain ⟨K, X, Y, Z, b, s, t, hK1, hK2, hb, hs, hX, hY, hZ, ht, hcs⟩ := th_cases n
    have HK1 := hide hK1
    have HK2 := hide hK2
    have HB := hide hb
    have HS := hide hs
    have HX := hide hX
    have HY := hide hY
    have HZ := hide hZ
    have HT := hide ht
    clear hK1 hK2 hb hs hX hY hZ ht
    go_wp2_with fail
    refine (implCountThree_b n K b _ (unhide HK1) (unhide HB)).mono ?_
    rintro e2 w2 ⟨rfl, hb2⟩
    have gw2 : Below w.heap.size w w2 := gw1.trans (hb2.mono gw1.size)
    clear hb2
    go_wp2_with fail
    refine (specCountThree_b n K b _ (unhide HK2) (unhide HB)).mono ?_
    rintro e3 w3 ⟨rfl, hb3⟩
    have gw3 : Below w.heap.size w w3 := gw2.trans (hb3.mono gw2.size)
    clear hb3
    go_wp2_with fail
    refine (implIsSum_b n s b _ (unhide HS) (unhide HB)).mono ?_
    rintro e4 w4 ⟨rfl, rfl⟩
    go_wp2_with fail
    refine (implFirstThree_b n X Y Z t _ (unhide HX) (unhide HY) (unhide HZ) (unhide HT)).mono ?_
    rintro e5 w5 ⟨rfl, rfl⟩
    rcases hcs with ⟨rfl, rfl, rfl, hk0⟩ | ⟨rfl, rfl, rfl, hk0⟩ | ⟨rfl, rfl, rfl, hk0, hsum, hxy, hyz, hz0, ⟨x0, x1⟩, ⟨y0, y1⟩, ⟨z0, z1⟩⟩
    all_goals
      go_wp2_with fail
      refine (drawCountTriangular_a v2 n2 _ ((unhide HA2).below gw3)).mono ?_
      rintro e6 w6 ⟨m, rfl, hb6⟩
      have gw6 : Below w.heap.size w w6 := gw3.trans (hb6.mono gw3.size)
      clear hb6
      try clear hk0 hsum hxy hyz hz0 x0 x1 y0 y1 z0 z1
      obtain ⟨T, tb, hT, htb, hcs⟩ := tr_cases m
      have HT6 := hide hT
      have HTB := hide htb
      clear hT htb
      go_wp2_with fail
      refine (implTri_b m T tb _ (unhide HT6) (unhide HTB)).mono ?_
      rintro e61 w61 ⟨rfl, rfl⟩
      go_wp2_with fail
      refine (specTri_b m T tb _ (unhide HT6) (unhide HTB)).mono ?_
      rintro e62 w62 ⟨rfl, rfl⟩
      rcases hcs with rfl | ⟨rfl, ⟨m0, m1'⟩, ⟨T0, T1⟩, hc8, hb8⟩
      · skip
        go_wp2_with fail
        refine (drawSquareSeries_a v2 n2 _ ((unhide HA2).below gw6)).mono ?_
        rintro e7 w7 ⟨s9, l9, rfl, hb7⟩
        have gw7 : Below w.heap.size w w7 := (gw6).trans (hb7.mono (gw6).size)
        clear hb7
        go_wp2_with fail
        refine (implSquareSeries_any s9 l9 _).mono ?_
        rintro e8 w8 ⟨a9, c9, rfl, st9, hb8⟩
        have gw8 : Below w.heap.size w w8 := gw7.trans (hb8.mono gw7.size)
        go_wp2_with fail
        refine (specSquareSeries_any s9 l9 _).mono ?_
        rintro e9 w9 ⟨b9, d9, rfl, st8, hb9⟩
        have gw9 : Below w.heap.size w w9 := gw8.trans (hb9.mono gw8.size)
        have stq := st9.below hb9 (Nat.le_refl _)
        have hz89 := hb9.size
        have hz78 := hb8.size
        clear st9 hb8 hb9
        go_wp2_with fail
        refine (sameInts_any a9 b9 _ _ _ _ (ssLen s9 l9) c9 d9 (ssF s9 l9) w9 (by have := ssLen_le s9 l9; omega) stq st8).mono ?_
        rintro e10 w10 ⟨rfl, k10, rfl⟩
        have gw10 : Below w.heap.size w (w9.drewN k10) := below_drewN gw9 k10
        have STQ := hide (stq.below (B := w9.heap.size) (below_drewN (Below.refl _ _) k10) hz89)
        clear stq st8
        cases hok : ssOk s9 l9
        · go_wp2
          go_ret
          exact ⟨rfl, gw10⟩
        · have HOK := hide hok
          by_cases hs3 : s9 = 3
          · have hlen := ssLen_le s9 l9
            have HV := hide (fun (i : Nat) (hi : i < ssLen s9 l9) => se_val hs3 (unhide HOK) hi)
            obtain ⟨N, hN⟩ : ∃ N, N = ssLen s9 l9 := ⟨_, rfl⟩
            obtain ⟨F, hF⟩ : ∃ F, F = ssF s9 l9 := ⟨_, rfl⟩
            have HVF : Hid (∀ i : Nat, i < N → cnt (fun m => sc m 3 m) (i : Int) = F i ∧ inB (i : Int) 0 10000 = true) := hide (by rw [hN, hF]; exact unhide HV)
            rw [← hN, ← hF] at STQ
            rw [← hN] at hlen
            rw [← hN]
            clear hN hF HV HOK
            go_wp2
            go_loopw [186] (fun is wr => ∃ jx : Nat, jx ≤ N ∧ is = .int .i64 (jx : Int) ∧ Below w.heap.size w wr ∧ Hid (IntsAt wr w7.heap.size w8.heap.size a9 N F) ∧ w8.heap.size ≤ wr.heap.size) (fun is _ => N - (intOf is).toNat)
            case atStart => exact ⟨0, by omega, rfl, gw10, STQ, hz89⟩
            case round =>
              obtain ⟨jx, hj, rfl, hb, HS, hz⟩ := hrel
              obtain ⟨wl, rfl⟩ : ∃ wl : World, wl = wr := ⟨_, rfl⟩
              by_cases q : jx < N
              · have hci : (jx : Int) < (N : Int) := by omega
                rcases unhide HS with h0 | ⟨g, cap, FF, rfl, q1, q2, q3, q4, q5⟩
                · omega
                · have hc := q4.cell (i := jx) (by omega)
                  rw [q5 jx q] at hc
                  obtain ⟨V, hV⟩ : ∃ V, V = F jx := ⟨_, rfl⟩
                  rw [← hV] at hc
                  obtain ⟨e1, e2⟩ := unhide HVF jx q
                  rw [← hV] at e1
                  have HE1 := hide e1
                  have HE2 := hide e2
                  clear hV e1 e2 q5
                  go_wp2_with fail
                  refine (implCountThree_b (jx : Int) V true _ (unhide HE1) (unhide HE2)).mono ?_
                  rintro ee w11 ⟨rfl, hb11⟩
                  go_wp2
                  go_roundw
                  case rel => exact ⟨jx + 1, by omega, by first | rfl | go_num, hb.trans (hb11.mono hb.size), hide ((unhide HS).below hb11 hz), Nat.le_trans hz hb11.size⟩
                  case measure => simp [intOf]; omega
              · obtain rfl : jx = N := by omega
                go_wp2
                go_ret
                exact ⟨rfl, hb⟩
          · go_wp2
            go_ret
            exact ⟨rfl, gw10⟩
      · have HC8 := hide hc8
        have HB8 := hide hb8
        clear hc8 hb8
        go_wp2_with fail
        refine (implCountThree_b (8 * m + 3) (8 * T) true _ (unhide HC8) (unhide HB8)).mono ?_
        rintro e63 w63 ⟨rfl, hb63⟩
        have gw63 : Below w.heap.size w w63 := gw6.trans (hb63.mono gw6.size)
        clear hb63
        go_wp2_with fail
        refine (drawSquareSeries_a v2 n2 _ ((unhide HA2).below gw63)).mono ?_
        rintro e7 w7 ⟨s9, l9, rfl, hb7⟩
        have gw7 : Below w.heap.size w w7 := (gw63).trans (hb7.mono (gw63).size)
        clear hb7
        go_wp2_with fail
        refine (implSquareSeries_any s9 l9 _).mono ?_
        rintro e8 w8 ⟨a9, c9, rfl, st9, hb8⟩
        have gw8 : Below w.heap.size w w8 := gw7.trans (hb8.mono gw7.size)
        go_wp2_with fail
        refine (specSquareSeries_any s9 l9 _).mono ?_
        rintro e9 w9 ⟨b9, d9, rfl, st8, hb9⟩
        have gw9 : Below w.heap.size w w9 := gw8.trans (hb9.mono gw8.size)
        have stq := st9.below hb9 (Nat.le_refl _)
        have hz89 := hb9.size
        have hz78 := hb8.size
        clear st9 hb8 hb9
        go_wp2_with fail
        refine (sameInts_any a9 b9 _ _ _ _ (ssLen s9 l9) c9 d9 (ssF s9 l9) w9 (by have := ssLen_le s9 l9; omega) stq st8).mono ?_
        rintro e10 w10 ⟨rfl, k10, rfl⟩
        have gw10 : Below w.heap.size w (w9.drewN k10) := below_drewN gw9 k10
        have STQ := hide (stq.below (B := w9.heap.size) (below_drewN (Below.refl _ _) k10) hz89)
        clear stq st8
        cases hok : ssOk s9 l9
        · go_wp2
          go_ret
          exact ⟨rfl, gw10⟩
        · have HOK := hide hok
          by_cases hs3 : s9 = 3
          · have hlen := ssLen_le s9 l9
            have HV := hide (fun (i : Nat) (hi : i < ssLen s9 l9) => se_val hs3 (unhide HOK) hi)
            obtain ⟨N, hN⟩ : ∃ N, N = ssLen s9 l9 := ⟨_, rfl⟩
            obtain ⟨F, hF⟩ : ∃ F, F = ssF s9 l9 := ⟨_, rfl⟩
            have HVF : Hid (∀ i : Nat, i < N → cnt (fun m => sc m 3 m) (i : Int) = F i ∧ inB (i : Int) 0 10000 = true) := hide (by rw [hN, hF]; exact unhide HV)
            rw [← hN, ← hF] at STQ
            rw [← hN] at hlen
            rw [← hN]
            clear hN hF HV HOK
            go_wp2
            go_loopw [186] (fun is wr => ∃ jx : Nat, jx ≤ N ∧ is = .int .i64 (jx : Int) ∧ Below w.heap.size w wr ∧ Hid (IntsAt wr w7.heap.size w8.heap.size a9 N F) ∧ w8.heap.size ≤ wr.heap.size) (fun is _ => N - (intOf is).toNat)
            case atStart => exact ⟨0, by omega, rfl, gw10, STQ, hz89⟩
            case round =>
              obtain ⟨jx, hj, rfl, hb, HS, hz⟩ := hrel
              obtain ⟨wl, rfl⟩ : ∃ wl : World, wl = wr := ⟨_, rfl⟩
              by_cases q : jx < N
              · have hci : (jx : Int) < (N : Int) := by omega
                rcases unhide HS with h0 | ⟨g, cap, FF, rfl, q1, q2, q3, q4, q5⟩
                · omega
                · have hc := q4.cell (i := jx) (by omega)
                  rw [q5 jx q] at hc
                  obtain ⟨V, hV⟩ : ∃ V, V = F jx := ⟨_, rfl⟩
                  rw [← hV] at hc
                  obtain ⟨e1, e2⟩ := unhide HVF jx q
                  rw [← hV] at e1
                  have HE1 := hide e1
                  have HE2 := hide e2
                  clear hV e1 e2 q5
                  go_wp2_with fail
                  refine (implCountThree_b (jx : Int) V true _ (unhide HE1) (unhide HE2)).mono ?_
                  rintro ee w11 ⟨rfl, hb11⟩
                  go_wp2
                  go_roundw
                  case rel => exact ⟨jx + 1, by omega, by first | rfl | go_num, hb.trans (hb11.mono hb.size), hide ((unhide HS).below hb11 hz), Nat.le_trans hz hb11.size⟩
                  case measure => simp [intOf]; omega
              · obtain rfl : jx = N := by omega
                go_wp2
                go_ret
                exact ⟨rfl, hb⟩
          · go_wp2
            go_ret
            exact ⟨rfl, gw10⟩
end Go.Proofs.Ytpgpdccidoogcaa
