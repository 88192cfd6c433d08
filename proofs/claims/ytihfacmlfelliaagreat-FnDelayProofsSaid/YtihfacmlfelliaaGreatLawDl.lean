/- The law of delay proofs. -/
import Derived.Test.YtihfacmlfelliaaGreatLawDlq
import Derived.BigQuiet
namespace Go.Proofs.YtihfacmlfelliaaGreat
open Go.RowKit
set_option linter.unusedVariables false
set_option linter.unusedSimpArgs false
attribute [local go_sem] q2 q3 q4 q5 q6 q7 q8 q9 q10 q11 q12

set_option maxRecDepth 100000 in
set_option maxHeartbeats 16000000 in
theorem lawDelayProofs (v1 v2 : Value) (n1 n2 : Nat) (w : World) (h1 : ArgB w v1 n1) (h2 : ArgB w v2 n2) (m1 : n1 ≤ 9223372036854775807) (m2 : n2 ≤ 9223372036854775807) :
  Calls Tryz.prog 4 #[v1, v2] w fun e w' => e = .returned (.bool true) ∧ Below w.heap.size w w' := by
 have HA1 := hide h1
 have HA2 := hide h2
 go_enter Tryz.func4, Tryz.ntmps4
 go_wp2_with fail
 refine (big_a v1 v2 n1 n2 w h1 h2 m1 m2).mono ?_
 rintro e0 w0 ⟨tb, rfl, rfl⟩
 clear h1 h2
 cases tb
 rotate_left
 ·go_wp2
  go_ret
  exact ⟨rfl, Below.refl _ _⟩
 ·go_wp2_with fail
  refine (drawDP_a v1 n1 w (unhide HA1)).mono ?_
  rintro e1 w1 ⟨f0, f1, f2, t, rfl, p1, p2, gw1⟩
  have IF : Hid (I64T (f0, f1, f2)) := hide p1
  clear p1 p2
  obtain ⟨G, hG⟩ : ∃ G, srV (f0, f1, f2) t = G := ⟨_, rfl⟩
  obtain ⟨P, hP⟩ : ∃ P, dpV (f0, f1, f2) t = P := ⟨_, rfl⟩
  obtain ⟨b, hb⟩ : ∃ b, srB (f0, f1, f2) t = b := ⟨_, rfl⟩
  obtain ⟨g0, g1, g2⟩ := G
  obtain ⟨p0, p1, p2⟩ := P
  have HG2 := hide hG
  have HP2 := hide hP
  have HB2 := hide hb
  cases b
  ·clear hG hP hb
   go_wp2_with fail
   refine (dlI (f0, f1, f2) (g0, g1, g2) (p0, p1, p2) t false _ (unhide IF) (unhide HG2) (unhide HP2) (unhide HB2)).mono ?_
   rintro en w2 ⟨rfl, hb2⟩
   have tq0 := Ri3.c hb2 w1.heap.size f0 f1 f2
   try clear c00 c01 c02
   obtain ⟨c00, c01, c02, z0⟩ := tq0
   have gw2 : Below w.heap.size w w2 := byGG
   clear hb2
   go_wp2_with fail
   refine (dlS (f0, f1, f2) (g0, g1, g2) (p0, p1, p2) t false _ (unhide HG2) (unhide HP2) (unhide HB2)).mono ?_
   rintro en w3 ⟨rfl, hb3⟩
   have tq0 := Ri3.c hb3 w1.heap.size f0 f1 f2
   have tq1 := Ri3.c hb3 w2.heap.size g0 g1 g2
   have tq2 := Ri3.c hb3 (w2.heap.size + 1) p0 p1 p2
   try clear c00 c01 c02
   try clear c10 c11 c12
   try clear c20 c21 c22
   obtain ⟨c00, c01, c02, z0⟩ := tq0
   obtain ⟨c10, c11, c12, z1⟩ := tq1
   obtain ⟨c20, c21, c22, z2⟩ := tq2
   have gw3 : Below w.heap.size w w3 := byGG
   clear hb3
   clear HG2 HP2 HB2
   go_wp2_with fail
   refine (drawHP_a v2 n2 _ ((unhide HA2).below byGG)).mono ?_
   rintro en w4 ⟨u0, u1, u2, k, rfl, pu, _, hb4⟩
   have gw4 : Below w.heap.size w w4 := byGG
   clear hb4
   have IU : Hid (I64T (u0, u1, u2)) := hide pu
   clear pu
   obtain ⟨Y, hY⟩ : ∃ Y, hpV (u0, u1, u2) k = Y := ⟨_, rfl⟩
   obtain ⟨N, hN⟩ : ∃ N, hpN (u0, u1, u2) k = N := ⟨_, rfl⟩
   obtain ⟨f, hF⟩ : ∃ f, hpF (u0, u1, u2) k = f := ⟨_, rfl⟩
   obtain ⟨b, hB⟩ : ∃ b, hpB (u0, u1, u2) k = b := ⟨_, rfl⟩
   have HNb : Hid (N ≤ 100000000) := hide (by rw [← hN]; exact hpN_le _ _)
   obtain ⟨y0, y1, y2⟩ := Y
   cases b
   ·have HY := hide hY
    have HN := hide hN
    have HF := hide hF
    have HB := hide hB
    clear hY hN hF hB
    go_wp2_with fail
    refine (hpI (u0, u1, u2) (y0, y1, y2) k N f false _ (unhide IU) (unhide HY) (unhide HN) (unhide HF) (unhide HB)).mono ?_
    rintro en w5 ⟨ga, ca, rfl, hf, hb5, hga⟩
    have tq0 := Ri3.c hb5 w4.heap.size u0 u1 u2
    try clear c00 c01 c02
    obtain ⟨c00, c01, c02, z0⟩ := tq0
    have gw5 : Below w.heap.size w w5 := byGG
    clear hb5
    have HFA := hide (And.intro hf hga)
    clear hf hga
    go_wp2_with fail
    refine (hpS_ (u0, u1, u2) (y0, y1, y2) k N f false _ (unhide HY) (unhide HN) (unhide HF) (unhide HB)).mono ?_
    rintro en w6 ⟨a2, c2, rfl, hf2, hb6⟩
    have tq0 := Ri3.c hb6 w4.heap.size u0 u1 u2
    have tq1 := Ri3.c hb6 w5.heap.size y0 y1 y2
    try clear c00 c01 c02
    try clear c10 c11 c12
    obtain ⟨c00, c01, c02, z0⟩ := tq0
    obtain ⟨c10, c11, c12, z1⟩ := tq1
    have gw6 : Below w.heap.size w w6 := byGG
    have HFB : Hid (FormsAt w6 _ _ _ N f ∧ ga < w6.heap.size) := hide ⟨((unhide HFA).1.bl (Nat.le_refl _) (below_alloc_self _ _)).bl (by simp) hb6, by have := hb6.size; have := (unhide HFA).2; simp at *; omega⟩
    have HFC := hide hf2
    clear hf2
    clear hb6
    go_wp2_with fail
    refine (qForms_any (some ⟨ga, 0, none⟩) a2 _ _ _ _ N ca c2 f _ (unhide HNb) ((unhide HFB).1.bl' (unhide HFB).2 (below_alloc_self _ _)) ((unhide HFC).bl (Nat.le_refl _) (below_alloc_self _ _))).mono ?_
    rintro en w7 ⟨rfl, hb7⟩
    have tq0 := Ri3.c hb7 w4.heap.size u0 u1 u2
    have tq1 := Ri3.c hb7 w5.heap.size y0 y1 y2
    have tq2 := Ri3.c hb7 w6.heap.size y0 y1 y2
    try clear c00 c01 c02
    try clear c10 c11 c12
    try clear c20 c21 c22
    obtain ⟨c00, c01, c02, z0⟩ := tq0
    obtain ⟨c10, c11, c12, z1⟩ := tq1
    obtain ⟨c20, c21, c22, z2⟩ := tq2
    have gw7 : Below w.heap.size w w7 := byGG
    have HFD : Hid (FsAt w7 ga N (unf f) ∧ ga < w7.heap.size) := hide ⟨fs_of ((unhide HFB).1.bl' (unhide HFB).2 (below_alloc_self _ _)) (by have := (unhide HFB).2; simp; omega) hb7, by have := hb7.size; have := (unhide HFB).2; simp at *; omega⟩
    clear hb7
    go_wp2
    go_ret
    exact ⟨rfl, byGG⟩
   ·have HT := halving_true hB
    obtain ⟨k0, k6, eN, fU, fV, fP, vb, vv, sb, sv⟩ := HT
    have HY := hide hY
    have HN := hide hN
    have HF := hide hF
    have HB := hide hB
    rw [hY] at fV vb vv sv
    have eP : hpP (u0, u1, u2) k = unf f := by rw [← hF]; rfl
    rw [eP] at fP vb vv
    have eNk : k.toNat = N := by omega
    rw [eNk] at fP vb vv
    have I1 := hide (i64_of_frm fV)
    have I2 := hide (fun i (hi : i < N) => i64_of_frm (fP i hi))
    obtain ⟨kn, rfl⟩ := Int.eq_ofNat_of_zero_le k0
    have hkn : kn ≤ 6 := by omega
    have p2 := two_pow_bd hkn
    obtain ⟨E, hE⟩ : ∃ E : Int, E = ((2 ^ kn : Nat) : Int) := ⟨_, rfl⟩
    have e2 : ((2 ^ ((kn : Int)).toNat : Nat) : Int) = E := by rw [hE]; rfl
    rw [e2] at sb sv
    have HEa : Hid (IntKind.i64.wrap (1 * 2 ^ (kn : Int).toNat) = E) := hide (by rw [hE]; exact shl_a hkn)
    have HEb : Hid (IntKind.i64.wrap (2 ^ kn) = E) := hide (by rw [hE]; exact shl_b hkn)
    have HEc : Hid (wrap64 (2 ^ kn) = E) := hide ((IntWalk.i64_left _).symm.trans (unhide HEb))
    have HN6 : Hid (N ≤ 6) := hide (by omega)
    have VB := hide vb
    have VV := hide vv
    have SB := hide sb
    have SV := hide sv
    clear hY hN hF hB eN fU fV fP vb vv sb sv eP eNk k0 k6 p2 hE e2
    go_wp2_with fail
    refine (hpI (u0, u1, u2) (y0, y1, y2) (kn : Int) N f true _ (unhide IU) (unhide HY) (unhide HN) (unhide HF) (unhide HB)).mono ?_
    rintro en w5 ⟨ga, ca, rfl, hf, hb5, hga⟩
    have tq0 := Ri3.c hb5 w4.heap.size u0 u1 u2
    try clear c00 c01 c02
    obtain ⟨c00, c01, c02, z0⟩ := tq0
    have gw5 : Below w.heap.size w w5 := byGG
    clear hb5
    have HFA := hide (And.intro hf hga)
    clear hf hga
    go_wp2_with fail
    refine (hpS_ (u0, u1, u2) (y0, y1, y2) (kn : Int) N f true _ (unhide HY) (unhide HN) (unhide HF) (unhide HB)).mono ?_
    rintro en w6 ⟨a2, c2, rfl, hf2, hb6⟩
    have tq0 := Ri3.c hb6 w4.heap.size u0 u1 u2
    have tq1 := Ri3.c hb6 w5.heap.size y0 y1 y2
    try clear c00 c01 c02
    try clear c10 c11 c12
    obtain ⟨c00, c01, c02, z0⟩ := tq0
    obtain ⟨c10, c11, c12, z1⟩ := tq1
    have gw6 : Below w.heap.size w w6 := byGG
    have HFB : Hid (FormsAt w6 _ _ _ N f ∧ ga < w6.heap.size) := hide ⟨((unhide HFA).1.bl (Nat.le_refl _) (below_alloc_self _ _)).bl (by simp) hb6, by have := hb6.size; have := (unhide HFA).2; simp at *; omega⟩
    have HFC := hide hf2
    clear hf2
    clear hb6
    go_wp2_with fail
    refine (qForms_any (some ⟨ga, 0, none⟩) a2 _ _ _ _ N ca c2 f _ (unhide HNb) ((unhide HFB).1.bl' (unhide HFB).2 (below_alloc_self _ _)) ((unhide HFC).bl (Nat.le_refl _) (below_alloc_self _ _))).mono ?_
    rintro en w7 ⟨rfl, hb7⟩
    have tq0 := Ri3.c hb7 w4.heap.size u0 u1 u2
    have tq1 := Ri3.c hb7 w5.heap.size y0 y1 y2
    have tq2 := Ri3.c hb7 w6.heap.size y0 y1 y2
    try clear c00 c01 c02
    try clear c10 c11 c12
    try clear c20 c21 c22
    obtain ⟨c00, c01, c02, z0⟩ := tq0
    obtain ⟨c10, c11, c12, z1⟩ := tq1
    obtain ⟨c20, c21, c22, z2⟩ := tq2
    have gw7 : Below w.heap.size w w7 := byGG
    have HFD : Hid (FsAt w7 ga N (unf f) ∧ ga < w7.heap.size) := hide ⟨fs_of ((unhide HFB).1.bl' (unhide HFB).2 (below_alloc_self _ _)) (by have := (unhide HFB).2; simp; omega) hb7, by have := hb7.size; have := (unhide HFB).2; simp at *; omega⟩
    clear hb7
    go_wp2_with fail
    refine (vh_y (u0, u1, u2) (y0, y1, y2) (kn : Int) N (unf f) ga ca _ (by have := unhide HN6; omega) (unhide HFD).1 (unhide HFD).2 (unhide IU) (unhide I1) (unhide I2) (unhide VV) (unhide VB)).mono ?_
    rintro en w8 ⟨rfl, hb8⟩
    have tq0 := Ri3.c hb8 w4.heap.size u0 u1 u2
    have tq1 := Ri3.c hb8 w5.heap.size y0 y1 y2
    have tq2 := Ri3.c hb8 w6.heap.size y0 y1 y2
    try clear c00 c01 c02
    try clear c10 c11 c12
    try clear c20 c21 c22
    obtain ⟨c00, c01, c02, z0⟩ := tq0
    obtain ⟨c10, c11, c12, z1⟩ := tq1
    obtain ⟨c20, c21, c22, z2⟩ := tq2
    have gw8 : Below w.heap.size w w8 := byGG
    clear hb8
    go_wp2_with fail
    refine (sr_e (u0, u1, u2) (y0, y1, y2) _ E _ (by first | exact unhide HEa | exact unhide HEb | exact unhide HEc) (unhide IU) (unhide SV) (unhide SB)).mono ?_
    rintro en w9 ⟨rfl, hb9⟩
    have tq0 := Ri3.c hb9 w4.heap.size u0 u1 u2
    have tq1 := Ri3.c hb9 w5.heap.size y0 y1 y2
    have tq2 := Ri3.c hb9 w6.heap.size y0 y1 y2
    try clear c00 c01 c02
    try clear c10 c11 c12
    try clear c20 c21 c22
    obtain ⟨c00, c01, c02, z0⟩ := tq0
    obtain ⟨c10, c11, c12, z1⟩ := tq1
    obtain ⟨c20, c21, c22, z2⟩ := tq2
    have gw9 : Below w.heap.size w w9 := byGG
    clear hb9
    go_wp2
    go_ret
    exact ⟨rfl, byGG⟩
  ·clear hG hP hb
   go_wp2_with fail
   refine (dlI (f0, f1, f2) (g0, g1, g2) (p0, p1, p2) t true _ (unhide IF) (unhide HG2) (unhide HP2) (unhide HB2)).mono ?_
   rintro en w2 ⟨rfl, hb2⟩
   have tq0 := Ri3.c hb2 w1.heap.size f0 f1 f2
   try clear c00 c01 c02
   obtain ⟨c00, c01, c02, z0⟩ := tq0
   have gw2 : Below w.heap.size w w2 := byGG
   clear hb2
   have hG := unhide HG2
   have hP := unhide HP2
   have hb := unhide HB2
   obtain ⟨fG, fP, vb, vv⟩ := delay_true hb
   rw [hG] at fG vb vv
   rw [hP] at fP vb vv
   have hsb := hb
   unfold srB at hsb
   rw [Bool.and_eq_true] at hsb
   have fF := fr_of_cl hsb.1
   obtain ⟨ht0, ht1, _⟩ := trail_end hb
   obtain ⟨tn, rfl⟩ := Int.eq_ofNat_of_zero_le ht0
   obtain ⟨X, hX⟩ : ∃ X, cmp (g0, g1, g2) (f0, f1, f2) = X := ⟨_, rfl⟩
   have fX : Frm (dT (f0, f1, f2)) X := by rw [← hX]; exact fG.cp fF
   obtain ⟨x0, x1, x2⟩ := X
   obtain ⟨u, hu⟩ : ∃ u, vdV (f0, f1, f2) (x0, x1, x2) (tn : Int) (p0, p1, p2) = u := ⟨_, rfl⟩
   obtain ⟨v, hv⟩ : ∃ v, vdB (f0, f1, f2) (x0, x1, x2) (tn : Int) (p0, p1, p2) = v := ⟨_, rfl⟩
   have IG := hide (i64_of_frm fG)
   have IP := hide (i64_of_frm fP)
   have IX := hide (i64_of_frm fX)
   have FF := hide fF
   have FG := hide fG
   have HX := hide hX
   have HU := hide hu
   have HV := hide hv
   have VB := hide vb
   have VV := hide vv
   have HG := hide hG
   have HB := hide hb
   clear hb hG hP fG fP vb vv hsb fF hX fX hu hv ht0
   have htn : tn ≤ 200 := by omega
   clear ht1
   go_wp2_with fail
   refine (dlS (f0, f1, f2) (g0, g1, g2) (p0, p1, p2) (tn : Int) true _ (unhide HG2) (unhide HP2) (unhide HB2)).mono ?_
   rintro en w3 ⟨rfl, hb3⟩
   have tq0 := Ri3.c hb3 w1.heap.size f0 f1 f2
   have tq1 := Ri3.c hb3 w2.heap.size g0 g1 g2
   have tq2 := Ri3.c hb3 (w2.heap.size + 1) p0 p1 p2
   try clear c00 c01 c02
   try clear c10 c11 c12
   try clear c20 c21 c22
   obtain ⟨c00, c01, c02, z0⟩ := tq0
   obtain ⟨c10, c11, c12, z1⟩ := tq1
   obtain ⟨c20, c21, c22, z2⟩ := tq2
   have gw3 : Below w.heap.size w w3 := byGG
   clear hb3
   go_wp2_with fail
   refine (vdI (f0, f1, f2) (g0, g1, g2) (p0, p1, p2) (tn : Int) true true _ (unhide IF) (unhide IG) (unhide IP) (unhide VV) (unhide VB)).mono ?_
   rintro en w4 ⟨rfl, hb4⟩
   have tq0 := Ri3.c hb4 w1.heap.size f0 f1 f2
   have tq1 := Ri3.c hb4 w2.heap.size g0 g1 g2
   have tq2 := Ri3.c hb4 (w2.heap.size + 1) p0 p1 p2
   have tq3 := Ri3.c hb4 w3.heap.size g0 g1 g2
   have tq4 := Ri3.c hb4 (w3.heap.size + 1) p0 p1 p2
   try clear c00 c01 c02
   try clear c10 c11 c12
   try clear c20 c21 c22
   try clear c30 c31 c32
   try clear c40 c41 c42
   obtain ⟨c00, c01, c02, z0⟩ := tq0
   obtain ⟨c10, c11, c12, z1⟩ := tq1
   obtain ⟨c20, c21, c22, z2⟩ := tq2
   obtain ⟨c30, c31, c32, z3⟩ := tq3
   obtain ⟨c40, c41, c42, z4⟩ := tq4
   have gw4 : Below w.heap.size w w4 := byGG
   clear hb4
   go_wp2_with fail
   refine (st_y (f0, f1, f2) (g0, g1, g2) tn _ (unhide IF) (unhide HB) (unhide HG)).mono ?_
   rintro en w5 ⟨gt, ct, rfl, dt, hb5⟩
   have tq0 := Ri3.c hb5 w1.heap.size f0 f1 f2
   have tq1 := Ri3.c hb5 w2.heap.size g0 g1 g2
   have tq2 := Ri3.c hb5 (w2.heap.size + 1) p0 p1 p2
   have tq3 := Ri3.c hb5 w3.heap.size g0 g1 g2
   have tq4 := Ri3.c hb5 (w3.heap.size + 1) p0 p1 p2
   try clear c00 c01 c02
   try clear c10 c11 c12
   try clear c20 c21 c22
   try clear c30 c31 c32
   try clear c40 c41 c42
   obtain ⟨c00, c01, c02, z0⟩ := tq0
   obtain ⟨c10, c11, c12, z1⟩ := tq1
   obtain ⟨c20, c21, c22, z2⟩ := tq2
   obtain ⟨c30, c31, c32, z3⟩ := tq3
   obtain ⟨c40, c41, c42, z4⟩ := tq4
   have gw5 : Below w.heap.size w w5 := byGG
   clear hb5
   go_wp2_with fail
   refine (composeF_y (g0, g1, g2) (f0, f1, f2) (x0, x1, x2) _ (unhide FG) (unhide FF) (unhide HX)).mono ?_
   rintro en w6 ⟨rfl, hb6⟩
   have tq0 := Ri3.c hb6 w1.heap.size f0 f1 f2
   have tq1 := Ri3.c hb6 w2.heap.size g0 g1 g2
   have tq2 := Ri3.c hb6 (w2.heap.size + 1) p0 p1 p2
   have tq3 := Ri3.c hb6 w3.heap.size g0 g1 g2
   have tq4 := Ri3.c hb6 (w3.heap.size + 1) p0 p1 p2
   try clear c00 c01 c02
   try clear c10 c11 c12
   try clear c20 c21 c22
   try clear c30 c31 c32
   try clear c40 c41 c42
   obtain ⟨c00, c01, c02, z0⟩ := tq0
   obtain ⟨c10, c11, c12, z1⟩ := tq1
   obtain ⟨c20, c21, c22, z2⟩ := tq2
   obtain ⟨c30, c31, c32, z3⟩ := tq3
   obtain ⟨c40, c41, c42, z4⟩ := tq4
   have gw6 : Below w.heap.size w w6 := byGG
   have dd : w6.cell? ⟨gt, tn * 3, none⟩ = some (.int .i64 g0) ∧ w6.cell? ⟨gt, tn * 3 + 1, none⟩ = some (.int .i64 g1) ∧ w6.cell? ⟨gt, tn * 3 + 2, none⟩ = some (.int .i64 g2) := ⟨cell_call hb6 dt.1, cell_call hb6 dt.2.1, cell_call hb6 dt.2.2⟩
   obtain ⟨d0, d1, d2⟩ := dd
   clear dt
   clear hb6
   have hti : (tn : Int) < ((tn + 1 : Nat) : Int) := by omega
   have hti0 : 0 ≤ (tn : Int) := by omega
   have hgt := World.block_lt_of_cell? _ _ d0
   go_wp2_with fail
   go_quiet (fail)
   go_wp2_with fail
   refine (vdI (f0, f1, f2) (x0, x1, x2) (p0, p1, p2) (tn : Int) u v _ (unhide IF) (unhide IX) (unhide IP) (unhide HU) (unhide HV)).mono ?_
   rintro en w7 ⟨rfl, hb7⟩
   have tq0 := Ri3.c hb7 w1.heap.size f0 f1 f2
   have tq1 := Ri3.c hb7 w2.heap.size g0 g1 g2
   have tq2 := Ri3.c hb7 (w2.heap.size + 1) p0 p1 p2
   have tq3 := Ri3.c hb7 w3.heap.size g0 g1 g2
   have tq4 := Ri3.c hb7 (w3.heap.size + 1) p0 p1 p2
   have tq5 := Ri3.c hb7 w6.heap.size x0 x1 x2
   try clear c00 c01 c02
   try clear c10 c11 c12
   try clear c20 c21 c22
   try clear c30 c31 c32
   try clear c40 c41 c42
   try clear c50 c51 c52
   obtain ⟨c00, c01, c02, z0⟩ := tq0
   obtain ⟨c10, c11, c12, z1⟩ := tq1
   obtain ⟨c20, c21, c22, z2⟩ := tq2
   obtain ⟨c30, c31, c32, z3⟩ := tq3
   obtain ⟨c40, c41, c42, z4⟩ := tq4
   obtain ⟨c50, c51, c52, z5⟩ := tq5
   have gw7 : Below w.heap.size w w7 := byGG
   clear hb7
   go_wp2_with fail
   refine (vdS (f0, f1, f2) (x0, x1, x2) (p0, p1, p2) (tn : Int) u v _ (unhide HU) (unhide HV)).mono ?_
   rintro en w8 ⟨rfl, hb8⟩
   have tq0 := Ri3.c hb8 w1.heap.size f0 f1 f2
   have tq1 := Ri3.c hb8 w2.heap.size g0 g1 g2
   have tq2 := Ri3.c hb8 (w2.heap.size + 1) p0 p1 p2
   have tq3 := Ri3.c hb8 w3.heap.size g0 g1 g2
   have tq4 := Ri3.c hb8 (w3.heap.size + 1) p0 p1 p2
   have tq5 := Ri3.c hb8 w6.heap.size x0 x1 x2
   try clear c00 c01 c02
   try clear c10 c11 c12
   try clear c20 c21 c22
   try clear c30 c31 c32
   try clear c40 c41 c42
   try clear c50 c51 c52
   obtain ⟨c00, c01, c02, z0⟩ := tq0
   obtain ⟨c10, c11, c12, z1⟩ := tq1
   obtain ⟨c20, c21, c22, z2⟩ := tq2
   obtain ⟨c30, c31, c32, z3⟩ := tq3
   obtain ⟨c40, c41, c42, z4⟩ := tq4
   obtain ⟨c50, c51, c52, z5⟩ := tq5
   have gw8 : Below w.heap.size w w8 := byGG
   clear hb8
   clear IG IP IX FF FG HX HU HV VB VV HG HB HG2 HP2 HB2
   go_wp2_with fail
   refine (drawHP_a v2 n2 _ ((unhide HA2).below byGG)).mono ?_
   rintro en w9 ⟨u0, u1, u2, k, rfl, pu, _, hb9⟩
   have gw9 : Below w.heap.size w w9 := byGG
   clear hb9
   have IU : Hid (I64T (u0, u1, u2)) := hide pu
   clear pu
   obtain ⟨Y, hY⟩ : ∃ Y, hpV (u0, u1, u2) k = Y := ⟨_, rfl⟩
   obtain ⟨N, hN⟩ : ∃ N, hpN (u0, u1, u2) k = N := ⟨_, rfl⟩
   obtain ⟨f, hF⟩ : ∃ f, hpF (u0, u1, u2) k = f := ⟨_, rfl⟩
   obtain ⟨b, hB⟩ : ∃ b, hpB (u0, u1, u2) k = b := ⟨_, rfl⟩
   have HNb : Hid (N ≤ 100000000) := hide (by rw [← hN]; exact hpN_le _ _)
   obtain ⟨y0, y1, y2⟩ := Y
   cases b
   ·have HY := hide hY
    have HN := hide hN
    have HF := hide hF
    have HB := hide hB
    clear hY hN hF hB
    go_wp2_with fail
    refine (hpI (u0, u1, u2) (y0, y1, y2) k N f false _ (unhide IU) (unhide HY) (unhide HN) (unhide HF) (unhide HB)).mono ?_
    rintro en w10 ⟨ga, ca, rfl, hf, hb10, hga⟩
    have tq0 := Ri3.c hb10 w9.heap.size u0 u1 u2
    try clear c00 c01 c02
    obtain ⟨c00, c01, c02, z0⟩ := tq0
    have gw10 : Below w.heap.size w w10 := byGG
    clear hb10
    have HFA := hide (And.intro hf hga)
    clear hf hga
    go_wp2_with fail
    refine (hpS_ (u0, u1, u2) (y0, y1, y2) k N f false _ (unhide HY) (unhide HN) (unhide HF) (unhide HB)).mono ?_
    rintro en w11 ⟨a2, c2, rfl, hf2, hb11⟩
    have tq0 := Ri3.c hb11 w9.heap.size u0 u1 u2
    have tq1 := Ri3.c hb11 w10.heap.size y0 y1 y2
    try clear c00 c01 c02
    try clear c10 c11 c12
    obtain ⟨c00, c01, c02, z0⟩ := tq0
    obtain ⟨c10, c11, c12, z1⟩ := tq1
    have gw11 : Below w.heap.size w w11 := byGG
    have HFB : Hid (FormsAt w11 _ _ _ N f ∧ ga < w11.heap.size) := hide ⟨((unhide HFA).1.bl (Nat.le_refl _) (below_alloc_self _ _)).bl (by simp) hb11, by have := hb11.size; have := (unhide HFA).2; simp at *; omega⟩
    have HFC := hide hf2
    clear hf2
    clear hb11
    go_wp2_with fail
    refine (qForms_any (some ⟨ga, 0, none⟩) a2 _ _ _ _ N ca c2 f _ (unhide HNb) ((unhide HFB).1.bl' (unhide HFB).2 (below_alloc_self _ _)) ((unhide HFC).bl (Nat.le_refl _) (below_alloc_self _ _))).mono ?_
    rintro en w12 ⟨rfl, hb12⟩
    have tq0 := Ri3.c hb12 w9.heap.size u0 u1 u2
    have tq1 := Ri3.c hb12 w10.heap.size y0 y1 y2
    have tq2 := Ri3.c hb12 w11.heap.size y0 y1 y2
    try clear c00 c01 c02
    try clear c10 c11 c12
    try clear c20 c21 c22
    obtain ⟨c00, c01, c02, z0⟩ := tq0
    obtain ⟨c10, c11, c12, z1⟩ := tq1
    obtain ⟨c20, c21, c22, z2⟩ := tq2
    have gw12 : Below w.heap.size w w12 := byGG
    have HFD : Hid (FsAt w12 ga N (unf f) ∧ ga < w12.heap.size) := hide ⟨fs_of ((unhide HFB).1.bl' (unhide HFB).2 (below_alloc_self _ _)) (by have := (unhide HFB).2; simp; omega) hb12, by have := hb12.size; have := (unhide HFB).2; simp at *; omega⟩
    clear hb12
    go_wp2
    go_ret
    exact ⟨rfl, byGG⟩
   ·have HT := halving_true hB
    obtain ⟨k0, k6, eN, fU, fV, fP, vb, vv, sb, sv⟩ := HT
    have HY := hide hY
    have HN := hide hN
    have HF := hide hF
    have HB := hide hB
    rw [hY] at fV vb vv sv
    have eP : hpP (u0, u1, u2) k = unf f := by rw [← hF]; rfl
    rw [eP] at fP vb vv
    have eNk : k.toNat = N := by omega
    rw [eNk] at fP vb vv
    have I1 := hide (i64_of_frm fV)
    have I2 := hide (fun i (hi : i < N) => i64_of_frm (fP i hi))
    obtain ⟨kn, rfl⟩ := Int.eq_ofNat_of_zero_le k0
    have hkn : kn ≤ 6 := by omega
    have p2 := two_pow_bd hkn
    obtain ⟨E, hE⟩ : ∃ E : Int, E = ((2 ^ kn : Nat) : Int) := ⟨_, rfl⟩
    have e2 : ((2 ^ ((kn : Int)).toNat : Nat) : Int) = E := by rw [hE]; rfl
    rw [e2] at sb sv
    have HEa : Hid (IntKind.i64.wrap (1 * 2 ^ (kn : Int).toNat) = E) := hide (by rw [hE]; exact shl_a hkn)
    have HEb : Hid (IntKind.i64.wrap (2 ^ kn) = E) := hide (by rw [hE]; exact shl_b hkn)
    have HEc : Hid (wrap64 (2 ^ kn) = E) := hide ((IntWalk.i64_left _).symm.trans (unhide HEb))
    have HN6 : Hid (N ≤ 6) := hide (by omega)
    have VB := hide vb
    have VV := hide vv
    have SB := hide sb
    have SV := hide sv
    clear hY hN hF hB eN fU fV fP vb vv sb sv eP eNk k0 k6 p2 hE e2
    go_wp2_with fail
    refine (hpI (u0, u1, u2) (y0, y1, y2) (kn : Int) N f true _ (unhide IU) (unhide HY) (unhide HN) (unhide HF) (unhide HB)).mono ?_
    rintro en w10 ⟨ga, ca, rfl, hf, hb10, hga⟩
    have tq0 := Ri3.c hb10 w9.heap.size u0 u1 u2
    try clear c00 c01 c02
    obtain ⟨c00, c01, c02, z0⟩ := tq0
    have gw10 : Below w.heap.size w w10 := byGG
    clear hb10
    have HFA := hide (And.intro hf hga)
    clear hf hga
    go_wp2_with fail
    refine (hpS_ (u0, u1, u2) (y0, y1, y2) (kn : Int) N f true _ (unhide HY) (unhide HN) (unhide HF) (unhide HB)).mono ?_
    rintro en w11 ⟨a2, c2, rfl, hf2, hb11⟩
    have tq0 := Ri3.c hb11 w9.heap.size u0 u1 u2
    have tq1 := Ri3.c hb11 w10.heap.size y0 y1 y2
    try clear c00 c01 c02
    try clear c10 c11 c12
    obtain ⟨c00, c01, c02, z0⟩ := tq0
    obtain ⟨c10, c11, c12, z1⟩ := tq1
    have gw11 : Below w.heap.size w w11 := byGG
    have HFB : Hid (FormsAt w11 _ _ _ N f ∧ ga < w11.heap.size) := hide ⟨((unhide HFA).1.bl (Nat.le_refl _) (below_alloc_self _ _)).bl (by simp) hb11, by have := hb11.size; have := (unhide HFA).2; simp at *; omega⟩
    have HFC := hide hf2
    clear hf2
    clear hb11
    go_wp2_with fail
    refine (qForms_any (some ⟨ga, 0, none⟩) a2 _ _ _ _ N ca c2 f _ (unhide HNb) ((unhide HFB).1.bl' (unhide HFB).2 (below_alloc_self _ _)) ((unhide HFC).bl (Nat.le_refl _) (below_alloc_self _ _))).mono ?_
    rintro en w12 ⟨rfl, hb12⟩
    have tq0 := Ri3.c hb12 w9.heap.size u0 u1 u2
    have tq1 := Ri3.c hb12 w10.heap.size y0 y1 y2
    have tq2 := Ri3.c hb12 w11.heap.size y0 y1 y2
    try clear c00 c01 c02
    try clear c10 c11 c12
    try clear c20 c21 c22
    obtain ⟨c00, c01, c02, z0⟩ := tq0
    obtain ⟨c10, c11, c12, z1⟩ := tq1
    obtain ⟨c20, c21, c22, z2⟩ := tq2
    have gw12 : Below w.heap.size w w12 := byGG
    have HFD : Hid (FsAt w12 ga N (unf f) ∧ ga < w12.heap.size) := hide ⟨fs_of ((unhide HFB).1.bl' (unhide HFB).2 (below_alloc_self _ _)) (by have := (unhide HFB).2; simp; omega) hb12, by have := hb12.size; have := (unhide HFB).2; simp at *; omega⟩
    clear hb12
    go_wp2_with fail
    refine (vh_y (u0, u1, u2) (y0, y1, y2) (kn : Int) N (unf f) ga ca _ (by have := unhide HN6; omega) (unhide HFD).1 (unhide HFD).2 (unhide IU) (unhide I1) (unhide I2) (unhide VV) (unhide VB)).mono ?_
    rintro en w13 ⟨rfl, hb13⟩
    have tq0 := Ri3.c hb13 w9.heap.size u0 u1 u2
    have tq1 := Ri3.c hb13 w10.heap.size y0 y1 y2
    have tq2 := Ri3.c hb13 w11.heap.size y0 y1 y2
    try clear c00 c01 c02
    try clear c10 c11 c12
    try clear c20 c21 c22
    obtain ⟨c00, c01, c02, z0⟩ := tq0
    obtain ⟨c10, c11, c12, z1⟩ := tq1
    obtain ⟨c20, c21, c22, z2⟩ := tq2
    have gw13 : Below w.heap.size w w13 := byGG
    clear hb13
    go_wp2_with fail
    refine (sr_e (u0, u1, u2) (y0, y1, y2) _ E _ (by first | exact unhide HEa | exact unhide HEb | exact unhide HEc) (unhide IU) (unhide SV) (unhide SB)).mono ?_
    rintro en w14 ⟨rfl, hb14⟩
    have tq0 := Ri3.c hb14 w9.heap.size u0 u1 u2
    have tq1 := Ri3.c hb14 w10.heap.size y0 y1 y2
    have tq2 := Ri3.c hb14 w11.heap.size y0 y1 y2
    try clear c00 c01 c02
    try clear c10 c11 c12
    try clear c20 c21 c22
    obtain ⟨c00, c01, c02, z0⟩ := tq0
    obtain ⟨c10, c11, c12, z1⟩ := tq1
    obtain ⟨c20, c21, c22, z2⟩ := tq2
    have gw14 : Below w.heap.size w w14 := byGG
    clear hb14
    go_wp2
    go_ret
    exact ⟨rfl, byGG⟩
end Go.Proofs.YtihfacmlfelliaaGreat
