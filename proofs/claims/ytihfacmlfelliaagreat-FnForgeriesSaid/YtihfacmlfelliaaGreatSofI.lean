/- SmallOrderForgery (impl). -/
import Derived.Test.YtihfacmlfelliaaGreatSof
namespace Go.Proofs.YtihfacmlfelliaaGreat
open Go.RowKit
set_option linter.unusedVariables false
set_option linter.unusedSimpArgs false
attribute [local go_sem] q2 q3 q4 q5 q6 q7 q8 q9 q10 q11 q12

set_option maxRecDepth 100000 in
set_option maxHeartbeats 8000000 in
theorem implSmallOrderForgery (F : T3) (t : Int) (W : T3) (w : World) (i0 : I64T F) (i1 : I64T W) : Calls Tryz.prog 7 #[frm F, .int .i64 t, frm W] w fun e w' => e = .returned (.tuple #[frm (soX F t W), frm (soY F t W), .bool (soB F t W)]) ∧ Below w.heap.size w w' := by
 cases k0 : prB F W
 ·have HV : Hid ((.tuple #[frm (soX F t W), frm (soY F t W), .bool (soB F t W)] : Value) = .tuple #[.agg #[.int .i64 0, .int .i64 0, .int .i64 0], .agg #[.int .i64 0, .int .i64 0, .int .i64 0], .bool false]) := hide (so_no (by simp [soK, k0]))

  go_enter Tryz.func7, Tryz.ntmps7
  go_wp2_with fail
  refine (arePair_p F W _ i0 i1).mono ?_
  rintro en w1 ⟨rfl, hb1⟩
  have tq0 := Ri3.c hb1 w.heap.size F.1 F.2.1 F.2.2
  have tq1 := Ri3.c hb1 (w.heap.size + 1) W.1 W.2.1 W.2.2
  have tq2 := Wi3.c hb1 (w.heap.size + 1 + 1) 0 0 0
  have tq3 := Wi3.c hb1 (w.heap.size + 1 + 1 + 1) 0 0 0
  try clear c00 c01 c02
  try clear c10 c11 c12
  try clear c20 c21 c22 f20 f21 f22
  try clear c30 c31 c32 f30 f31 f32
  obtain ⟨c00, c01, c02, z0⟩ := tq0
  obtain ⟨c10, c11, c12, z1⟩ := tq1
  obtain ⟨c20, c21, c22, f20, f21, f22, z2⟩ := tq2
  obtain ⟨c30, c31, c32, f30, f31, f32, z3⟩ := tq3
  have hs1 := hb1.size
  have o10 := z0
  have o11 := z1
  have o12 := z2
  have o13 := z3
  rw [k0]
  go_wp2
  refine bodyPost_ret (v := .tuple #[.agg #[.int .i64 0, .int .i64 0, .int .i64 0], .agg #[.int .i64 0, .int .i64 0, .int .i64 0], .bool false]) (by simp [results, Tryz.results7, go_sem, *]) rfl ?_
  exact ⟨by rw [unhide HV], byGG⟩
 ·obtain ⟨hF, hW⟩ := pr_true k0
  have hdd := hF.dd
  cases k1 : tmB t
  ·have HV : Hid ((.tuple #[frm (soX F t W), frm (soY F t W), .bool (soB F t W)] : Value) = .tuple #[.agg #[.int .i64 0, .int .i64 0, .int .i64 0], .agg #[.int .i64 0, .int .i64 0, .int .i64 0], .bool false]) := hide (so_no (by simp [soK, k1]))

   go_enter Tryz.func7, Tryz.ntmps7
   go_wp2_with fail
   refine (arePair_p F W _ i0 i1).mono ?_
   rintro en w1 ⟨rfl, hb1⟩
   have tq0 := Ri3.c hb1 w.heap.size F.1 F.2.1 F.2.2
   have tq1 := Ri3.c hb1 (w.heap.size + 1) W.1 W.2.1 W.2.2
   have tq2 := Wi3.c hb1 (w.heap.size + 1 + 1) 0 0 0
   have tq3 := Wi3.c hb1 (w.heap.size + 1 + 1 + 1) 0 0 0
   try clear c00 c01 c02
   try clear c10 c11 c12
   try clear c20 c21 c22 f20 f21 f22
   try clear c30 c31 c32 f30 f31 f32
   obtain ⟨c00, c01, c02, z0⟩ := tq0
   obtain ⟨c10, c11, c12, z1⟩ := tq1
   obtain ⟨c20, c21, c22, f20, f21, f22, z2⟩ := tq2
   obtain ⟨c30, c31, c32, f30, f31, f32, z3⟩ := tq3
   have hs1 := hb1.size
   have o10 := z0
   have o11 := z1
   have o12 := z2
   have o13 := z3
   rw [k0]
   go_wp2_with (go_at_call 28; refine (isTime_b _ _).mono ?_; rintro e w' ⟨rfl, rfl⟩)
   refine bodyPost_ret (v := .tuple #[.agg #[.int .i64 0, .int .i64 0, .int .i64 0], .agg #[.int .i64 0, .int .i64 0, .int .i64 0], .bool false]) (by simp [results, Tryz.results7, go_sem, *]) rfl ?_
   exact ⟨by rw [unhide HV], byGG⟩
  ·have ht : 0 ≤ t ∧ t ≤ 1000000 := by have := inB_true k1; omega
   cases k2 : soI (dT F) W
   ·have HK : Hid (soK F t W = true) := hide (by simp [soK, k0, k1, k2])
    have HQ : Hid (eqT (rdT W) (onT (dT F)) = false) := hide k2
    obtain ⟨S, hS9⟩ : ∃ S, S = sqN (rdT F) t.toNat := ⟨_, rfl⟩
    have fS : Frm (dT F) S := by rw [hS9]; exact hF.sq _
    obtain ⟨G, hG⟩ : ∃ G, G = cmp S W := ⟨_, rfl⟩
    have fG : Frm (dT F) G := by rw [hG]; exact fS.cp hW
    have hGe : Hid (G = soG F t W) := hide (by rw [hG, hS9]; rfl)
    obtain ⟨L, hL⟩ : ∃ L, L = dpL F G t := ⟨_, rfl⟩
    have hLe : Hid (L = soL F t W) := hide (by rw [hL, unhide hGe]; rfl)
    have hl := dpL_bd F G t
    rw [← hL] at hl
    have hl2 : L ≤ 1000 := by omega
    obtain ⟨n, hn⟩ : ∃ n : Int, n = (odN (dT F) W : Int) := ⟨_, rfl⟩
    have hn2 : Hid (n = soN F W) := hide hn
    have hnb : 1 ≤ n ∧ n ≤ 2000 := by have := od_is hW.i; unfold IsOd at this; omega
    obtain ⟨Pq, hPq⟩ : ∃ Pq, Pq = quD (dT F) F t L := ⟨_, rfl⟩
    have fPq : Frm (dT F) Pq := by rw [hPq]; exact hF.qu _ _
    obtain ⟨V, hV0⟩ : ∃ V, V = cmp (quD (dT F) F t L) (pwD (dT F) W (invI L n)) := ⟨_, rfl⟩
    have hVe : Hid (igcd (soL F t W) (soN F W) = 1 → soV F t W = V) := hide (fun _ => by rw [hV0, unhide hLe, hn]; rfl)
    replace hS9 := hide hS9
    replace hG := hide hG
    replace hL := hide hL
    replace hn := hide hn
    replace hPq := hide hPq
    replace hV0 := hide hV0
    go_enter Tryz.func7, Tryz.ntmps7
    go_wp2_with fail
    refine (arePair_p F W _ i0 i1).mono ?_
    rintro en w1 ⟨rfl, hb1⟩
    have tq0 := Ri3.c hb1 w.heap.size F.1 F.2.1 F.2.2
    have tq1 := Ri3.c hb1 (w.heap.size + 1) W.1 W.2.1 W.2.2
    have tq2 := Wi3.c hb1 (w.heap.size + 1 + 1) 0 0 0
    have tq3 := Wi3.c hb1 (w.heap.size + 1 + 1 + 1) 0 0 0
    try clear c00 c01 c02
    try clear c10 c11 c12
    try clear c20 c21 c22 f20 f21 f22
    try clear c30 c31 c32 f30 f31 f32
    obtain ⟨c00, c01, c02, z0⟩ := tq0
    obtain ⟨c10, c11, c12, z1⟩ := tq1
    obtain ⟨c20, c21, c22, f20, f21, f22, z2⟩ := tq2
    obtain ⟨c30, c31, c32, f30, f31, f32, z3⟩ := tq3
    have hs1 := hb1.size
    have o10 := z0
    have o11 := z1
    have o12 := z2
    have o13 := z3
    rw [k0]
    go_wp2_with (go_at_call 28; refine (isTime_b _ _).mono ?_; rintro e w' ⟨rfl, rfl⟩)
    refine (isId_rw W false _ hW (unhide HQ)).mono ?_
    rintro en w2 ⟨rfl, hb2⟩
    have tq0 := Ri3.c hb2 w.heap.size F.1 F.2.1 F.2.2
    have tq1 := Ri3.c hb2 (w.heap.size + 1) W.1 W.2.1 W.2.2
    have tq2 := Wi3.c hb2 (w.heap.size + 1 + 1) 0 0 0
    have tq3 := Wi3.c hb2 (w.heap.size + 1 + 1 + 1) 0 0 0
    try clear c00 c01 c02
    try clear c10 c11 c12
    try clear c20 c21 c22 f20 f21 f22
    try clear c30 c31 c32 f30 f31 f32
    obtain ⟨c00, c01, c02, z0⟩ := tq0
    obtain ⟨c10, c11, c12, z1⟩ := tq1
    obtain ⟨c20, c21, c22, f20, f21, f22, z2⟩ := tq2
    obtain ⟨c30, c31, c32, f30, f31, f32, z3⟩ := tq3
    have hs2 := hb2.size
    have o20 := z0
    have o21 := z1
    have o22 := z2
    have o23 := z3
    go_upto_region 3 with fail
    go_cut [9] (fun s9 wx => ∃ g9 : Nat, s9 = .pointer (some ⟨g9, 0, none⟩) ∧ Ri3 wx w.heap.size F.1 F.2.1 F.2.2 ∧ Ri3 wx (w.heap.size + 1) W.1 W.2.1 W.2.2 ∧ Wi3 wx (w.heap.size + 1 + 1) 0 0 0 ∧ Wi3 wx (w.heap.size + 1 + 1 + 1) 0 0 0 ∧ Wi3 wx g9 G.1 G.2.1 G.2.2 ∧ Below w.heap.size w wx ∧ w2.heap.size ≤ g9)
    case first =>
     have h1 := trivial
     rename_i K2 h2 h3
     refine region_n0 (by kernel_rfl) (fun j => #[27,28,29,30,31,9,9].getD j 0) (fun j => Kd.ok ((fun j => match j with | 0 => Kd.val (.agg #[.int .i64 (F.1), .int .i64 (F.2.1), .int .i64 (F.2.2)]) | 1 => Kd.val (.int .i64 t) | 2 => Kd.val (.agg #[.int .i64 (S.1), .int .i64 (S.2.1), .int .i64 (S.2.2)]) | 3 => Kd.val (.agg #[.int .i64 (W.1), .int .i64 (W.2.1), .int .i64 (W.2.2)]) | 4 => Kd.val (.agg #[.int .i64 (G.1), .int .i64 (G.2.1), .int .i64 (G.2.2)]) | 5 => Kd.own (w2.heap.size) 3 | 6 => Kd.held (w2.heap.size) [.int .i64 (G.1), .int .i64 (G.2.1), .int .i64 (G.2.2)] | _ => Kd.any : Nat → Kd) j)) (Sy w (w2.heap.size) [(⟨w.heap.size, 0, none⟩, .int .i64 (F.1)), (⟨w.heap.size, 1, none⟩, .int .i64 (F.2.1)), (⟨w.heap.size, 2, none⟩, .int .i64 (F.2.2)), (⟨w.heap.size + 1, 0, none⟩, .int .i64 (W.1)), (⟨w.heap.size + 1, 1, none⟩, .int .i64 (W.2.1)), (⟨w.heap.size + 1, 2, none⟩, .int .i64 (W.2.2)), (⟨w.heap.size + 1 + 1, 0, none⟩, .int .i64 0), (⟨w.heap.size + 1 + 1, 1, none⟩, .int .i64 0), (⟨w.heap.size + 1 + 1, 2, none⟩, .int .i64 0), (⟨w.heap.size + 1 + 1 + 1, 0, none⟩, .int .i64 0), (⟨w.heap.size + 1 + 1 + 1, 1, none⟩, .int .i64 0), (⟨w.heap.size + 1 + 1 + 1, 2, none⟩, .int .i64 0)] [⟨w.heap.size + 1 + 1, 0, none⟩, ⟨w.heap.size + 1 + 1, 1, none⟩, ⟨w.heap.size + 1 + 1, 2, none⟩, ⟨w.heap.size + 1 + 1 + 1, 0, none⟩, ⟨w.heap.size + 1 + 1 + 1, 1, none⟩, ⟨w.heap.size + 1 + 1 + 1, 2, none⟩]) (by kernel_rfl) (by kernel_rfl) ?_ ?_ ?_ ?_
     ·intro j hj
      have hj2 : j < 7 := hj
      have : ∀ j, j < 7 → (#[27,28,29,30,31,9,9] : Array Nat).getD j 0 < 55 := by decide
      exact this j hj2
     ·refine Sy.drew (Sy.mk_of ?_ ?_ ?_ ?_)
      ·first | rfl | (simp; done) | (simp; omega)
      ·intro c hc
       simp only [List.mem_cons, List.not_mem_nil, or_false] at hc
       rcases hc with rfl | rfl | rfl | rfl | rfl | rfl | rfl | rfl | rfl | rfl | rfl | rfl <;> exact byCT
      ·intro p hp
       simp only [List.mem_cons, List.not_mem_nil, or_false] at hp
       rcases hp with rfl | rfl | rfl | rfl | rfl | rfl <;> exact ⟨by first | ((repeat' with_reducible (first | refine ex_set _ ?_ | refine ex_al _ ?_ | exact ⟨_, by assumption⟩)); done) | first | exact ⟨_, by assumption⟩ | assumption | (go_simp; done) | (go_simp; exact ⟨_, rfl⟩), by first | ((repeat' first | with_reducible (first | assumption | refine frz_al _ ?_ ?_ | refine frz_set _ ?_) | omega | (simp; omega)); done) | assumption | (go_simp; done)⟩
      ·(repeat' first | with_reducible (first | exact Below.refl _ _ | assumption | refine gr_alloc ?_ _ | refine below_drewN ?_ _ | refine below_drew ?_ | refine gr_call ?_ (by assumption) | refine Below.setCell ?_ ?_ _) | go_size | omega | (simp; omega))
     ·clear h1 h2 h3
      try clear c00
      try clear c01
      try clear c02
      try clear c10
      try clear c11
      try clear c12
      try clear c20
      try clear c21
      try clear c22
      try clear c30
      try clear c31
      try clear c32
      try clear f20
      try clear f21
      try clear f22
      try clear f30
      try clear f31
      try clear f32
      refine ⟨?r43x0, ?r43x1, ?r43x2, ?r43x3, ?r43x4, ?r43x5, ?r43x6, trivial⟩
      all_goals intro _ aq wx Kq hf hS hdep ev1 ev2 hK
      case' r43x0 =>
       have F3 : aq.eval (.tmp 3) = .pointer (some ⟨w.heap.size, 0, none⟩) := hf 3
       have c0 := hS.cells (⟨w.heap.size, 0, none⟩, .int .i64 (F.1)) (by simp)
       have c1 := hS.cells (⟨w.heap.size, 1, none⟩, .int .i64 (F.2.1)) (by simp)
       have c2 := hS.cells (⟨w.heap.size, 2, none⟩, .int .i64 (F.2.2)) (by simp)
      case' r43x1 =>
       have F1 : aq.eval (.tmp 1) = .int .i64 t := hf 1
      case' r43x2 =>
       have D0 : aq.eval (.tmp 27) = _ := hdep 0
       have D1 : aq.eval (.tmp 28) = _ := hdep 1
      case' r43x3 =>
       have F5 : aq.eval (.tmp 5) = .pointer (some ⟨w.heap.size + 1, 0, none⟩) := hf 5
       have c0 := hS.cells (⟨w.heap.size + 1, 0, none⟩, .int .i64 (W.1)) (by simp)
       have c1 := hS.cells (⟨w.heap.size + 1, 1, none⟩, .int .i64 (W.2.1)) (by simp)
       have c2 := hS.cells (⟨w.heap.size + 1, 2, none⟩, .int .i64 (W.2.2)) (by simp)
      case' r43x4 =>
       have D2 : aq.eval (.tmp 29) = _ := hdep 2
       have D3 : aq.eval (.tmp 30) = _ := hdep 3
      case' r43x6 =>
       have D4 : aq.eval (.tmp 31) = _ := hdep 4
       obtain ⟨gn, D5, r1, r2, r3⟩ := hdep 5
       change aq.eval (.tmp 9) = _ at D5
       obtain ⟨⟨vx0, cx0⟩, cf0⟩ := r3 0 (by decide)
       obtain ⟨⟨vx1, cx1⟩, cf1⟩ := r3 1 (by decide)
       obtain ⟨⟨vx2, cx2⟩, cf2⟩ := r3 2 (by decide)
       have D5' : tau aq 9 = _ := D5
      all_goals (clear hf hdep; unfold Oper.wp; generalize Act.eval _ = ev at *; go_simp)
      case r43x2 =>
       refine ((sq_rwi F S t _ hF.i ht.1 ht.2 (unhide hS9))).mono ?_
       rintro e w2 ⟨rfl, hb⟩
       refine hK _ _ (hS.call hb) ?_ (fun j u _ h => Kd.ok_below hb h)
       rw [if_pos (by rfl)]
       show (_ : Value) = _
       first | rfl | (refine congrArg (Value.int .i64) ?_; first | rfl | exact int_in (by omega) | exact quo_in (by omega) (by omega) (by omega) | exact rem_in (by omega) (by omega) | omega) | (simp; done) | (simp [*]; done)
      case r43x4 =>
       refine ((cm_rwi S W G _ fS.i hW.i (unhide hG))).mono ?_
       rintro e w2 ⟨rfl, hb⟩
       refine hK _ _ (hS.call hb) ?_ (fun j u _ h => Kd.ok_below hb h)
       rw [if_pos (by rfl)]
       show (_ : Value) = _
       first | rfl | (refine congrArg (Value.int .i64) ?_; first | rfl | exact int_in (by omega) | exact quo_in (by omega) (by omega) (by omega) | exact rem_in (by omega) (by omega) | omega) | (simp; done) | (simp [*]; done)
      case r43x5 =>
       refine hK _ _ (hS.call (below_alloc_self _ _)) ?_ (fun j u _ h => Kd.ok_below (below_alloc_self _ _) h)
       rw [if_pos (by rfl)]
       exact kd_new hS.size rfl
      case r43x6 =>
       refine hK undef (setAll gn 0 [.int .i64 (G.1), .int .i64 (G.2.1), .int .i64 (G.2.2)] wx) (Sy.setAll_new r1 hS) ?_ (fun j u hj h => ?_)
       ·rw [if_neg (by decide)]
        exact kd_held r1 r2 D5' r3
       ·match j, hj with
        | 0, hj | 1, hj | 2, hj | 3, hj | 4, hj => exact (show (u : Value) = _ from h)
        | 5, hj => exact Kd.ok_setAll_new (k := Kd.own (w2.heap.size) 3) rfl (fun B' cs e => by cases e) h
        | 6, hj => exact absurd rfl hj
        | j + 7, _ => trivial
      all_goals (refine hK _ _ hS ?_ (fun j u _ h => h); rw [if_pos (by rfl)]; show (_ : Value) = _; (first | rfl | (refine congrArg (Value.int .i64) ?_; first | rfl | exact int_in (by omega) | exact quo_in (by omega) (by omega) (by omega) | exact rem_in (by omega) (by omega) | omega) | (simp; done) | (simp [*]; done)))
     ·intro aq wx hd hw hf hS hg
      obtain ⟨g9, G9, r1g9, r2g9, r3g9⟩ := hg 6 (by decide)
      change tau aq 9 = _ at G9
      have haq : aq = ⟨#[tau aq 0, tau aq 1, tau aq 2, tau aq 3, tau aq 4, tau aq 5, tau aq 6, tau aq 7, tau aq 8, tau aq 9, tau aq 10, tau aq 11, tau aq 12, tau aq 13, tau aq 14, tau aq 15, tau aq 16, tau aq 17, tau aq 18, tau aq 19, tau aq 20, tau aq 21, tau aq 22, tau aq 23, tau aq 24, tau aq 25, tau aq 26, tau aq 27, tau aq 28, tau aq 29, tau aq 30, tau aq 31, tau aq 32, tau aq 33, tau aq 34, tau aq 35, tau aq 36, tau aq 37, tau aq 38, tau aq 39, tau aq 40, tau aq 41, tau aq 42, tau aq 43, tau aq 44, tau aq 45, tau aq 46, tau aq 47, tau aq 48, tau aq 49, tau aq 50, tau aq 51, tau aq 52, tau aq 53, tau aq 54], []⟩ := by
       obtain ⟨tq, dq⟩ := aq
       have h5 := arr_eq (show tq.size = 55 from hw)
       have h6 : dq = [] := hd
       subst h6
       exact congrArg (fun z => Act.mk z []) h5
      show K2 aq wx
      rw [haq, hf 0, hf 1, hf 2, hf 3, hf 4, hf 5, hf 6, hf 7, hf 8, hf 10, hf 11, hf 12, hf 13, hf 14, hf 15, hf 16, hf 17, hf 18, hf 19, hf 20, hf 21, hf 22, hf 23, hf 24, hf 25, hf 26, hf 32, hf 33, hf 34, hf 35, hf 36, hf 37, hf 38, hf 39, hf 40, hf 41, hf 42, hf 43, hf 44, hf 45, hf 46, hf 47, hf 48, hf 49, hf 50, hf 51, hf 52, hf 53, hf 54, G9]
      clear haq hf hd hw
      try dsimp only
      refine h3 _ _ ?_
      go_meet
      refine ⟨g9, rfl, Ri3.m ?_ ?_ ?_, Ri3.m ?_ ?_ ?_, Wi3.m ?_ ?_ ?_ ?_ ?_ ?_, Wi3.m ?_ ?_ ?_ ?_ ?_ ?_, Wi3.m (r3g9 0 (by simp)).1 (r3g9 1 (by simp)).1 (r3g9 2 (by simp)).1 (r3g9 0 (by simp)).2 (r3g9 1 (by simp)).2 (r3g9 2 (by simp)).2, hS.below, r1g9⟩
      all_goals first | exact hS.cells (_, _) (by simp) | exact (hS.free _ (by simp)).2
    try clear c00
    try clear c01
    try clear c02
    try clear c10
    try clear c11
    try clear c12
    try clear c20
    try clear c21
    try clear c22
    try clear c30
    try clear c31
    try clear c32
    try clear f20
    try clear f21
    try clear f22
    try clear f30
    try clear f31
    try clear f32
    obtain ⟨g9, rfl, ⟨c00, c01, c02, z0⟩, ⟨c10, c11, c12, z1⟩, ⟨c20, c21, c22, f20, f21, f22, z2⟩, ⟨c30, c31, c32, f30, f31, f32, z3⟩, ⟨c40, c41, c42, f40, f41, f42, z4⟩, hb0, ng9⟩ := hcut
    obtain ⟨wb, rfl⟩ : ∃ wb : World, wb = wc := ⟨_, rfl⟩
    go_upto_region 4 with fail
    go_cut [10, 11] (fun s10 s11 wx => s10 = .int .i64 L ∧ s11 = .int .i64 n ∧ Ri3 wx w.heap.size F.1 F.2.1 F.2.2 ∧ Ri3 wx (w.heap.size + 1) W.1 W.2.1 W.2.2 ∧ Wi3 wx (w.heap.size + 1 + 1) 0 0 0 ∧ Wi3 wx (w.heap.size + 1 + 1 + 1) 0 0 0 ∧ Wi3 wx g9 G.1 G.2.1 G.2.2 ∧ Below w.heap.size w wx)
    case first =>
     have h1 := trivial
     rename_i K2 h2 h3
     refine region_n0 (by kernel_rfl) (fun j => #[32,33,34,35,36,37,10,11].getD j 0) (fun j => Kd.ok ((fun j => match j with | 0 => Kd.val (.agg #[.int .i64 (F.1), .int .i64 (F.2.1), .int .i64 (F.2.2)]) | 1 => Kd.val (.agg #[.int .i64 (G.1), .int .i64 (G.2.1), .int .i64 (G.2.2)]) | 2 => Kd.val (.int .i64 t) | 3 => Kd.val (.int .i64 L) | 4 => Kd.val (.agg #[.int .i64 (W.1), .int .i64 (W.2.1), .int .i64 (W.2.2)]) | 5 => Kd.val (.int .i64 n) | 6 => Kd.val (.int .i64 L) | 7 => Kd.val (.int .i64 n) | _ => Kd.any : Nat → Kd) j)) (Sy w (wb.heap.size) [(⟨w.heap.size, 0, none⟩, .int .i64 (F.1)), (⟨w.heap.size, 1, none⟩, .int .i64 (F.2.1)), (⟨w.heap.size, 2, none⟩, .int .i64 (F.2.2)), (⟨w.heap.size + 1, 0, none⟩, .int .i64 (W.1)), (⟨w.heap.size + 1, 1, none⟩, .int .i64 (W.2.1)), (⟨w.heap.size + 1, 2, none⟩, .int .i64 (W.2.2)), (⟨w.heap.size + 1 + 1, 0, none⟩, .int .i64 0), (⟨w.heap.size + 1 + 1, 1, none⟩, .int .i64 0), (⟨w.heap.size + 1 + 1, 2, none⟩, .int .i64 0), (⟨w.heap.size + 1 + 1 + 1, 0, none⟩, .int .i64 0), (⟨w.heap.size + 1 + 1 + 1, 1, none⟩, .int .i64 0), (⟨w.heap.size + 1 + 1 + 1, 2, none⟩, .int .i64 0), (⟨g9, 0, none⟩, .int .i64 (G.1)), (⟨g9, 1, none⟩, .int .i64 (G.2.1)), (⟨g9, 2, none⟩, .int .i64 (G.2.2))] [⟨w.heap.size + 1 + 1, 0, none⟩, ⟨w.heap.size + 1 + 1, 1, none⟩, ⟨w.heap.size + 1 + 1, 2, none⟩, ⟨w.heap.size + 1 + 1 + 1, 0, none⟩, ⟨w.heap.size + 1 + 1 + 1, 1, none⟩, ⟨w.heap.size + 1 + 1 + 1, 2, none⟩, ⟨g9, 0, none⟩, ⟨g9, 1, none⟩, ⟨g9, 2, none⟩]) (by kernel_rfl) (by kernel_rfl) ?_ ?_ ?_ ?_
     ·intro j hj
      have hj2 : j < 8 := hj
      have : ∀ j, j < 8 → (#[32,33,34,35,36,37,10,11] : Array Nat).getD j 0 < 55 := by decide
      exact this j hj2
     ·refine Sy.drew (Sy.mk_of ?_ ?_ ?_ ?_)
      ·first | rfl | (simp; done) | (simp; omega)
      ·intro c hc
       simp only [List.mem_cons, List.not_mem_nil, or_false] at hc
       rcases hc with rfl | rfl | rfl | rfl | rfl | rfl | rfl | rfl | rfl | rfl | rfl | rfl | rfl | rfl | rfl <;> exact byCT
      ·intro p hp
       simp only [List.mem_cons, List.not_mem_nil, or_false] at hp
       rcases hp with rfl | rfl | rfl | rfl | rfl | rfl | rfl | rfl | rfl <;> exact ⟨by first | ((repeat' with_reducible (first | refine ex_set _ ?_ | refine ex_al _ ?_ | exact ⟨_, by assumption⟩)); done) | first | exact ⟨_, by assumption⟩ | assumption | (go_simp; done) | (go_simp; exact ⟨_, rfl⟩), by first | ((repeat' first | with_reducible (first | assumption | refine frz_al _ ?_ ?_ | refine frz_set _ ?_) | omega | (simp; omega)); done) | assumption | (go_simp; done)⟩
      ·(repeat' first | with_reducible (first | exact Below.refl _ _ | assumption | refine gr_alloc ?_ _ | refine below_drewN ?_ _ | refine below_drew ?_ | refine gr_call ?_ (by assumption) | refine Below.setCell ?_ ?_ _) | go_size | omega | (simp; omega))
     ·clear h1 h2 h3
      try clear c00
      try clear c01
      try clear c02
      try clear c10
      try clear c11
      try clear c12
      try clear c20
      try clear c21
      try clear c22
      try clear c30
      try clear c31
      try clear c32
      try clear c40
      try clear c41
      try clear c42
      try clear f20
      try clear f21
      try clear f22
      try clear f30
      try clear f31
      try clear f32
      try clear f40
      try clear f41
      try clear f42
      refine ⟨?r44x0, ?r44x1, ?r44x2, ?r44x3, ?r44x4, ?r44x5, ?r44x6, ?r44x7, trivial⟩
      all_goals intro _ aq wx Kq hf hS hdep ev1 ev2 hK
      case' r44x0 =>
       have F3 : aq.eval (.tmp 3) = .pointer (some ⟨w.heap.size, 0, none⟩) := hf 3
       have c0 := hS.cells (⟨w.heap.size, 0, none⟩, .int .i64 (F.1)) (by simp)
       have c1 := hS.cells (⟨w.heap.size, 1, none⟩, .int .i64 (F.2.1)) (by simp)
       have c2 := hS.cells (⟨w.heap.size, 2, none⟩, .int .i64 (F.2.2)) (by simp)
      case' r44x1 =>
       have F9 : aq.eval (.tmp 9) = .pointer (some ⟨g9, 0, none⟩) := hf 9
       have c0 := hS.cells (⟨g9, 0, none⟩, .int .i64 (G.1)) (by simp)
       have c1 := hS.cells (⟨g9, 1, none⟩, .int .i64 (G.2.1)) (by simp)
       have c2 := hS.cells (⟨g9, 2, none⟩, .int .i64 (G.2.2)) (by simp)
      case' r44x2 =>
       have F1 : aq.eval (.tmp 1) = .int .i64 t := hf 1
      case' r44x3 =>
       have D0 : aq.eval (.tmp 32) = _ := hdep 0
       have D1 : aq.eval (.tmp 33) = _ := hdep 1
       have D2 : aq.eval (.tmp 34) = _ := hdep 2
      case' r44x4 =>
       have F5 : aq.eval (.tmp 5) = .pointer (some ⟨w.heap.size + 1, 0, none⟩) := hf 5
       have c0 := hS.cells (⟨w.heap.size + 1, 0, none⟩, .int .i64 (W.1)) (by simp)
       have c1 := hS.cells (⟨w.heap.size + 1, 1, none⟩, .int .i64 (W.2.1)) (by simp)
       have c2 := hS.cells (⟨w.heap.size + 1, 2, none⟩, .int .i64 (W.2.2)) (by simp)
      case' r44x5 =>
       have D4 : aq.eval (.tmp 36) = _ := hdep 4
      case' r44x6 =>
       have D3 : aq.eval (.tmp 35) = _ := hdep 3
      case' r44x7 =>
       have D5 : aq.eval (.tmp 37) = _ := hdep 5
      all_goals (clear hf hdep; unfold Oper.wp; generalize Act.eval _ = ev at *; go_simp)
      case r44x3 =>
       refine ((ch_rxi F G t L _ hF fG ht.1 ht.2 (unhide hL))).mono ?_
       rintro e w2 ⟨rfl, hb⟩
       refine hK _ _ (hS.call hb) ?_ (fun j u _ h => Kd.ok_below hb h)
       rw [if_pos (by rfl)]
       show (_ : Value) = _
       first | rfl | (refine congrArg (Value.int .i64) ?_; first | rfl | exact int_in (by omega) | exact quo_in (by omega) (by omega) (by omega) | exact rem_in (by omega) (by omega) | omega) | (simp; done) | (simp [*]; done)
      case r44x5 =>
       refine ((or_rwi W n _ hW (unhide hn))).mono ?_
       rintro e w2 ⟨rfl, hb⟩
       refine hK _ _ (hS.call hb) ?_ (fun j u _ h => Kd.ok_below hb h)
       rw [if_pos (by rfl)]
       show (_ : Value) = _
       first | rfl | (refine congrArg (Value.int .i64) ?_; first | rfl | exact int_in (by omega) | exact quo_in (by omega) (by omega) (by omega) | exact rem_in (by omega) (by omega) | omega) | (simp; done) | (simp [*]; done)
      all_goals (refine hK _ _ hS ?_ (fun j u _ h => h); rw [if_pos (by rfl)]; show (_ : Value) = _; (first | rfl | (refine congrArg (Value.int .i64) ?_; first | rfl | exact int_in (by omega) | exact quo_in (by omega) (by omega) (by omega) | exact rem_in (by omega) (by omega) | omega) | (simp; done) | (simp [*]; done)))
     ·intro aq wx hd hw hf hS hg
      have G10 : tau aq 10 = .int .i64 L := hg 6 (by decide)
      have G11 : tau aq 11 = .int .i64 n := hg 7 (by decide)
      have haq : aq = ⟨#[tau aq 0, tau aq 1, tau aq 2, tau aq 3, tau aq 4, tau aq 5, tau aq 6, tau aq 7, tau aq 8, tau aq 9, tau aq 10, tau aq 11, tau aq 12, tau aq 13, tau aq 14, tau aq 15, tau aq 16, tau aq 17, tau aq 18, tau aq 19, tau aq 20, tau aq 21, tau aq 22, tau aq 23, tau aq 24, tau aq 25, tau aq 26, tau aq 27, tau aq 28, tau aq 29, tau aq 30, tau aq 31, tau aq 32, tau aq 33, tau aq 34, tau aq 35, tau aq 36, tau aq 37, tau aq 38, tau aq 39, tau aq 40, tau aq 41, tau aq 42, tau aq 43, tau aq 44, tau aq 45, tau aq 46, tau aq 47, tau aq 48, tau aq 49, tau aq 50, tau aq 51, tau aq 52, tau aq 53, tau aq 54], []⟩ := by
       obtain ⟨tq, dq⟩ := aq
       have h5 := arr_eq (show tq.size = 55 from hw)
       have h6 : dq = [] := hd
       subst h6
       exact congrArg (fun z => Act.mk z []) h5
      show K2 aq wx
      rw [haq, hf 0, hf 1, hf 2, hf 3, hf 4, hf 5, hf 6, hf 7, hf 8, hf 9, hf 12, hf 13, hf 14, hf 15, hf 16, hf 17, hf 18, hf 19, hf 20, hf 21, hf 22, hf 23, hf 24, hf 25, hf 26, hf 27, hf 28, hf 29, hf 30, hf 31, hf 38, hf 39, hf 40, hf 41, hf 42, hf 43, hf 44, hf 45, hf 46, hf 47, hf 48, hf 49, hf 50, hf 51, hf 52, hf 53, hf 54, G10, G11]
      clear haq hf hd hw
      try dsimp only
      refine h3 _ _ ?_
      go_meet
      refine ⟨rfl, rfl, Ri3.m ?_ ?_ ?_, Ri3.m ?_ ?_ ?_, Wi3.m ?_ ?_ ?_ ?_ ?_ ?_, Wi3.m ?_ ?_ ?_ ?_ ?_ ?_, Wi3.m ?_ ?_ ?_ ?_ ?_ ?_, hS.below⟩
      all_goals first | exact hS.cells (_, _) (by simp) | exact (hS.free _ (by simp)).2
    try clear c00
    try clear c01
    try clear c02
    try clear c10
    try clear c11
    try clear c12
    try clear c20
    try clear c21
    try clear c22
    try clear c30
    try clear c31
    try clear c32
    try clear c40
    try clear c41
    try clear c42
    try clear f20
    try clear f21
    try clear f22
    try clear f30
    try clear f31
    try clear f32
    try clear f40
    try clear f41
    try clear f42
    obtain ⟨rfl, rfl, ⟨c00, c01, c02, z0⟩, ⟨c10, c11, c12, z1⟩, ⟨c20, c21, c22, f20, f21, f22, z2⟩, ⟨c30, c31, c32, f30, f31, f32, z3⟩, ⟨c40, c41, c42, f40, f41, f42, z4⟩, hb0⟩ := hcut
    obtain ⟨wd, rfl⟩ : ∃ wd : World, wd = wc := ⟨_, rfl⟩
    by_cases kc : igcd L n = 1
    ·have kt : (igcd L n != 1) = false := by simp [kc]
     have HV : Hid ((.tuple #[frm (soX F t W), frm (soY F t W), .bool (soB F t W)] : Value) = .tuple #[frm G, frm V, .bool true]) := hide (by
      have h2 : igcd (soL F t W) (soN F W) = 1 := by rw [← unhide hLe, ← unhide hn2]; exact kc
      rw [so_yes (unhide HK) h2, ← unhide hGe, unhide hVe h2])
     obtain ⟨iv, hiv⟩ : ∃ iv, iv = invI L n := ⟨_, rfl⟩
     have hib : 0 ≤ iv ∧ iv < n := by
      have := inv_is (a := L) (m := n) (by omega) (by unfold igcd at kc; rw [Int.gcd_comm]; omega)
      rw [hiv]; exact ⟨this.1, this.2.1⟩
     obtain ⟨Pw, hPw⟩ : ∃ Pw, Pw = pwD (dT F) W iv := ⟨_, rfl⟩
     have fPw : Frm (dT F) Pw := by rw [hPw]; exact hW.pw _
     have hV : Hid (V = cmp Pq Pw) := hide (by rw [unhide hV0, ← unhide hPq, hPw, hiv])
     replace hiv := hide hiv
     replace hPw := hide hPw
     go_upto_region 7 with (go_at_call 34; refine (gcd_a L n _ (by omega) (by omega)).mono ?_; rintro e w' ⟨rfl, nq, rfl⟩)
     go_cut [8] (fun s8 wx => s8 = .bool true ∧ Ri3 wx w.heap.size F.1 F.2.1 F.2.2 ∧ Ri3 wx (w.heap.size + 1) W.1 W.2.1 W.2.2 ∧ Wi3 wx (w.heap.size + 1 + 1) G.1 G.2.1 G.2.2 ∧ Wi3 wx (w.heap.size + 1 + 1 + 1) V.1 V.2.1 V.2.2 ∧ Wi3 wx g9 G.1 G.2.1 G.2.2 ∧ Below w.heap.size w wx)
     case first =>
      have h1 := trivial
      rename_i K2 h2 h3
      refine region_n0 (by kernel_rfl) (fun j => #[44,45,46,47,48,49,50,51,52,53,54,6,7,8].getD j 0) (fun j => Kd.ok ((fun j => match j with | 0 => Kd.val (.agg #[.int .i64 (G.1), .int .i64 (G.2.1), .int .i64 (G.2.2)]) | 1 => Kd.val (.agg #[.int .i64 (F.1), .int .i64 (F.2.1), .int .i64 (F.2.2)]) | 2 => Kd.val (.int .i64 t) | 3 => Kd.val (.int .i64 L) | 4 => Kd.val (.agg #[.int .i64 (Pq.1), .int .i64 (Pq.2.1), .int .i64 (Pq.2.2)]) | 5 => Kd.val (.agg #[.int .i64 (W.1), .int .i64 (W.2.1), .int .i64 (W.2.2)]) | 6 => Kd.val (.int .i64 L) | 7 => Kd.val (.int .i64 n) | 8 => Kd.val (.int .i64 iv) | 9 => Kd.val (.agg #[.int .i64 (Pw.1), .int .i64 (Pw.2.1), .int .i64 (Pw.2.2)]) | 10 => Kd.val (.agg #[.int .i64 (V.1), .int .i64 (V.2.1), .int .i64 (V.2.2)]) | 11 => Kd.old (wd.heap.size) [(⟨w.heap.size + 1 + 1, 0, none⟩, .int .i64 (G.1)), (⟨w.heap.size + 1 + 1, 1, none⟩, .int .i64 (G.2.1)), (⟨w.heap.size + 1 + 1, 2, none⟩, .int .i64 (G.2.2))] | 12 => Kd.old (wd.heap.size) [(⟨w.heap.size + 1 + 1 + 1, 0, none⟩, .int .i64 (V.1)), (⟨w.heap.size + 1 + 1 + 1, 1, none⟩, .int .i64 (V.2.1)), (⟨w.heap.size + 1 + 1 + 1, 2, none⟩, .int .i64 (V.2.2))] | 13 => Kd.val (.bool true) | _ => Kd.any : Nat → Kd) j)) (Sy w (wd.heap.size) [(⟨w.heap.size, 0, none⟩, .int .i64 (F.1)), (⟨w.heap.size, 1, none⟩, .int .i64 (F.2.1)), (⟨w.heap.size, 2, none⟩, .int .i64 (F.2.2)), (⟨w.heap.size + 1, 0, none⟩, .int .i64 (W.1)), (⟨w.heap.size + 1, 1, none⟩, .int .i64 (W.2.1)), (⟨w.heap.size + 1, 2, none⟩, .int .i64 (W.2.2)), (⟨g9, 0, none⟩, .int .i64 (G.1)), (⟨g9, 1, none⟩, .int .i64 (G.2.1)), (⟨g9, 2, none⟩, .int .i64 (G.2.2))] [⟨w.heap.size + 1 + 1, 0, none⟩, ⟨w.heap.size + 1 + 1, 1, none⟩, ⟨w.heap.size + 1 + 1, 2, none⟩, ⟨w.heap.size + 1 + 1 + 1, 0, none⟩, ⟨w.heap.size + 1 + 1 + 1, 1, none⟩, ⟨w.heap.size + 1 + 1 + 1, 2, none⟩, ⟨g9, 0, none⟩, ⟨g9, 1, none⟩, ⟨g9, 2, none⟩]) (by kernel_rfl) (by kernel_rfl) ?_ ?_ ?_ ?_
      ·intro j hj
       have hj2 : j < 14 := hj
       have : ∀ j, j < 14 → (#[44,45,46,47,48,49,50,51,52,53,54,6,7,8] : Array Nat).getD j 0 < 55 := by decide
       exact this j hj2
      ·refine Sy.drew (Sy.mk_of ?_ ?_ ?_ ?_)
       ·first | rfl | (simp; done) | (simp; omega)
       ·intro c hc
        simp only [List.mem_cons, List.not_mem_nil, or_false] at hc
        rcases hc with rfl | rfl | rfl | rfl | rfl | rfl | rfl | rfl | rfl <;> exact byCT
       ·intro p hp
        simp only [List.mem_cons, List.not_mem_nil, or_false] at hp
        rcases hp with rfl | rfl | rfl | rfl | rfl | rfl | rfl | rfl | rfl <;> exact ⟨by first | ((repeat' with_reducible (first | refine ex_set _ ?_ | refine ex_al _ ?_ | exact ⟨_, by assumption⟩)); done) | first | exact ⟨_, by assumption⟩ | assumption | (go_simp; done) | (go_simp; exact ⟨_, rfl⟩), by first | ((repeat' first | with_reducible (first | assumption | refine frz_al _ ?_ ?_ | refine frz_set _ ?_) | omega | (simp; omega)); done) | assumption | (go_simp; done)⟩
       ·(repeat' first | with_reducible (first | exact Below.refl _ _ | assumption | refine gr_alloc ?_ _ | refine below_drewN ?_ _ | refine below_drew ?_ | refine gr_call ?_ (by assumption) | refine Below.setCell ?_ ?_ _) | go_size | omega | (simp; omega))
      ·clear h1 h2 h3
       try clear c00
       try clear c01
       try clear c02
       try clear c10
       try clear c11
       try clear c12
       try clear c20
       try clear c21
       try clear c22
       try clear c30
       try clear c31
       try clear c32
       try clear c40
       try clear c41
       try clear c42
       try clear f20
       try clear f21
       try clear f22
       try clear f30
       try clear f31
       try clear f32
       try clear f40
       try clear f41
       try clear f42
       refine ⟨?r45x0, ?r45x1, ?r45x2, ?r45x3, ?r45x4, ?r45x5, ?r45x6, ?r45x7, ?r45x8, ?r45x9, ?r45x10, ?r45x11, ?r45x12, ?r45x13, trivial⟩
       all_goals intro _ aq wx Kq hf hS hdep ev1 ev2 hK
       case' r45x0 =>
        have F9 : aq.eval (.tmp 9) = .pointer (some ⟨g9, 0, none⟩) := hf 9
        have c0 := hS.cells (⟨g9, 0, none⟩, .int .i64 (G.1)) (by simp)
        have c1 := hS.cells (⟨g9, 1, none⟩, .int .i64 (G.2.1)) (by simp)
        have c2 := hS.cells (⟨g9, 2, none⟩, .int .i64 (G.2.2)) (by simp)
       case' r45x1 =>
        have F3 : aq.eval (.tmp 3) = .pointer (some ⟨w.heap.size, 0, none⟩) := hf 3
        have c0 := hS.cells (⟨w.heap.size, 0, none⟩, .int .i64 (F.1)) (by simp)
        have c1 := hS.cells (⟨w.heap.size, 1, none⟩, .int .i64 (F.2.1)) (by simp)
        have c2 := hS.cells (⟨w.heap.size, 2, none⟩, .int .i64 (F.2.2)) (by simp)
       case' r45x2 =>
        have F1 : aq.eval (.tmp 1) = .int .i64 t := hf 1
       case' r45x3 =>
        have F10 : aq.eval (.tmp 10) = .int .i64 L := hf 10
       case' r45x4 =>
        have D1 : aq.eval (.tmp 45) = _ := hdep 1
        have D2 : aq.eval (.tmp 46) = _ := hdep 2
        have D3 : aq.eval (.tmp 47) = _ := hdep 3
       case' r45x5 =>
        have F5 : aq.eval (.tmp 5) = .pointer (some ⟨w.heap.size + 1, 0, none⟩) := hf 5
        have c0 := hS.cells (⟨w.heap.size + 1, 0, none⟩, .int .i64 (W.1)) (by simp)
        have c1 := hS.cells (⟨w.heap.size + 1, 1, none⟩, .int .i64 (W.2.1)) (by simp)
        have c2 := hS.cells (⟨w.heap.size + 1, 2, none⟩, .int .i64 (W.2.2)) (by simp)
       case' r45x6 =>
        have F10 : aq.eval (.tmp 10) = .int .i64 L := hf 10
       case' r45x7 =>
        have F11 : aq.eval (.tmp 11) = .int .i64 n := hf 11
       case' r45x8 =>
        have D6 : aq.eval (.tmp 50) = _ := hdep 6
        have D7 : aq.eval (.tmp 51) = _ := hdep 7
       case' r45x9 =>
        have D5 : aq.eval (.tmp 49) = _ := hdep 5
        have D8 : aq.eval (.tmp 52) = _ := hdep 8
       case' r45x10 =>
        have D4 : aq.eval (.tmp 48) = _ := hdep 4
        have D9 : aq.eval (.tmp 53) = _ := hdep 9
       case' r45x11 =>
        have D0 : aq.eval (.tmp 44) = _ := hdep 0
        have F6 : aq.eval (.tmp 6) = .pointer (some ⟨w.heap.size + 1 + 1, 0, none⟩) := hf 6
        obtain ⟨⟨vx0, cx0⟩, cf0⟩ := hS.free ⟨w.heap.size + 1 + 1, 0, none⟩ (by simp)
        obtain ⟨⟨vx1, cx1⟩, cf1⟩ := hS.free ⟨w.heap.size + 1 + 1, 1, none⟩ (by simp)
        obtain ⟨⟨vx2, cx2⟩, cf2⟩ := hS.free ⟨w.heap.size + 1 + 1, 2, none⟩ (by simp)
       case' r45x12 =>
        have D10 : aq.eval (.tmp 54) = _ := hdep 10
        have F7 : aq.eval (.tmp 7) = .pointer (some ⟨w.heap.size + 1 + 1 + 1, 0, none⟩) := hf 7
        obtain ⟨⟨vx0, cx0⟩, cf0⟩ := hS.free ⟨w.heap.size + 1 + 1 + 1, 0, none⟩ (by simp)
        obtain ⟨⟨vx1, cx1⟩, cf1⟩ := hS.free ⟨w.heap.size + 1 + 1 + 1, 1, none⟩ (by simp)
        obtain ⟨⟨vx2, cx2⟩, cf2⟩ := hS.free ⟨w.heap.size + 1 + 1 + 1, 2, none⟩ (by simp)
       all_goals (clear hf hdep; unfold Oper.wp; generalize Act.eval _ = ev at *; go_simp)
       case r45x4 =>
        refine ((qu_rw F Pq t L _ hF ht.1 ht.2 hl.1 hl2 (unhide hPq))).mono ?_
        rintro e w2 ⟨rfl, hb⟩
        refine hK _ _ (hS.call hb) ?_ (fun j u _ h => Kd.ok_below hb h)
        rw [if_pos (by rfl)]
        show (_ : Value) = _
        first | rfl | (refine congrArg (Value.int .i64) ?_; first | rfl | exact int_in (by omega) | exact quo_in (by omega) (by omega) (by omega) | exact rem_in (by omega) (by omega) | omega) | (simp; done) | (simp [*]; done)
       case r45x8 =>
        refine ((iv_rwi L n iv _ (by omega) (by omega) (by omega) kc (unhide hiv))).mono ?_
        rintro e w2 ⟨rfl, rfl⟩
        refine hK _ _ (hS.call (below_refl_self _)) ?_ (fun j u _ h => Kd.ok_below (below_refl_self _) h)
        rw [if_pos (by rfl)]
        show (_ : Value) = _
        first | rfl | (refine congrArg (Value.int .i64) ?_; first | rfl | exact int_in (by omega) | exact quo_in (by omega) (by omega) (by omega) | exact rem_in (by omega) (by omega) | omega) | (simp; done) | (simp [*]; done)
       case r45x9 =>
        refine ((pw_rwi W Pw iv _ hW (by omega) (by omega) (unhide hPw))).mono ?_
        rintro e w2 ⟨rfl, hb⟩
        refine hK _ _ (hS.call hb) ?_ (fun j u _ h => Kd.ok_below hb h)
        rw [if_pos (by rfl)]
        show (_ : Value) = _
        first | rfl | (refine congrArg (Value.int .i64) ?_; first | rfl | exact int_in (by omega) | exact quo_in (by omega) (by omega) (by omega) | exact rem_in (by omega) (by omega) | omega) | (simp; done) | (simp [*]; done)
       case r45x10 =>
        refine ((cm_rwi Pq Pw V _ fPq.i fPw.i (unhide hV))).mono ?_
        rintro e w2 ⟨rfl, hb⟩
        refine hK _ _ (hS.call hb) ?_ (fun j u _ h => Kd.ok_below hb h)
        rw [if_pos (by rfl)]
        show (_ : Value) = _
        first | rfl | (refine congrArg (Value.int .i64) ?_; first | rfl | exact int_in (by omega) | exact quo_in (by omega) (by omega) (by omega) | exact rem_in (by omega) (by omega) | omega) | (simp; done) | (simp [*]; done)
       case r45x11 =>
        refine hK undef (setAll (w.heap.size + 1 + 1) 0 [.int .i64 (G.1), .int .i64 (G.2.1), .int .i64 (G.2.2)] wx) (Sy.setAll (by first | omega | (simp; omega) | (simp; done)) (fa (far_blk (by first | (with_reducible assumption) | omega)) (fa (far_blk (by first | (with_reducible assumption) | omega)) (fa (far_blk (by first | (with_reducible assumption) | omega)) (fa (far_blk (by first | (with_reducible assumption) | omega)) (fa (far_blk (by first | (with_reducible assumption) | omega)) (fa (far_blk (by first | (with_reducible assumption) | omega)) (fa (far_blk (by first | (with_reducible assumption) | omega)) (fa (far_blk (by first | (with_reducible assumption) | omega)) (fa (far_blk (by first | (with_reducible assumption) | omega)) (fa0)))))))))) hS) ?_ (fun j u hj h => ?_)
        ·rw [if_neg (by decide)]
         exact fa ⟨setAll_at (w.heap.size + 1 + 1) [.int .i64 (G.1), .int .i64 (G.2.1), .int .i64 (G.2.2)] 0 wx 0 (show 0 < 3 by decide) ⟨vx0, cx0⟩, (by first | omega | (simp; omega) | (simp; done))⟩ (fa ⟨setAll_at (w.heap.size + 1 + 1) [.int .i64 (G.1), .int .i64 (G.2.1), .int .i64 (G.2.2)] 0 wx 1 (show 1 < 3 by decide) ⟨vx1, cx1⟩, (by first | omega | (simp; omega) | (simp; done))⟩ (fa ⟨setAll_at (w.heap.size + 1 + 1) [.int .i64 (G.1), .int .i64 (G.2.1), .int .i64 (G.2.2)] 0 wx 2 (show 2 < 3 by decide) ⟨vx2, cx2⟩, (by first | omega | (simp; omega) | (simp; done))⟩ (fa0)))
        ·match j, hj with
         | 0, hj | 1, hj | 2, hj | 3, hj | 4, hj | 5, hj | 6, hj | 7, hj | 8, hj | 9, hj | 10, hj | 13, hj => exact (show (u : Value) = _ from h)
         | 11, hj => exact absurd rfl hj
         | 12, hj => exact Kd.ok_setAll_old (k := Kd.old (wd.heap.size) [(⟨w.heap.size + 1 + 1 + 1, 0, none⟩, .int .i64 (V.1)), (⟨w.heap.size + 1 + 1 + 1, 1, none⟩, .int .i64 (V.2.1)), (⟨w.heap.size + 1 + 1 + 1, 2, none⟩, .int .i64 (V.2.2))]) trivial (fa (far_blk (by first | (with_reducible assumption) | omega)) (fa (far_blk (by first | (with_reducible assumption) | omega)) (fa (far_blk (by first | (with_reducible assumption) | omega)) (fa0)))) h
         | j + 14, _ => trivial
       case r45x12 =>
        refine hK undef (setAll (w.heap.size + 1 + 1 + 1) 0 [.int .i64 (V.1), .int .i64 (V.2.1), .int .i64 (V.2.2)] wx) (Sy.setAll (by first | omega | (simp; omega) | (simp; done)) (fa (far_blk (by first | (with_reducible assumption) | omega)) (fa (far_blk (by first | (with_reducible assumption) | omega)) (fa (far_blk (by first | (with_reducible assumption) | omega)) (fa (far_blk (by first | (with_reducible assumption) | omega)) (fa (far_blk (by first | (with_reducible assumption) | omega)) (fa (far_blk (by first | (with_reducible assumption) | omega)) (fa (far_blk (by first | (with_reducible assumption) | omega)) (fa (far_blk (by first | (with_reducible assumption) | omega)) (fa (far_blk (by first | (with_reducible assumption) | omega)) (fa0)))))))))) hS) ?_ (fun j u hj h => ?_)
        ·rw [if_neg (by decide)]
         exact fa ⟨setAll_at (w.heap.size + 1 + 1 + 1) [.int .i64 (V.1), .int .i64 (V.2.1), .int .i64 (V.2.2)] 0 wx 0 (show 0 < 3 by decide) ⟨vx0, cx0⟩, (by first | omega | (simp; omega) | (simp; done))⟩ (fa ⟨setAll_at (w.heap.size + 1 + 1 + 1) [.int .i64 (V.1), .int .i64 (V.2.1), .int .i64 (V.2.2)] 0 wx 1 (show 1 < 3 by decide) ⟨vx1, cx1⟩, (by first | omega | (simp; omega) | (simp; done))⟩ (fa ⟨setAll_at (w.heap.size + 1 + 1 + 1) [.int .i64 (V.1), .int .i64 (V.2.1), .int .i64 (V.2.2)] 0 wx 2 (show 2 < 3 by decide) ⟨vx2, cx2⟩, (by first | omega | (simp; omega) | (simp; done))⟩ (fa0)))
        ·match j, hj with
         | 0, hj | 1, hj | 2, hj | 3, hj | 4, hj | 5, hj | 6, hj | 7, hj | 8, hj | 9, hj | 10, hj | 13, hj => exact (show (u : Value) = _ from h)
         | 11, hj => exact Kd.ok_setAll_old (k := Kd.old (wd.heap.size) [(⟨w.heap.size + 1 + 1, 0, none⟩, .int .i64 (G.1)), (⟨w.heap.size + 1 + 1, 1, none⟩, .int .i64 (G.2.1)), (⟨w.heap.size + 1 + 1, 2, none⟩, .int .i64 (G.2.2))]) trivial (fa (far_blk (by first | (with_reducible assumption) | omega)) (fa (far_blk (by first | (with_reducible assumption) | omega)) (fa (far_blk (by first | (with_reducible assumption) | omega)) (fa0)))) h
         | 12, hj => exact absurd rfl hj
         | j + 14, _ => trivial
       all_goals (refine hK _ _ hS ?_ (fun j u _ h => h); rw [if_pos (by rfl)]; show (_ : Value) = _; (first | rfl | (refine congrArg (Value.int .i64) ?_; first | rfl | exact int_in (by omega) | exact quo_in (by omega) (by omega) (by omega) | exact rem_in (by omega) (by omega) | omega) | (simp; done) | (simp [*]; done)))
      ·intro aq wx hd hw hf hS hg
       have G8 : tau aq 8 = .bool true := hg 13 (by decide)
       have haq : aq = ⟨#[tau aq 0, tau aq 1, tau aq 2, tau aq 3, tau aq 4, tau aq 5, tau aq 6, tau aq 7, tau aq 8, tau aq 9, tau aq 10, tau aq 11, tau aq 12, tau aq 13, tau aq 14, tau aq 15, tau aq 16, tau aq 17, tau aq 18, tau aq 19, tau aq 20, tau aq 21, tau aq 22, tau aq 23, tau aq 24, tau aq 25, tau aq 26, tau aq 27, tau aq 28, tau aq 29, tau aq 30, tau aq 31, tau aq 32, tau aq 33, tau aq 34, tau aq 35, tau aq 36, tau aq 37, tau aq 38, tau aq 39, tau aq 40, tau aq 41, tau aq 42, tau aq 43, tau aq 44, tau aq 45, tau aq 46, tau aq 47, tau aq 48, tau aq 49, tau aq 50, tau aq 51, tau aq 52, tau aq 53, tau aq 54], []⟩ := by
        obtain ⟨tq, dq⟩ := aq
        have h5 := arr_eq (show tq.size = 55 from hw)
        have h6 : dq = [] := hd
        subst h6
        exact congrArg (fun z => Act.mk z []) h5
       show K2 aq wx
       rw [haq, hf 0, hf 1, hf 2, hf 3, hf 4, hf 5, hf 6, hf 7, hf 9, hf 10, hf 11, hf 12, hf 13, hf 14, hf 15, hf 16, hf 17, hf 18, hf 19, hf 20, hf 21, hf 22, hf 23, hf 24, hf 25, hf 26, hf 27, hf 28, hf 29, hf 30, hf 31, hf 32, hf 33, hf 34, hf 35, hf 36, hf 37, hf 38, hf 39, hf 40, hf 41, hf 42, hf 43, G8]
       clear haq hf hd hw
       try dsimp only
       refine h3 _ _ ?_
       go_meet
       refine ⟨rfl, Ri3.m ?_ ?_ ?_, Ri3.m ?_ ?_ ?_, Wi3.m (hg 11 (by decide) (_, _) (by simp)).1 (hg 11 (by decide) (_, _) (by simp)).1 (hg 11 (by decide) (_, _) (by simp)).1 ?_ ?_ ?_, Wi3.m (hg 12 (by decide) (_, _) (by simp)).1 (hg 12 (by decide) (_, _) (by simp)).1 (hg 12 (by decide) (_, _) (by simp)).1 ?_ ?_ ?_, Wi3.m ?_ ?_ ?_ ?_ ?_ ?_, hS.below⟩
       all_goals first | exact hS.cells (_, _) (by simp) | exact (hS.free _ (by simp)).2
     try clear c00
     try clear c01
     try clear c02
     try clear c10
     try clear c11
     try clear c12
     try clear c20
     try clear c21
     try clear c22
     try clear c30
     try clear c31
     try clear c32
     try clear c40
     try clear c41
     try clear c42
     try clear f20
     try clear f21
     try clear f22
     try clear f30
     try clear f31
     try clear f32
     try clear f40
     try clear f41
     try clear f42
     obtain ⟨rfl, ⟨c00, c01, c02, z0⟩, ⟨c10, c11, c12, z1⟩, ⟨c20, c21, c22, f20, f21, f22, z2⟩, ⟨c30, c31, c32, f30, f31, f32, z3⟩, ⟨c40, c41, c42, f40, f41, f42, z4⟩, hb0⟩ := hcut
     go_wp2
     refine bodyPost_ret (v := .tuple #[frm G, frm V, .bool true]) (by simp [results, Tryz.results7, go_sem, *]) rfl ?_
     exact ⟨by rw [unhide HV], hb0⟩
    ·have kt : (igcd L n != 1) = true := by simp [kc]
     have HV : Hid ((.tuple #[frm (soX F t W), frm (soY F t W), .bool (soB F t W)] : Value) = .tuple #[.agg #[.int .i64 0, .int .i64 0, .int .i64 0], .agg #[.int .i64 0, .int .i64 0, .int .i64 0], .bool false]) := hide (so_no2 (by rw [← unhide hLe, ← unhide hn2]; exact kc))
     go_wp2_with (go_at_call 34; refine (gcd_a L n _ (by omega) (by omega)).mono ?_; rintro e w' ⟨rfl, nq, rfl⟩)
     refine bodyPost_ret (v := .tuple #[.agg #[.int .i64 0, .int .i64 0, .int .i64 0], .agg #[.int .i64 0, .int .i64 0, .int .i64 0], .bool false]) (by simp [results, Tryz.results7, go_sem, *]) rfl ?_
     exact ⟨by rw [unhide HV], byGG⟩
   ·have HV : Hid ((.tuple #[frm (soX F t W), frm (soY F t W), .bool (soB F t W)] : Value) = .tuple #[.agg #[.int .i64 0, .int .i64 0, .int .i64 0], .agg #[.int .i64 0, .int .i64 0, .int .i64 0], .bool false]) := hide (so_no (by simp [soK, k2]))
    have HQ : Hid (eqT (rdT W) (onT (dT F)) = true) := hide k2
    go_enter Tryz.func7, Tryz.ntmps7
    go_wp2_with fail
    refine (arePair_p F W _ i0 i1).mono ?_
    rintro en w1 ⟨rfl, hb1⟩
    have tq0 := Ri3.c hb1 w.heap.size F.1 F.2.1 F.2.2
    have tq1 := Ri3.c hb1 (w.heap.size + 1) W.1 W.2.1 W.2.2
    have tq2 := Wi3.c hb1 (w.heap.size + 1 + 1) 0 0 0
    have tq3 := Wi3.c hb1 (w.heap.size + 1 + 1 + 1) 0 0 0
    try clear c00 c01 c02
    try clear c10 c11 c12
    try clear c20 c21 c22 f20 f21 f22
    try clear c30 c31 c32 f30 f31 f32
    obtain ⟨c00, c01, c02, z0⟩ := tq0
    obtain ⟨c10, c11, c12, z1⟩ := tq1
    obtain ⟨c20, c21, c22, f20, f21, f22, z2⟩ := tq2
    obtain ⟨c30, c31, c32, f30, f31, f32, z3⟩ := tq3
    have hs1 := hb1.size
    have o10 := z0
    have o11 := z1
    have o12 := z2
    have o13 := z3
    rw [k0]
    go_wp2_with (go_at_call 28; refine (isTime_b _ _).mono ?_; rintro e w' ⟨rfl, rfl⟩)
    refine (isId_rw W true _ hW (unhide HQ)).mono ?_
    rintro en w2 ⟨rfl, hb2⟩
    have tq0 := Ri3.c hb2 w.heap.size F.1 F.2.1 F.2.2
    have tq1 := Ri3.c hb2 (w.heap.size + 1) W.1 W.2.1 W.2.2
    have tq2 := Wi3.c hb2 (w.heap.size + 1 + 1) 0 0 0
    have tq3 := Wi3.c hb2 (w.heap.size + 1 + 1 + 1) 0 0 0
    try clear c00 c01 c02
    try clear c10 c11 c12
    try clear c20 c21 c22 f20 f21 f22
    try clear c30 c31 c32 f30 f31 f32
    obtain ⟨c00, c01, c02, z0⟩ := tq0
    obtain ⟨c10, c11, c12, z1⟩ := tq1
    obtain ⟨c20, c21, c22, f20, f21, f22, z2⟩ := tq2
    obtain ⟨c30, c31, c32, f30, f31, f32, z3⟩ := tq3
    have hs2 := hb2.size
    have o20 := z0
    have o21 := z1
    have o22 := z2
    have o23 := z3
    go_wp2
    refine bodyPost_ret (v := .tuple #[.agg #[.int .i64 0, .int .i64 0, .int .i64 0], .agg #[.int .i64 0, .int .i64 0, .int .i64 0], .bool false]) (by simp [results, Tryz.results7, go_sem, *]) rfl ?_
    exact ⟨by rw [unhide HV], byGG⟩

end Go.Proofs.YtihfacmlfelliaaGreat
