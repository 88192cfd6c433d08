/- HalvingProof on both sides. -/
import Derived.Test.YtihfacmlfelliaaGreatHv
import Derived.Test.YtihfacmlfelliaaGreatSt
import Derived.Test.YtihfacmlfelliaaGreatRuleP
namespace Go.Proofs.YtihfacmlfelliaaGreat
open Go.RowKit
set_option linter.unusedVariables false
set_option linter.unusedSimpArgs false
attribute [local go_sem] q2 q3 q4 q5 q6 q7 q8 q9 q10 q11 q12

noncomputable def hpS (D : Int) (F : T3) (kn : Nat) : Nat → T3 × T3
 | 0 => (rdT F, sqN (rdT F) (2 ^ kn))
 | j + 1 => (hvX D (hpS D F kn j).1 (hpS D F kn j).2 (sqN (rdT (hpS D F kn j).1) (2 ^ (kn - j - 1))) ((kn : Int) - j), hvY D (hpS D F kn j).1 (hpS D F kn j).2 (sqN (rdT (hpS D F kn j).1) (2 ^ (kn - j - 1))) ((kn : Int) - j))
noncomputable def hpM (D : Int) (F : T3) (kn j : Nat) : T3 := sqN (rdT (hpS D F kn j).1) (2 ^ (kn - j - 1))
noncomputable def hpL (D : Int) (F : T3) (kn : Nat) : Nat → List Int
 | 0 => []
 | j + 1 => hpL D F kn j ++ [(hpM D F kn j).1, (hpM D F kn j).2.1, (hpM D F kn j).2.2]
theorem hpS_frm {D : Int} {F : T3} (h : Frm D F) (kn : Nat) : ∀ j, Frm D (hpS D F kn j).1 ∧ Frm D (hpS D F kn j).2
 | 0 => ⟨h.rd, h.sq _⟩
 | j + 1 => ⟨hvX_frm (hpS_frm h kn j).1 ((hpS_frm h kn j).1.sq _), hvY_frm (hpS_frm h kn j).2 ((hpS_frm h kn j).1.sq _)⟩
theorem hpM_frm {D : Int} {F : T3} (h : Frm D F) (kn j : Nat) : Frm D (hpM D F kn j) := (hpS_frm h kn j).1.sq _
theorem hpL_len (D : Int) (F : T3) (kn : Nat) : ∀ j, (hpL D F kn j).length = j * 3
 | 0 => rfl
 | j + 1 => by rw [hpL, List.length_append, hpL_len D F kn j]; simp; omega
def hpB (F : T3) (k : Int) : Bool := clB F && hvB k
noncomputable def hpV (F : T3) (k : Int) : T3 := if hpB F k then sqN (rdT F) (2 ^ k.toNat) else (0, 0, 0)
noncomputable def hpN (F : T3) (k : Int) : Nat := if hpB F k then k.toNat else 0
noncomputable def hpF (F : T3) (k : Int) (i : Nat) : Int := (hpL (dT F) F k.toNat k.toNat).getD i 0
theorem hpN_le (F : T3) (k : Int) : hpN F k ≤ 100000000 := by
 unfold hpN
 split
 ·rename_i h
  unfold hpB hvB at h
  rw [Bool.and_eq_true] at h
  have := inB_true h.2
  omega
 ·omega
def RetFForms (w : World) (X : T3) (n : Nat) (f : Nat → Int) (ok : Bool) (e : Ending) (w' : World) : Prop :=
 ∃ a c, e = .returned (.tuple #[frm X, .slice a n c, .bool ok]) ∧ FormsAt w' w.heap.size w'.heap.size a n f ∧ Below w.heap.size w w'
def RetFFormsI (w : World) (X : T3) (n : Nat) (f : Nat → Int) (ok : Bool) (e : Ending) (w' : World) : Prop :=
 ∃ g c, e = .returned (.tuple #[frm X, .slice (some ⟨g, 0, none⟩) n c, .bool ok]) ∧ FormsAt w' w.heap.size w'.heap.size (some ⟨g, 0, none⟩) n f ∧ Below w.heap.size w w' ∧ g < w'.heap.size
theorem FormsAt.weak2 {w : World} {lo hi lo' : Nat} {a : Option Addr} {n : Nat} {f : Nat → Int} (h : FormsAt w lo hi a n f) (h1 : lo' ≤ lo) : FormsAt w lo' hi a n f := by
 rcases h with h | ⟨g, cap, F, ha, h2, h3⟩
 ·exact .inl h
 ·exact .inr ⟨g, cap, F, ha, by omega, h3⟩
theorem hv_rwi {D : Int} (x y m X Y : T3) (k : Int) (w : World) (hx : Frm D x) (hy : Frm D y) (hm : Frm D m) (h0 : 0 ≤ k) (h1 : k ≤ 1000000) (hX : X = hvX D x y m k) (hY : Y = hvY D x y m k) :
  Calls Tryz.prog 62 #[frm x, frm y, frm m, .int .i64 k] w fun e w' => e = .returned (.tuple #[frm X, frm Y]) ∧ Below w.heap.size w w' := by
 subst hX hY; exact halve_D x y m k w hx hy hm h0 h1
theorem hv_rws {D : Int} (x y m X Y : T3) (k : Int) (w : World) (hx : Frm D x) (hy : Frm D y) (hm : Frm D m) (h0 : 0 ≤ k) (h1 : k ≤ 1000000) (hX : X = hvX D x y m k) (hY : Y = hvY D x y m k) :
  Calls Tryz.prog 64 #[frm x, frm y, frm m, .int .i64 k] w fun e w' => e = .returned (.tuple #[frm X, frm Y]) ∧ Below w.heap.size w w' := by
 subst hX hY; exact dlFold_D x y m k w hx hy hm h0 h1
theorem two_pow_bd {n : Nat} (h : n ≤ 6) : 1 ≤ 2 ^ n ∧ 2 ^ n ≤ 64 := by
 rcases (show n = 0 ∨ n = 1 ∨ n = 2 ∨ n = 3 ∨ n = 4 ∨ n = 5 ∨ n = 6 by omega) with rfl | rfl | rfl | rfl | rfl | rfl | rfl <;> decide
theorem shl_b {n : Nat} (h : n ≤ 6) : IntKind.i64.wrap (2 ^ n) = ((2 ^ n : Nat) : Int) := by
 rcases (show n = 0 ∨ n = 1 ∨ n = 2 ∨ n = 3 ∨ n = 4 ∨ n = 5 ∨ n = 6 by omega) with rfl | rfl | rfl | rfl | rfl | rfl | rfl <;> decide
theorem shl_a {n : Nat} (h : n ≤ 6) : IntKind.i64.wrap (1 * 2 ^ (n : Int).toNat) = ((2 ^ n : Nat) : Int) := by
 rw [Int.one_mul]; exact shl_b h

set_option maxRecDepth 100000 in
set_option maxHeartbeats 8000000 in
theorem implHalvingProofA (F : T3) (k : Int) (w : World) (i0 : I64T F) : Calls Tryz.prog 20 #[frm F, .int .i64 k] w (RetFFormsI w (hpV F k) (hpN F k) (hpF F k) (hpB F k)) := by
 cases k0 : clB F
 ·have HN : hpN F k = 0 ∧ hpB F k = false ∧ hpV F k = (0, 0, 0) := by simp [hpN, hpB, hpV, k0]
  rw [HN.1, HN.2.1, HN.2.2]
  clear HN
  go_enter Tryz.func20, Tryz.ntmps20
  go_wp2_with fail
  refine (isClass_p F _ i0).mono ?_
  rintro en w1 ⟨rfl, hb1⟩
  have tq0 := Ri3.c hb1 w.heap.size F.1 F.2.1 F.2.2
  have tq1 := Wi3.c hb1 (w.heap.size + 1) 0 0 0
  try clear c00 c01 c02
  try clear c10 c11 c12 f10 f11 f12
  obtain ⟨c00, c01, c02, z0⟩ := tq0
  obtain ⟨c10, c11, c12, f10, f11, f12, z1⟩ := tq1
  have hs1 := hb1.size
  have o10 := z0
  have o11 := z1
  rw [k0]
  go_wp2
  refine bodyPost_ret (v := .tuple #[.agg #[.int .i64 0, .int .i64 0, .int .i64 0], .slice (some ⟨w1.heap.size, 0, none⟩) 0 0, .bool false]) (by simp [results, Tryz.results20, go_sem, *]) rfl ?_
  exact ⟨_, 0, rfl, .inl rfl, byGG, by first | (simp; done) | (simp; omega)⟩
 ·cases k1 : hvB k
  ·have HN : hpN F k = 0 ∧ hpB F k = false ∧ hpV F k = (0, 0, 0) := by simp [hpN, hpB, hpV, k0, k1]
   rw [HN.1, HN.2.1, HN.2.2]
   clear HN
   go_enter Tryz.func20, Tryz.ntmps20
   go_wp2_with fail
   refine (isClass_p F _ i0).mono ?_
   rintro en w1 ⟨rfl, hb1⟩
   have tq0 := Ri3.c hb1 w.heap.size F.1 F.2.1 F.2.2
   have tq1 := Wi3.c hb1 (w.heap.size + 1) 0 0 0
   try clear c00 c01 c02
   try clear c10 c11 c12 f10 f11 f12
   obtain ⟨c00, c01, c02, z0⟩ := tq0
   obtain ⟨c10, c11, c12, f10, f11, f12, z1⟩ := tq1
   have hs1 := hb1.size
   have o10 := z0
   have o11 := z1
   rw [k0]
   go_wp2_with (go_at_call 61; refine (isHalvings_b _ _).mono ?_; rintro e w' ⟨rfl, rfl⟩)
   refine bodyPost_ret (v := .tuple #[.agg #[.int .i64 0, .int .i64 0, .int .i64 0], .slice (some ⟨w1.heap.size, 0, none⟩) 0 0, .bool false]) (by simp [results, Tryz.results20, go_sem, *]) rfl ?_
   exact ⟨_, 0, rfl, .inl rfl, byGG, by first | (simp; done) | (simp; omega)⟩
  ·have HN : hpN F k = k.toNat ∧ hpB F k = true ∧ hpV F k = sqN (rdT F) (2 ^ k.toNat) := by simp [hpN, hpB, hpV, k0, k1]
   have ht := inB_true k1
   have h0 := frm_of k0
   rw [HN.1, HN.2.1, HN.2.2]
   clear HN
   obtain ⟨kn, rfl⟩ := Int.eq_ofNat_of_zero_le (show 0 ≤ k by omega)
   have htn : (kn : Int).toNat = kn := rfl
   have hF : hpF F (kn : Int) = fun i => (hpL (dT F) F kn kn).getD i 0 := rfl
   rw [hF, htn]
   clear hF htn
   obtain ⟨D, hD⟩ : ∃ D, D = dT F := ⟨_, rfl⟩
   rw [← hD] at h0 ⊢
   clear hD
   have hpw := two_pow_bd (n := kn) (by omega)
   obtain ⟨E, hE⟩ : ∃ E : Int, E = ((2 ^ kn : Nat) : Int) := ⟨_, rfl⟩
   have hEb : 1 ≤ E ∧ E ≤ 64 := by omega
   obtain ⟨G, hG⟩ : ∃ G, G = sqN (rdT F) (2 ^ kn) := ⟨_, rfl⟩
   rw [← hG]
   obtain ⟨X0, hX0⟩ : ∃ X0, X0 = rdT F := ⟨_, rfl⟩
   have HS0 : Hid (hpS D F kn 0 = (X0, G)) := hide (by rw [hX0, hG]; rfl)
   replace hG : Hid (G = sqN (rdT F) E.toNat) := hide (by rw [hE]; exact hG)
   replace hX0 := hide hX0
   have HEa : Hid (IntKind.i64.wrap (1 * 2 ^ (kn : Int).toNat) = E) := hide (by rw [hE]; exact shl_a (by omega))
   have HEb : Hid (IntKind.i64.wrap (2 ^ kn) = E) := hide (by rw [hE]; exact shl_b (by omega))
   replace hE := hide hE
   clear hpw
   go_enter Tryz.func20, Tryz.ntmps20
   go_wp2_with fail
   refine (isClass_p F _ i0).mono ?_
   rintro en w1 ⟨rfl, hb1⟩
   have tq0 := Ri3.c hb1 w.heap.size F.1 F.2.1 F.2.2
   have tq1 := Wi3.c hb1 (w.heap.size + 1) 0 0 0
   try clear c00 c01 c02
   try clear c10 c11 c12 f10 f11 f12
   obtain ⟨c00, c01, c02, z0⟩ := tq0
   obtain ⟨c10, c11, c12, f10, f11, f12, z1⟩ := tq1
   have hs1 := hb1.size
   have o10 := z0
   have o11 := z1
   rw [k0]
   go_upto_region 3 with (go_at_call 61; refine (isHalvings_b _ _).mono ?_; rintro e w' ⟨rfl, rfl⟩)
   go_cut [7, 8, 9] (fun s7 s8 s9 wx => ∃ g7 : Nat, s7 = .pointer (some ⟨g7, 0, none⟩) ∧ s8 = undef ∧ s9 = undef ∧ Ri3 wx w.heap.size F.1 F.2.1 F.2.2 ∧ Wi3 wx (w.heap.size + 1) 0 0 0 ∧ Wi3 wx g7 G.1 G.2.1 G.2.2 ∧ Below w.heap.size w wx ∧ w1.heap.size ≤ g7)
   case first =>
    have h1 := trivial
    rename_i K2 h2 h3
    refine region_n0 (by kernel_rfl) (fun j => #[22,23,24,25,7,7].getD j 0) (fun j => Kd.ok ((fun j => match j with | 0 => Kd.val (.agg #[.int .i64 (F.1), .int .i64 (F.2.1), .int .i64 (F.2.2)]) | 1 => Kd.val (.int .i64 ((kn : Int))) | 2 => Kd.val (.int .i64 E) | 3 => Kd.val (.agg #[.int .i64 (G.1), .int .i64 (G.2.1), .int .i64 (G.2.2)]) | 4 => Kd.own (w1.heap.size) 3 | 5 => Kd.held (w1.heap.size) [.int .i64 (G.1), .int .i64 (G.2.1), .int .i64 (G.2.2)] | _ => Kd.any : Nat → Kd) j)) (Sy w (w1.heap.size) [(⟨w.heap.size, 0, none⟩, .int .i64 (F.1)), (⟨w.heap.size, 1, none⟩, .int .i64 (F.2.1)), (⟨w.heap.size, 2, none⟩, .int .i64 (F.2.2)), (⟨w.heap.size + 1, 0, none⟩, .int .i64 0), (⟨w.heap.size + 1, 1, none⟩, .int .i64 0), (⟨w.heap.size + 1, 2, none⟩, .int .i64 0)] [⟨w.heap.size + 1, 0, none⟩, ⟨w.heap.size + 1, 1, none⟩, ⟨w.heap.size + 1, 2, none⟩]) (by kernel_rfl) (by kernel_rfl) ?_ ?_ ?_ ?_
    ·intro j hj
     have hj2 : j < 6 := hj
     have : ∀ j, j < 6 → (#[22,23,24,25,7,7] : Array Nat).getD j 0 < 53 := by decide
     exact this j hj2
    ·refine Sy.drew (Sy.mk_of ?_ ?_ ?_ ?_)
     ·first | rfl | (simp; done) | (simp; omega)
     ·intro c hc
      simp only [List.mem_cons, List.not_mem_nil, or_false] at hc
      rcases hc with rfl | rfl | rfl | rfl | rfl | rfl <;> exact byCT
     ·intro p hp
      simp only [List.mem_cons, List.not_mem_nil, or_false] at hp
      rcases hp with rfl | rfl | rfl <;> exact ⟨by first | ((repeat' with_reducible (first | refine ex_set _ ?_ | refine ex_al _ ?_ | exact ⟨_, by assumption⟩)); done) | first | exact ⟨_, by assumption⟩ | assumption | (go_simp; done) | (go_simp; exact ⟨_, rfl⟩), by first | ((repeat' first | with_reducible (first | assumption | refine frz_al _ ?_ ?_ | refine frz_set _ ?_) | omega | (simp; omega)); done) | assumption | (go_simp; done)⟩
     ·(repeat' first | with_reducible (first | exact Below.refl _ _ | assumption | refine gr_alloc ?_ _ | refine below_drewN ?_ _ | refine below_drew ?_ | refine gr_call ?_ (by assumption) | refine Below.setCell ?_ ?_ _) | go_size | omega | (simp; omega))
    ·clear h1 h2 h3
     refine ⟨?r42x0, ?r42x1, ?r42x2, ?r42x3, ?r42x4, ?r42x5, trivial⟩
     all_goals intro _ aq wx Kq hf hS hdep ev1 ev2 hK
     case' r42x0 =>
      have F2 : aq.eval (.tmp 2) = .pointer (some ⟨w.heap.size, 0, none⟩) := hf 2
      have c0 := hS.cells (⟨w.heap.size, 0, none⟩, .int .i64 (F.1)) (by simp)
      have c1 := hS.cells (⟨w.heap.size, 1, none⟩, .int .i64 (F.2.1)) (by simp)
      have c2 := hS.cells (⟨w.heap.size, 2, none⟩, .int .i64 (F.2.2)) (by simp)
     case' r42x1 =>
      have F1 : aq.eval (.tmp 1) = .int .i64 ((kn : Int)) := hf 1
     case' r42x2 =>
      have D1 : aq.eval (.tmp 23) = _ := hdep 1
     case' r42x3 =>
      have D0 : aq.eval (.tmp 22) = _ := hdep 0
      have D2 : aq.eval (.tmp 24) = _ := hdep 2
     case' r42x5 =>
      have D3 : aq.eval (.tmp 25) = _ := hdep 3
      obtain ⟨gn, D4, r1, r2, r3⟩ := hdep 4
      change aq.eval (.tmp 7) = _ at D4
      obtain ⟨⟨vx0, cx0⟩, cf0⟩ := r3 0 (by decide)
      obtain ⟨⟨vx1, cx1⟩, cf1⟩ := r3 1 (by decide)
      obtain ⟨⟨vx2, cx2⟩, cf2⟩ := r3 2 (by decide)
      have D4' : tau aq 7 = _ := D4
     all_goals (clear hf hdep; unfold Oper.wp; generalize Act.eval _ = ev at *; go_simp)
     case r42x3 =>
      refine ((sq_rwi F G E _ h0.i (by omega) (by omega) (unhide hG))).mono ?_
      rintro e w2 ⟨rfl, hb⟩
      refine hK _ _ (hS.call hb) ?_ (fun j u _ h => Kd.ok_below hb h)
      rw [if_pos (by rfl)]
      show (_ : Value) = _
      first | rfl | (refine congrArg (Value.int .i64) ?_; first | rfl | exact int_in (by omega) | exact quo_in (by omega) (by omega) (by omega) | exact rem_in (by omega) (by omega) | omega | exact unhide HEa | exact unhide HEb) | (simp; done) | (simp [*]; done)
     case r42x4 =>
      refine hK _ _ (hS.call (below_alloc_self _ _)) ?_ (fun j u _ h => Kd.ok_below (below_alloc_self _ _) h)
      rw [if_pos (by rfl)]
      exact kd_new hS.size rfl
     case r42x5 =>
      refine hK undef (setAll gn 0 [.int .i64 (G.1), .int .i64 (G.2.1), .int .i64 (G.2.2)] wx) (Sy.setAll_new r1 hS) ?_ (fun j u hj h => ?_)
      ·rw [if_neg (by decide)]
       exact kd_held r1 r2 D4' r3
      ·match j, hj with
       | 0, hj | 1, hj | 2, hj | 3, hj => exact (show (u : Value) = _ from h)
       | 4, hj => exact Kd.ok_setAll_new (k := Kd.own (w1.heap.size) 3) rfl (fun B' cs e => by cases e) h
       | 5, hj => exact absurd rfl hj
       | j + 6, _ => trivial
     all_goals (refine hK _ _ hS ?_ (fun j u _ h => h); rw [if_pos (by rfl)]; show (_ : Value) = _; (first | rfl | (refine congrArg (Value.int .i64) ?_; first | rfl | exact int_in (by omega) | exact quo_in (by omega) (by omega) (by omega) | exact rem_in (by omega) (by omega) | omega | exact unhide HEa | exact unhide HEb) | (simp; done) | (simp [*]; done)))
    ·intro aq wx hd hw hf hS hg
     obtain ⟨g7, G7, r1g7, r2g7, r3g7⟩ := hg 5 (by decide)
     change tau aq 7 = _ at G7
     have haq : aq = ⟨#[tau aq 0, tau aq 1, tau aq 2, tau aq 3, tau aq 4, tau aq 5, tau aq 6, tau aq 7, tau aq 8, tau aq 9, tau aq 10, tau aq 11, tau aq 12, tau aq 13, tau aq 14, tau aq 15, tau aq 16, tau aq 17, tau aq 18, tau aq 19, tau aq 20, tau aq 21, tau aq 22, tau aq 23, tau aq 24, tau aq 25, tau aq 26, tau aq 27, tau aq 28, tau aq 29, tau aq 30, tau aq 31, tau aq 32, tau aq 33, tau aq 34, tau aq 35, tau aq 36, tau aq 37, tau aq 38, tau aq 39, tau aq 40, tau aq 41, tau aq 42, tau aq 43, tau aq 44, tau aq 45, tau aq 46, tau aq 47, tau aq 48, tau aq 49, tau aq 50, tau aq 51, tau aq 52], []⟩ := by
      obtain ⟨tq, dq⟩ := aq
      have h5 := arr_eq (show tq.size = 53 from hw)
      have h6 : dq = [] := hd
      subst h6
      exact congrArg (fun z => Act.mk z []) h5
     show K2 aq wx
     rw [haq, hf 0, hf 1, hf 2, hf 3, hf 4, hf 5, hf 6, hf 8, hf 9, hf 10, hf 11, hf 12, hf 13, hf 14, hf 15, hf 16, hf 17, hf 18, hf 19, hf 20, hf 21, hf 26, hf 27, hf 28, hf 29, hf 30, hf 31, hf 32, hf 33, hf 34, hf 35, hf 36, hf 37, hf 38, hf 39, hf 40, hf 41, hf 42, hf 43, hf 44, hf 45, hf 46, hf 47, hf 48, hf 49, hf 50, hf 51, hf 52, G7]
     clear haq hf hd hw
     try dsimp only
     refine h3 _ _ ?_
     go_meet
     refine ⟨g7, rfl, rfl, rfl, Ri3.m ?_ ?_ ?_, Wi3.m ?_ ?_ ?_ ?_ ?_ ?_, Wi3.m (r3g7 0 (by simp)).1 (r3g7 1 (by simp)).1 (r3g7 2 (by simp)).1 (r3g7 0 (by simp)).2 (r3g7 1 (by simp)).2 (r3g7 2 (by simp)).2, hS.below, r1g7⟩
     all_goals first | exact hS.cells (_, _) (by simp) | exact (hS.free _ (by simp)).2
   obtain ⟨g7, rfl, rfl, rfl, ⟨c00, c01, c02, z0⟩, ⟨c10, c11, c12, f10, f11, f12, z1⟩, ⟨c20, c21, c22, f20, f21, f22, z2⟩, hb0, ng7⟩ := hcut
   obtain ⟨w3, rfl⟩ : ∃ w3 : World, w3 = wc := ⟨_, rfl⟩
   go_upto_region 4 with fail
   go_cut [8, 9] (fun s8 s9 wx => ∃ g80 g81 : Nat, s8 = .pointer (some ⟨g80, 0, none⟩) ∧ s9 = .pointer (some ⟨g81, 0, none⟩) ∧ Ri3 wx w.heap.size F.1 F.2.1 F.2.2 ∧ Wi3 wx (w.heap.size + 1) 0 0 0 ∧ Wi3 wx g7 G.1 G.2.1 G.2.2 ∧ Wi3 wx g80 X0.1 X0.2.1 X0.2.2 ∧ Wi3 wx g81 G.1 G.2.1 G.2.2 ∧ Below w.heap.size w wx ∧ w3.heap.size ≤ g80 ∧ w3.heap.size ≤ g81 ∧ ¬ g80 = g81)
   case first =>
    have h1 := trivial
    rename_i K2 h2 h3
    refine region_p0 (by kernel_rfl) (fun j => #[26,27,28,8,9,8,9].getD j 0) (fun j => Kd.ok ((fun j => match j with | 0 => Kd.val (.agg #[.int .i64 (F.1), .int .i64 (F.2.1), .int .i64 (F.2.2)]) | 1 => Kd.val (.agg #[.int .i64 (X0.1), .int .i64 (X0.2.1), .int .i64 (X0.2.2)]) | 2 => Kd.val (.agg #[.int .i64 (G.1), .int .i64 (G.2.1), .int .i64 (G.2.2)]) | 3 => Kd.own (w3.heap.size) 3 | 4 => Kd.own (w3.heap.size) 3 | 5 => Kd.held (w3.heap.size) [.int .i64 (X0.1), .int .i64 (X0.2.1), .int .i64 (X0.2.2)] | 6 => Kd.held (w3.heap.size) [.int .i64 (G.1), .int .i64 (G.2.1), .int .i64 (G.2.2)] | _ => Kd.any : Nat → Kd) j)) (Sy w (w3.heap.size) [(⟨w.heap.size, 0, none⟩, .int .i64 (F.1)), (⟨w.heap.size, 1, none⟩, .int .i64 (F.2.1)), (⟨w.heap.size, 2, none⟩, .int .i64 (F.2.2)), (⟨w.heap.size + 1, 0, none⟩, .int .i64 0), (⟨w.heap.size + 1, 1, none⟩, .int .i64 0), (⟨w.heap.size + 1, 2, none⟩, .int .i64 0), (⟨g7, 0, none⟩, .int .i64 (G.1)), (⟨g7, 1, none⟩, .int .i64 (G.2.1)), (⟨g7, 2, none⟩, .int .i64 (G.2.2))] [⟨w.heap.size + 1, 0, none⟩, ⟨w.heap.size + 1, 1, none⟩, ⟨w.heap.size + 1, 2, none⟩, ⟨g7, 0, none⟩, ⟨g7, 1, none⟩, ⟨g7, 2, none⟩]) 8 9 (by kernel_rfl) (by kernel_rfl) (PairOk.start (by rfl) (by rfl) (show 8 < 53 by decide) (show 9 < 53 by decide)) ?_ ?_ ?_ ?_
    ·intro j hj
     have hj2 : j < 7 := hj
     have : ∀ j, j < 7 → (#[26,27,28,8,9,8,9] : Array Nat).getD j 0 < 53 := by decide
     exact this j hj2
    ·refine Sy.drew (Sy.mk_of ?_ ?_ ?_ ?_)
     ·first | rfl | (simp; done) | (simp; omega)
     ·intro c hc
      simp only [List.mem_cons, List.not_mem_nil, or_false] at hc
      rcases hc with rfl | rfl | rfl | rfl | rfl | rfl | rfl | rfl | rfl <;> exact byCT
     ·intro p hp
      simp only [List.mem_cons, List.not_mem_nil, or_false] at hp
      rcases hp with rfl | rfl | rfl | rfl | rfl | rfl <;> exact ⟨by first | ((repeat' with_reducible (first | refine ex_set _ ?_ | refine ex_al _ ?_ | exact ⟨_, by assumption⟩)); done) | first | exact ⟨_, by assumption⟩ | assumption | (go_simp; done) | (go_simp; exact ⟨_, rfl⟩), by first | ((repeat' first | with_reducible (first | assumption | refine frz_al _ ?_ ?_ | refine frz_set _ ?_) | omega | (simp; omega)); done) | assumption | (go_simp; done)⟩
     ·(repeat' first | with_reducible (first | exact Below.refl _ _ | assumption | refine gr_alloc ?_ _ | refine below_drewN ?_ _ | refine below_drew ?_ | refine gr_call ?_ (by assumption) | refine Below.setCell ?_ ?_ _) | go_size | omega | (simp; omega))
    ·clear h1 h2 h3
     try clear c00
     try clear c01
     try clear c02
     try clear c10
     try clear c11
     try clear c12
     try clear c20
     try clear c21
     try clear c22
     try clear f10
     try clear f11
     try clear f12
     try clear f20
     try clear f21
     try clear f22
     refine ⟨?r43x0, ?r43x1, ?r43x2, ?r43x3, ?r43x4, ?r43x5, ?r43x6, trivial⟩
     all_goals intro _ aq wx Kq hf hS hPQ hdep ev1 ev2 hK
     case' r43x0 =>
      have F2 : aq.eval (.tmp 2) = .pointer (some ⟨w.heap.size, 0, none⟩) := hf 2
      have c0 := hS.cells (⟨w.heap.size, 0, none⟩, .int .i64 (F.1)) (by simp)
      have c1 := hS.cells (⟨w.heap.size, 1, none⟩, .int .i64 (F.2.1)) (by simp)
      have c2 := hS.cells (⟨w.heap.size, 2, none⟩, .int .i64 (F.2.2)) (by simp)
     case' r43x1 =>
      have D0 : aq.eval (.tmp 26) = _ := hdep 0
     case' r43x2 =>
      have F7 : aq.eval (.tmp 7) = .pointer (some ⟨g7, 0, none⟩) := hf 7
      have c0 := hS.cells (⟨g7, 0, none⟩, .int .i64 (G.1)) (by simp)
      have c1 := hS.cells (⟨g7, 1, none⟩, .int .i64 (G.2.1)) (by simp)
      have c2 := hS.cells (⟨g7, 2, none⟩, .int .i64 (G.2.2)) (by simp)
     case' r43x5 =>
      have D1 : aq.eval (.tmp 27) = _ := hdep 1
      obtain ⟨gn, D3, r1, r2, r3⟩ := hdep 3
      change aq.eval (.tmp 8) = _ at D3
      obtain ⟨⟨vx0, cx0⟩, cf0⟩ := r3 0 (by decide)
      obtain ⟨⟨vx1, cx1⟩, cf1⟩ := r3 1 (by decide)
      obtain ⟨⟨vx2, cx2⟩, cf2⟩ := r3 2 (by decide)
      have D3' : tau aq 8 = _ := D3
     case' r43x6 =>
      have D2 : aq.eval (.tmp 28) = _ := hdep 2
      obtain ⟨gn, D4, r1, r2, r3⟩ := hdep 4
      change aq.eval (.tmp 9) = _ at D4
      obtain ⟨⟨vx0, cx0⟩, cf0⟩ := r3 0 (by decide)
      obtain ⟨⟨vx1, cx1⟩, cf1⟩ := r3 1 (by decide)
      obtain ⟨⟨vx2, cx2⟩, cf2⟩ := r3 2 (by decide)
      have D4' : tau aq 9 = _ := D4
     all_goals (clear hf hdep; unfold Oper.wp; generalize Act.eval _ = ev at *; go_simp)
     case r43x1 =>
      refine ((rd_rwi F X0 _ h0.i (unhide hX0))).mono ?_
      rintro e w2 ⟨rfl, hb⟩
      refine hK _ _ (hS.call hb) ?_ (fun j u _ _ h => Kd.ok_below hb h) (PairOk.put hPQ (by decide) (by decide) hb.size)
      rw [if_pos (by rfl)]
      show (_ : Value) = _
      first | rfl | (refine congrArg (Value.int .i64) ?_; first | rfl | exact int_in (by omega) | exact quo_in (by omega) (by omega) (by omega) | exact rem_in (by omega) (by omega) | omega) | (simp; done) | (simp [*]; done)
     case r43x3 =>
      refine hK _ _ (hS.call (below_alloc_self _ _)) ?_ (fun j u _ _ h => Kd.ok_below (below_alloc_self _ _) h) (PairOk.left hPQ (by decide) (by simp))
      rw [if_pos (by rfl)]
      exact kd_new hS.size rfl
     case r43x4 =>
      refine hK _ _ (hS.call (below_alloc_self _ _)) ?_ (fun j u _ _ h => Kd.ok_below (below_alloc_self _ _) h) (PairOk.right hPQ (by decide) (by simp))
      rw [if_pos (by rfl)]
      exact kd_new hS.size rfl
     case r43x5 =>
      refine hK undef (setAll gn 0 [.int .i64 (X0.1), .int .i64 (X0.2.1), .int .i64 (X0.2.2)] wx) (Sy.setAll_new r1 hS) ?_ (fun j u hj hu h => ?_) (PairOk.put hPQ (by decide) (by decide) (by rw [setAll_size]; exact Nat.le_refl _))
      ·rw [if_neg (by decide)]
       exact kd_held r1 r2 D3' r3
      ·match j, hj with
       | 0, hj | 1, hj | 2, hj => exact (show (u : Value) = _ from h)
       | 3, hj | 4, hj => exact Kd.ok_setAll_new (k := Kd.own (w3.heap.size) 3) rfl (fun B' cs e => by cases e) h
       | 5, hj => exact absurd rfl hj
       | 6, hj => exact held_far h (fun b e => hPQ.ne _ _ _ _ D3' (hu.symm.trans e))
       | j + 7, _ => trivial
     case r43x6 =>
      refine hK undef (setAll gn 0 [.int .i64 (G.1), .int .i64 (G.2.1), .int .i64 (G.2.2)] wx) (Sy.setAll_new r1 hS) ?_ (fun j u hj hu h => ?_) (PairOk.put hPQ (by decide) (by decide) (by rw [setAll_size]; exact Nat.le_refl _))
      ·rw [if_neg (by decide)]
       exact kd_held r1 r2 D4' r3
      ·match j, hj with
       | 0, hj | 1, hj | 2, hj => exact (show (u : Value) = _ from h)
       | 3, hj | 4, hj => exact Kd.ok_setAll_new (k := Kd.own (w3.heap.size) 3) rfl (fun B' cs e => by cases e) h
       | 5, hj => exact held_far h (fun b e => (hPQ.ne _ _ _ _ (hu.symm.trans e) D4').symm)
       | 6, hj => exact absurd rfl hj
       | j + 7, _ => trivial
     all_goals (refine hK _ _ hS ?_ (fun j u _ _ h => h) (PairOk.put hPQ (by decide) (by decide) (Nat.le_refl _)); rw [if_pos (by rfl)]; show (_ : Value) = _; (first | rfl | (refine congrArg (Value.int .i64) ?_; first | rfl | exact int_in (by omega) | exact quo_in (by omega) (by omega) (by omega) | exact rem_in (by omega) (by omega) | omega) | (simp; done) | (simp [*]; done)))
    ·intro aq wx hPQ hd hw hf hS hg
     obtain ⟨g80, G8, r1g80, r2g80, r3g80⟩ := hg 5 (by decide)
     change tau aq 8 = _ at G8
     obtain ⟨g81, G9, r1g81, r2g81, r3g81⟩ := hg 6 (by decide)
     change tau aq 9 = _ at G9
     have haq : aq = ⟨#[tau aq 0, tau aq 1, tau aq 2, tau aq 3, tau aq 4, tau aq 5, tau aq 6, tau aq 7, tau aq 8, tau aq 9, tau aq 10, tau aq 11, tau aq 12, tau aq 13, tau aq 14, tau aq 15, tau aq 16, tau aq 17, tau aq 18, tau aq 19, tau aq 20, tau aq 21, tau aq 22, tau aq 23, tau aq 24, tau aq 25, tau aq 26, tau aq 27, tau aq 28, tau aq 29, tau aq 30, tau aq 31, tau aq 32, tau aq 33, tau aq 34, tau aq 35, tau aq 36, tau aq 37, tau aq 38, tau aq 39, tau aq 40, tau aq 41, tau aq 42, tau aq 43, tau aq 44, tau aq 45, tau aq 46, tau aq 47, tau aq 48, tau aq 49, tau aq 50, tau aq 51, tau aq 52], []⟩ := by
      obtain ⟨tq, dq⟩ := aq
      have h5 := arr_eq (show tq.size = 53 from hw)
      have h6 : dq = [] := hd
      subst h6
      exact congrArg (fun z => Act.mk z []) h5
     show K2 aq wx
     rw [haq, hf 0, hf 1, hf 2, hf 3, hf 4, hf 5, hf 6, hf 7, hf 10, hf 11, hf 12, hf 13, hf 14, hf 15, hf 16, hf 17, hf 18, hf 19, hf 20, hf 21, hf 22, hf 23, hf 24, hf 25, hf 29, hf 30, hf 31, hf 32, hf 33, hf 34, hf 35, hf 36, hf 37, hf 38, hf 39, hf 40, hf 41, hf 42, hf 43, hf 44, hf 45, hf 46, hf 47, hf 48, hf 49, hf 50, hf 51, hf 52, G8, G9]
     clear haq hf hd hw
     try dsimp only
     refine h3 _ _ ?_
     go_meet
     refine ⟨g80, g81, rfl, rfl, Ri3.m ?_ ?_ ?_, Wi3.m ?_ ?_ ?_ ?_ ?_ ?_, Wi3.m ?_ ?_ ?_ ?_ ?_ ?_, Wi3.m (r3g80 0 (by simp)).1 (r3g80 1 (by simp)).1 (r3g80 2 (by simp)).1 (r3g80 0 (by simp)).2 (r3g80 1 (by simp)).2 (r3g80 2 (by simp)).2, Wi3.m (r3g81 0 (by simp)).1 (r3g81 1 (by simp)).1 (r3g81 2 (by simp)).1 (r3g81 0 (by simp)).2 (r3g81 1 (by simp)).2 (r3g81 2 (by simp)).2, hS.below, r1g80, r1g81, (hPQ.ne _ _ _ _ G8 G9)⟩
     all_goals first | exact hS.cells (_, _) (by simp) | exact (hS.free _ (by simp)).2
   try clear c00
   try clear c01
   try clear c02
   try clear c10
   try clear c11
   try clear c12
   try clear c20
   try clear c21
   try clear c22
   try clear f10
   try clear f11
   try clear f12
   try clear f20
   try clear f21
   try clear f22
   obtain ⟨g80, g81, rfl, rfl, ⟨c00, c01, c02, z0⟩, ⟨c10, c11, c12, f10, f11, f12, z1⟩, ⟨c20, c21, c22, f20, f21, f22, z2⟩, ⟨c30, c31, c32, f30, f31, f32, z3⟩, ⟨c40, c41, c42, f40, f41, f42, z4⟩, hb0, ng80, ng81, npq⟩ := hcut
   obtain ⟨w4, rfl⟩ : ∃ w4 : World, w4 = wc := ⟨_, rfl⟩
   have zB : w.heap.size + 1 < w4.heap.size ∧ g7 < w4.heap.size ∧ g80 < w4.heap.size ∧ g81 < w4.heap.size := ⟨z1, z2, z3, z4⟩
   clear z0 z1 z2 z3 z4
   go_wp2
   go_loopw [1, 10] (fun s1 s10 wr => ∃ (jx : Nat) (a : Option Addr) (c : Nat), s1 = .int .i64 ((kn : Int) - jx) ∧ s10 = .slice a jx c ∧ (jx ≤ kn ∧ w4.heap.size ≤ wr.heap.size ∧ ∃ ga, a = some (⟨ga, 0, none⟩ : Addr)) ∧ wr.cell? ⟨w.heap.size + 1, 0, none⟩ = some (.int .i64 0) ∧ wr.cell? ⟨w.heap.size + 1, 1, none⟩ = some (.int .i64 0) ∧ wr.cell? ⟨w.heap.size + 1, 2, none⟩ = some (.int .i64 0) ∧ wr.cell? ⟨g7, 0, none⟩ = some (.int .i64 (G.1)) ∧ wr.cell? ⟨g7, 1, none⟩ = some (.int .i64 (G.2.1)) ∧ wr.cell? ⟨g7, 2, none⟩ = some (.int .i64 (G.2.2)) ∧ wr.cell? ⟨g80, 0, none⟩ = some (.int .i64 (((hpS D F kn jx).1).1)) ∧ wr.cell? ⟨g80, 1, none⟩ = some (.int .i64 (((hpS D F kn jx).1).2.1)) ∧ wr.cell? ⟨g80, 2, none⟩ = some (.int .i64 (((hpS D F kn jx).1).2.2)) ∧ wr.cell? ⟨g81, 0, none⟩ = some (.int .i64 (((hpS D F kn jx).2).1)) ∧ wr.cell? ⟨g81, 1, none⟩ = some (.int .i64 (((hpS D F kn jx).2).2.1)) ∧ wr.cell? ⟨g81, 2, none⟩ = some (.int .i64 (((hpS D F kn jx).2).2.2)) ∧ wr.frozen? ⟨w.heap.size + 1, 0, none⟩ = false ∧ wr.frozen? ⟨w.heap.size + 1, 1, none⟩ = false ∧ wr.frozen? ⟨w.heap.size + 1, 2, none⟩ = false ∧ wr.frozen? ⟨g80, 0, none⟩ = false ∧ wr.frozen? ⟨g80, 1, none⟩ = false ∧ wr.frozen? ⟨g80, 2, none⟩ = false ∧ wr.frozen? ⟨g81, 0, none⟩ = false ∧ wr.frozen? ⟨g81, 1, none⟩ = false ∧ wr.frozen? ⟨g81, 2, none⟩ = false ∧ FormL wr w4.heap.size (.slice a jx c) jx (hpL D F kn jx) ∧ Below w.heap.size w wr) (fun s1 s10 _ => (intOf s1).toNat)
   case atStart =>
    refine ⟨0, _, _, by first | rfl | (congr 1; omega), rfl, ⟨by omega, by first | exact Nat.le_refl _ | (simp; done) | (simp; omega), ⟨_, rfl⟩⟩, ?_⟩
    rw [unhide HS0]
    refine ⟨?_, ?_, ?_, ?_, ?_, ?_, ?_, ?_, ?_, ?_, ?_, ?_, ?_, ?_, ?_, ?_, ?_, ?_, ?_, ?_, ?_, FormL.made w4 _ (Nat.le_refl _), ?_⟩
    all_goals first | with_reducible assumption | (go_simp; done) | (repeat' first | with_reducible (first | exact Below.refl _ _ | assumption | refine gr_alloc ?_ _ | refine below_drewN ?_ _ | refine below_drew ?_ | refine gr_call ?_ (by assumption) | refine Below.setCell ?_ ?_ _) | go_size | omega | (simp; omega))
   case round =>
    obtain ⟨jx, a, c, rfl, rfl, ⟨hjk, hz4, hsm⟩, c00, c01, c02, c10, c11, c12, c20, c21, c22, c30, c31, c32, f00, f01, f02, f20, f21, f22, f30, f31, f32, hl, hb⟩ := hrel
    obtain ⟨wl, rfl⟩ : ∃ wl : World, wl = wr := ⟨_, rfl⟩
    have hz := hb.size
    have hFB : FormL wl w4.heap.size (.slice a jx c) jx (hpL D F kn jx) := hl
    by_cases q : jx < kn
    ·have fX := (hpS_frm h0 kn jx).1
     have fY := (hpS_frm h0 kn jx).2
     have fM := hpM_frm h0 kn jx
     have hpw2 := two_pow_bd (n := kn - jx - 1) (by omega)
     obtain ⟨X, hX⟩ : ∃ X, X = (hpS D F kn jx).1 := ⟨_, rfl⟩
     obtain ⟨Y, hY⟩ : ∃ Y, Y = (hpS D F kn jx).2 := ⟨_, rfl⟩
     obtain ⟨M, hMe⟩ : ∃ M, M = hpM D F kn jx := ⟨_, rfl⟩
     obtain ⟨X2, hX2⟩ : ∃ X2, X2 = hvX D X Y M ((kn : Int) - jx) := ⟨_, rfl⟩
     obtain ⟨Y2, hY2⟩ : ∃ Y2, Y2 = hvY D X Y M ((kn : Int) - jx) := ⟨_, rfl⟩
     have HSn : Hid (hpS D F kn (jx + 1) = (X2, Y2)) := hide (by rw [hX2, hY2, hX, hY, hMe]; rfl)
     have HLn : Hid (hpL D F kn (jx + 1) = hpL D F kn jx ++ [M.1, M.2.1, M.2.2]) := hide (by rw [hMe]; rfl)
     obtain ⟨E2, hE2⟩ : ∃ E2 : Int, E2 = ((2 ^ (kn - jx - 1) : Nat) : Int) := ⟨_, rfl⟩
     have hE2b : 1 ≤ E2 ∧ E2 ≤ 64 := by omega
     have hM : Hid (M = sqN (rdT X) E2.toNat) := hide (by rw [hMe, hX, hE2]; rfl)
     have hen : ((kn : Int) - jx - 1).toNat = kn - jx - 1 := by omega
     have HEc : Hid (IntKind.i64.wrap (1 * 2 ^ ((kn : Int) - jx - 1).toNat) = E2) := hide (by rw [hE2, hen, Int.one_mul]; exact shl_b (by omega))
     have HEe : Hid (IntKind.i64.wrap (2 ^ (kn - jx - 1)) = E2) := hide (by rw [hE2]; exact shl_b (by omega))
     have HEd : Hid (IntKind.i64.wrap (2 ^ ((kn : Int) - jx - 1).toNat) = E2) := hide (by rw [hE2, hen]; exact shl_b (by omega))
     rw [← hX] at fX c20 c21 c22
     rw [← hY] at fY c30 c31 c32
     rw [← hMe] at fM
     replace hX2 := hide hX2
     replace hY2 := hide hY2
     have hkj : 0 < (kn : Int) - jx ∧ (kn : Int) - jx ≤ 6 := by omega
     have zs8 : w.heap.size + 1 < wl.heap.size ∧ g7 < wl.heap.size ∧ g80 < wl.heap.size ∧ g81 < wl.heap.size := ⟨World.block_lt_of_cell? _ _ c00, World.block_lt_of_cell? _ _ c10, World.block_lt_of_cell? _ _ c20, World.block_lt_of_cell? _ _ c30⟩
     clear hX hY hMe hE2 hen hpw2
     go_upto_region 8 with fail
     go_cut [11] (fun s11 wx => ∃ gm : Nat, s11 = .pointer (some ⟨gm, 0, none⟩) ∧ Wi3 wx (w.heap.size + 1) 0 0 0 ∧ Ri3 wx g7 G.1 G.2.1 G.2.2 ∧ Wi3 wx g80 X.1 X.2.1 X.2.2 ∧ Wi3 wx g81 Y.1 Y.2.1 Y.2.2 ∧ Wi3 wx gm M.1 M.2.1 M.2.2 ∧ Below wl.heap.size wl wx ∧ wl.heap.size ≤ gm)
     case first =>
      have h1 := trivial
      rename_i K2 h2 h3
      refine region_n0 (by kernel_rfl) (fun j => #[34,35,36,37,38,11,11].getD j 0) (fun j => Kd.ok ((fun j => match j with | 0 => Kd.val (.agg #[.int .i64 (X.1), .int .i64 (X.2.1), .int .i64 (X.2.2)]) | 1 => Kd.val (.int .i64 (((kn : Int) - jx))) | 2 => Kd.val (.int .i64 ((((kn : Int) - jx)) - 1)) | 3 => Kd.val (.int .i64 E2) | 4 => Kd.val (.agg #[.int .i64 (M.1), .int .i64 (M.2.1), .int .i64 (M.2.2)]) | 5 => Kd.own (wl.heap.size) 3 | 6 => Kd.held (wl.heap.size) [.int .i64 (M.1), .int .i64 (M.2.1), .int .i64 (M.2.2)] | _ => Kd.any : Nat → Kd) j)) (Sy wl (wl.heap.size) [(⟨w.heap.size + 1, 0, none⟩, .int .i64 0), (⟨w.heap.size + 1, 1, none⟩, .int .i64 0), (⟨w.heap.size + 1, 2, none⟩, .int .i64 0), (⟨g7, 0, none⟩, .int .i64 (G.1)), (⟨g7, 1, none⟩, .int .i64 (G.2.1)), (⟨g7, 2, none⟩, .int .i64 (G.2.2)), (⟨g80, 0, none⟩, .int .i64 (X.1)), (⟨g80, 1, none⟩, .int .i64 (X.2.1)), (⟨g80, 2, none⟩, .int .i64 (X.2.2)), (⟨g81, 0, none⟩, .int .i64 (Y.1)), (⟨g81, 1, none⟩, .int .i64 (Y.2.1)), (⟨g81, 2, none⟩, .int .i64 (Y.2.2))] [⟨w.heap.size + 1, 0, none⟩, ⟨w.heap.size + 1, 1, none⟩, ⟨w.heap.size + 1, 2, none⟩, ⟨g80, 0, none⟩, ⟨g80, 1, none⟩, ⟨g80, 2, none⟩, ⟨g81, 0, none⟩, ⟨g81, 1, none⟩, ⟨g81, 2, none⟩]) (by kernel_rfl) (by kernel_rfl) ?_ ?_ ?_ ?_
      ·intro j hj
       have hj2 : j < 7 := hj
       have : ∀ j, j < 7 → (#[34,35,36,37,38,11,11] : Array Nat).getD j 0 < 53 := by decide
       exact this j hj2
      ·refine Sy.drew (Sy.mk_of ?_ ?_ ?_ ?_)
       ·first | rfl | (simp; done) | (simp; omega)
       ·intro c hc
        simp only [List.mem_cons, List.not_mem_nil, or_false] at hc
        rcases hc with rfl | rfl | rfl | rfl | rfl | rfl | rfl | rfl | rfl | rfl | rfl | rfl <;> exact byCT
       ·intro p hp
        simp only [List.mem_cons, List.not_mem_nil, or_false] at hp
        rcases hp with rfl | rfl | rfl | rfl | rfl | rfl | rfl | rfl | rfl <;> exact ⟨by first | ((repeat' with_reducible (first | refine ex_set _ ?_ | refine ex_al _ ?_ | exact ⟨_, by assumption⟩)); done) | first | exact ⟨_, by assumption⟩ | assumption | (go_simp; done) | (go_simp; exact ⟨_, rfl⟩), by first | ((repeat' first | with_reducible (first | assumption | refine frz_al _ ?_ ?_ | refine frz_set _ ?_) | omega | (simp; omega)); done) | assumption | (go_simp; done)⟩
       ·(repeat' first | with_reducible (first | exact Below.refl _ _ | assumption | refine gr_alloc ?_ _ | refine below_drewN ?_ _ | refine below_drew ?_ | refine gr_call ?_ (by assumption) | refine Below.setCell ?_ ?_ _) | go_size | omega | (simp; omega))
      ·clear h1 h2 h3
       try clear c00
       try clear c01
       try clear c02
       try clear c10
       try clear c11
       try clear c12
       try clear c20
       try clear c21
       try clear c22
       try clear c30
       try clear c31
       try clear c32
       try clear f00
       try clear f01
       try clear f02
       try clear f20
       try clear f21
       try clear f22
       try clear f30
       try clear f31
       try clear f32
       refine ⟨?r44x0, ?r44x1, ?r44x2, ?r44x3, ?r44x4, ?r44x5, ?r44x6, trivial⟩
       all_goals intro _ aq wx Kq hf hS hdep ev1 ev2 hK
       case' r44x0 =>
        have F8 : aq.eval (.tmp 8) = .pointer (some ⟨g80, 0, none⟩) := hf 8
        have c0 := hS.cells (⟨g80, 0, none⟩, .int .i64 (X.1)) (by simp)
        have c1 := hS.cells (⟨g80, 1, none⟩, .int .i64 (X.2.1)) (by simp)
        have c2 := hS.cells (⟨g80, 2, none⟩, .int .i64 (X.2.2)) (by simp)
       case' r44x1 =>
        have F1 : aq.eval (.tmp 1) = .int .i64 (((kn : Int) - jx)) := hf 1
       case' r44x2 =>
        have D1 : aq.eval (.tmp 35) = _ := hdep 1
       case' r44x3 =>
        have D2 : aq.eval (.tmp 36) = _ := hdep 2
       case' r44x4 =>
        have D0 : aq.eval (.tmp 34) = _ := hdep 0
        have D3 : aq.eval (.tmp 37) = _ := hdep 3
       case' r44x6 =>
        have D4 : aq.eval (.tmp 38) = _ := hdep 4
        obtain ⟨gn, D5, r1, r2, r3⟩ := hdep 5
        change aq.eval (.tmp 11) = _ at D5
        obtain ⟨⟨vx0, cx0⟩, cf0⟩ := r3 0 (by decide)
        obtain ⟨⟨vx1, cx1⟩, cf1⟩ := r3 1 (by decide)
        obtain ⟨⟨vx2, cx2⟩, cf2⟩ := r3 2 (by decide)
        have D5' : tau aq 11 = _ := D5
       all_goals (clear hf hdep; unfold Oper.wp; generalize Act.eval _ = ev at *; go_simp)
       case r44x4 =>
        refine ((sq_rwi X M E2 _ fX.i (by omega) (by omega) (unhide hM))).mono ?_
        rintro e w2 ⟨rfl, hb⟩
        refine hK _ _ (hS.call hb) ?_ (fun j u _ h => Kd.ok_below hb h)
        rw [if_pos (by rfl)]
        show (_ : Value) = _
        first | rfl | (refine congrArg (Value.int .i64) ?_; first | rfl | exact int_in (by omega) | exact quo_in (by omega) (by omega) (by omega) | exact rem_in (by omega) (by omega) | omega | exact unhide HEc | exact unhide HEd | exact unhide HEe) | (simp; done) | (simp [*]; done)
       case r44x5 =>
        refine hK _ _ (hS.call (below_alloc_self _ _)) ?_ (fun j u _ h => Kd.ok_below (below_alloc_self _ _) h)
        rw [if_pos (by rfl)]
        exact kd_new hS.size rfl
       case r44x6 =>
        refine hK undef (setAll gn 0 [.int .i64 (M.1), .int .i64 (M.2.1), .int .i64 (M.2.2)] wx) (Sy.setAll_new r1 hS) ?_ (fun j u hj h => ?_)
        ·rw [if_neg (by decide)]
         exact kd_held r1 r2 D5' r3
        ·match j, hj with
         | 0, hj | 1, hj | 2, hj | 3, hj | 4, hj => exact (show (u : Value) = _ from h)
         | 5, hj => exact Kd.ok_setAll_new (k := Kd.own (wl.heap.size) 3) rfl (fun B' cs e => by cases e) h
         | 6, hj => exact absurd rfl hj
         | j + 7, _ => trivial
       all_goals (refine hK _ _ hS ?_ (fun j u _ h => h); rw [if_pos (by rfl)]; show (_ : Value) = _; (first | rfl | (refine congrArg (Value.int .i64) ?_; first | rfl | exact int_in (by omega) | exact quo_in (by omega) (by omega) (by omega) | exact rem_in (by omega) (by omega) | omega | exact unhide HEc | exact unhide HEd | exact unhide HEe) | (simp; done) | (simp [*]; done)))
      ·intro aq wx hd hw hf hS hg
       obtain ⟨gm, G11, r1gm, r2gm, r3gm⟩ := hg 6 (by decide)
       change tau aq 11 = _ at G11
       have haq : aq = ⟨#[tau aq 0, tau aq 1, tau aq 2, tau aq 3, tau aq 4, tau aq 5, tau aq 6, tau aq 7, tau aq 8, tau aq 9, tau aq 10, tau aq 11, tau aq 12, tau aq 13, tau aq 14, tau aq 15, tau aq 16, tau aq 17, tau aq 18, tau aq 19, tau aq 20, tau aq 21, tau aq 22, tau aq 23, tau aq 24, tau aq 25, tau aq 26, tau aq 27, tau aq 28, tau aq 29, tau aq 30, tau aq 31, tau aq 32, tau aq 33, tau aq 34, tau aq 35, tau aq 36, tau aq 37, tau aq 38, tau aq 39, tau aq 40, tau aq 41, tau aq 42, tau aq 43, tau aq 44, tau aq 45, tau aq 46, tau aq 47, tau aq 48, tau aq 49, tau aq 50, tau aq 51, tau aq 52], []⟩ := by
        obtain ⟨tq, dq⟩ := aq
        have h5 := arr_eq (show tq.size = 53 from hw)
        have h6 : dq = [] := hd
        subst h6
        exact congrArg (fun z => Act.mk z []) h5
       show K2 aq wx
       rw [haq, hf 0, hf 1, hf 2, hf 3, hf 4, hf 5, hf 6, hf 7, hf 8, hf 9, hf 10, hf 12, hf 13, hf 14, hf 15, hf 16, hf 17, hf 18, hf 19, hf 20, hf 21, hf 22, hf 23, hf 24, hf 25, hf 26, hf 27, hf 28, hf 29, hf 30, hf 31, hf 32, hf 33, hf 39, hf 40, hf 41, hf 42, hf 43, hf 44, hf 45, hf 46, hf 47, hf 48, hf 49, hf 50, hf 51, hf 52, G11]
       clear haq hf hd hw
       try dsimp only
       refine h3 _ _ ?_
       go_meet
       refine ⟨gm, rfl, Wi3.m ?_ ?_ ?_ ?_ ?_ ?_, Ri3.m ?_ ?_ ?_, Wi3.m ?_ ?_ ?_ ?_ ?_ ?_, Wi3.m ?_ ?_ ?_ ?_ ?_ ?_, Wi3.m (r3gm 0 (by simp)).1 (r3gm 1 (by simp)).1 (r3gm 2 (by simp)).1 (r3gm 0 (by simp)).2 (r3gm 1 (by simp)).2 (r3gm 2 (by simp)).2, hS.below, r1gm⟩
       all_goals first | exact hS.cells (_, _) (by simp) | exact (hS.free _ (by simp)).2
     try clear c00
     try clear c01
     try clear c02
     try clear c10
     try clear c11
     try clear c12
     try clear c20
     try clear c21
     try clear c22
     try clear c30
     try clear c31
     try clear c32
     try clear f00
     try clear f01
     try clear f02
     try clear f20
     try clear f21
     try clear f22
     try clear f30
     try clear f31
     try clear f32
     obtain ⟨gm, rfl, ⟨c00, c01, c02, f00, f01, f02, z0⟩, ⟨c10, c11, c12, z1⟩, ⟨c20, c21, c22, f20, f21, f22, z2⟩, ⟨c30, c31, c32, f30, f31, f32, z3⟩, ⟨c40, c41, c42, f40, f41, f42, z4⟩, hb0, ngm⟩ := hcut
     obtain ⟨w5, rfl⟩ : ∃ w5 : World, w5 = wc := ⟨_, rfl⟩
     have hl2 := hl.below hb0
     have hz5 := hb0.size
     have KE : ∀ b, b < w4.heap.size ∨ wl.heap.size ≤ b → some b ≠ (Value.slice a jx c).ownBlock := fun b hb9 he => by have := hl.lt b he.symm; omega
     have hb5 : Below w.heap.size w w5 := hb.trans (hb0.mono hz)
     have hz45 : w4.heap.size ≤ w5.heap.size := Nat.le_trans hz4 hz5
     go_wp2_with (at_builtin; go_loud (refine app_Form _ rfl (.tmp 39) (.tmp 41) rfl w4.heap.size (.slice a jx c) jx (hpL D F kn jx) M.1 M.2.1 M.2.2 w5.heap.size rfl rfl (hl2.alloc _) (by go_simp) (by go_simp) (by go_simp) (by omega) (by simp; omega) ?_; intro g2 cap2 w6 hown hgrow hat hlt2; have d00 : w6.cell? ⟨w.heap.size + 1, 0, none⟩ = some (.int .i64 0) := hgrow.cell byCT (KE (w.heap.size + 1) (by omega)); have e00 : w6.frozen? ⟨w.heap.size + 1, 0, none⟩ = false := (hgrow.frozen_far ⟨w.heap.size + 1, 0, none⟩ (by simp; omega) (KE (w.heap.size + 1) (by omega))).trans byFT; have d01 : w6.cell? ⟨w.heap.size + 1, 1, none⟩ = some (.int .i64 0) := hgrow.cell byCT (KE (w.heap.size + 1) (by omega)); have e01 : w6.frozen? ⟨w.heap.size + 1, 1, none⟩ = false := (hgrow.frozen_far ⟨w.heap.size + 1, 1, none⟩ (by simp; omega) (KE (w.heap.size + 1) (by omega))).trans byFT; have d02 : w6.cell? ⟨w.heap.size + 1, 2, none⟩ = some (.int .i64 0) := hgrow.cell byCT (KE (w.heap.size + 1) (by omega)); have e02 : w6.frozen? ⟨w.heap.size + 1, 2, none⟩ = false := (hgrow.frozen_far ⟨w.heap.size + 1, 2, none⟩ (by simp; omega) (KE (w.heap.size + 1) (by omega))).trans byFT; have d10 : w6.cell? ⟨g7, 0, none⟩ = some (.int .i64 (G.1)) := hgrow.cell byCT (KE (g7) (by omega)); have d11 : w6.cell? ⟨g7, 1, none⟩ = some (.int .i64 (G.2.1)) := hgrow.cell byCT (KE (g7) (by omega)); have d12 : w6.cell? ⟨g7, 2, none⟩ = some (.int .i64 (G.2.2)) := hgrow.cell byCT (KE (g7) (by omega)); have d20 : w6.cell? ⟨g80, 0, none⟩ = some (.int .i64 (X.1)) := hgrow.cell byCT (KE (g80) (by omega)); have e20 : w6.frozen? ⟨g80, 0, none⟩ = false := (hgrow.frozen_far ⟨g80, 0, none⟩ (by simp; omega) (KE (g80) (by omega))).trans byFT; have d21 : w6.cell? ⟨g80, 1, none⟩ = some (.int .i64 (X.2.1)) := hgrow.cell byCT (KE (g80) (by omega)); have e21 : w6.frozen? ⟨g80, 1, none⟩ = false := (hgrow.frozen_far ⟨g80, 1, none⟩ (by simp; omega) (KE (g80) (by omega))).trans byFT; have d22 : w6.cell? ⟨g80, 2, none⟩ = some (.int .i64 (X.2.2)) := hgrow.cell byCT (KE (g80) (by omega)); have e22 : w6.frozen? ⟨g80, 2, none⟩ = false := (hgrow.frozen_far ⟨g80, 2, none⟩ (by simp; omega) (KE (g80) (by omega))).trans byFT; have d30 : w6.cell? ⟨g81, 0, none⟩ = some (.int .i64 (Y.1)) := hgrow.cell byCT (KE (g81) (by omega)); have e30 : w6.frozen? ⟨g81, 0, none⟩ = false := (hgrow.frozen_far ⟨g81, 0, none⟩ (by simp; omega) (KE (g81) (by omega))).trans byFT; have d31 : w6.cell? ⟨g81, 1, none⟩ = some (.int .i64 (Y.2.1)) := hgrow.cell byCT (KE (g81) (by omega)); have e31 : w6.frozen? ⟨g81, 1, none⟩ = false := (hgrow.frozen_far ⟨g81, 1, none⟩ (by simp; omega) (KE (g81) (by omega))).trans byFT; have d32 : w6.cell? ⟨g81, 2, none⟩ = some (.int .i64 (Y.2.2)) := hgrow.cell byCT (KE (g81) (by omega)); have e32 : w6.frozen? ⟨g81, 2, none⟩ = false := (hgrow.frozen_far ⟨g81, 2, none⟩ (by simp; omega) (KE (g81) (by omega))).trans byFT; have d40 : w6.cell? ⟨gm, 0, none⟩ = some (.int .i64 (M.1)) := hgrow.cell byCT (KE (gm) (by omega)); have d41 : w6.cell? ⟨gm, 1, none⟩ = some (.int .i64 (M.2.1)) := hgrow.cell byCT (KE (gm) (by omega)); have d42 : w6.cell? ⟨gm, 2, none⟩ = some (.int .i64 (M.2.2)) := hgrow.cell byCT (KE (gm) (by omega)); have hz6 := hgrow.size; simp at hz6; have hb6 : Below w.heap.size w w6 := (hb5.alloc (by omega) _).grown hgrow (by simp; omega) (fun k hk => by have := (hl2.lt k hk).1; omega); clear c00 c01 c02 c10 c11 c12 c20 c21 c22 c30 c31 c32 c40 c41 c42 f00 f01 f02 f20 f21 f22 f30 f31 f32; have c00 := d00; have c01 := d01; have c02 := d02; have c10 := d10; have c11 := d11; have c12 := d12; have c20 := d20; have c21 := d21; have c22 := d22; have c30 := d30; have c31 := d31; have c32 := d32; have c40 := d40; have c41 := d41; have c42 := d42; have f00 := e00; have f01 := e01; have f02 := e02; have f20 := e20; have f21 := e21; have f22 := e22; have f30 := e30; have f31 := e31; have f32 := e32; clear d00 d01 d02 d10 d11 d12 d20 d21 d22 d30 d31 d32 d40 d41 d42 e00 e01 e02 e20 e21 e22 e30 e31 e32))
     refine (hv_rwi X Y M X2 Y2 ((kn : Int) - jx) _ fX fY fM (by omega) (by omega) (unhide hX2) (unhide hY2)).mono ?_
     rintro en w7 ⟨rfl, hb7⟩
     have tq0 := Wi3.c hb7 (w.heap.size + 1) 0 0 0
     have tq1 := Ri3.c hb7 g7 G.1 G.2.1 G.2.2
     have tq2 := Wi3.c hb7 g80 X.1 X.2.1 X.2.2
     have tq3 := Wi3.c hb7 g81 Y.1 Y.2.1 Y.2.2
     have tq4 := Ri3.c hb7 gm M.1 M.2.1 M.2.2
     try clear c00 c01 c02 f00 f01 f02
     try clear c10 c11 c12
     try clear c20 c21 c22 f20 f21 f22
     try clear c30 c31 c32 f30 f31 f32
     try clear c40 c41 c42
     obtain ⟨c00, c01, c02, f00, f01, f02, z0⟩ := tq0
     obtain ⟨c10, c11, c12, z1⟩ := tq1
     obtain ⟨c20, c21, c22, f20, f21, f22, z2⟩ := tq2
     obtain ⟨c30, c31, c32, f30, f31, f32, z3⟩ := tq3
     obtain ⟨c40, c41, c42, z4⟩ := tq4
     have hs7 := hb7.size
     have hbw : Below w.heap.size w w7 := hb6.trans (hb7.mono (by omega))
     have hl7 := hown.below hb7
     go_wp2
     go_roundw
     case rel =>
      refine ⟨jx + 1, some ⟨g2, 0, none⟩, cap2, by first | rfl | (congr 1; omega), rfl, ⟨by omega, by first | omega | (simp; omega), ⟨_, rfl⟩⟩, ?_⟩
      rw [unhide HSn, unhide HLn]
      refine ⟨?_, ?_, ?_, ?_, ?_, ?_, ?_, ?_, ?_, ?_, ?_, ?_, ?_, ?_, ?_, ?_, ?_, ?_, ?_, ?_, ?_, ?_, ?_⟩
      case refine_22 =>
       (repeat' refine ownsRow_setCell_below ?_ (by first | exact zB.2.2.1 | exact zB.2.2.2 | (simp; omega)) _)
       exact hl7
      all_goals first | with_reducible assumption | (go_simp; done) | (repeat' first | with_reducible (first | exact Below.refl _ _ | assumption | refine gr_alloc ?_ _ | refine below_drewN ?_ _ | refine below_drew ?_ | refine gr_call ?_ (by assumption) | refine Below.setCell ?_ ?_ _) | go_size | omega | (simp; omega))
     case measure => (simp [intOf]; omega)
    ·obtain rfl : kn = jx := by omega
     obtain ⟨ga, rfl⟩ := hsm
     go_wp2
     refine bodyPost_ret (v := .tuple #[frm G, .slice (some ⟨ga, 0, none⟩) kn c, .bool true]) (by simp [results, Tryz.results20, go_sem, *]) rfl ?_
     refine ⟨ga, c, rfl, ?_, byGG, (by have := (hl.lt ga rfl).2; simpa using this)⟩
     have hle : FormL (((wl.setCell ⟨w.heap.size + 1, 0, none⟩ (.int .i64 G.1)).setCell ⟨w.heap.size + 1, 1, none⟩ (.int .i64 G.2.1)).setCell ⟨w.heap.size + 1, 2, none⟩ (.int .i64 G.2.2)) w4.heap.size (.slice (some ⟨ga, 0, none⟩) kn c) kn (hpL D F kn kn) := by
      refine ownsRow_setCell_below (ownsRow_setCell_below (ownsRow_setCell_below hl ?_ _) ?_ _) ?_ _ <;> exact zB.1
     have hfa := hle.at.2
     exact hfa.weak2 (by omega)

set_option maxRecDepth 100000 in
set_option maxHeartbeats 8000000 in
theorem specHalvingProof (F : T3) (k : Int) (w : World)  : Calls Tryz.prog 21 #[frm F, .int .i64 k] w (RetFForms w (hpV F k) (hpN F k) (hpF F k) (hpB F k)) := by
 cases k0 : clB F
 ·have HN : hpN F k = 0 ∧ hpB F k = false ∧ hpV F k = (0, 0, 0) := by simp [hpN, hpB, hpV, k0]
  rw [HN.1, HN.2.1, HN.2.2]
  clear HN
  go_enter Tryz.func21, Tryz.ntmps21
  go_wp2_with fail
  refine (coGood_p F _).mono ?_
  rintro en w1 ⟨rfl, hb1⟩
  have tq0 := Ri3.c hb1 w.heap.size F.1 F.2.1 F.2.2
  have tq1 := Wi3.c hb1 (w.heap.size + 1) 0 0 0
  try clear c00 c01 c02
  try clear c10 c11 c12 f10 f11 f12
  obtain ⟨c00, c01, c02, z0⟩ := tq0
  obtain ⟨c10, c11, c12, f10, f11, f12, z1⟩ := tq1
  have hs1 := hb1.size
  have o10 := z0
  have o11 := z1
  rw [k0]
  go_wp2
  refine bodyPost_ret (v := .tuple #[.agg #[.int .i64 0, .int .i64 0, .int .i64 0], .slice none 0 0, .bool false]) (by simp [results, Tryz.results21, go_sem, *]) rfl ?_
  exact ⟨none, 0, rfl, .inl rfl, byGG⟩
 ·cases k1 : hvB k
  ·have HN : hpN F k = 0 ∧ hpB F k = false ∧ hpV F k = (0, 0, 0) := by simp [hpN, hpB, hpV, k0, k1]
   rw [HN.1, HN.2.1, HN.2.2]
   clear HN
   go_enter Tryz.func21, Tryz.ntmps21
   go_wp2_with fail
   refine (coGood_p F _).mono ?_
   rintro en w1 ⟨rfl, hb1⟩
   have tq0 := Ri3.c hb1 w.heap.size F.1 F.2.1 F.2.2
   have tq1 := Wi3.c hb1 (w.heap.size + 1) 0 0 0
   try clear c00 c01 c02
   try clear c10 c11 c12 f10 f11 f12
   obtain ⟨c00, c01, c02, z0⟩ := tq0
   obtain ⟨c10, c11, c12, f10, f11, f12, z1⟩ := tq1
   have hs1 := hb1.size
   have o10 := z0
   have o11 := z1
   rw [k0]
   go_wp2_with (go_at_call 63; refine (dlHalving_b _ _).mono ?_; rintro e w' ⟨rfl, rfl⟩)
   refine bodyPost_ret (v := .tuple #[.agg #[.int .i64 0, .int .i64 0, .int .i64 0], .slice none 0 0, .bool false]) (by simp [results, Tryz.results21, go_sem, *]) rfl ?_
   exact ⟨none, 0, rfl, .inl rfl, byGG⟩
  ·have HN : hpN F k = k.toNat ∧ hpB F k = true ∧ hpV F k = sqN (rdT F) (2 ^ k.toNat) := by simp [hpN, hpB, hpV, k0, k1]
   have ht := inB_true k1
   have h0 := frm_of k0
   rw [HN.1, HN.2.1, HN.2.2]
   clear HN
   obtain ⟨kn, rfl⟩ := Int.eq_ofNat_of_zero_le (show 0 ≤ k by omega)
   have htn : (kn : Int).toNat = kn := rfl
   have hF : hpF F (kn : Int) = fun i => (hpL (dT F) F kn kn).getD i 0 := rfl
   rw [hF, htn]
   clear hF htn
   obtain ⟨D, hD⟩ : ∃ D, D = dT F := ⟨_, rfl⟩
   rw [← hD] at h0 ⊢
   clear hD
   have hpw := two_pow_bd (n := kn) (by omega)
   obtain ⟨E, hE⟩ : ∃ E : Int, E = ((2 ^ kn : Nat) : Int) := ⟨_, rfl⟩
   have hEb : 1 ≤ E ∧ E ≤ 64 := by omega
   obtain ⟨G, hG⟩ : ∃ G, G = sqN (rdT F) (2 ^ kn) := ⟨_, rfl⟩
   rw [← hG]
   obtain ⟨X0, hX0⟩ : ∃ X0, X0 = rdT F := ⟨_, rfl⟩
   have HS0 : Hid (hpS D F kn 0 = (X0, G)) := hide (by rw [hX0, hG]; rfl)
   replace hG : Hid (G = sqN (rdT F) E.toNat) := hide (by rw [hE]; exact hG)
   replace hX0 := hide hX0
   have HEa : Hid (IntKind.i64.wrap (1 * 2 ^ (kn : Int).toNat) = E) := hide (by rw [hE]; exact shl_a (by omega))
   have HEb : Hid (IntKind.i64.wrap (2 ^ kn) = E) := hide (by rw [hE]; exact shl_b (by omega))
   replace hE := hide hE
   clear hpw
   go_enter Tryz.func21, Tryz.ntmps21
   go_wp2_with fail
   refine (coGood_p F _).mono ?_
   rintro en w1 ⟨rfl, hb1⟩
   have tq0 := Ri3.c hb1 w.heap.size F.1 F.2.1 F.2.2
   have tq1 := Wi3.c hb1 (w.heap.size + 1) 0 0 0
   try clear c00 c01 c02
   try clear c10 c11 c12 f10 f11 f12
   obtain ⟨c00, c01, c02, z0⟩ := tq0
   obtain ⟨c10, c11, c12, f10, f11, f12, z1⟩ := tq1
   have hs1 := hb1.size
   have o10 := z0
   have o11 := z1
   rw [k0]
   go_upto_region 3 with (go_at_call 63; refine (dlHalving_b _ _).mono ?_; rintro e w' ⟨rfl, rfl⟩)
   go_cut [7, 8, 9] (fun s7 s8 s9 wx => ∃ g7 : Nat, s7 = .pointer (some ⟨g7, 0, none⟩) ∧ s8 = undef ∧ s9 = undef ∧ Ri3 wx w.heap.size F.1 F.2.1 F.2.2 ∧ Wi3 wx (w.heap.size + 1) 0 0 0 ∧ Wi3 wx g7 G.1 G.2.1 G.2.2 ∧ Below w.heap.size w wx ∧ w1.heap.size ≤ g7)
   case first =>
    have h1 := trivial
    rename_i K2 h2 h3
    refine region_n0 (by kernel_rfl) (fun j => #[22,23,24,25,7,7].getD j 0) (fun j => Kd.ok ((fun j => match j with | 0 => Kd.val (.agg #[.int .i64 (F.1), .int .i64 (F.2.1), .int .i64 (F.2.2)]) | 1 => Kd.val (.int .i64 ((kn : Int))) | 2 => Kd.val (.int .i64 E) | 3 => Kd.val (.agg #[.int .i64 (G.1), .int .i64 (G.2.1), .int .i64 (G.2.2)]) | 4 => Kd.own (w1.heap.size) 3 | 5 => Kd.held (w1.heap.size) [.int .i64 (G.1), .int .i64 (G.2.1), .int .i64 (G.2.2)] | _ => Kd.any : Nat → Kd) j)) (Sy w (w1.heap.size) [(⟨w.heap.size, 0, none⟩, .int .i64 (F.1)), (⟨w.heap.size, 1, none⟩, .int .i64 (F.2.1)), (⟨w.heap.size, 2, none⟩, .int .i64 (F.2.2)), (⟨w.heap.size + 1, 0, none⟩, .int .i64 0), (⟨w.heap.size + 1, 1, none⟩, .int .i64 0), (⟨w.heap.size + 1, 2, none⟩, .int .i64 0)] [⟨w.heap.size + 1, 0, none⟩, ⟨w.heap.size + 1, 1, none⟩, ⟨w.heap.size + 1, 2, none⟩]) (by kernel_rfl) (by kernel_rfl) ?_ ?_ ?_ ?_
    ·intro j hj
     have hj2 : j < 6 := hj
     have : ∀ j, j < 6 → (#[22,23,24,25,7,7] : Array Nat).getD j 0 < 53 := by decide
     exact this j hj2
    ·refine Sy.drew (Sy.mk_of ?_ ?_ ?_ ?_)
     ·first | rfl | (simp; done) | (simp; omega)
     ·intro c hc
      simp only [List.mem_cons, List.not_mem_nil, or_false] at hc
      rcases hc with rfl | rfl | rfl | rfl | rfl | rfl <;> exact byCT
     ·intro p hp
      simp only [List.mem_cons, List.not_mem_nil, or_false] at hp
      rcases hp with rfl | rfl | rfl <;> exact ⟨by first | ((repeat' with_reducible (first | refine ex_set _ ?_ | refine ex_al _ ?_ | exact ⟨_, by assumption⟩)); done) | first | exact ⟨_, by assumption⟩ | assumption | (go_simp; done) | (go_simp; exact ⟨_, rfl⟩), by first | ((repeat' first | with_reducible (first | assumption | refine frz_al _ ?_ ?_ | refine frz_set _ ?_) | omega | (simp; omega)); done) | assumption | (go_simp; done)⟩
     ·(repeat' first | with_reducible (first | exact Below.refl _ _ | assumption | refine gr_alloc ?_ _ | refine below_drewN ?_ _ | refine below_drew ?_ | refine gr_call ?_ (by assumption) | refine Below.setCell ?_ ?_ _) | go_size | omega | (simp; omega))
    ·clear h1 h2 h3
     refine ⟨?r45x0, ?r45x1, ?r45x2, ?r45x3, ?r45x4, ?r45x5, trivial⟩
     all_goals intro _ aq wx Kq hf hS hdep ev1 ev2 hK
     case' r45x0 =>
      have F2 : aq.eval (.tmp 2) = .pointer (some ⟨w.heap.size, 0, none⟩) := hf 2
      have c0 := hS.cells (⟨w.heap.size, 0, none⟩, .int .i64 (F.1)) (by simp)
      have c1 := hS.cells (⟨w.heap.size, 1, none⟩, .int .i64 (F.2.1)) (by simp)
      have c2 := hS.cells (⟨w.heap.size, 2, none⟩, .int .i64 (F.2.2)) (by simp)
     case' r45x1 =>
      have F1 : aq.eval (.tmp 1) = .int .i64 ((kn : Int)) := hf 1
     case' r45x2 =>
      have D1 : aq.eval (.tmp 23) = _ := hdep 1
     case' r45x3 =>
      have D0 : aq.eval (.tmp 22) = _ := hdep 0
      have D2 : aq.eval (.tmp 24) = _ := hdep 2
     case' r45x5 =>
      have D3 : aq.eval (.tmp 25) = _ := hdep 3
      obtain ⟨gn, D4, r1, r2, r3⟩ := hdep 4
      change aq.eval (.tmp 7) = _ at D4
      obtain ⟨⟨vx0, cx0⟩, cf0⟩ := r3 0 (by decide)
      obtain ⟨⟨vx1, cx1⟩, cf1⟩ := r3 1 (by decide)
      obtain ⟨⟨vx2, cx2⟩, cf2⟩ := r3 2 (by decide)
      have D4' : tau aq 7 = _ := D4
     all_goals (clear hf hdep; unfold Oper.wp; generalize Act.eval _ = ev at *; go_simp)
     case r45x3 =>
      refine ((sq_rws F G E _ h0.i (by omega) (by omega) (unhide hG))).mono ?_
      rintro e w2 ⟨rfl, hb⟩
      refine hK _ _ (hS.call hb) ?_ (fun j u _ h => Kd.ok_below hb h)
      rw [if_pos (by rfl)]
      show (_ : Value) = _
      first | rfl | (refine congrArg (Value.int .i64) ?_; first | rfl | exact int_in (by omega) | exact quo_in (by omega) (by omega) (by omega) | exact rem_in (by omega) (by omega) | omega | exact unhide HEa | exact unhide HEb) | (simp; done) | (simp [*]; done)
     case r45x4 =>
      refine hK _ _ (hS.call (below_alloc_self _ _)) ?_ (fun j u _ h => Kd.ok_below (below_alloc_self _ _) h)
      rw [if_pos (by rfl)]
      exact kd_new hS.size rfl
     case r45x5 =>
      refine hK undef (setAll gn 0 [.int .i64 (G.1), .int .i64 (G.2.1), .int .i64 (G.2.2)] wx) (Sy.setAll_new r1 hS) ?_ (fun j u hj h => ?_)
      ·rw [if_neg (by decide)]
       exact kd_held r1 r2 D4' r3
      ·match j, hj with
       | 0, hj | 1, hj | 2, hj | 3, hj => exact (show (u : Value) = _ from h)
       | 4, hj => exact Kd.ok_setAll_new (k := Kd.own (w1.heap.size) 3) rfl (fun B' cs e => by cases e) h
       | 5, hj => exact absurd rfl hj
       | j + 6, _ => trivial
     all_goals (refine hK _ _ hS ?_ (fun j u _ h => h); rw [if_pos (by rfl)]; show (_ : Value) = _; (first | rfl | (refine congrArg (Value.int .i64) ?_; first | rfl | exact int_in (by omega) | exact quo_in (by omega) (by omega) (by omega) | exact rem_in (by omega) (by omega) | omega | exact unhide HEa | exact unhide HEb) | (simp; done) | (simp [*]; done)))
    ·intro aq wx hd hw hf hS hg
     obtain ⟨g7, G7, r1g7, r2g7, r3g7⟩ := hg 5 (by decide)
     change tau aq 7 = _ at G7
     have haq : aq = ⟨#[tau aq 0, tau aq 1, tau aq 2, tau aq 3, tau aq 4, tau aq 5, tau aq 6, tau aq 7, tau aq 8, tau aq 9, tau aq 10, tau aq 11, tau aq 12, tau aq 13, tau aq 14, tau aq 15, tau aq 16, tau aq 17, tau aq 18, tau aq 19, tau aq 20, tau aq 21, tau aq 22, tau aq 23, tau aq 24, tau aq 25, tau aq 26, tau aq 27, tau aq 28, tau aq 29, tau aq 30, tau aq 31, tau aq 32, tau aq 33, tau aq 34, tau aq 35, tau aq 36, tau aq 37, tau aq 38, tau aq 39, tau aq 40, tau aq 41, tau aq 42, tau aq 43, tau aq 44, tau aq 45, tau aq 46, tau aq 47, tau aq 48, tau aq 49, tau aq 50, tau aq 51, tau aq 52], []⟩ := by
      obtain ⟨tq, dq⟩ := aq
      have h5 := arr_eq (show tq.size = 53 from hw)
      have h6 : dq = [] := hd
      subst h6
      exact congrArg (fun z => Act.mk z []) h5
     show K2 aq wx
     rw [haq, hf 0, hf 1, hf 2, hf 3, hf 4, hf 5, hf 6, hf 8, hf 9, hf 10, hf 11, hf 12, hf 13, hf 14, hf 15, hf 16, hf 17, hf 18, hf 19, hf 20, hf 21, hf 26, hf 27, hf 28, hf 29, hf 30, hf 31, hf 32, hf 33, hf 34, hf 35, hf 36, hf 37, hf 38, hf 39, hf 40, hf 41, hf 42, hf 43, hf 44, hf 45, hf 46, hf 47, hf 48, hf 49, hf 50, hf 51, hf 52, G7]
     clear haq hf hd hw
     try dsimp only
     refine h3 _ _ ?_
     go_meet
     refine ⟨g7, rfl, rfl, rfl, Ri3.m ?_ ?_ ?_, Wi3.m ?_ ?_ ?_ ?_ ?_ ?_, Wi3.m (r3g7 0 (by simp)).1 (r3g7 1 (by simp)).1 (r3g7 2 (by simp)).1 (r3g7 0 (by simp)).2 (r3g7 1 (by simp)).2 (r3g7 2 (by simp)).2, hS.below, r1g7⟩
     all_goals first | exact hS.cells (_, _) (by simp) | exact (hS.free _ (by simp)).2
   obtain ⟨g7, rfl, rfl, rfl, ⟨c00, c01, c02, z0⟩, ⟨c10, c11, c12, f10, f11, f12, z1⟩, ⟨c20, c21, c22, f20, f21, f22, z2⟩, hb0, ng7⟩ := hcut
   obtain ⟨w3, rfl⟩ : ∃ w3 : World, w3 = wc := ⟨_, rfl⟩
   go_upto_region 4 with fail
   go_cut [8, 9] (fun s8 s9 wx => ∃ g80 g81 : Nat, s8 = .pointer (some ⟨g80, 0, none⟩) ∧ s9 = .pointer (some ⟨g81, 0, none⟩) ∧ Ri3 wx w.heap.size F.1 F.2.1 F.2.2 ∧ Wi3 wx (w.heap.size + 1) 0 0 0 ∧ Wi3 wx g7 G.1 G.2.1 G.2.2 ∧ Wi3 wx g80 X0.1 X0.2.1 X0.2.2 ∧ Wi3 wx g81 G.1 G.2.1 G.2.2 ∧ Below w.heap.size w wx ∧ w3.heap.size ≤ g80 ∧ w3.heap.size ≤ g81 ∧ ¬ g80 = g81)
   case first =>
    have h1 := trivial
    rename_i K2 h2 h3
    refine region_p0 (by kernel_rfl) (fun j => #[26,27,28,8,9,8,9].getD j 0) (fun j => Kd.ok ((fun j => match j with | 0 => Kd.val (.agg #[.int .i64 (F.1), .int .i64 (F.2.1), .int .i64 (F.2.2)]) | 1 => Kd.val (.agg #[.int .i64 (X0.1), .int .i64 (X0.2.1), .int .i64 (X0.2.2)]) | 2 => Kd.val (.agg #[.int .i64 (G.1), .int .i64 (G.2.1), .int .i64 (G.2.2)]) | 3 => Kd.own (w3.heap.size) 3 | 4 => Kd.own (w3.heap.size) 3 | 5 => Kd.held (w3.heap.size) [.int .i64 (X0.1), .int .i64 (X0.2.1), .int .i64 (X0.2.2)] | 6 => Kd.held (w3.heap.size) [.int .i64 (G.1), .int .i64 (G.2.1), .int .i64 (G.2.2)] | _ => Kd.any : Nat → Kd) j)) (Sy w (w3.heap.size) [(⟨w.heap.size, 0, none⟩, .int .i64 (F.1)), (⟨w.heap.size, 1, none⟩, .int .i64 (F.2.1)), (⟨w.heap.size, 2, none⟩, .int .i64 (F.2.2)), (⟨w.heap.size + 1, 0, none⟩, .int .i64 0), (⟨w.heap.size + 1, 1, none⟩, .int .i64 0), (⟨w.heap.size + 1, 2, none⟩, .int .i64 0), (⟨g7, 0, none⟩, .int .i64 (G.1)), (⟨g7, 1, none⟩, .int .i64 (G.2.1)), (⟨g7, 2, none⟩, .int .i64 (G.2.2))] [⟨w.heap.size + 1, 0, none⟩, ⟨w.heap.size + 1, 1, none⟩, ⟨w.heap.size + 1, 2, none⟩, ⟨g7, 0, none⟩, ⟨g7, 1, none⟩, ⟨g7, 2, none⟩]) 8 9 (by kernel_rfl) (by kernel_rfl) (PairOk.start (by rfl) (by rfl) (show 8 < 53 by decide) (show 9 < 53 by decide)) ?_ ?_ ?_ ?_
    ·intro j hj
     have hj2 : j < 7 := hj
     have : ∀ j, j < 7 → (#[26,27,28,8,9,8,9] : Array Nat).getD j 0 < 53 := by decide
     exact this j hj2
    ·refine Sy.drew (Sy.mk_of ?_ ?_ ?_ ?_)
     ·first | rfl | (simp; done) | (simp; omega)
     ·intro c hc
      simp only [List.mem_cons, List.not_mem_nil, or_false] at hc
      rcases hc with rfl | rfl | rfl | rfl | rfl | rfl | rfl | rfl | rfl <;> exact byCT
     ·intro p hp
      simp only [List.mem_cons, List.not_mem_nil, or_false] at hp
      rcases hp with rfl | rfl | rfl | rfl | rfl | rfl <;> exact ⟨by first | ((repeat' with_reducible (first | refine ex_set _ ?_ | refine ex_al _ ?_ | exact ⟨_, by assumption⟩)); done) | first | exact ⟨_, by assumption⟩ | assumption | (go_simp; done) | (go_simp; exact ⟨_, rfl⟩), by first | ((repeat' first | with_reducible (first | assumption | refine frz_al _ ?_ ?_ | refine frz_set _ ?_) | omega | (simp; omega)); done) | assumption | (go_simp; done)⟩
     ·(repeat' first | with_reducible (first | exact Below.refl _ _ | assumption | refine gr_alloc ?_ _ | refine below_drewN ?_ _ | refine below_drew ?_ | refine gr_call ?_ (by assumption) | refine Below.setCell ?_ ?_ _) | go_size | omega | (simp; omega))
    ·clear h1 h2 h3
     try clear c00
     try clear c01
     try clear c02
     try clear c10
     try clear c11
     try clear c12
     try clear c20
     try clear c21
     try clear c22
     try clear f10
     try clear f11
     try clear f12
     try clear f20
     try clear f21
     try clear f22
     refine ⟨?r46x0, ?r46x1, ?r46x2, ?r46x3, ?r46x4, ?r46x5, ?r46x6, trivial⟩
     all_goals intro _ aq wx Kq hf hS hPQ hdep ev1 ev2 hK
     case' r46x0 =>
      have F2 : aq.eval (.tmp 2) = .pointer (some ⟨w.heap.size, 0, none⟩) := hf 2
      have c0 := hS.cells (⟨w.heap.size, 0, none⟩, .int .i64 (F.1)) (by simp)
      have c1 := hS.cells (⟨w.heap.size, 1, none⟩, .int .i64 (F.2.1)) (by simp)
      have c2 := hS.cells (⟨w.heap.size, 2, none⟩, .int .i64 (F.2.2)) (by simp)
     case' r46x1 =>
      have D0 : aq.eval (.tmp 26) = _ := hdep 0
     case' r46x2 =>
      have F7 : aq.eval (.tmp 7) = .pointer (some ⟨g7, 0, none⟩) := hf 7
      have c0 := hS.cells (⟨g7, 0, none⟩, .int .i64 (G.1)) (by simp)
      have c1 := hS.cells (⟨g7, 1, none⟩, .int .i64 (G.2.1)) (by simp)
      have c2 := hS.cells (⟨g7, 2, none⟩, .int .i64 (G.2.2)) (by simp)
     case' r46x5 =>
      have D1 : aq.eval (.tmp 27) = _ := hdep 1
      obtain ⟨gn, D3, r1, r2, r3⟩ := hdep 3
      change aq.eval (.tmp 8) = _ at D3
      obtain ⟨⟨vx0, cx0⟩, cf0⟩ := r3 0 (by decide)
      obtain ⟨⟨vx1, cx1⟩, cf1⟩ := r3 1 (by decide)
      obtain ⟨⟨vx2, cx2⟩, cf2⟩ := r3 2 (by decide)
      have D3' : tau aq 8 = _ := D3
     case' r46x6 =>
      have D2 : aq.eval (.tmp 28) = _ := hdep 2
      obtain ⟨gn, D4, r1, r2, r3⟩ := hdep 4
      change aq.eval (.tmp 9) = _ at D4
      obtain ⟨⟨vx0, cx0⟩, cf0⟩ := r3 0 (by decide)
      obtain ⟨⟨vx1, cx1⟩, cf1⟩ := r3 1 (by decide)
      obtain ⟨⟨vx2, cx2⟩, cf2⟩ := r3 2 (by decide)
      have D4' : tau aq 9 = _ := D4
     all_goals (clear hf hdep; unfold Oper.wp; generalize Act.eval _ = ev at *; go_simp)
     case r46x1 =>
      refine ((rd_rws F X0 _ h0.i (unhide hX0))).mono ?_
      rintro e w2 ⟨rfl, hb⟩
      refine hK _ _ (hS.call hb) ?_ (fun j u _ _ h => Kd.ok_below hb h) (PairOk.put hPQ (by decide) (by decide) hb.size)
      rw [if_pos (by rfl)]
      show (_ : Value) = _
      first | rfl | (refine congrArg (Value.int .i64) ?_; first | rfl | exact int_in (by omega) | exact quo_in (by omega) (by omega) (by omega) | exact rem_in (by omega) (by omega) | omega) | (simp; done) | (simp [*]; done)
     case r46x3 =>
      refine hK _ _ (hS.call (below_alloc_self _ _)) ?_ (fun j u _ _ h => Kd.ok_below (below_alloc_self _ _) h) (PairOk.left hPQ (by decide) (by simp))
      rw [if_pos (by rfl)]
      exact kd_new hS.size rfl
     case r46x4 =>
      refine hK _ _ (hS.call (below_alloc_self _ _)) ?_ (fun j u _ _ h => Kd.ok_below (below_alloc_self _ _) h) (PairOk.right hPQ (by decide) (by simp))
      rw [if_pos (by rfl)]
      exact kd_new hS.size rfl
     case r46x5 =>
      refine hK undef (setAll gn 0 [.int .i64 (X0.1), .int .i64 (X0.2.1), .int .i64 (X0.2.2)] wx) (Sy.setAll_new r1 hS) ?_ (fun j u hj hu h => ?_) (PairOk.put hPQ (by decide) (by decide) (by rw [setAll_size]; exact Nat.le_refl _))
      ·rw [if_neg (by decide)]
       exact kd_held r1 r2 D3' r3
      ·match j, hj with
       | 0, hj | 1, hj | 2, hj => exact (show (u : Value) = _ from h)
       | 3, hj | 4, hj => exact Kd.ok_setAll_new (k := Kd.own (w3.heap.size) 3) rfl (fun B' cs e => by cases e) h
       | 5, hj => exact absurd rfl hj
       | 6, hj => exact held_far h (fun b e => hPQ.ne _ _ _ _ D3' (hu.symm.trans e))
       | j + 7, _ => trivial
     case r46x6 =>
      refine hK undef (setAll gn 0 [.int .i64 (G.1), .int .i64 (G.2.1), .int .i64 (G.2.2)] wx) (Sy.setAll_new r1 hS) ?_ (fun j u hj hu h => ?_) (PairOk.put hPQ (by decide) (by decide) (by rw [setAll_size]; exact Nat.le_refl _))
      ·rw [if_neg (by decide)]
       exact kd_held r1 r2 D4' r3
      ·match j, hj with
       | 0, hj | 1, hj | 2, hj => exact (show (u : Value) = _ from h)
       | 3, hj | 4, hj => exact Kd.ok_setAll_new (k := Kd.own (w3.heap.size) 3) rfl (fun B' cs e => by cases e) h
       | 5, hj => exact held_far h (fun b e => (hPQ.ne _ _ _ _ (hu.symm.trans e) D4').symm)
       | 6, hj => exact absurd rfl hj
       | j + 7, _ => trivial
     all_goals (refine hK _ _ hS ?_ (fun j u _ _ h => h) (PairOk.put hPQ (by decide) (by decide) (Nat.le_refl _)); rw [if_pos (by rfl)]; show (_ : Value) = _; (first | rfl | (refine congrArg (Value.int .i64) ?_; first | rfl | exact int_in (by omega) | exact quo_in (by omega) (by omega) (by omega) | exact rem_in (by omega) (by omega) | omega) | (simp; done) | (simp [*]; done)))
    ·intro aq wx hPQ hd hw hf hS hg
     obtain ⟨g80, G8, r1g80, r2g80, r3g80⟩ := hg 5 (by decide)
     change tau aq 8 = _ at G8
     obtain ⟨g81, G9, r1g81, r2g81, r3g81⟩ := hg 6 (by decide)
     change tau aq 9 = _ at G9
     have haq : aq = ⟨#[tau aq 0, tau aq 1, tau aq 2, tau aq 3, tau aq 4, tau aq 5, tau aq 6, tau aq 7, tau aq 8, tau aq 9, tau aq 10, tau aq 11, tau aq 12, tau aq 13, tau aq 14, tau aq 15, tau aq 16, tau aq 17, tau aq 18, tau aq 19, tau aq 20, tau aq 21, tau aq 22, tau aq 23, tau aq 24, tau aq 25, tau aq 26, tau aq 27, tau aq 28, tau aq 29, tau aq 30, tau aq 31, tau aq 32, tau aq 33, tau aq 34, tau aq 35, tau aq 36, tau aq 37, tau aq 38, tau aq 39, tau aq 40, tau aq 41, tau aq 42, tau aq 43, tau aq 44, tau aq 45, tau aq 46, tau aq 47, tau aq 48, tau aq 49, tau aq 50, tau aq 51, tau aq 52], []⟩ := by
      obtain ⟨tq, dq⟩ := aq
      have h5 := arr_eq (show tq.size = 53 from hw)
      have h6 : dq = [] := hd
      subst h6
      exact congrArg (fun z => Act.mk z []) h5
     show K2 aq wx
     rw [haq, hf 0, hf 1, hf 2, hf 3, hf 4, hf 5, hf 6, hf 7, hf 10, hf 11, hf 12, hf 13, hf 14, hf 15, hf 16, hf 17, hf 18, hf 19, hf 20, hf 21, hf 22, hf 23, hf 24, hf 25, hf 29, hf 30, hf 31, hf 32, hf 33, hf 34, hf 35, hf 36, hf 37, hf 38, hf 39, hf 40, hf 41, hf 42, hf 43, hf 44, hf 45, hf 46, hf 47, hf 48, hf 49, hf 50, hf 51, hf 52, G8, G9]
     clear haq hf hd hw
     try dsimp only
     refine h3 _ _ ?_
     go_meet
     refine ⟨g80, g81, rfl, rfl, Ri3.m ?_ ?_ ?_, Wi3.m ?_ ?_ ?_ ?_ ?_ ?_, Wi3.m ?_ ?_ ?_ ?_ ?_ ?_, Wi3.m (r3g80 0 (by simp)).1 (r3g80 1 (by simp)).1 (r3g80 2 (by simp)).1 (r3g80 0 (by simp)).2 (r3g80 1 (by simp)).2 (r3g80 2 (by simp)).2, Wi3.m (r3g81 0 (by simp)).1 (r3g81 1 (by simp)).1 (r3g81 2 (by simp)).1 (r3g81 0 (by simp)).2 (r3g81 1 (by simp)).2 (r3g81 2 (by simp)).2, hS.below, r1g80, r1g81, (hPQ.ne _ _ _ _ G8 G9)⟩
     all_goals first | exact hS.cells (_, _) (by simp) | exact (hS.free _ (by simp)).2
   try clear c00
   try clear c01
   try clear c02
   try clear c10
   try clear c11
   try clear c12
   try clear c20
   try clear c21
   try clear c22
   try clear f10
   try clear f11
   try clear f12
   try clear f20
   try clear f21
   try clear f22
   obtain ⟨g80, g81, rfl, rfl, ⟨c00, c01, c02, z0⟩, ⟨c10, c11, c12, f10, f11, f12, z1⟩, ⟨c20, c21, c22, f20, f21, f22, z2⟩, ⟨c30, c31, c32, f30, f31, f32, z3⟩, ⟨c40, c41, c42, f40, f41, f42, z4⟩, hb0, ng80, ng81, npq⟩ := hcut
   obtain ⟨w4, rfl⟩ : ∃ w4 : World, w4 = wc := ⟨_, rfl⟩
   have zB : w.heap.size + 1 < w4.heap.size ∧ g7 < w4.heap.size ∧ g80 < w4.heap.size ∧ g81 < w4.heap.size := ⟨z1, z2, z3, z4⟩
   clear z0 z1 z2 z3 z4
   go_wp2
   go_loopw [10, 11] (fun s10 s11 wr => ∃ (jx : Nat) (a : Option Addr) (c : Nat), s10 = .slice a jx c ∧ s11 = .int .i64 ((kn : Int) - jx) ∧ (jx ≤ kn ∧ w4.heap.size ≤ wr.heap.size) ∧ wr.cell? ⟨w.heap.size + 1, 0, none⟩ = some (.int .i64 0) ∧ wr.cell? ⟨w.heap.size + 1, 1, none⟩ = some (.int .i64 0) ∧ wr.cell? ⟨w.heap.size + 1, 2, none⟩ = some (.int .i64 0) ∧ wr.cell? ⟨g7, 0, none⟩ = some (.int .i64 (G.1)) ∧ wr.cell? ⟨g7, 1, none⟩ = some (.int .i64 (G.2.1)) ∧ wr.cell? ⟨g7, 2, none⟩ = some (.int .i64 (G.2.2)) ∧ wr.cell? ⟨g80, 0, none⟩ = some (.int .i64 (((hpS D F kn jx).1).1)) ∧ wr.cell? ⟨g80, 1, none⟩ = some (.int .i64 (((hpS D F kn jx).1).2.1)) ∧ wr.cell? ⟨g80, 2, none⟩ = some (.int .i64 (((hpS D F kn jx).1).2.2)) ∧ wr.cell? ⟨g81, 0, none⟩ = some (.int .i64 (((hpS D F kn jx).2).1)) ∧ wr.cell? ⟨g81, 1, none⟩ = some (.int .i64 (((hpS D F kn jx).2).2.1)) ∧ wr.cell? ⟨g81, 2, none⟩ = some (.int .i64 (((hpS D F kn jx).2).2.2)) ∧ wr.frozen? ⟨w.heap.size + 1, 0, none⟩ = false ∧ wr.frozen? ⟨w.heap.size + 1, 1, none⟩ = false ∧ wr.frozen? ⟨w.heap.size + 1, 2, none⟩ = false ∧ wr.frozen? ⟨g80, 0, none⟩ = false ∧ wr.frozen? ⟨g80, 1, none⟩ = false ∧ wr.frozen? ⟨g80, 2, none⟩ = false ∧ wr.frozen? ⟨g81, 0, none⟩ = false ∧ wr.frozen? ⟨g81, 1, none⟩ = false ∧ wr.frozen? ⟨g81, 2, none⟩ = false ∧ FormL wr w4.heap.size (.slice a jx c) jx (hpL D F kn jx) ∧ Below w.heap.size w wr) (fun s10 s11 _ => (intOf s11).toNat)
   case atStart =>
    refine ⟨0, _, _, rfl, by first | rfl | (congr 1; omega), ⟨by omega, by first | exact Nat.le_refl _ | (simp; done) | (simp; omega)⟩, ?_⟩
    rw [unhide HS0]
    refine ⟨?_, ?_, ?_, ?_, ?_, ?_, ?_, ?_, ?_, ?_, ?_, ?_, ?_, ?_, ?_, ?_, ?_, ?_, ?_, ?_, ?_, FormL.nil _ _, ?_⟩
    all_goals first | with_reducible assumption | (go_simp; done) | (repeat' first | with_reducible (first | exact Below.refl _ _ | assumption | refine gr_alloc ?_ _ | refine below_drewN ?_ _ | refine below_drew ?_ | refine gr_call ?_ (by assumption) | refine Below.setCell ?_ ?_ _) | go_size | omega | (simp; omega))
   case round =>
    obtain ⟨jx, a, c, rfl, rfl, ⟨hjk, hz4⟩, c00, c01, c02, c10, c11, c12, c20, c21, c22, c30, c31, c32, f00, f01, f02, f20, f21, f22, f30, f31, f32, hl, hb⟩ := hrel
    obtain ⟨wl, rfl⟩ : ∃ wl : World, wl = wr := ⟨_, rfl⟩
    have hz := hb.size
    have hFB : FormL wl w4.heap.size (.slice a jx c) jx (hpL D F kn jx) := hl
    by_cases q : jx < kn
    ·have fX := (hpS_frm h0 kn jx).1
     have fY := (hpS_frm h0 kn jx).2
     have fM := hpM_frm h0 kn jx
     have hpw2 := two_pow_bd (n := kn - jx - 1) (by omega)
     obtain ⟨X, hX⟩ : ∃ X, X = (hpS D F kn jx).1 := ⟨_, rfl⟩
     obtain ⟨Y, hY⟩ : ∃ Y, Y = (hpS D F kn jx).2 := ⟨_, rfl⟩
     obtain ⟨M, hMe⟩ : ∃ M, M = hpM D F kn jx := ⟨_, rfl⟩
     obtain ⟨X2, hX2⟩ : ∃ X2, X2 = hvX D X Y M ((kn : Int) - jx) := ⟨_, rfl⟩
     obtain ⟨Y2, hY2⟩ : ∃ Y2, Y2 = hvY D X Y M ((kn : Int) - jx) := ⟨_, rfl⟩
     have HSn : Hid (hpS D F kn (jx + 1) = (X2, Y2)) := hide (by rw [hX2, hY2, hX, hY, hMe]; rfl)
     have HLn : Hid (hpL D F kn (jx + 1) = hpL D F kn jx ++ [M.1, M.2.1, M.2.2]) := hide (by rw [hMe]; rfl)
     obtain ⟨E2, hE2⟩ : ∃ E2 : Int, E2 = ((2 ^ (kn - jx - 1) : Nat) : Int) := ⟨_, rfl⟩
     have hE2b : 1 ≤ E2 ∧ E2 ≤ 64 := by omega
     have hM : Hid (M = sqN (rdT X) E2.toNat) := hide (by rw [hMe, hX, hE2]; rfl)
     have hen : ((kn : Int) - jx - 1).toNat = kn - jx - 1 := by omega
     have HEc : Hid (IntKind.i64.wrap (1 * 2 ^ ((kn : Int) - jx - 1).toNat) = E2) := hide (by rw [hE2, hen, Int.one_mul]; exact shl_b (by omega))
     have HEe : Hid (IntKind.i64.wrap (2 ^ (kn - jx - 1)) = E2) := hide (by rw [hE2]; exact shl_b (by omega))
     have HEd : Hid (IntKind.i64.wrap (2 ^ ((kn : Int) - jx - 1).toNat) = E2) := hide (by rw [hE2, hen]; exact shl_b (by omega))
     rw [← hX] at fX c20 c21 c22
     rw [← hY] at fY c30 c31 c32
     rw [← hMe] at fM
     replace hX2 := hide hX2
     replace hY2 := hide hY2
     have hkj : 0 < (kn : Int) - jx ∧ (kn : Int) - jx ≤ 6 := by omega
     have zs8 : w.heap.size + 1 < wl.heap.size ∧ g7 < wl.heap.size ∧ g80 < wl.heap.size ∧ g81 < wl.heap.size := ⟨World.block_lt_of_cell? _ _ c00, World.block_lt_of_cell? _ _ c10, World.block_lt_of_cell? _ _ c20, World.block_lt_of_cell? _ _ c30⟩
     clear hX hY hMe hE2 hen hpw2
     go_upto_region 9 with fail
     go_cut [12] (fun s12 wx => ∃ gm : Nat, s12 = .pointer (some ⟨gm, 0, none⟩) ∧ Wi3 wx (w.heap.size + 1) 0 0 0 ∧ Ri3 wx g7 G.1 G.2.1 G.2.2 ∧ Wi3 wx g80 X.1 X.2.1 X.2.2 ∧ Wi3 wx g81 Y.1 Y.2.1 Y.2.2 ∧ Wi3 wx gm M.1 M.2.1 M.2.2 ∧ Below wl.heap.size wl wx ∧ wl.heap.size ≤ gm)
     case first =>
      have h1 := trivial
      rename_i K2 h2 h3
      refine region_n0 (by kernel_rfl) (fun j => #[34,35,36,37,38,12,12].getD j 0) (fun j => Kd.ok ((fun j => match j with | 0 => Kd.val (.agg #[.int .i64 (X.1), .int .i64 (X.2.1), .int .i64 (X.2.2)]) | 1 => Kd.val (.int .i64 (((kn : Int) - jx))) | 2 => Kd.val (.int .i64 ((((kn : Int) - jx)) - 1)) | 3 => Kd.val (.int .i64 E2) | 4 => Kd.val (.agg #[.int .i64 (M.1), .int .i64 (M.2.1), .int .i64 (M.2.2)]) | 5 => Kd.own (wl.heap.size) 3 | 6 => Kd.held (wl.heap.size) [.int .i64 (M.1), .int .i64 (M.2.1), .int .i64 (M.2.2)] | _ => Kd.any : Nat → Kd) j)) (Sy wl (wl.heap.size) [(⟨w.heap.size + 1, 0, none⟩, .int .i64 0), (⟨w.heap.size + 1, 1, none⟩, .int .i64 0), (⟨w.heap.size + 1, 2, none⟩, .int .i64 0), (⟨g7, 0, none⟩, .int .i64 (G.1)), (⟨g7, 1, none⟩, .int .i64 (G.2.1)), (⟨g7, 2, none⟩, .int .i64 (G.2.2)), (⟨g80, 0, none⟩, .int .i64 (X.1)), (⟨g80, 1, none⟩, .int .i64 (X.2.1)), (⟨g80, 2, none⟩, .int .i64 (X.2.2)), (⟨g81, 0, none⟩, .int .i64 (Y.1)), (⟨g81, 1, none⟩, .int .i64 (Y.2.1)), (⟨g81, 2, none⟩, .int .i64 (Y.2.2))] [⟨w.heap.size + 1, 0, none⟩, ⟨w.heap.size + 1, 1, none⟩, ⟨w.heap.size + 1, 2, none⟩, ⟨g80, 0, none⟩, ⟨g80, 1, none⟩, ⟨g80, 2, none⟩, ⟨g81, 0, none⟩, ⟨g81, 1, none⟩, ⟨g81, 2, none⟩]) (by kernel_rfl) (by kernel_rfl) ?_ ?_ ?_ ?_
      ·intro j hj
       have hj2 : j < 7 := hj
       have : ∀ j, j < 7 → (#[34,35,36,37,38,12,12] : Array Nat).getD j 0 < 53 := by decide
       exact this j hj2
      ·refine Sy.drew (Sy.mk_of ?_ ?_ ?_ ?_)
       ·first | rfl | (simp; done) | (simp; omega)
       ·intro c hc
        simp only [List.mem_cons, List.not_mem_nil, or_false] at hc
        rcases hc with rfl | rfl | rfl | rfl | rfl | rfl | rfl | rfl | rfl | rfl | rfl | rfl <;> exact byCT
       ·intro p hp
        simp only [List.mem_cons, List.not_mem_nil, or_false] at hp
        rcases hp with rfl | rfl | rfl | rfl | rfl | rfl | rfl | rfl | rfl <;> exact ⟨by first | ((repeat' with_reducible (first | refine ex_set _ ?_ | refine ex_al _ ?_ | exact ⟨_, by assumption⟩)); done) | first | exact ⟨_, by assumption⟩ | assumption | (go_simp; done) | (go_simp; exact ⟨_, rfl⟩), by first | ((repeat' first | with_reducible (first | assumption | refine frz_al _ ?_ ?_ | refine frz_set _ ?_) | omega | (simp; omega)); done) | assumption | (go_simp; done)⟩
       ·(repeat' first | with_reducible (first | exact Below.refl _ _ | assumption | refine gr_alloc ?_ _ | refine below_drewN ?_ _ | refine below_drew ?_ | refine gr_call ?_ (by assumption) | refine Below.setCell ?_ ?_ _) | go_size | omega | (simp; omega))
      ·clear h1 h2 h3
       try clear c00
       try clear c01
       try clear c02
       try clear c10
       try clear c11
       try clear c12
       try clear c20
       try clear c21
       try clear c22
       try clear c30
       try clear c31
       try clear c32
       try clear f00
       try clear f01
       try clear f02
       try clear f20
       try clear f21
       try clear f22
       try clear f30
       try clear f31
       try clear f32
       refine ⟨?r47x0, ?r47x1, ?r47x2, ?r47x3, ?r47x4, ?r47x5, ?r47x6, trivial⟩
       all_goals intro _ aq wx Kq hf hS hdep ev1 ev2 hK
       case' r47x0 =>
        have F8 : aq.eval (.tmp 8) = .pointer (some ⟨g80, 0, none⟩) := hf 8
        have c0 := hS.cells (⟨g80, 0, none⟩, .int .i64 (X.1)) (by simp)
        have c1 := hS.cells (⟨g80, 1, none⟩, .int .i64 (X.2.1)) (by simp)
        have c2 := hS.cells (⟨g80, 2, none⟩, .int .i64 (X.2.2)) (by simp)
       case' r47x1 =>
        have F11 : aq.eval (.tmp 11) = .int .i64 (((kn : Int) - jx)) := hf 11
       case' r47x2 =>
        have D1 : aq.eval (.tmp 35) = _ := hdep 1
       case' r47x3 =>
        have D2 : aq.eval (.tmp 36) = _ := hdep 2
       case' r47x4 =>
        have D0 : aq.eval (.tmp 34) = _ := hdep 0
        have D3 : aq.eval (.tmp 37) = _ := hdep 3
       case' r47x6 =>
        have D4 : aq.eval (.tmp 38) = _ := hdep 4
        obtain ⟨gn, D5, r1, r2, r3⟩ := hdep 5
        change aq.eval (.tmp 12) = _ at D5
        obtain ⟨⟨vx0, cx0⟩, cf0⟩ := r3 0 (by decide)
        obtain ⟨⟨vx1, cx1⟩, cf1⟩ := r3 1 (by decide)
        obtain ⟨⟨vx2, cx2⟩, cf2⟩ := r3 2 (by decide)
        have D5' : tau aq 12 = _ := D5
       all_goals (clear hf hdep; unfold Oper.wp; generalize Act.eval _ = ev at *; go_simp)
       case r47x4 =>
        refine ((sq_rws X M E2 _ fX.i (by omega) (by omega) (unhide hM))).mono ?_
        rintro e w2 ⟨rfl, hb⟩
        refine hK _ _ (hS.call hb) ?_ (fun j u _ h => Kd.ok_below hb h)
        rw [if_pos (by rfl)]
        show (_ : Value) = _
        first | rfl | (refine congrArg (Value.int .i64) ?_; first | rfl | exact int_in (by omega) | exact quo_in (by omega) (by omega) (by omega) | exact rem_in (by omega) (by omega) | omega | exact unhide HEc | exact unhide HEd | exact unhide HEe) | (simp; done) | (simp [*]; done)
       case r47x5 =>
        refine hK _ _ (hS.call (below_alloc_self _ _)) ?_ (fun j u _ h => Kd.ok_below (below_alloc_self _ _) h)
        rw [if_pos (by rfl)]
        exact kd_new hS.size rfl
       case r47x6 =>
        refine hK undef (setAll gn 0 [.int .i64 (M.1), .int .i64 (M.2.1), .int .i64 (M.2.2)] wx) (Sy.setAll_new r1 hS) ?_ (fun j u hj h => ?_)
        ·rw [if_neg (by decide)]
         exact kd_held r1 r2 D5' r3
        ·match j, hj with
         | 0, hj | 1, hj | 2, hj | 3, hj | 4, hj => exact (show (u : Value) = _ from h)
         | 5, hj => exact Kd.ok_setAll_new (k := Kd.own (wl.heap.size) 3) rfl (fun B' cs e => by cases e) h
         | 6, hj => exact absurd rfl hj
         | j + 7, _ => trivial
       all_goals (refine hK _ _ hS ?_ (fun j u _ h => h); rw [if_pos (by rfl)]; show (_ : Value) = _; (first | rfl | (refine congrArg (Value.int .i64) ?_; first | rfl | exact int_in (by omega) | exact quo_in (by omega) (by omega) (by omega) | exact rem_in (by omega) (by omega) | omega | exact unhide HEc | exact unhide HEd | exact unhide HEe) | (simp; done) | (simp [*]; done)))
      ·intro aq wx hd hw hf hS hg
       obtain ⟨gm, G12, r1gm, r2gm, r3gm⟩ := hg 6 (by decide)
       change tau aq 12 = _ at G12
       have haq : aq = ⟨#[tau aq 0, tau aq 1, tau aq 2, tau aq 3, tau aq 4, tau aq 5, tau aq 6, tau aq 7, tau aq 8, tau aq 9, tau aq 10, tau aq 11, tau aq 12, tau aq 13, tau aq 14, tau aq 15, tau aq 16, tau aq 17, tau aq 18, tau aq 19, tau aq 20, tau aq 21, tau aq 22, tau aq 23, tau aq 24, tau aq 25, tau aq 26, tau aq 27, tau aq 28, tau aq 29, tau aq 30, tau aq 31, tau aq 32, tau aq 33, tau aq 34, tau aq 35, tau aq 36, tau aq 37, tau aq 38, tau aq 39, tau aq 40, tau aq 41, tau aq 42, tau aq 43, tau aq 44, tau aq 45, tau aq 46, tau aq 47, tau aq 48, tau aq 49, tau aq 50, tau aq 51, tau aq 52], []⟩ := by
        obtain ⟨tq, dq⟩ := aq
        have h5 := arr_eq (show tq.size = 53 from hw)
        have h6 : dq = [] := hd
        subst h6
        exact congrArg (fun z => Act.mk z []) h5
       show K2 aq wx
       rw [haq, hf 0, hf 1, hf 2, hf 3, hf 4, hf 5, hf 6, hf 7, hf 8, hf 9, hf 10, hf 11, hf 13, hf 14, hf 15, hf 16, hf 17, hf 18, hf 19, hf 20, hf 21, hf 22, hf 23, hf 24, hf 25, hf 26, hf 27, hf 28, hf 29, hf 30, hf 31, hf 32, hf 33, hf 39, hf 40, hf 41, hf 42, hf 43, hf 44, hf 45, hf 46, hf 47, hf 48, hf 49, hf 50, hf 51, hf 52, G12]
       clear haq hf hd hw
       try dsimp only
       refine h3 _ _ ?_
       go_meet
       refine ⟨gm, rfl, Wi3.m ?_ ?_ ?_ ?_ ?_ ?_, Ri3.m ?_ ?_ ?_, Wi3.m ?_ ?_ ?_ ?_ ?_ ?_, Wi3.m ?_ ?_ ?_ ?_ ?_ ?_, Wi3.m (r3gm 0 (by simp)).1 (r3gm 1 (by simp)).1 (r3gm 2 (by simp)).1 (r3gm 0 (by simp)).2 (r3gm 1 (by simp)).2 (r3gm 2 (by simp)).2, hS.below, r1gm⟩
       all_goals first | exact hS.cells (_, _) (by simp) | exact (hS.free _ (by simp)).2
     try clear c00
     try clear c01
     try clear c02
     try clear c10
     try clear c11
     try clear c12
     try clear c20
     try clear c21
     try clear c22
     try clear c30
     try clear c31
     try clear c32
     try clear f00
     try clear f01
     try clear f02
     try clear f20
     try clear f21
     try clear f22
     try clear f30
     try clear f31
     try clear f32
     obtain ⟨gm, rfl, ⟨c00, c01, c02, f00, f01, f02, z0⟩, ⟨c10, c11, c12, z1⟩, ⟨c20, c21, c22, f20, f21, f22, z2⟩, ⟨c30, c31, c32, f30, f31, f32, z3⟩, ⟨c40, c41, c42, f40, f41, f42, z4⟩, hb0, ngm⟩ := hcut
     obtain ⟨w5, rfl⟩ : ∃ w5 : World, w5 = wc := ⟨_, rfl⟩
     have hl2 := hl.below hb0
     have hz5 := hb0.size
     have KE : ∀ b, b < w4.heap.size ∨ wl.heap.size ≤ b → some b ≠ (Value.slice a jx c).ownBlock := fun b hb9 he => by have := hl.lt b he.symm; omega
     have hb5 : Below w.heap.size w w5 := hb.trans (hb0.mono hz)
     have hz45 : w4.heap.size ≤ w5.heap.size := Nat.le_trans hz4 hz5
     go_wp2_with (at_builtin; go_loud (refine app_Form _ rfl (.tmp 39) (.tmp 41) rfl w4.heap.size (.slice a jx c) jx (hpL D F kn jx) M.1 M.2.1 M.2.2 w5.heap.size rfl rfl (hl2.alloc _) (by go_simp) (by go_simp) (by go_simp) (by omega) (by simp; omega) ?_; intro g2 cap2 w6 hown hgrow hat hlt2; have d00 : w6.cell? ⟨w.heap.size + 1, 0, none⟩ = some (.int .i64 0) := hgrow.cell byCT (KE (w.heap.size + 1) (by omega)); have e00 : w6.frozen? ⟨w.heap.size + 1, 0, none⟩ = false := (hgrow.frozen_far ⟨w.heap.size + 1, 0, none⟩ (by simp; omega) (KE (w.heap.size + 1) (by omega))).trans byFT; have d01 : w6.cell? ⟨w.heap.size + 1, 1, none⟩ = some (.int .i64 0) := hgrow.cell byCT (KE (w.heap.size + 1) (by omega)); have e01 : w6.frozen? ⟨w.heap.size + 1, 1, none⟩ = false := (hgrow.frozen_far ⟨w.heap.size + 1, 1, none⟩ (by simp; omega) (KE (w.heap.size + 1) (by omega))).trans byFT; have d02 : w6.cell? ⟨w.heap.size + 1, 2, none⟩ = some (.int .i64 0) := hgrow.cell byCT (KE (w.heap.size + 1) (by omega)); have e02 : w6.frozen? ⟨w.heap.size + 1, 2, none⟩ = false := (hgrow.frozen_far ⟨w.heap.size + 1, 2, none⟩ (by simp; omega) (KE (w.heap.size + 1) (by omega))).trans byFT; have d10 : w6.cell? ⟨g7, 0, none⟩ = some (.int .i64 (G.1)) := hgrow.cell byCT (KE (g7) (by omega)); have d11 : w6.cell? ⟨g7, 1, none⟩ = some (.int .i64 (G.2.1)) := hgrow.cell byCT (KE (g7) (by omega)); have d12 : w6.cell? ⟨g7, 2, none⟩ = some (.int .i64 (G.2.2)) := hgrow.cell byCT (KE (g7) (by omega)); have d20 : w6.cell? ⟨g80, 0, none⟩ = some (.int .i64 (X.1)) := hgrow.cell byCT (KE (g80) (by omega)); have e20 : w6.frozen? ⟨g80, 0, none⟩ = false := (hgrow.frozen_far ⟨g80, 0, none⟩ (by simp; omega) (KE (g80) (by omega))).trans byFT; have d21 : w6.cell? ⟨g80, 1, none⟩ = some (.int .i64 (X.2.1)) := hgrow.cell byCT (KE (g80) (by omega)); have e21 : w6.frozen? ⟨g80, 1, none⟩ = false := (hgrow.frozen_far ⟨g80, 1, none⟩ (by simp; omega) (KE (g80) (by omega))).trans byFT; have d22 : w6.cell? ⟨g80, 2, none⟩ = some (.int .i64 (X.2.2)) := hgrow.cell byCT (KE (g80) (by omega)); have e22 : w6.frozen? ⟨g80, 2, none⟩ = false := (hgrow.frozen_far ⟨g80, 2, none⟩ (by simp; omega) (KE (g80) (by omega))).trans byFT; have d30 : w6.cell? ⟨g81, 0, none⟩ = some (.int .i64 (Y.1)) := hgrow.cell byCT (KE (g81) (by omega)); have e30 : w6.frozen? ⟨g81, 0, none⟩ = false := (hgrow.frozen_far ⟨g81, 0, none⟩ (by simp; omega) (KE (g81) (by omega))).trans byFT; have d31 : w6.cell? ⟨g81, 1, none⟩ = some (.int .i64 (Y.2.1)) := hgrow.cell byCT (KE (g81) (by omega)); have e31 : w6.frozen? ⟨g81, 1, none⟩ = false := (hgrow.frozen_far ⟨g81, 1, none⟩ (by simp; omega) (KE (g81) (by omega))).trans byFT; have d32 : w6.cell? ⟨g81, 2, none⟩ = some (.int .i64 (Y.2.2)) := hgrow.cell byCT (KE (g81) (by omega)); have e32 : w6.frozen? ⟨g81, 2, none⟩ = false := (hgrow.frozen_far ⟨g81, 2, none⟩ (by simp; omega) (KE (g81) (by omega))).trans byFT; have d40 : w6.cell? ⟨gm, 0, none⟩ = some (.int .i64 (M.1)) := hgrow.cell byCT (KE (gm) (by omega)); have d41 : w6.cell? ⟨gm, 1, none⟩ = some (.int .i64 (M.2.1)) := hgrow.cell byCT (KE (gm) (by omega)); have d42 : w6.cell? ⟨gm, 2, none⟩ = some (.int .i64 (M.2.2)) := hgrow.cell byCT (KE (gm) (by omega)); have hz6 := hgrow.size; simp at hz6; have hb6 : Below w.heap.size w w6 := (hb5.alloc (by omega) _).grown hgrow (by simp; omega) (fun k hk => by have := (hl2.lt k hk).1; omega); clear c00 c01 c02 c10 c11 c12 c20 c21 c22 c30 c31 c32 c40 c41 c42 f00 f01 f02 f20 f21 f22 f30 f31 f32; have c00 := d00; have c01 := d01; have c02 := d02; have c10 := d10; have c11 := d11; have c12 := d12; have c20 := d20; have c21 := d21; have c22 := d22; have c30 := d30; have c31 := d31; have c32 := d32; have c40 := d40; have c41 := d41; have c42 := d42; have f00 := e00; have f01 := e01; have f02 := e02; have f20 := e20; have f21 := e21; have f22 := e22; have f30 := e30; have f31 := e31; have f32 := e32; clear d00 d01 d02 d10 d11 d12 d20 d21 d22 d30 d31 d32 d40 d41 d42 e00 e01 e02 e20 e21 e22 e30 e31 e32))
     refine (hv_rws X Y M X2 Y2 ((kn : Int) - jx) _ fX fY fM (by omega) (by omega) (unhide hX2) (unhide hY2)).mono ?_
     rintro en w7 ⟨rfl, hb7⟩
     have tq0 := Wi3.c hb7 (w.heap.size + 1) 0 0 0
     have tq1 := Ri3.c hb7 g7 G.1 G.2.1 G.2.2
     have tq2 := Wi3.c hb7 g80 X.1 X.2.1 X.2.2
     have tq3 := Wi3.c hb7 g81 Y.1 Y.2.1 Y.2.2
     have tq4 := Ri3.c hb7 gm M.1 M.2.1 M.2.2
     try clear c00 c01 c02 f00 f01 f02
     try clear c10 c11 c12
     try clear c20 c21 c22 f20 f21 f22
     try clear c30 c31 c32 f30 f31 f32
     try clear c40 c41 c42
     obtain ⟨c00, c01, c02, f00, f01, f02, z0⟩ := tq0
     obtain ⟨c10, c11, c12, z1⟩ := tq1
     obtain ⟨c20, c21, c22, f20, f21, f22, z2⟩ := tq2
     obtain ⟨c30, c31, c32, f30, f31, f32, z3⟩ := tq3
     obtain ⟨c40, c41, c42, z4⟩ := tq4
     have hs7 := hb7.size
     have hbw : Below w.heap.size w w7 := hb6.trans (hb7.mono (by omega))
     have hl7 := hown.below hb7
     go_wp2
     go_roundw
     case rel =>
      refine ⟨jx + 1, some ⟨g2, 0, none⟩, cap2, rfl, by first | rfl | (congr 1; omega), ⟨by omega, by first | omega | (simp; omega)⟩, ?_⟩
      rw [unhide HSn, unhide HLn]
      refine ⟨?_, ?_, ?_, ?_, ?_, ?_, ?_, ?_, ?_, ?_, ?_, ?_, ?_, ?_, ?_, ?_, ?_, ?_, ?_, ?_, ?_, ?_, ?_⟩
      case refine_22 =>
       (repeat' refine ownsRow_setCell_below ?_ (by first | exact zB.2.2.1 | exact zB.2.2.2 | (simp; omega)) _)
       exact hl7
      all_goals first | with_reducible assumption | (go_simp; done) | (repeat' first | with_reducible (first | exact Below.refl _ _ | assumption | refine gr_alloc ?_ _ | refine below_drewN ?_ _ | refine below_drew ?_ | refine gr_call ?_ (by assumption) | refine Below.setCell ?_ ?_ _) | go_size | omega | (simp; omega))
     case measure => (simp [intOf]; omega)
    ·obtain rfl : kn = jx := by omega
     go_wp2
     refine bodyPost_ret (v := .tuple #[frm G, .slice a kn c, .bool true]) (by simp [results, Tryz.results21, go_sem, *]) rfl ?_
     refine ⟨a, c, rfl, ?_, byGG⟩
     have hle : FormL (((wl.setCell ⟨w.heap.size + 1, 0, none⟩ (.int .i64 G.1)).setCell ⟨w.heap.size + 1, 1, none⟩ (.int .i64 G.2.1)).setCell ⟨w.heap.size + 1, 2, none⟩ (.int .i64 G.2.2)) w4.heap.size (.slice a kn c) kn (hpL D F kn kn) := by
      refine ownsRow_setCell_below (ownsRow_setCell_below (ownsRow_setCell_below hl ?_ _) ?_ _) ?_ _ <;> exact zB.1
     have hfa := hle.at.2
     exact hfa.weak2 (by omega)

end Go.Proofs.YtihfacmlfelliaaGreat
