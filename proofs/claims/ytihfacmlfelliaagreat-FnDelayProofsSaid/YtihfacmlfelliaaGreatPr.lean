/- Pairs and rows of class forms on both sides. -/
import Derived.Test.YtihfacmlfelliaaGreatGb
namespace Go.Proofs.YtihfacmlfelliaaGreat
open Go.RowKit
set_option linter.unusedVariables false
set_option linter.unusedSimpArgs false
attribute [local go_sem] q2 q3 q4 q5 q6 q7 q8 q9 q10 q11 q12

def I64T (F : T3) : Prop := I64 F.1 ∧ I64 F.2.1 ∧ I64 F.2.2
def clB (F : T3) : Bool := classB F.1 F.2.1 F.2.2
theorem cls_of {a b c : Int} (h : classB a b c = true) : Cls a b c := by
 obtain ⟨ha, hb, hc⟩ := form_true (class_form h)
 have hd := class_disc h
 have h2 := shown_def (class_shown h)
 unfold defB at h2; simp at h2
 have hbb : 0 ≤ b * b := by
  by_cases q : 0 ≤ b
  ·exact Int.mul_nonneg q q
  ·exact Int.mul_nonneg_of_nonpos_of_nonpos (by omega) (by omega)
 have e : 4 * a * c = 4 * (a * c) := Int.mul_assoc _ _ _
 have hac : 0 < a * c := by unfold discI at hd; omega
 have c0 : 0 < c := by
  by_cases q : 0 < c
  ·exact q
  ·have := Int.mul_nonneg_of_nonpos_of_nonpos (a := -a) (b := c) (by omega) (by omega)
   rw [Int.neg_mul] at this; omega
 refine ⟨⟨h2.2.2, by omega, by omega, by omega, c0, by omega, hd.1, hd.2⟩, prim_gcd ?_⟩
 unfold classB at h; simp at h
 have h3 := h.2
 rw [← cont_alt] at h3
 unfold igcd at h3
 omega
theorem frm_of {F : T3} (h : clB F = true) : Frm (dT F) F := ⟨⟨cls_of h, rfl⟩, class_form h⟩
def prB (F G : T3) : Bool := clB F && (clB G && decide (dT F = dT G))
theorem pr_true {F G : T3} (h : prB F G = true) : Frm (dT F) F ∧ Frm (dT F) G := by
 unfold prB at h; simp at h
 refine ⟨frm_of h.1, ?_⟩
 have := frm_of h.2.1
 rw [← h.2.2] at this; exact this
theorem pr_comm (F G : T3) : prB F G = prB G F := by
 unfold prB
 have : decide (dT F = dT G) = decide (dT G = dT F) := by simp [eq_comm]
 rw [this]
 cases clB F <;> cases clB G <;> rfl

set_option maxRecDepth 100000 in
set_option maxHeartbeats 8000000 in
theorem arePair_p (F G : T3) (w : World) (i1 : I64T F) (i2 : I64T G) : Calls Tryz.prog 27 #[frm F, frm G] w fun e w' => e = .returned (.bool (prB F G)) ∧ Below w.heap.size w w' := by
 have hc1 : clB F = classB F.1 F.2.1 F.2.2 := rfl
 have hc2 : clB G = classB G.1 G.2.1 G.2.2 := rfl
 have hd1 : dT F = discI F.1 F.2.1 F.2.2 := rfl
 have hd2 : dT G = discI G.1 G.2.1 G.2.2 := rfl
 cases k0 : clB F
 ·rw [k0] at hc1
  replace hc1 := hc1.symm
  clear hc2 hd1 hd2
  have HV := hide (show prB F G = false by simp [prB, k0])
  try clear k2
  try clear k1
  clear k0
  go_enter Tryz.func27, Tryz.ntmps27
  go_upto_region 1 with fail
  go_cut [4] (fun s4 wx => s4 = .bool false ∧ Ri3 wx w.heap.size F.1 F.2.1 F.2.2 ∧ Ri3 wx (w.heap.size + 1) G.1 G.2.1 G.2.2 ∧ Below w.heap.size w wx)
  case first =>
   have h1 := trivial
   rename_i K2 h2 h3
   refine region_n (by kernel_rfl) (fun j => #[5,6,7,8,9,10,11,12,13,14,15,16,17,4].getD j 0) (fun j => Kd.ok ((fun j => match j with | 0 => Kd.val (.agg #[.int .i64 (F.1), .int .i64 (F.2.1), .int .i64 (F.2.2)]) | 1 => Kd.val (.bool false) | 2 => Kd.val (.bool false) | 3 => Kd.val undef | 4 => Kd.val undef | 5 => Kd.val (.bool false) | 6 => Kd.val (.bool false) | 7 => Kd.val undef | 8 => Kd.val undef | 9 => Kd.val undef | 10 => Kd.val undef | 11 => Kd.val undef | 12 => Kd.val (.bool false) | 13 => Kd.val (.bool false) | _ => Kd.any : Nat → Kd) j)) (Sy w (w.heap.size + 1 + 1) [(⟨w.heap.size, 0, none⟩, .int .i64 (F.1)), (⟨w.heap.size, 1, none⟩, .int .i64 (F.2.1)), (⟨w.heap.size, 2, none⟩, .int .i64 (F.2.2)), (⟨w.heap.size + 1, 0, none⟩, .int .i64 (G.1)), (⟨w.heap.size + 1, 1, none⟩, .int .i64 (G.2.1)), (⟨w.heap.size + 1, 2, none⟩, .int .i64 (G.2.2))] []) (fun j => #[true, true, true, false, false, true, true, false, false, false, false, false, true, true].getD j true) (by kernel_rfl) ?_ ?_ ?_ ?_ ?_ ?_
   ·intro j hj
    have hj2 : j < 14 := hj
    have : ∀ j, j < 14 → (#[5,6,7,8,9,10,11,12,13,14,15,16,17,4] : Array Nat).getD j 0 < 18 := by decide
    exact this j hj2
   ·intro i o ho
    match i, ho with
    | 0, ho => cases ho; intro aq wq hd; exact wanted_free rfl
    | 1, ho => cases ho; intro aq wq hd; exact wanted_free rfl
    | 2, ho => cases ho; intro aq wq hd; exact wanted_free rfl
    | 3, ho => cases ho; intro aq wq hd; exact wanted_of (j := 2) (t := 7) (want := true) (b := false) rfl rfl (hd 2 (by decide +kernel))
    | 4, ho => cases ho; intro aq wq hd; exact wanted_of (j := 2) (t := 7) (want := true) (b := false) rfl rfl (hd 2 (by decide +kernel))
    | 5, ho => cases ho; intro aq wq hd; exact wanted_free rfl
    | 6, ho => cases ho; intro aq wq hd; exact wanted_free rfl
    | 7, ho => cases ho; intro aq wq hd; exact wanted_of (j := 6) (t := 11) (want := true) (b := false) rfl rfl (hd 6 (by decide +kernel))
    | 8, ho => cases ho; intro aq wq hd; exact wanted_of (j := 6) (t := 11) (want := true) (b := false) rfl rfl (hd 6 (by decide +kernel))
    | 9, ho => cases ho; intro aq wq hd; exact wanted_of (j := 6) (t := 11) (want := true) (b := false) rfl rfl (hd 6 (by decide +kernel))
    | 10, ho => cases ho; intro aq wq hd; exact wanted_of (j := 6) (t := 11) (want := true) (b := false) rfl rfl (hd 6 (by decide +kernel))
    | 11, ho => cases ho; intro aq wq hd; exact wanted_of (j := 6) (t := 11) (want := true) (b := false) rfl rfl (hd 6 (by decide +kernel))
    | 12, ho => cases ho; intro aq wq hd; exact wanted_free rfl
    | 13, ho => cases ho; intro aq wq hd; exact wanted_free rfl
    | i + 14, ho => exact absurd ho (by simp)
   ·intro i o ho hr
    match i, ho with
    | 0, ho => exact absurd hr (by decide)
    | 1, ho => exact absurd hr (by decide)
    | 2, ho => exact absurd hr (by decide)
    | 3, ho => cases ho; exact ⟨rfl, fun _ _ => rfl⟩
    | 4, ho => cases ho; exact ⟨rfl, fun _ _ => rfl⟩
    | 5, ho => exact absurd hr (by decide)
    | 6, ho => exact absurd hr (by decide)
    | 7, ho => cases ho; exact ⟨rfl, fun _ _ => rfl⟩
    | 8, ho => cases ho; exact ⟨rfl, fun _ _ => rfl⟩
    | 9, ho => cases ho; exact ⟨rfl, fun _ _ => rfl⟩
    | 10, ho => cases ho; exact ⟨rfl, fun _ _ => rfl⟩
    | 11, ho => cases ho; exact ⟨rfl, fun _ _ => rfl⟩
    | 12, ho => exact absurd hr (by decide)
    | 13, ho => exact absurd hr (by decide)
    | i + 14, ho => exact absurd ho (by simp)
   ·refine Sy.drew (Sy.mk_of ?_ ?_ ?_ ?_)
    ·first | rfl | (simp; done) | (simp; omega)
    ·intro c hc
     simp only [List.mem_cons, List.not_mem_nil, or_false] at hc
     rcases hc with rfl | rfl | rfl | rfl | rfl | rfl <;> exact byCT
    ·intro p hp; cases hp
    ·(repeat' first | with_reducible (first | exact Below.refl _ _ | assumption | refine gr_alloc ?_ _ | refine below_drewN ?_ _ | refine below_drew ?_ | refine gr_call ?_ (by assumption) | refine Below.setCell ?_ ?_ _) | go_size | omega | (simp; omega))
   ·clear h2 h3
    refine ⟨?r21x0, ?r21x1, ?r21x2, ?r21x3, ?r21x4, ?r21x5, ?r21x6, ?r21x7, ?r21x8, ?r21x9, ?r21x10, ?r21x11, ?r21x12, ?r21x13, trivial⟩
    case r21x3 => intro hr; exact absurd hr (by decide)
    case r21x4 => intro hr; exact absurd hr (by decide)
    case r21x7 => intro hr; exact absurd hr (by decide)
    case r21x8 => intro hr; exact absurd hr (by decide)
    case r21x9 => intro hr; exact absurd hr (by decide)
    case r21x10 => intro hr; exact absurd hr (by decide)
    case r21x11 => intro hr; exact absurd hr (by decide)
    all_goals intro _ aq wx Kq hf hS hdep ev1 ev2 hK
    case' r21x0 =>
     have F2 : aq.eval (.tmp 2) = .pointer (some ⟨w.heap.size, 0, none⟩) := hf 2
     have c0 := hS.cells (⟨w.heap.size, 0, none⟩, .int .i64 (F.1)) (by simp)
     have c1 := hS.cells (⟨w.heap.size, 1, none⟩, .int .i64 (F.2.1)) (by simp)
     have c2 := hS.cells (⟨w.heap.size, 2, none⟩, .int .i64 (F.2.2)) (by simp)
    case' r21x1 =>
     have D0 : aq.eval (.tmp 5) = _ := hdep 0
    case' r21x2 =>
     have D1 : aq.eval (.tmp 6) = _ := hdep 1
    case' r21x5 =>
     have D2 : aq.eval (.tmp 7) = _ := hdep 2
     have D4 : aq.eval (.tmp 9) = _ := hdep 4
    case' r21x6 =>
     have D5 : aq.eval (.tmp 10) = _ := hdep 5
    case' r21x12 =>
     have D6 : aq.eval (.tmp 11) = _ := hdep 6
     have D11 : aq.eval (.tmp 16) = _ := hdep 11
    case' r21x13 =>
     have D12 : aq.eval (.tmp 17) = _ := hdep 12
    all_goals (clear hf hdep; unfold Oper.wp; generalize Act.eval _ = ev at *; go_simp)
    case r21x1 =>
     refine ((isClassForm_a F.1 F.2.1 F.2.2 _ i1.1 i1.2.1 i1.2.2)).mono ?_
     rintro e w2 ⟨rfl, hb⟩
     refine hK _ _ (hS.call hb) ?_ (fun j u _ h => Kd.ok_below hb h)
     rw [if_pos (by rfl)]
     show (_ : Value) = _
     first | rfl | (refine congrArg (Value.int .i64) ?_; first | rfl | exact int_in (by omega) | exact quo_in (by omega) (by omega) (by omega) | exact rem_in (by omega) (by omega) | omega | (simp [*]; done) | exact congrArg Value.bool (by assumption) | (simp only [Value.bool.injEq, decide_eq_true_eq, decide_eq_false_iff_not]; assumption)) | (simp; done) | (simp [*]; done)
    all_goals (refine hK _ _ hS ?_ (fun j u _ h => h); rw [if_pos (by rfl)]; show (_ : Value) = _; (first | rfl | (refine congrArg (Value.int .i64) ?_; first | rfl | exact int_in (by omega) | exact quo_in (by omega) (by omega) (by omega) | exact rem_in (by omega) (by omega) | omega | (simp [*]; done) | exact congrArg Value.bool (by assumption) | (simp only [Value.bool.injEq, decide_eq_true_eq, decide_eq_false_iff_not]; assumption)) | (simp; done) | (simp [*]; done)))
   ·intro aq wx hd hw hf hS hg
    have G4 : tau aq 4 = .bool false := hg 13 (by decide)
    have haq : aq = ⟨#[tau aq 0, tau aq 1, tau aq 2, tau aq 3, tau aq 4, tau aq 5, tau aq 6, tau aq 7, tau aq 8, tau aq 9, tau aq 10, tau aq 11, tau aq 12, tau aq 13, tau aq 14, tau aq 15, tau aq 16, tau aq 17], []⟩ := by
     obtain ⟨tq, dq⟩ := aq
     have h5 := arr_eq (show tq.size = 18 from hw)
     have h6 : dq = [] := hd
     subst h6
     exact congrArg (fun z => Act.mk z []) h5
    show K2 aq wx
    rw [haq, hf 0, hf 1, hf 2, hf 3, G4]
    clear haq hf hd hw
    try dsimp only
    refine h3 _ _ ?_
    go_meet
    refine ⟨rfl, Ri3.m ?_ ?_ ?_, Ri3.m ?_ ?_ ?_, hS.below⟩
    all_goals first | exact hS.cells (_, _) (by simp) | exact (hS.free _ (by simp)).2
  obtain ⟨rfl, ⟨c00, c01, c02, z0⟩, ⟨c10, c11, c12, z1⟩, hb0⟩ := hcut
  go_wp2
  refine bodyPost_ret (v := .bool false) (by simp [results, Tryz.results27, go_sem, *]) rfl ?_
  exact ⟨by rw [unhide HV], hb0⟩
 ·cases k1 : clB G
  ·rw [k0] at hc1
   rw [k1] at hc2
   replace hc1 := hc1.symm
   replace hc2 := hc2.symm
   clear hd1 hd2
   have HV := hide (show prB F G = false by simp [prB, k0, k1])
   try clear k2
   try clear k1
   clear k0
   go_enter Tryz.func27, Tryz.ntmps27
   go_upto_region 1 with fail
   go_cut [4] (fun s4 wx => s4 = .bool false ∧ Ri3 wx w.heap.size F.1 F.2.1 F.2.2 ∧ Ri3 wx (w.heap.size + 1) G.1 G.2.1 G.2.2 ∧ Below w.heap.size w wx)
   case first =>
    have h1 := trivial
    rename_i K2 h2 h3
    refine region_n (by kernel_rfl) (fun j => #[5,6,7,8,9,10,11,12,13,14,15,16,17,4].getD j 0) (fun j => Kd.ok ((fun j => match j with | 0 => Kd.val (.agg #[.int .i64 (F.1), .int .i64 (F.2.1), .int .i64 (F.2.2)]) | 1 => Kd.val (.bool true) | 2 => Kd.val (.bool true) | 3 => Kd.val (.agg #[.int .i64 (G.1), .int .i64 (G.2.1), .int .i64 (G.2.2)]) | 4 => Kd.val (.bool false) | 5 => Kd.val (.bool false) | 6 => Kd.val (.bool false) | 7 => Kd.val undef | 8 => Kd.val undef | 9 => Kd.val undef | 10 => Kd.val undef | 11 => Kd.val undef | 12 => Kd.val (.bool false) | 13 => Kd.val (.bool false) | _ => Kd.any : Nat → Kd) j)) (Sy w (w.heap.size + 1 + 1) [(⟨w.heap.size, 0, none⟩, .int .i64 (F.1)), (⟨w.heap.size, 1, none⟩, .int .i64 (F.2.1)), (⟨w.heap.size, 2, none⟩, .int .i64 (F.2.2)), (⟨w.heap.size + 1, 0, none⟩, .int .i64 (G.1)), (⟨w.heap.size + 1, 1, none⟩, .int .i64 (G.2.1)), (⟨w.heap.size + 1, 2, none⟩, .int .i64 (G.2.2))] []) (fun j => #[true, true, true, true, true, true, true, false, false, false, false, false, true, true].getD j true) (by kernel_rfl) ?_ ?_ ?_ ?_ ?_ ?_
    ·intro j hj
     have hj2 : j < 14 := hj
     have : ∀ j, j < 14 → (#[5,6,7,8,9,10,11,12,13,14,15,16,17,4] : Array Nat).getD j 0 < 18 := by decide
     exact this j hj2
    ·intro i o ho
     match i, ho with
     | 0, ho => cases ho; intro aq wq hd; exact wanted_free rfl
     | 1, ho => cases ho; intro aq wq hd; exact wanted_free rfl
     | 2, ho => cases ho; intro aq wq hd; exact wanted_free rfl
     | 3, ho => cases ho; intro aq wq hd; exact wanted_of (j := 2) (t := 7) (want := true) (b := true) rfl rfl (hd 2 (by decide +kernel))
     | 4, ho => cases ho; intro aq wq hd; exact wanted_of (j := 2) (t := 7) (want := true) (b := true) rfl rfl (hd 2 (by decide +kernel))
     | 5, ho => cases ho; intro aq wq hd; exact wanted_free rfl
     | 6, ho => cases ho; intro aq wq hd; exact wanted_free rfl
     | 7, ho => cases ho; intro aq wq hd; exact wanted_of (j := 6) (t := 11) (want := true) (b := false) rfl rfl (hd 6 (by decide +kernel))
     | 8, ho => cases ho; intro aq wq hd; exact wanted_of (j := 6) (t := 11) (want := true) (b := false) rfl rfl (hd 6 (by decide +kernel))
     | 9, ho => cases ho; intro aq wq hd; exact wanted_of (j := 6) (t := 11) (want := true) (b := false) rfl rfl (hd 6 (by decide +kernel))
     | 10, ho => cases ho; intro aq wq hd; exact wanted_of (j := 6) (t := 11) (want := true) (b := false) rfl rfl (hd 6 (by decide +kernel))
     | 11, ho => cases ho; intro aq wq hd; exact wanted_of (j := 6) (t := 11) (want := true) (b := false) rfl rfl (hd 6 (by decide +kernel))
     | 12, ho => cases ho; intro aq wq hd; exact wanted_free rfl
     | 13, ho => cases ho; intro aq wq hd; exact wanted_free rfl
     | i + 14, ho => exact absurd ho (by simp)
    ·intro i o ho hr
     match i, ho with
     | 0, ho => exact absurd hr (by decide)
     | 1, ho => exact absurd hr (by decide)
     | 2, ho => exact absurd hr (by decide)
     | 3, ho => exact absurd hr (by decide)
     | 4, ho => exact absurd hr (by decide)
     | 5, ho => exact absurd hr (by decide)
     | 6, ho => exact absurd hr (by decide)
     | 7, ho => cases ho; exact ⟨rfl, fun _ _ => rfl⟩
     | 8, ho => cases ho; exact ⟨rfl, fun _ _ => rfl⟩
     | 9, ho => cases ho; exact ⟨rfl, fun _ _ => rfl⟩
     | 10, ho => cases ho; exact ⟨rfl, fun _ _ => rfl⟩
     | 11, ho => cases ho; exact ⟨rfl, fun _ _ => rfl⟩
     | 12, ho => exact absurd hr (by decide)
     | 13, ho => exact absurd hr (by decide)
     | i + 14, ho => exact absurd ho (by simp)
    ·refine Sy.drew (Sy.mk_of ?_ ?_ ?_ ?_)
     ·first | rfl | (simp; done) | (simp; omega)
     ·intro c hc
      simp only [List.mem_cons, List.not_mem_nil, or_false] at hc
      rcases hc with rfl | rfl | rfl | rfl | rfl | rfl <;> exact byCT
     ·intro p hp; cases hp
     ·(repeat' first | with_reducible (first | exact Below.refl _ _ | assumption | refine gr_alloc ?_ _ | refine below_drewN ?_ _ | refine below_drew ?_ | refine gr_call ?_ (by assumption) | refine Below.setCell ?_ ?_ _) | go_size | omega | (simp; omega))
    ·clear h2 h3
     refine ⟨?r22x0, ?r22x1, ?r22x2, ?r22x3, ?r22x4, ?r22x5, ?r22x6, ?r22x7, ?r22x8, ?r22x9, ?r22x10, ?r22x11, ?r22x12, ?r22x13, trivial⟩
     case r22x7 => intro hr; exact absurd hr (by decide)
     case r22x8 => intro hr; exact absurd hr (by decide)
     case r22x9 => intro hr; exact absurd hr (by decide)
     case r22x10 => intro hr; exact absurd hr (by decide)
     case r22x11 => intro hr; exact absurd hr (by decide)
     all_goals intro _ aq wx Kq hf hS hdep ev1 ev2 hK
     case' r22x0 =>
      have F2 : aq.eval (.tmp 2) = .pointer (some ⟨w.heap.size, 0, none⟩) := hf 2
      have c0 := hS.cells (⟨w.heap.size, 0, none⟩, .int .i64 (F.1)) (by simp)
      have c1 := hS.cells (⟨w.heap.size, 1, none⟩, .int .i64 (F.2.1)) (by simp)
      have c2 := hS.cells (⟨w.heap.size, 2, none⟩, .int .i64 (F.2.2)) (by simp)
     case' r22x1 =>
      have D0 : aq.eval (.tmp 5) = _ := hdep 0
     case' r22x2 =>
      have D1 : aq.eval (.tmp 6) = _ := hdep 1
     case' r22x3 =>
      have F3 : aq.eval (.tmp 3) = .pointer (some ⟨w.heap.size + 1, 0, none⟩) := hf 3
      have c0 := hS.cells (⟨w.heap.size + 1, 0, none⟩, .int .i64 (G.1)) (by simp)
      have c1 := hS.cells (⟨w.heap.size + 1, 1, none⟩, .int .i64 (G.2.1)) (by simp)
      have c2 := hS.cells (⟨w.heap.size + 1, 2, none⟩, .int .i64 (G.2.2)) (by simp)
     case' r22x4 =>
      have D3 : aq.eval (.tmp 8) = _ := hdep 3
     case' r22x5 =>
      have D2 : aq.eval (.tmp 7) = _ := hdep 2
      have D4 : aq.eval (.tmp 9) = _ := hdep 4
     case' r22x6 =>
      have D5 : aq.eval (.tmp 10) = _ := hdep 5
     case' r22x12 =>
      have D6 : aq.eval (.tmp 11) = _ := hdep 6
      have D11 : aq.eval (.tmp 16) = _ := hdep 11
     case' r22x13 =>
      have D12 : aq.eval (.tmp 17) = _ := hdep 12
     all_goals (clear hf hdep; unfold Oper.wp; generalize Act.eval _ = ev at *; go_simp)
     case r22x1 =>
      refine ((isClassForm_a F.1 F.2.1 F.2.2 _ i1.1 i1.2.1 i1.2.2)).mono ?_
      rintro e w2 ⟨rfl, hb⟩
      refine hK _ _ (hS.call hb) ?_ (fun j u _ h => Kd.ok_below hb h)
      rw [if_pos (by rfl)]
      show (_ : Value) = _
      first | rfl | (refine congrArg (Value.int .i64) ?_; first | rfl | exact int_in (by omega) | exact quo_in (by omega) (by omega) (by omega) | exact rem_in (by omega) (by omega) | omega | (simp [*]; done) | exact congrArg Value.bool (by assumption) | (simp only [Value.bool.injEq, decide_eq_true_eq, decide_eq_false_iff_not]; assumption)) | (simp; done) | (simp [*]; done)
     case r22x4 =>
      refine ((isClassForm_a G.1 G.2.1 G.2.2 _ i2.1 i2.2.1 i2.2.2)).mono ?_
      rintro e w2 ⟨rfl, hb⟩
      refine hK _ _ (hS.call hb) ?_ (fun j u _ h => Kd.ok_below hb h)
      rw [if_pos (by rfl)]
      show (_ : Value) = _
      first | rfl | (refine congrArg (Value.int .i64) ?_; first | rfl | exact int_in (by omega) | exact quo_in (by omega) (by omega) (by omega) | exact rem_in (by omega) (by omega) | omega | (simp [*]; done) | exact congrArg Value.bool (by assumption) | (simp only [Value.bool.injEq, decide_eq_true_eq, decide_eq_false_iff_not]; assumption)) | (simp; done) | (simp [*]; done)
     all_goals (refine hK _ _ hS ?_ (fun j u _ h => h); rw [if_pos (by rfl)]; show (_ : Value) = _; (first | rfl | (refine congrArg (Value.int .i64) ?_; first | rfl | exact int_in (by omega) | exact quo_in (by omega) (by omega) (by omega) | exact rem_in (by omega) (by omega) | omega | (simp [*]; done) | exact congrArg Value.bool (by assumption) | (simp only [Value.bool.injEq, decide_eq_true_eq, decide_eq_false_iff_not]; assumption)) | (simp; done) | (simp [*]; done)))
    ·intro aq wx hd hw hf hS hg
     have G4 : tau aq 4 = .bool false := hg 13 (by decide)
     have haq : aq = ⟨#[tau aq 0, tau aq 1, tau aq 2, tau aq 3, tau aq 4, tau aq 5, tau aq 6, tau aq 7, tau aq 8, tau aq 9, tau aq 10, tau aq 11, tau aq 12, tau aq 13, tau aq 14, tau aq 15, tau aq 16, tau aq 17], []⟩ := by
      obtain ⟨tq, dq⟩ := aq
      have h5 := arr_eq (show tq.size = 18 from hw)
      have h6 : dq = [] := hd
      subst h6
      exact congrArg (fun z => Act.mk z []) h5
     show K2 aq wx
     rw [haq, hf 0, hf 1, hf 2, hf 3, G4]
     clear haq hf hd hw
     try dsimp only
     refine h3 _ _ ?_
     go_meet
     refine ⟨rfl, Ri3.m ?_ ?_ ?_, Ri3.m ?_ ?_ ?_, hS.below⟩
     all_goals first | exact hS.cells (_, _) (by simp) | exact (hS.free _ (by simp)).2
   obtain ⟨rfl, ⟨c00, c01, c02, z0⟩, ⟨c10, c11, c12, z1⟩, hb0⟩ := hcut
   go_wp2
   refine bodyPost_ret (v := .bool false) (by simp [results, Tryz.results27, go_sem, *]) rfl ?_
   exact ⟨by rw [unhide HV], hb0⟩
  ·rw [k0] at hc1
   rw [k1] at hc2
   replace hc1 := hc1.symm
   replace hc2 := hc2.symm
   cases k2 : decide (dT F = dT G)
   ·have k3 := of_decide_eq_false k2
    rw [hd1, hd2] at k3
    clear hd1 hd2
    have HV := hide (show prB F G = false by simp [prB, k0, k1, of_decide_eq_false k2])
    try clear k2
    try clear k1
    clear k0
    go_enter Tryz.func27, Tryz.ntmps27
    go_upto_region 1 with fail
    go_cut [4] (fun s4 wx => s4 = .bool false ∧ Ri3 wx w.heap.size F.1 F.2.1 F.2.2 ∧ Ri3 wx (w.heap.size + 1) G.1 G.2.1 G.2.2 ∧ Below w.heap.size w wx)
    case first =>
     have h1 := trivial
     rename_i K2 h2 h3
     refine region_n (by kernel_rfl) (fun j => #[5,6,7,8,9,10,11,12,13,14,15,16,17,4].getD j 0) (fun j => Kd.ok ((fun j => match j with | 0 => Kd.val (.agg #[.int .i64 (F.1), .int .i64 (F.2.1), .int .i64 (F.2.2)]) | 1 => Kd.val (.bool true) | 2 => Kd.val (.bool true) | 3 => Kd.val (.agg #[.int .i64 (G.1), .int .i64 (G.2.1), .int .i64 (G.2.2)]) | 4 => Kd.val (.bool true) | 5 => Kd.val (.bool true) | 6 => Kd.val (.bool true) | 7 => Kd.val (.agg #[.int .i64 (F.1), .int .i64 (F.2.1), .int .i64 (F.2.2)]) | 8 => Kd.val (.int .i64 (discI F.1 F.2.1 F.2.2)) | 9 => Kd.val (.agg #[.int .i64 (G.1), .int .i64 (G.2.1), .int .i64 (G.2.2)]) | 10 => Kd.val (.int .i64 (discI G.1 G.2.1 G.2.2)) | 11 => Kd.val (.bool false) | 12 => Kd.val (.bool false) | 13 => Kd.val (.bool false) | _ => Kd.any : Nat → Kd) j)) (Sy w (w.heap.size + 1 + 1) [(⟨w.heap.size, 0, none⟩, .int .i64 (F.1)), (⟨w.heap.size, 1, none⟩, .int .i64 (F.2.1)), (⟨w.heap.size, 2, none⟩, .int .i64 (F.2.2)), (⟨w.heap.size + 1, 0, none⟩, .int .i64 (G.1)), (⟨w.heap.size + 1, 1, none⟩, .int .i64 (G.2.1)), (⟨w.heap.size + 1, 2, none⟩, .int .i64 (G.2.2))] []) (fun j => #[true, true, true, true, true, true, true, true, true, true, true, true, true, true].getD j true) (by kernel_rfl) ?_ ?_ ?_ ?_ ?_ ?_
     ·intro j hj
      have hj2 : j < 14 := hj
      have : ∀ j, j < 14 → (#[5,6,7,8,9,10,11,12,13,14,15,16,17,4] : Array Nat).getD j 0 < 18 := by decide
      exact this j hj2
     ·intro i o ho
      match i, ho with
      | 0, ho => cases ho; intro aq wq hd; exact wanted_free rfl
      | 1, ho => cases ho; intro aq wq hd; exact wanted_free rfl
      | 2, ho => cases ho; intro aq wq hd; exact wanted_free rfl
      | 3, ho => cases ho; intro aq wq hd; exact wanted_of (j := 2) (t := 7) (want := true) (b := true) rfl rfl (hd 2 (by decide +kernel))
      | 4, ho => cases ho; intro aq wq hd; exact wanted_of (j := 2) (t := 7) (want := true) (b := true) rfl rfl (hd 2 (by decide +kernel))
      | 5, ho => cases ho; intro aq wq hd; exact wanted_free rfl
      | 6, ho => cases ho; intro aq wq hd; exact wanted_free rfl
      | 7, ho => cases ho; intro aq wq hd; exact wanted_of (j := 6) (t := 11) (want := true) (b := true) rfl rfl (hd 6 (by decide +kernel))
      | 8, ho => cases ho; intro aq wq hd; exact wanted_of (j := 6) (t := 11) (want := true) (b := true) rfl rfl (hd 6 (by decide +kernel))
      | 9, ho => cases ho; intro aq wq hd; exact wanted_of (j := 6) (t := 11) (want := true) (b := true) rfl rfl (hd 6 (by decide +kernel))
      | 10, ho => cases ho; intro aq wq hd; exact wanted_of (j := 6) (t := 11) (want := true) (b := true) rfl rfl (hd 6 (by decide +kernel))
      | 11, ho => cases ho; intro aq wq hd; exact wanted_of (j := 6) (t := 11) (want := true) (b := true) rfl rfl (hd 6 (by decide +kernel))
      | 12, ho => cases ho; intro aq wq hd; exact wanted_free rfl
      | 13, ho => cases ho; intro aq wq hd; exact wanted_free rfl
      | i + 14, ho => exact absurd ho (by simp)
     ·intro i o ho hr
      match i, ho with
      | 0, ho => exact absurd hr (by decide)
      | 1, ho => exact absurd hr (by decide)
      | 2, ho => exact absurd hr (by decide)
      | 3, ho => exact absurd hr (by decide)
      | 4, ho => exact absurd hr (by decide)
      | 5, ho => exact absurd hr (by decide)
      | 6, ho => exact absurd hr (by decide)
      | 7, ho => exact absurd hr (by decide)
      | 8, ho => exact absurd hr (by decide)
      | 9, ho => exact absurd hr (by decide)
      | 10, ho => exact absurd hr (by decide)
      | 11, ho => exact absurd hr (by decide)
      | 12, ho => exact absurd hr (by decide)
      | 13, ho => exact absurd hr (by decide)
      | i + 14, ho => exact absurd ho (by simp)
     ·refine Sy.drew (Sy.mk_of ?_ ?_ ?_ ?_)
      ·first | rfl | (simp; done) | (simp; omega)
      ·intro c hc
       simp only [List.mem_cons, List.not_mem_nil, or_false] at hc
       rcases hc with rfl | rfl | rfl | rfl | rfl | rfl <;> exact byCT
      ·intro p hp; cases hp
      ·(repeat' first | with_reducible (first | exact Below.refl _ _ | assumption | refine gr_alloc ?_ _ | refine below_drewN ?_ _ | refine below_drew ?_ | refine gr_call ?_ (by assumption) | refine Below.setCell ?_ ?_ _) | go_size | omega | (simp; omega))
     ·clear h2 h3
      refine ⟨?r23x0, ?r23x1, ?r23x2, ?r23x3, ?r23x4, ?r23x5, ?r23x6, ?r23x7, ?r23x8, ?r23x9, ?r23x10, ?r23x11, ?r23x12, ?r23x13, trivial⟩
      all_goals intro _ aq wx Kq hf hS hdep ev1 ev2 hK
      case' r23x0 =>
       have F2 : aq.eval (.tmp 2) = .pointer (some ⟨w.heap.size, 0, none⟩) := hf 2
       have c0 := hS.cells (⟨w.heap.size, 0, none⟩, .int .i64 (F.1)) (by simp)
       have c1 := hS.cells (⟨w.heap.size, 1, none⟩, .int .i64 (F.2.1)) (by simp)
       have c2 := hS.cells (⟨w.heap.size, 2, none⟩, .int .i64 (F.2.2)) (by simp)
      case' r23x1 =>
       have D0 : aq.eval (.tmp 5) = _ := hdep 0
      case' r23x2 =>
       have D1 : aq.eval (.tmp 6) = _ := hdep 1
      case' r23x3 =>
       have F3 : aq.eval (.tmp 3) = .pointer (some ⟨w.heap.size + 1, 0, none⟩) := hf 3
       have c0 := hS.cells (⟨w.heap.size + 1, 0, none⟩, .int .i64 (G.1)) (by simp)
       have c1 := hS.cells (⟨w.heap.size + 1, 1, none⟩, .int .i64 (G.2.1)) (by simp)
       have c2 := hS.cells (⟨w.heap.size + 1, 2, none⟩, .int .i64 (G.2.2)) (by simp)
      case' r23x4 =>
       have D3 : aq.eval (.tmp 8) = _ := hdep 3
      case' r23x5 =>
       have D2 : aq.eval (.tmp 7) = _ := hdep 2
       have D4 : aq.eval (.tmp 9) = _ := hdep 4
      case' r23x6 =>
       have D5 : aq.eval (.tmp 10) = _ := hdep 5
      case' r23x7 =>
       have F2 : aq.eval (.tmp 2) = .pointer (some ⟨w.heap.size, 0, none⟩) := hf 2
       have c0 := hS.cells (⟨w.heap.size, 0, none⟩, .int .i64 (F.1)) (by simp)
       have c1 := hS.cells (⟨w.heap.size, 1, none⟩, .int .i64 (F.2.1)) (by simp)
       have c2 := hS.cells (⟨w.heap.size, 2, none⟩, .int .i64 (F.2.2)) (by simp)
      case' r23x8 =>
       have D7 : aq.eval (.tmp 12) = _ := hdep 7
      case' r23x9 =>
       have F3 : aq.eval (.tmp 3) = .pointer (some ⟨w.heap.size + 1, 0, none⟩) := hf 3
       have c0 := hS.cells (⟨w.heap.size + 1, 0, none⟩, .int .i64 (G.1)) (by simp)
       have c1 := hS.cells (⟨w.heap.size + 1, 1, none⟩, .int .i64 (G.2.1)) (by simp)
       have c2 := hS.cells (⟨w.heap.size + 1, 2, none⟩, .int .i64 (G.2.2)) (by simp)
      case' r23x10 =>
       have D9 : aq.eval (.tmp 14) = _ := hdep 9
      case' r23x11 =>
       have D8 : aq.eval (.tmp 13) = _ := hdep 8
       have D10 : aq.eval (.tmp 15) = _ := hdep 10
      case' r23x12 =>
       have D6 : aq.eval (.tmp 11) = _ := hdep 6
       have D11 : aq.eval (.tmp 16) = _ := hdep 11
      case' r23x13 =>
       have D12 : aq.eval (.tmp 17) = _ := hdep 12
      all_goals (clear hf hdep; unfold Oper.wp; generalize Act.eval _ = ev at *; go_simp)
      case r23x1 =>
       refine ((isClassForm_a F.1 F.2.1 F.2.2 _ i1.1 i1.2.1 i1.2.2)).mono ?_
       rintro e w2 ⟨rfl, hb⟩
       refine hK _ _ (hS.call hb) ?_ (fun j u _ h => Kd.ok_below hb h)
       rw [if_pos (by rfl)]
       show (_ : Value) = _
       first | rfl | (refine congrArg (Value.int .i64) ?_; first | rfl | exact int_in (by omega) | exact quo_in (by omega) (by omega) (by omega) | exact rem_in (by omega) (by omega) | omega | (simp [*]; done) | exact congrArg Value.bool (by assumption) | (simp only [Value.bool.injEq, decide_eq_true_eq, decide_eq_false_iff_not]; assumption)) | (simp; done) | (simp [*]; done)
      case r23x4 =>
       refine ((isClassForm_a G.1 G.2.1 G.2.2 _ i2.1 i2.2.1 i2.2.2)).mono ?_
       rintro e w2 ⟨rfl, hb⟩
       refine hK _ _ (hS.call hb) ?_ (fun j u _ h => Kd.ok_below hb h)
       rw [if_pos (by rfl)]
       show (_ : Value) = _
       first | rfl | (refine congrArg (Value.int .i64) ?_; first | rfl | exact int_in (by omega) | exact quo_in (by omega) (by omega) (by omega) | exact rem_in (by omega) (by omega) | omega | (simp [*]; done) | exact congrArg Value.bool (by assumption) | (simp only [Value.bool.injEq, decide_eq_true_eq, decide_eq_false_iff_not]; assumption)) | (simp; done) | (simp [*]; done)
      case r23x8 =>
       refine ((disc_a F.1 F.2.1 F.2.2 _ (class_form hc1))).mono ?_
       rintro e w2 ⟨rfl, hb⟩
       refine hK _ _ (hS.call hb) ?_ (fun j u _ h => Kd.ok_below hb h)
       rw [if_pos (by rfl)]
       show (_ : Value) = _
       first | rfl | (refine congrArg (Value.int .i64) ?_; first | rfl | exact int_in (by omega) | exact quo_in (by omega) (by omega) (by omega) | exact rem_in (by omega) (by omega) | omega | (simp [*]; done) | exact congrArg Value.bool (by assumption) | (simp only [Value.bool.injEq, decide_eq_true_eq, decide_eq_false_iff_not]; assumption)) | (simp; done) | (simp [*]; done)
      case r23x10 =>
       refine ((disc_a G.1 G.2.1 G.2.2 _ (class_form hc2))).mono ?_
       rintro e w2 ⟨rfl, hb⟩
       refine hK _ _ (hS.call hb) ?_ (fun j u _ h => Kd.ok_below hb h)
       rw [if_pos (by rfl)]
       show (_ : Value) = _
       first | rfl | (refine congrArg (Value.int .i64) ?_; first | rfl | exact int_in (by omega) | exact quo_in (by omega) (by omega) (by omega) | exact rem_in (by omega) (by omega) | omega | (simp [*]; done) | exact congrArg Value.bool (by assumption) | (simp only [Value.bool.injEq, decide_eq_true_eq, decide_eq_false_iff_not]; assumption)) | (simp; done) | (simp [*]; done)
      all_goals (refine hK _ _ hS ?_ (fun j u _ h => h); rw [if_pos (by rfl)]; show (_ : Value) = _; (first | rfl | (refine congrArg (Value.int .i64) ?_; first | rfl | exact int_in (by omega) | exact quo_in (by omega) (by omega) (by omega) | exact rem_in (by omega) (by omega) | omega | (simp [*]; done) | exact congrArg Value.bool (by assumption) | (simp only [Value.bool.injEq, decide_eq_true_eq, decide_eq_false_iff_not]; assumption)) | (simp; done) | (simp [*]; done)))
     ·intro aq wx hd hw hf hS hg
      have G4 : tau aq 4 = .bool false := hg 13 (by decide)
      have haq : aq = ⟨#[tau aq 0, tau aq 1, tau aq 2, tau aq 3, tau aq 4, tau aq 5, tau aq 6, tau aq 7, tau aq 8, tau aq 9, tau aq 10, tau aq 11, tau aq 12, tau aq 13, tau aq 14, tau aq 15, tau aq 16, tau aq 17], []⟩ := by
       obtain ⟨tq, dq⟩ := aq
       have h5 := arr_eq (show tq.size = 18 from hw)
       have h6 : dq = [] := hd
       subst h6
       exact congrArg (fun z => Act.mk z []) h5
      show K2 aq wx
      rw [haq, hf 0, hf 1, hf 2, hf 3, G4]
      clear haq hf hd hw
      try dsimp only
      refine h3 _ _ ?_
      go_meet
      refine ⟨rfl, Ri3.m ?_ ?_ ?_, Ri3.m ?_ ?_ ?_, hS.below⟩
      all_goals first | exact hS.cells (_, _) (by simp) | exact (hS.free _ (by simp)).2
    obtain ⟨rfl, ⟨c00, c01, c02, z0⟩, ⟨c10, c11, c12, z1⟩, hb0⟩ := hcut
    go_wp2
    refine bodyPost_ret (v := .bool false) (by simp [results, Tryz.results27, go_sem, *]) rfl ?_
    exact ⟨by rw [unhide HV], hb0⟩
   ·have k3 := of_decide_eq_true k2
    rw [hd1, hd2] at k3
    clear hd1 hd2
    have HV := hide (show prB F G = true by simp [prB, k0, k1, of_decide_eq_true k2])
    try clear k2
    try clear k1
    clear k0
    go_enter Tryz.func27, Tryz.ntmps27
    go_upto_region 1 with fail
    go_cut [4] (fun s4 wx => s4 = .bool true ∧ Ri3 wx w.heap.size F.1 F.2.1 F.2.2 ∧ Ri3 wx (w.heap.size + 1) G.1 G.2.1 G.2.2 ∧ Below w.heap.size w wx)
    case first =>
     have h1 := trivial
     rename_i K2 h2 h3
     refine region_n (by kernel_rfl) (fun j => #[5,6,7,8,9,10,11,12,13,14,15,16,17,4].getD j 0) (fun j => Kd.ok ((fun j => match j with | 0 => Kd.val (.agg #[.int .i64 (F.1), .int .i64 (F.2.1), .int .i64 (F.2.2)]) | 1 => Kd.val (.bool true) | 2 => Kd.val (.bool true) | 3 => Kd.val (.agg #[.int .i64 (G.1), .int .i64 (G.2.1), .int .i64 (G.2.2)]) | 4 => Kd.val (.bool true) | 5 => Kd.val (.bool true) | 6 => Kd.val (.bool true) | 7 => Kd.val (.agg #[.int .i64 (F.1), .int .i64 (F.2.1), .int .i64 (F.2.2)]) | 8 => Kd.val (.int .i64 (discI F.1 F.2.1 F.2.2)) | 9 => Kd.val (.agg #[.int .i64 (G.1), .int .i64 (G.2.1), .int .i64 (G.2.2)]) | 10 => Kd.val (.int .i64 (discI G.1 G.2.1 G.2.2)) | 11 => Kd.val (.bool true) | 12 => Kd.val (.bool true) | 13 => Kd.val (.bool true) | _ => Kd.any : Nat → Kd) j)) (Sy w (w.heap.size + 1 + 1) [(⟨w.heap.size, 0, none⟩, .int .i64 (F.1)), (⟨w.heap.size, 1, none⟩, .int .i64 (F.2.1)), (⟨w.heap.size, 2, none⟩, .int .i64 (F.2.2)), (⟨w.heap.size + 1, 0, none⟩, .int .i64 (G.1)), (⟨w.heap.size + 1, 1, none⟩, .int .i64 (G.2.1)), (⟨w.heap.size + 1, 2, none⟩, .int .i64 (G.2.2))] []) (fun j => #[true, true, true, true, true, true, true, true, true, true, true, true, true, true].getD j true) (by kernel_rfl) ?_ ?_ ?_ ?_ ?_ ?_
     ·intro j hj
      have hj2 : j < 14 := hj
      have : ∀ j, j < 14 → (#[5,6,7,8,9,10,11,12,13,14,15,16,17,4] : Array Nat).getD j 0 < 18 := by decide
      exact this j hj2
     ·intro i o ho
      match i, ho with
      | 0, ho => cases ho; intro aq wq hd; exact wanted_free rfl
      | 1, ho => cases ho; intro aq wq hd; exact wanted_free rfl
      | 2, ho => cases ho; intro aq wq hd; exact wanted_free rfl
      | 3, ho => cases ho; intro aq wq hd; exact wanted_of (j := 2) (t := 7) (want := true) (b := true) rfl rfl (hd 2 (by decide +kernel))
      | 4, ho => cases ho; intro aq wq hd; exact wanted_of (j := 2) (t := 7) (want := true) (b := true) rfl rfl (hd 2 (by decide +kernel))
      | 5, ho => cases ho; intro aq wq hd; exact wanted_free rfl
      | 6, ho => cases ho; intro aq wq hd; exact wanted_free rfl
      | 7, ho => cases ho; intro aq wq hd; exact wanted_of (j := 6) (t := 11) (want := true) (b := true) rfl rfl (hd 6 (by decide +kernel))
      | 8, ho => cases ho; intro aq wq hd; exact wanted_of (j := 6) (t := 11) (want := true) (b := true) rfl rfl (hd 6 (by decide +kernel))
      | 9, ho => cases ho; intro aq wq hd; exact wanted_of (j := 6) (t := 11) (want := true) (b := true) rfl rfl (hd 6 (by decide +kernel))
      | 10, ho => cases ho; intro aq wq hd; exact wanted_of (j := 6) (t := 11) (want := true) (b := true) rfl rfl (hd 6 (by decide +kernel))
      | 11, ho => cases ho; intro aq wq hd; exact wanted_of (j := 6) (t := 11) (want := true) (b := true) rfl rfl (hd 6 (by decide +kernel))
      | 12, ho => cases ho; intro aq wq hd; exact wanted_free rfl
      | 13, ho => cases ho; intro aq wq hd; exact wanted_free rfl
      | i + 14, ho => exact absurd ho (by simp)
     ·intro i o ho hr
      match i, ho with
      | 0, ho => exact absurd hr (by decide)
      | 1, ho => exact absurd hr (by decide)
      | 2, ho => exact absurd hr (by decide)
      | 3, ho => exact absurd hr (by decide)
      | 4, ho => exact absurd hr (by decide)
      | 5, ho => exact absurd hr (by decide)
      | 6, ho => exact absurd hr (by decide)
      | 7, ho => exact absurd hr (by decide)
      | 8, ho => exact absurd hr (by decide)
      | 9, ho => exact absurd hr (by decide)
      | 10, ho => exact absurd hr (by decide)
      | 11, ho => exact absurd hr (by decide)
      | 12, ho => exact absurd hr (by decide)
      | 13, ho => exact absurd hr (by decide)
      | i + 14, ho => exact absurd ho (by simp)
     ·refine Sy.drew (Sy.mk_of ?_ ?_ ?_ ?_)
      ·first | rfl | (simp; done) | (simp; omega)
      ·intro c hc
       simp only [List.mem_cons, List.not_mem_nil, or_false] at hc
       rcases hc with rfl | rfl | rfl | rfl | rfl | rfl <;> exact byCT
      ·intro p hp; cases hp
      ·(repeat' first | with_reducible (first | exact Below.refl _ _ | assumption | refine gr_alloc ?_ _ | refine below_drewN ?_ _ | refine below_drew ?_ | refine gr_call ?_ (by assumption) | refine Below.setCell ?_ ?_ _) | go_size | omega | (simp; omega))
     ·clear h2 h3
      refine ⟨?r24x0, ?r24x1, ?r24x2, ?r24x3, ?r24x4, ?r24x5, ?r24x6, ?r24x7, ?r24x8, ?r24x9, ?r24x10, ?r24x11, ?r24x12, ?r24x13, trivial⟩
      all_goals intro _ aq wx Kq hf hS hdep ev1 ev2 hK
      case' r24x0 =>
       have F2 : aq.eval (.tmp 2) = .pointer (some ⟨w.heap.size, 0, none⟩) := hf 2
       have c0 := hS.cells (⟨w.heap.size, 0, none⟩, .int .i64 (F.1)) (by simp)
       have c1 := hS.cells (⟨w.heap.size, 1, none⟩, .int .i64 (F.2.1)) (by simp)
       have c2 := hS.cells (⟨w.heap.size, 2, none⟩, .int .i64 (F.2.2)) (by simp)
      case' r24x1 =>
       have D0 : aq.eval (.tmp 5) = _ := hdep 0
      case' r24x2 =>
       have D1 : aq.eval (.tmp 6) = _ := hdep 1
      case' r24x3 =>
       have F3 : aq.eval (.tmp 3) = .pointer (some ⟨w.heap.size + 1, 0, none⟩) := hf 3
       have c0 := hS.cells (⟨w.heap.size + 1, 0, none⟩, .int .i64 (G.1)) (by simp)
       have c1 := hS.cells (⟨w.heap.size + 1, 1, none⟩, .int .i64 (G.2.1)) (by simp)
       have c2 := hS.cells (⟨w.heap.size + 1, 2, none⟩, .int .i64 (G.2.2)) (by simp)
      case' r24x4 =>
       have D3 : aq.eval (.tmp 8) = _ := hdep 3
      case' r24x5 =>
       have D2 : aq.eval (.tmp 7) = _ := hdep 2
       have D4 : aq.eval (.tmp 9) = _ := hdep 4
      case' r24x6 =>
       have D5 : aq.eval (.tmp 10) = _ := hdep 5
      case' r24x7 =>
       have F2 : aq.eval (.tmp 2) = .pointer (some ⟨w.heap.size, 0, none⟩) := hf 2
       have c0 := hS.cells (⟨w.heap.size, 0, none⟩, .int .i64 (F.1)) (by simp)
       have c1 := hS.cells (⟨w.heap.size, 1, none⟩, .int .i64 (F.2.1)) (by simp)
       have c2 := hS.cells (⟨w.heap.size, 2, none⟩, .int .i64 (F.2.2)) (by simp)
      case' r24x8 =>
       have D7 : aq.eval (.tmp 12) = _ := hdep 7
      case' r24x9 =>
       have F3 : aq.eval (.tmp 3) = .pointer (some ⟨w.heap.size + 1, 0, none⟩) := hf 3
       have c0 := hS.cells (⟨w.heap.size + 1, 0, none⟩, .int .i64 (G.1)) (by simp)
       have c1 := hS.cells (⟨w.heap.size + 1, 1, none⟩, .int .i64 (G.2.1)) (by simp)
       have c2 := hS.cells (⟨w.heap.size + 1, 2, none⟩, .int .i64 (G.2.2)) (by simp)
      case' r24x10 =>
       have D9 : aq.eval (.tmp 14) = _ := hdep 9
      case' r24x11 =>
       have D8 : aq.eval (.tmp 13) = _ := hdep 8
       have D10 : aq.eval (.tmp 15) = _ := hdep 10
      case' r24x12 =>
       have D6 : aq.eval (.tmp 11) = _ := hdep 6
       have D11 : aq.eval (.tmp 16) = _ := hdep 11
      case' r24x13 =>
       have D12 : aq.eval (.tmp 17) = _ := hdep 12
      all_goals (clear hf hdep; unfold Oper.wp; generalize Act.eval _ = ev at *; go_simp)
      case r24x1 =>
       refine ((isClassForm_a F.1 F.2.1 F.2.2 _ i1.1 i1.2.1 i1.2.2)).mono ?_
       rintro e w2 ⟨rfl, hb⟩
       refine hK _ _ (hS.call hb) ?_ (fun j u _ h => Kd.ok_below hb h)
       rw [if_pos (by rfl)]
       show (_ : Value) = _
       first | rfl | (refine congrArg (Value.int .i64) ?_; first | rfl | exact int_in (by omega) | exact quo_in (by omega) (by omega) (by omega) | exact rem_in (by omega) (by omega) | omega | (simp [*]; done) | exact congrArg Value.bool (by assumption) | (simp only [Value.bool.injEq, decide_eq_true_eq, decide_eq_false_iff_not]; assumption)) | (simp; done) | (simp [*]; done)
      case r24x4 =>
       refine ((isClassForm_a G.1 G.2.1 G.2.2 _ i2.1 i2.2.1 i2.2.2)).mono ?_
       rintro e w2 ⟨rfl, hb⟩
       refine hK _ _ (hS.call hb) ?_ (fun j u _ h => Kd.ok_below hb h)
       rw [if_pos (by rfl)]
       show (_ : Value) = _
       first | rfl | (refine congrArg (Value.int .i64) ?_; first | rfl | exact int_in (by omega) | exact quo_in (by omega) (by omega) (by omega) | exact rem_in (by omega) (by omega) | omega | (simp [*]; done) | exact congrArg Value.bool (by assumption) | (simp only [Value.bool.injEq, decide_eq_true_eq, decide_eq_false_iff_not]; assumption)) | (simp; done) | (simp [*]; done)
      case r24x8 =>
       refine ((disc_a F.1 F.2.1 F.2.2 _ (class_form hc1))).mono ?_
       rintro e w2 ⟨rfl, hb⟩
       refine hK _ _ (hS.call hb) ?_ (fun j u _ h => Kd.ok_below hb h)
       rw [if_pos (by rfl)]
       show (_ : Value) = _
       first | rfl | (refine congrArg (Value.int .i64) ?_; first | rfl | exact int_in (by omega) | exact quo_in (by omega) (by omega) (by omega) | exact rem_in (by omega) (by omega) | omega | (simp [*]; done) | exact congrArg Value.bool (by assumption) | (simp only [Value.bool.injEq, decide_eq_true_eq, decide_eq_false_iff_not]; assumption)) | (simp; done) | (simp [*]; done)
      case r24x10 =>
       refine ((disc_a G.1 G.2.1 G.2.2 _ (class_form hc2))).mono ?_
       rintro e w2 ⟨rfl, hb⟩
       refine hK _ _ (hS.call hb) ?_ (fun j u _ h => Kd.ok_below hb h)
       rw [if_pos (by rfl)]
       show (_ : Value) = _
       first | rfl | (refine congrArg (Value.int .i64) ?_; first | rfl | exact int_in (by omega) | exact quo_in (by omega) (by omega) (by omega) | exact rem_in (by omega) (by omega) | omega | (simp [*]; done) | exact congrArg Value.bool (by assumption) | (simp only [Value.bool.injEq, decide_eq_true_eq, decide_eq_false_iff_not]; assumption)) | (simp; done) | (simp [*]; done)
      all_goals (refine hK _ _ hS ?_ (fun j u _ h => h); rw [if_pos (by rfl)]; show (_ : Value) = _; (first | rfl | (refine congrArg (Value.int .i64) ?_; first | rfl | exact int_in (by omega) | exact quo_in (by omega) (by omega) (by omega) | exact rem_in (by omega) (by omega) | omega | (simp [*]; done) | exact congrArg Value.bool (by assumption) | (simp only [Value.bool.injEq, decide_eq_true_eq, decide_eq_false_iff_not]; assumption)) | (simp; done) | (simp [*]; done)))
     ·intro aq wx hd hw hf hS hg
      have G4 : tau aq 4 = .bool true := hg 13 (by decide)
      have haq : aq = ⟨#[tau aq 0, tau aq 1, tau aq 2, tau aq 3, tau aq 4, tau aq 5, tau aq 6, tau aq 7, tau aq 8, tau aq 9, tau aq 10, tau aq 11, tau aq 12, tau aq 13, tau aq 14, tau aq 15, tau aq 16, tau aq 17], []⟩ := by
       obtain ⟨tq, dq⟩ := aq
       have h5 := arr_eq (show tq.size = 18 from hw)
       have h6 : dq = [] := hd
       subst h6
       exact congrArg (fun z => Act.mk z []) h5
      show K2 aq wx
      rw [haq, hf 0, hf 1, hf 2, hf 3, G4]
      clear haq hf hd hw
      try dsimp only
      refine h3 _ _ ?_
      go_meet
      refine ⟨rfl, Ri3.m ?_ ?_ ?_, Ri3.m ?_ ?_ ?_, hS.below⟩
      all_goals first | exact hS.cells (_, _) (by simp) | exact (hS.free _ (by simp)).2
    obtain ⟨rfl, ⟨c00, c01, c02, z0⟩, ⟨c10, c11, c12, z1⟩, hb0⟩ := hcut
    go_wp2
    refine bodyPost_ret (v := .bool true) (by simp [results, Tryz.results27, go_sem, *]) rfl ?_
    exact ⟨by rw [unhide HV], hb0⟩

set_option maxRecDepth 100000 in
set_option maxHeartbeats 8000000 in
theorem coTwo_p (F G : T3) (w : World)  : Calls Tryz.prog 78 #[frm F, frm G] w fun e w' => e = .returned (.bool (prB F G)) ∧ Below w.heap.size w w' := by
 have hc1 : clB F = classB F.1 F.2.1 F.2.2 := rfl
 have hc2 : clB G = classB G.1 G.2.1 G.2.2 := rfl
 have hd1 : dT F = discI F.1 F.2.1 F.2.2 := rfl
 have hd2 : dT G = discI G.1 G.2.1 G.2.2 := rfl
 cases k0 : clB F
 ·rw [k0] at hc1
  replace hc1 := hc1.symm
  clear hc2 hd1 hd2
  have HV := hide (show prB F G = false by simp [prB, k0])
  try clear k2
  try clear k1
  clear k0
  go_enter Tryz.func78, Tryz.ntmps78
  go_upto_region 1 with fail
  go_cut [4] (fun s4 wx => s4 = .bool false ∧ Ri3 wx w.heap.size F.1 F.2.1 F.2.2 ∧ Ri3 wx (w.heap.size + 1) G.1 G.2.1 G.2.2 ∧ Below w.heap.size w wx)
  case first =>
   have h1 := trivial
   rename_i K2 h2 h3
   refine region_n (by kernel_rfl) (fun j => #[5,6,7,8,9,10,11,12,13,14,15,16,17,4].getD j 0) (fun j => Kd.ok ((fun j => match j with | 0 => Kd.val (.agg #[.int .i64 (F.1), .int .i64 (F.2.1), .int .i64 (F.2.2)]) | 1 => Kd.val (.bool false) | 2 => Kd.val (.bool false) | 3 => Kd.val undef | 4 => Kd.val undef | 5 => Kd.val (.bool false) | 6 => Kd.val (.bool false) | 7 => Kd.val undef | 8 => Kd.val undef | 9 => Kd.val undef | 10 => Kd.val undef | 11 => Kd.val undef | 12 => Kd.val (.bool false) | 13 => Kd.val (.bool false) | _ => Kd.any : Nat → Kd) j)) (Sy w (w.heap.size + 1 + 1) [(⟨w.heap.size, 0, none⟩, .int .i64 (F.1)), (⟨w.heap.size, 1, none⟩, .int .i64 (F.2.1)), (⟨w.heap.size, 2, none⟩, .int .i64 (F.2.2)), (⟨w.heap.size + 1, 0, none⟩, .int .i64 (G.1)), (⟨w.heap.size + 1, 1, none⟩, .int .i64 (G.2.1)), (⟨w.heap.size + 1, 2, none⟩, .int .i64 (G.2.2))] []) (fun j => #[true, true, true, false, false, true, true, false, false, false, false, false, true, true].getD j true) (by kernel_rfl) ?_ ?_ ?_ ?_ ?_ ?_
   ·intro j hj
    have hj2 : j < 14 := hj
    have : ∀ j, j < 14 → (#[5,6,7,8,9,10,11,12,13,14,15,16,17,4] : Array Nat).getD j 0 < 18 := by decide
    exact this j hj2
   ·intro i o ho
    match i, ho with
    | 0, ho => cases ho; intro aq wq hd; exact wanted_free rfl
    | 1, ho => cases ho; intro aq wq hd; exact wanted_free rfl
    | 2, ho => cases ho; intro aq wq hd; exact wanted_free rfl
    | 3, ho => cases ho; intro aq wq hd; exact wanted_of (j := 2) (t := 7) (want := true) (b := false) rfl rfl (hd 2 (by decide +kernel))
    | 4, ho => cases ho; intro aq wq hd; exact wanted_of (j := 2) (t := 7) (want := true) (b := false) rfl rfl (hd 2 (by decide +kernel))
    | 5, ho => cases ho; intro aq wq hd; exact wanted_free rfl
    | 6, ho => cases ho; intro aq wq hd; exact wanted_free rfl
    | 7, ho => cases ho; intro aq wq hd; exact wanted_of (j := 6) (t := 11) (want := true) (b := false) rfl rfl (hd 6 (by decide +kernel))
    | 8, ho => cases ho; intro aq wq hd; exact wanted_of (j := 6) (t := 11) (want := true) (b := false) rfl rfl (hd 6 (by decide +kernel))
    | 9, ho => cases ho; intro aq wq hd; exact wanted_of (j := 6) (t := 11) (want := true) (b := false) rfl rfl (hd 6 (by decide +kernel))
    | 10, ho => cases ho; intro aq wq hd; exact wanted_of (j := 6) (t := 11) (want := true) (b := false) rfl rfl (hd 6 (by decide +kernel))
    | 11, ho => cases ho; intro aq wq hd; exact wanted_of (j := 6) (t := 11) (want := true) (b := false) rfl rfl (hd 6 (by decide +kernel))
    | 12, ho => cases ho; intro aq wq hd; exact wanted_free rfl
    | 13, ho => cases ho; intro aq wq hd; exact wanted_free rfl
    | i + 14, ho => exact absurd ho (by simp)
   ·intro i o ho hr
    match i, ho with
    | 0, ho => exact absurd hr (by decide)
    | 1, ho => exact absurd hr (by decide)
    | 2, ho => exact absurd hr (by decide)
    | 3, ho => cases ho; exact ⟨rfl, fun _ _ => rfl⟩
    | 4, ho => cases ho; exact ⟨rfl, fun _ _ => rfl⟩
    | 5, ho => exact absurd hr (by decide)
    | 6, ho => exact absurd hr (by decide)
    | 7, ho => cases ho; exact ⟨rfl, fun _ _ => rfl⟩
    | 8, ho => cases ho; exact ⟨rfl, fun _ _ => rfl⟩
    | 9, ho => cases ho; exact ⟨rfl, fun _ _ => rfl⟩
    | 10, ho => cases ho; exact ⟨rfl, fun _ _ => rfl⟩
    | 11, ho => cases ho; exact ⟨rfl, fun _ _ => rfl⟩
    | 12, ho => exact absurd hr (by decide)
    | 13, ho => exact absurd hr (by decide)
    | i + 14, ho => exact absurd ho (by simp)
   ·refine Sy.drew (Sy.mk_of ?_ ?_ ?_ ?_)
    ·first | rfl | (simp; done) | (simp; omega)
    ·intro c hc
     simp only [List.mem_cons, List.not_mem_nil, or_false] at hc
     rcases hc with rfl | rfl | rfl | rfl | rfl | rfl <;> exact byCT
    ·intro p hp; cases hp
    ·(repeat' first | with_reducible (first | exact Below.refl _ _ | assumption | refine gr_alloc ?_ _ | refine below_drewN ?_ _ | refine below_drew ?_ | refine gr_call ?_ (by assumption) | refine Below.setCell ?_ ?_ _) | go_size | omega | (simp; omega))
   ·clear h2 h3
    refine ⟨?r25x0, ?r25x1, ?r25x2, ?r25x3, ?r25x4, ?r25x5, ?r25x6, ?r25x7, ?r25x8, ?r25x9, ?r25x10, ?r25x11, ?r25x12, ?r25x13, trivial⟩
    case r25x3 => intro hr; exact absurd hr (by decide)
    case r25x4 => intro hr; exact absurd hr (by decide)
    case r25x7 => intro hr; exact absurd hr (by decide)
    case r25x8 => intro hr; exact absurd hr (by decide)
    case r25x9 => intro hr; exact absurd hr (by decide)
    case r25x10 => intro hr; exact absurd hr (by decide)
    case r25x11 => intro hr; exact absurd hr (by decide)
    all_goals intro _ aq wx Kq hf hS hdep ev1 ev2 hK
    case' r25x0 =>
     have F2 : aq.eval (.tmp 2) = .pointer (some ⟨w.heap.size, 0, none⟩) := hf 2
     have c0 := hS.cells (⟨w.heap.size, 0, none⟩, .int .i64 (F.1)) (by simp)
     have c1 := hS.cells (⟨w.heap.size, 1, none⟩, .int .i64 (F.2.1)) (by simp)
     have c2 := hS.cells (⟨w.heap.size, 2, none⟩, .int .i64 (F.2.2)) (by simp)
    case' r25x1 =>
     have D0 : aq.eval (.tmp 5) = _ := hdep 0
    case' r25x2 =>
     have D1 : aq.eval (.tmp 6) = _ := hdep 1
    case' r25x5 =>
     have D2 : aq.eval (.tmp 7) = _ := hdep 2
     have D4 : aq.eval (.tmp 9) = _ := hdep 4
    case' r25x6 =>
     have D5 : aq.eval (.tmp 10) = _ := hdep 5
    case' r25x12 =>
     have D6 : aq.eval (.tmp 11) = _ := hdep 6
     have D11 : aq.eval (.tmp 16) = _ := hdep 11
    case' r25x13 =>
     have D12 : aq.eval (.tmp 17) = _ := hdep 12
    all_goals (clear hf hdep; unfold Oper.wp; generalize Act.eval _ = ev at *; go_simp)
    case r25x1 =>
     refine ((coGood_a F.1 F.2.1 F.2.2 _)).mono ?_
     rintro e w2 ⟨rfl, hb⟩
     refine hK _ _ (hS.call hb) ?_ (fun j u _ h => Kd.ok_below hb h)
     rw [if_pos (by rfl)]
     show (_ : Value) = _
     first | rfl | (refine congrArg (Value.int .i64) ?_; first | rfl | exact int_in (by omega) | exact quo_in (by omega) (by omega) (by omega) | exact rem_in (by omega) (by omega) | omega | (simp [*]; done) | exact congrArg Value.bool (by assumption) | (simp only [Value.bool.injEq, decide_eq_true_eq, decide_eq_false_iff_not]; assumption)) | (simp; done) | (simp [*]; done)
    all_goals (refine hK _ _ hS ?_ (fun j u _ h => h); rw [if_pos (by rfl)]; show (_ : Value) = _; (first | rfl | (refine congrArg (Value.int .i64) ?_; first | rfl | exact int_in (by omega) | exact quo_in (by omega) (by omega) (by omega) | exact rem_in (by omega) (by omega) | omega | (simp [*]; done) | exact congrArg Value.bool (by assumption) | (simp only [Value.bool.injEq, decide_eq_true_eq, decide_eq_false_iff_not]; assumption)) | (simp; done) | (simp [*]; done)))
   ·intro aq wx hd hw hf hS hg
    have G4 : tau aq 4 = .bool false := hg 13 (by decide)
    have haq : aq = ⟨#[tau aq 0, tau aq 1, tau aq 2, tau aq 3, tau aq 4, tau aq 5, tau aq 6, tau aq 7, tau aq 8, tau aq 9, tau aq 10, tau aq 11, tau aq 12, tau aq 13, tau aq 14, tau aq 15, tau aq 16, tau aq 17], []⟩ := by
     obtain ⟨tq, dq⟩ := aq
     have h5 := arr_eq (show tq.size = 18 from hw)
     have h6 : dq = [] := hd
     subst h6
     exact congrArg (fun z => Act.mk z []) h5
    show K2 aq wx
    rw [haq, hf 0, hf 1, hf 2, hf 3, G4]
    clear haq hf hd hw
    try dsimp only
    refine h3 _ _ ?_
    go_meet
    refine ⟨rfl, Ri3.m ?_ ?_ ?_, Ri3.m ?_ ?_ ?_, hS.below⟩
    all_goals first | exact hS.cells (_, _) (by simp) | exact (hS.free _ (by simp)).2
  obtain ⟨rfl, ⟨c00, c01, c02, z0⟩, ⟨c10, c11, c12, z1⟩, hb0⟩ := hcut
  go_wp2
  refine bodyPost_ret (v := .bool false) (by simp [results, Tryz.results78, go_sem, *]) rfl ?_
  exact ⟨by rw [unhide HV], hb0⟩
 ·cases k1 : clB G
  ·rw [k0] at hc1
   rw [k1] at hc2
   replace hc1 := hc1.symm
   replace hc2 := hc2.symm
   clear hd1 hd2
   have HV := hide (show prB F G = false by simp [prB, k0, k1])
   try clear k2
   try clear k1
   clear k0
   go_enter Tryz.func78, Tryz.ntmps78
   go_upto_region 1 with fail
   go_cut [4] (fun s4 wx => s4 = .bool false ∧ Ri3 wx w.heap.size F.1 F.2.1 F.2.2 ∧ Ri3 wx (w.heap.size + 1) G.1 G.2.1 G.2.2 ∧ Below w.heap.size w wx)
   case first =>
    have h1 := trivial
    rename_i K2 h2 h3
    refine region_n (by kernel_rfl) (fun j => #[5,6,7,8,9,10,11,12,13,14,15,16,17,4].getD j 0) (fun j => Kd.ok ((fun j => match j with | 0 => Kd.val (.agg #[.int .i64 (F.1), .int .i64 (F.2.1), .int .i64 (F.2.2)]) | 1 => Kd.val (.bool true) | 2 => Kd.val (.bool true) | 3 => Kd.val (.agg #[.int .i64 (G.1), .int .i64 (G.2.1), .int .i64 (G.2.2)]) | 4 => Kd.val (.bool false) | 5 => Kd.val (.bool false) | 6 => Kd.val (.bool false) | 7 => Kd.val undef | 8 => Kd.val undef | 9 => Kd.val undef | 10 => Kd.val undef | 11 => Kd.val undef | 12 => Kd.val (.bool false) | 13 => Kd.val (.bool false) | _ => Kd.any : Nat → Kd) j)) (Sy w (w.heap.size + 1 + 1) [(⟨w.heap.size, 0, none⟩, .int .i64 (F.1)), (⟨w.heap.size, 1, none⟩, .int .i64 (F.2.1)), (⟨w.heap.size, 2, none⟩, .int .i64 (F.2.2)), (⟨w.heap.size + 1, 0, none⟩, .int .i64 (G.1)), (⟨w.heap.size + 1, 1, none⟩, .int .i64 (G.2.1)), (⟨w.heap.size + 1, 2, none⟩, .int .i64 (G.2.2))] []) (fun j => #[true, true, true, true, true, true, true, false, false, false, false, false, true, true].getD j true) (by kernel_rfl) ?_ ?_ ?_ ?_ ?_ ?_
    ·intro j hj
     have hj2 : j < 14 := hj
     have : ∀ j, j < 14 → (#[5,6,7,8,9,10,11,12,13,14,15,16,17,4] : Array Nat).getD j 0 < 18 := by decide
     exact this j hj2
    ·intro i o ho
     match i, ho with
     | 0, ho => cases ho; intro aq wq hd; exact wanted_free rfl
     | 1, ho => cases ho; intro aq wq hd; exact wanted_free rfl
     | 2, ho => cases ho; intro aq wq hd; exact wanted_free rfl
     | 3, ho => cases ho; intro aq wq hd; exact wanted_of (j := 2) (t := 7) (want := true) (b := true) rfl rfl (hd 2 (by decide +kernel))
     | 4, ho => cases ho; intro aq wq hd; exact wanted_of (j := 2) (t := 7) (want := true) (b := true) rfl rfl (hd 2 (by decide +kernel))
     | 5, ho => cases ho; intro aq wq hd; exact wanted_free rfl
     | 6, ho => cases ho; intro aq wq hd; exact wanted_free rfl
     | 7, ho => cases ho; intro aq wq hd; exact wanted_of (j := 6) (t := 11) (want := true) (b := false) rfl rfl (hd 6 (by decide +kernel))
     | 8, ho => cases ho; intro aq wq hd; exact wanted_of (j := 6) (t := 11) (want := true) (b := false) rfl rfl (hd 6 (by decide +kernel))
     | 9, ho => cases ho; intro aq wq hd; exact wanted_of (j := 6) (t := 11) (want := true) (b := false) rfl rfl (hd 6 (by decide +kernel))
     | 10, ho => cases ho; intro aq wq hd; exact wanted_of (j := 6) (t := 11) (want := true) (b := false) rfl rfl (hd 6 (by decide +kernel))
     | 11, ho => cases ho; intro aq wq hd; exact wanted_of (j := 6) (t := 11) (want := true) (b := false) rfl rfl (hd 6 (by decide +kernel))
     | 12, ho => cases ho; intro aq wq hd; exact wanted_free rfl
     | 13, ho => cases ho; intro aq wq hd; exact wanted_free rfl
     | i + 14, ho => exact absurd ho (by simp)
    ·intro i o ho hr
     match i, ho with
     | 0, ho => exact absurd hr (by decide)
     | 1, ho => exact absurd hr (by decide)
     | 2, ho => exact absurd hr (by decide)
     | 3, ho => exact absurd hr (by decide)
     | 4, ho => exact absurd hr (by decide)
     | 5, ho => exact absurd hr (by decide)
     | 6, ho => exact absurd hr (by decide)
     | 7, ho => cases ho; exact ⟨rfl, fun _ _ => rfl⟩
     | 8, ho => cases ho; exact ⟨rfl, fun _ _ => rfl⟩
     | 9, ho => cases ho; exact ⟨rfl, fun _ _ => rfl⟩
     | 10, ho => cases ho; exact ⟨rfl, fun _ _ => rfl⟩
     | 11, ho => cases ho; exact ⟨rfl, fun _ _ => rfl⟩
     | 12, ho => exact absurd hr (by decide)
     | 13, ho => exact absurd hr (by decide)
     | i + 14, ho => exact absurd ho (by simp)
    ·refine Sy.drew (Sy.mk_of ?_ ?_ ?_ ?_)
     ·first | rfl | (simp; done) | (simp; omega)
     ·intro c hc
      simp only [List.mem_cons, List.not_mem_nil, or_false] at hc
      rcases hc with rfl | rfl | rfl | rfl | rfl | rfl <;> exact byCT
     ·intro p hp; cases hp
     ·(repeat' first | with_reducible (first | exact Below.refl _ _ | assumption | refine gr_alloc ?_ _ | refine below_drewN ?_ _ | refine below_drew ?_ | refine gr_call ?_ (by assumption) | refine Below.setCell ?_ ?_ _) | go_size | omega | (simp; omega))
    ·clear h2 h3
     refine ⟨?r26x0, ?r26x1, ?r26x2, ?r26x3, ?r26x4, ?r26x5, ?r26x6, ?r26x7, ?r26x8, ?r26x9, ?r26x10, ?r26x11, ?r26x12, ?r26x13, trivial⟩
     case r26x7 => intro hr; exact absurd hr (by decide)
     case r26x8 => intro hr; exact absurd hr (by decide)
     case r26x9 => intro hr; exact absurd hr (by decide)
     case r26x10 => intro hr; exact absurd hr (by decide)
     case r26x11 => intro hr; exact absurd hr (by decide)
     all_goals intro _ aq wx Kq hf hS hdep ev1 ev2 hK
     case' r26x0 =>
      have F2 : aq.eval (.tmp 2) = .pointer (some ⟨w.heap.size, 0, none⟩) := hf 2
      have c0 := hS.cells (⟨w.heap.size, 0, none⟩, .int .i64 (F.1)) (by simp)
      have c1 := hS.cells (⟨w.heap.size, 1, none⟩, .int .i64 (F.2.1)) (by simp)
      have c2 := hS.cells (⟨w.heap.size, 2, none⟩, .int .i64 (F.2.2)) (by simp)
     case' r26x1 =>
      have D0 : aq.eval (.tmp 5) = _ := hdep 0
     case' r26x2 =>
      have D1 : aq.eval (.tmp 6) = _ := hdep 1
     case' r26x3 =>
      have F3 : aq.eval (.tmp 3) = .pointer (some ⟨w.heap.size + 1, 0, none⟩) := hf 3
      have c0 := hS.cells (⟨w.heap.size + 1, 0, none⟩, .int .i64 (G.1)) (by simp)
      have c1 := hS.cells (⟨w.heap.size + 1, 1, none⟩, .int .i64 (G.2.1)) (by simp)
      have c2 := hS.cells (⟨w.heap.size + 1, 2, none⟩, .int .i64 (G.2.2)) (by simp)
     case' r26x4 =>
      have D3 : aq.eval (.tmp 8) = _ := hdep 3
     case' r26x5 =>
      have D2 : aq.eval (.tmp 7) = _ := hdep 2
      have D4 : aq.eval (.tmp 9) = _ := hdep 4
     case' r26x6 =>
      have D5 : aq.eval (.tmp 10) = _ := hdep 5
     case' r26x12 =>
      have D6 : aq.eval (.tmp 11) = _ := hdep 6
      have D11 : aq.eval (.tmp 16) = _ := hdep 11
     case' r26x13 =>
      have D12 : aq.eval (.tmp 17) = _ := hdep 12
     all_goals (clear hf hdep; unfold Oper.wp; generalize Act.eval _ = ev at *; go_simp)
     case r26x1 =>
      refine ((coGood_a F.1 F.2.1 F.2.2 _)).mono ?_
      rintro e w2 ⟨rfl, hb⟩
      refine hK _ _ (hS.call hb) ?_ (fun j u _ h => Kd.ok_below hb h)
      rw [if_pos (by rfl)]
      show (_ : Value) = _
      first | rfl | (refine congrArg (Value.int .i64) ?_; first | rfl | exact int_in (by omega) | exact quo_in (by omega) (by omega) (by omega) | exact rem_in (by omega) (by omega) | omega | (simp [*]; done) | exact congrArg Value.bool (by assumption) | (simp only [Value.bool.injEq, decide_eq_true_eq, decide_eq_false_iff_not]; assumption)) | (simp; done) | (simp [*]; done)
     case r26x4 =>
      refine ((coGood_a G.1 G.2.1 G.2.2 _)).mono ?_
      rintro e w2 ⟨rfl, hb⟩
      refine hK _ _ (hS.call hb) ?_ (fun j u _ h => Kd.ok_below hb h)
      rw [if_pos (by rfl)]
      show (_ : Value) = _
      first | rfl | (refine congrArg (Value.int .i64) ?_; first | rfl | exact int_in (by omega) | exact quo_in (by omega) (by omega) (by omega) | exact rem_in (by omega) (by omega) | omega | (simp [*]; done) | exact congrArg Value.bool (by assumption) | (simp only [Value.bool.injEq, decide_eq_true_eq, decide_eq_false_iff_not]; assumption)) | (simp; done) | (simp [*]; done)
     all_goals (refine hK _ _ hS ?_ (fun j u _ h => h); rw [if_pos (by rfl)]; show (_ : Value) = _; (first | rfl | (refine congrArg (Value.int .i64) ?_; first | rfl | exact int_in (by omega) | exact quo_in (by omega) (by omega) (by omega) | exact rem_in (by omega) (by omega) | omega | (simp [*]; done) | exact congrArg Value.bool (by assumption) | (simp only [Value.bool.injEq, decide_eq_true_eq, decide_eq_false_iff_not]; assumption)) | (simp; done) | (simp [*]; done)))
    ·intro aq wx hd hw hf hS hg
     have G4 : tau aq 4 = .bool false := hg 13 (by decide)
     have haq : aq = ⟨#[tau aq 0, tau aq 1, tau aq 2, tau aq 3, tau aq 4, tau aq 5, tau aq 6, tau aq 7, tau aq 8, tau aq 9, tau aq 10, tau aq 11, tau aq 12, tau aq 13, tau aq 14, tau aq 15, tau aq 16, tau aq 17], []⟩ := by
      obtain ⟨tq, dq⟩ := aq
      have h5 := arr_eq (show tq.size = 18 from hw)
      have h6 : dq = [] := hd
      subst h6
      exact congrArg (fun z => Act.mk z []) h5
     show K2 aq wx
     rw [haq, hf 0, hf 1, hf 2, hf 3, G4]
     clear haq hf hd hw
     try dsimp only
     refine h3 _ _ ?_
     go_meet
     refine ⟨rfl, Ri3.m ?_ ?_ ?_, Ri3.m ?_ ?_ ?_, hS.below⟩
     all_goals first | exact hS.cells (_, _) (by simp) | exact (hS.free _ (by simp)).2
   obtain ⟨rfl, ⟨c00, c01, c02, z0⟩, ⟨c10, c11, c12, z1⟩, hb0⟩ := hcut
   go_wp2
   refine bodyPost_ret (v := .bool false) (by simp [results, Tryz.results78, go_sem, *]) rfl ?_
   exact ⟨by rw [unhide HV], hb0⟩
  ·rw [k0] at hc1
   rw [k1] at hc2
   replace hc1 := hc1.symm
   replace hc2 := hc2.symm
   cases k2 : decide (dT F = dT G)
   ·have k3 := of_decide_eq_false k2
    rw [hd1, hd2] at k3
    clear hd1 hd2
    have HV := hide (show prB F G = false by simp [prB, k0, k1, of_decide_eq_false k2])
    try clear k2
    try clear k1
    clear k0
    go_enter Tryz.func78, Tryz.ntmps78
    go_upto_region 1 with fail
    go_cut [4] (fun s4 wx => s4 = .bool false ∧ Ri3 wx w.heap.size F.1 F.2.1 F.2.2 ∧ Ri3 wx (w.heap.size + 1) G.1 G.2.1 G.2.2 ∧ Below w.heap.size w wx)
    case first =>
     have h1 := trivial
     rename_i K2 h2 h3
     refine region_n (by kernel_rfl) (fun j => #[5,6,7,8,9,10,11,12,13,14,15,16,17,4].getD j 0) (fun j => Kd.ok ((fun j => match j with | 0 => Kd.val (.agg #[.int .i64 (F.1), .int .i64 (F.2.1), .int .i64 (F.2.2)]) | 1 => Kd.val (.bool true) | 2 => Kd.val (.bool true) | 3 => Kd.val (.agg #[.int .i64 (G.1), .int .i64 (G.2.1), .int .i64 (G.2.2)]) | 4 => Kd.val (.bool true) | 5 => Kd.val (.bool true) | 6 => Kd.val (.bool true) | 7 => Kd.val (.agg #[.int .i64 (F.1), .int .i64 (F.2.1), .int .i64 (F.2.2)]) | 8 => Kd.val (.int .i64 (discI F.1 F.2.1 F.2.2)) | 9 => Kd.val (.agg #[.int .i64 (G.1), .int .i64 (G.2.1), .int .i64 (G.2.2)]) | 10 => Kd.val (.int .i64 (discI G.1 G.2.1 G.2.2)) | 11 => Kd.val (.bool false) | 12 => Kd.val (.bool false) | 13 => Kd.val (.bool false) | _ => Kd.any : Nat → Kd) j)) (Sy w (w.heap.size + 1 + 1) [(⟨w.heap.size, 0, none⟩, .int .i64 (F.1)), (⟨w.heap.size, 1, none⟩, .int .i64 (F.2.1)), (⟨w.heap.size, 2, none⟩, .int .i64 (F.2.2)), (⟨w.heap.size + 1, 0, none⟩, .int .i64 (G.1)), (⟨w.heap.size + 1, 1, none⟩, .int .i64 (G.2.1)), (⟨w.heap.size + 1, 2, none⟩, .int .i64 (G.2.2))] []) (fun j => #[true, true, true, true, true, true, true, true, true, true, true, true, true, true].getD j true) (by kernel_rfl) ?_ ?_ ?_ ?_ ?_ ?_
     ·intro j hj
      have hj2 : j < 14 := hj
      have : ∀ j, j < 14 → (#[5,6,7,8,9,10,11,12,13,14,15,16,17,4] : Array Nat).getD j 0 < 18 := by decide
      exact this j hj2
     ·intro i o ho
      match i, ho with
      | 0, ho => cases ho; intro aq wq hd; exact wanted_free rfl
      | 1, ho => cases ho; intro aq wq hd; exact wanted_free rfl
      | 2, ho => cases ho; intro aq wq hd; exact wanted_free rfl
      | 3, ho => cases ho; intro aq wq hd; exact wanted_of (j := 2) (t := 7) (want := true) (b := true) rfl rfl (hd 2 (by decide +kernel))
      | 4, ho => cases ho; intro aq wq hd; exact wanted_of (j := 2) (t := 7) (want := true) (b := true) rfl rfl (hd 2 (by decide +kernel))
      | 5, ho => cases ho; intro aq wq hd; exact wanted_free rfl
      | 6, ho => cases ho; intro aq wq hd; exact wanted_free rfl
      | 7, ho => cases ho; intro aq wq hd; exact wanted_of (j := 6) (t := 11) (want := true) (b := true) rfl rfl (hd 6 (by decide +kernel))
      | 8, ho => cases ho; intro aq wq hd; exact wanted_of (j := 6) (t := 11) (want := true) (b := true) rfl rfl (hd 6 (by decide +kernel))
      | 9, ho => cases ho; intro aq wq hd; exact wanted_of (j := 6) (t := 11) (want := true) (b := true) rfl rfl (hd 6 (by decide +kernel))
      | 10, ho => cases ho; intro aq wq hd; exact wanted_of (j := 6) (t := 11) (want := true) (b := true) rfl rfl (hd 6 (by decide +kernel))
      | 11, ho => cases ho; intro aq wq hd; exact wanted_of (j := 6) (t := 11) (want := true) (b := true) rfl rfl (hd 6 (by decide +kernel))
      | 12, ho => cases ho; intro aq wq hd; exact wanted_free rfl
      | 13, ho => cases ho; intro aq wq hd; exact wanted_free rfl
      | i + 14, ho => exact absurd ho (by simp)
     ·intro i o ho hr
      match i, ho with
      | 0, ho => exact absurd hr (by decide)
      | 1, ho => exact absurd hr (by decide)
      | 2, ho => exact absurd hr (by decide)
      | 3, ho => exact absurd hr (by decide)
      | 4, ho => exact absurd hr (by decide)
      | 5, ho => exact absurd hr (by decide)
      | 6, ho => exact absurd hr (by decide)
      | 7, ho => exact absurd hr (by decide)
      | 8, ho => exact absurd hr (by decide)
      | 9, ho => exact absurd hr (by decide)
      | 10, ho => exact absurd hr (by decide)
      | 11, ho => exact absurd hr (by decide)
      | 12, ho => exact absurd hr (by decide)
      | 13, ho => exact absurd hr (by decide)
      | i + 14, ho => exact absurd ho (by simp)
     ·refine Sy.drew (Sy.mk_of ?_ ?_ ?_ ?_)
      ·first | rfl | (simp; done) | (simp; omega)
      ·intro c hc
       simp only [List.mem_cons, List.not_mem_nil, or_false] at hc
       rcases hc with rfl | rfl | rfl | rfl | rfl | rfl <;> exact byCT
      ·intro p hp; cases hp
      ·(repeat' first | with_reducible (first | exact Below.refl _ _ | assumption | refine gr_alloc ?_ _ | refine below_drewN ?_ _ | refine below_drew ?_ | refine gr_call ?_ (by assumption) | refine Below.setCell ?_ ?_ _) | go_size | omega | (simp; omega))
     ·clear h2 h3
      refine ⟨?r27x0, ?r27x1, ?r27x2, ?r27x3, ?r27x4, ?r27x5, ?r27x6, ?r27x7, ?r27x8, ?r27x9, ?r27x10, ?r27x11, ?r27x12, ?r27x13, trivial⟩
      all_goals intro _ aq wx Kq hf hS hdep ev1 ev2 hK
      case' r27x0 =>
       have F2 : aq.eval (.tmp 2) = .pointer (some ⟨w.heap.size, 0, none⟩) := hf 2
       have c0 := hS.cells (⟨w.heap.size, 0, none⟩, .int .i64 (F.1)) (by simp)
       have c1 := hS.cells (⟨w.heap.size, 1, none⟩, .int .i64 (F.2.1)) (by simp)
       have c2 := hS.cells (⟨w.heap.size, 2, none⟩, .int .i64 (F.2.2)) (by simp)
      case' r27x1 =>
       have D0 : aq.eval (.tmp 5) = _ := hdep 0
      case' r27x2 =>
       have D1 : aq.eval (.tmp 6) = _ := hdep 1
      case' r27x3 =>
       have F3 : aq.eval (.tmp 3) = .pointer (some ⟨w.heap.size + 1, 0, none⟩) := hf 3
       have c0 := hS.cells (⟨w.heap.size + 1, 0, none⟩, .int .i64 (G.1)) (by simp)
       have c1 := hS.cells (⟨w.heap.size + 1, 1, none⟩, .int .i64 (G.2.1)) (by simp)
       have c2 := hS.cells (⟨w.heap.size + 1, 2, none⟩, .int .i64 (G.2.2)) (by simp)
      case' r27x4 =>
       have D3 : aq.eval (.tmp 8) = _ := hdep 3
      case' r27x5 =>
       have D2 : aq.eval (.tmp 7) = _ := hdep 2
       have D4 : aq.eval (.tmp 9) = _ := hdep 4
      case' r27x6 =>
       have D5 : aq.eval (.tmp 10) = _ := hdep 5
      case' r27x7 =>
       have F2 : aq.eval (.tmp 2) = .pointer (some ⟨w.heap.size, 0, none⟩) := hf 2
       have c0 := hS.cells (⟨w.heap.size, 0, none⟩, .int .i64 (F.1)) (by simp)
       have c1 := hS.cells (⟨w.heap.size, 1, none⟩, .int .i64 (F.2.1)) (by simp)
       have c2 := hS.cells (⟨w.heap.size, 2, none⟩, .int .i64 (F.2.2)) (by simp)
      case' r27x8 =>
       have D7 : aq.eval (.tmp 12) = _ := hdep 7
      case' r27x9 =>
       have F3 : aq.eval (.tmp 3) = .pointer (some ⟨w.heap.size + 1, 0, none⟩) := hf 3
       have c0 := hS.cells (⟨w.heap.size + 1, 0, none⟩, .int .i64 (G.1)) (by simp)
       have c1 := hS.cells (⟨w.heap.size + 1, 1, none⟩, .int .i64 (G.2.1)) (by simp)
       have c2 := hS.cells (⟨w.heap.size + 1, 2, none⟩, .int .i64 (G.2.2)) (by simp)
      case' r27x10 =>
       have D9 : aq.eval (.tmp 14) = _ := hdep 9
      case' r27x11 =>
       have D8 : aq.eval (.tmp 13) = _ := hdep 8
       have D10 : aq.eval (.tmp 15) = _ := hdep 10
      case' r27x12 =>
       have D6 : aq.eval (.tmp 11) = _ := hdep 6
       have D11 : aq.eval (.tmp 16) = _ := hdep 11
      case' r27x13 =>
       have D12 : aq.eval (.tmp 17) = _ := hdep 12
      all_goals (clear hf hdep; unfold Oper.wp; generalize Act.eval _ = ev at *; go_simp)
      case r27x1 =>
       refine ((coGood_a F.1 F.2.1 F.2.2 _)).mono ?_
       rintro e w2 ⟨rfl, hb⟩
       refine hK _ _ (hS.call hb) ?_ (fun j u _ h => Kd.ok_below hb h)
       rw [if_pos (by rfl)]
       show (_ : Value) = _
       first | rfl | (refine congrArg (Value.int .i64) ?_; first | rfl | exact int_in (by omega) | exact quo_in (by omega) (by omega) (by omega) | exact rem_in (by omega) (by omega) | omega | (simp [*]; done) | exact congrArg Value.bool (by assumption) | (simp only [Value.bool.injEq, decide_eq_true_eq, decide_eq_false_iff_not]; assumption)) | (simp; done) | (simp [*]; done)
      case r27x4 =>
       refine ((coGood_a G.1 G.2.1 G.2.2 _)).mono ?_
       rintro e w2 ⟨rfl, hb⟩
       refine hK _ _ (hS.call hb) ?_ (fun j u _ h => Kd.ok_below hb h)
       rw [if_pos (by rfl)]
       show (_ : Value) = _
       first | rfl | (refine congrArg (Value.int .i64) ?_; first | rfl | exact int_in (by omega) | exact quo_in (by omega) (by omega) (by omega) | exact rem_in (by omega) (by omega) | omega | (simp [*]; done) | exact congrArg Value.bool (by assumption) | (simp only [Value.bool.injEq, decide_eq_true_eq, decide_eq_false_iff_not]; assumption)) | (simp; done) | (simp [*]; done)
      case r27x8 =>
       refine ((foDisc_a F.1 F.2.1 F.2.2 _ (class_form hc1))).mono ?_
       rintro e w2 ⟨rfl, hb⟩
       refine hK _ _ (hS.call hb) ?_ (fun j u _ h => Kd.ok_below hb h)
       rw [if_pos (by rfl)]
       show (_ : Value) = _
       first | rfl | (refine congrArg (Value.int .i64) ?_; first | rfl | exact int_in (by omega) | exact quo_in (by omega) (by omega) (by omega) | exact rem_in (by omega) (by omega) | omega | (simp [*]; done) | exact congrArg Value.bool (by assumption) | (simp only [Value.bool.injEq, decide_eq_true_eq, decide_eq_false_iff_not]; assumption)) | (simp; done) | (simp [*]; done)
      case r27x10 =>
       refine ((foDisc_a G.1 G.2.1 G.2.2 _ (class_form hc2))).mono ?_
       rintro e w2 ⟨rfl, hb⟩
       refine hK _ _ (hS.call hb) ?_ (fun j u _ h => Kd.ok_below hb h)
       rw [if_pos (by rfl)]
       show (_ : Value) = _
       first | rfl | (refine congrArg (Value.int .i64) ?_; first | rfl | exact int_in (by omega) | exact quo_in (by omega) (by omega) (by omega) | exact rem_in (by omega) (by omega) | omega | (simp [*]; done) | exact congrArg Value.bool (by assumption) | (simp only [Value.bool.injEq, decide_eq_true_eq, decide_eq_false_iff_not]; assumption)) | (simp; done) | (simp [*]; done)
      all_goals (refine hK _ _ hS ?_ (fun j u _ h => h); rw [if_pos (by rfl)]; show (_ : Value) = _; (first | rfl | (refine congrArg (Value.int .i64) ?_; first | rfl | exact int_in (by omega) | exact quo_in (by omega) (by omega) (by omega) | exact rem_in (by omega) (by omega) | omega | (simp [*]; done) | exact congrArg Value.bool (by assumption) | (simp only [Value.bool.injEq, decide_eq_true_eq, decide_eq_false_iff_not]; assumption)) | (simp; done) | (simp [*]; done)))
     ·intro aq wx hd hw hf hS hg
      have G4 : tau aq 4 = .bool false := hg 13 (by decide)
      have haq : aq = ⟨#[tau aq 0, tau aq 1, tau aq 2, tau aq 3, tau aq 4, tau aq 5, tau aq 6, tau aq 7, tau aq 8, tau aq 9, tau aq 10, tau aq 11, tau aq 12, tau aq 13, tau aq 14, tau aq 15, tau aq 16, tau aq 17], []⟩ := by
       obtain ⟨tq, dq⟩ := aq
       have h5 := arr_eq (show tq.size = 18 from hw)
       have h6 : dq = [] := hd
       subst h6
       exact congrArg (fun z => Act.mk z []) h5
      show K2 aq wx
      rw [haq, hf 0, hf 1, hf 2, hf 3, G4]
      clear haq hf hd hw
      try dsimp only
      refine h3 _ _ ?_
      go_meet
      refine ⟨rfl, Ri3.m ?_ ?_ ?_, Ri3.m ?_ ?_ ?_, hS.below⟩
      all_goals first | exact hS.cells (_, _) (by simp) | exact (hS.free _ (by simp)).2
    obtain ⟨rfl, ⟨c00, c01, c02, z0⟩, ⟨c10, c11, c12, z1⟩, hb0⟩ := hcut
    go_wp2
    refine bodyPost_ret (v := .bool false) (by simp [results, Tryz.results78, go_sem, *]) rfl ?_
    exact ⟨by rw [unhide HV], hb0⟩
   ·have k3 := of_decide_eq_true k2
    rw [hd1, hd2] at k3
    clear hd1 hd2
    have HV := hide (show prB F G = true by simp [prB, k0, k1, of_decide_eq_true k2])
    try clear k2
    try clear k1
    clear k0
    go_enter Tryz.func78, Tryz.ntmps78
    go_upto_region 1 with fail
    go_cut [4] (fun s4 wx => s4 = .bool true ∧ Ri3 wx w.heap.size F.1 F.2.1 F.2.2 ∧ Ri3 wx (w.heap.size + 1) G.1 G.2.1 G.2.2 ∧ Below w.heap.size w wx)
    case first =>
     have h1 := trivial
     rename_i K2 h2 h3
     refine region_n (by kernel_rfl) (fun j => #[5,6,7,8,9,10,11,12,13,14,15,16,17,4].getD j 0) (fun j => Kd.ok ((fun j => match j with | 0 => Kd.val (.agg #[.int .i64 (F.1), .int .i64 (F.2.1), .int .i64 (F.2.2)]) | 1 => Kd.val (.bool true) | 2 => Kd.val (.bool true) | 3 => Kd.val (.agg #[.int .i64 (G.1), .int .i64 (G.2.1), .int .i64 (G.2.2)]) | 4 => Kd.val (.bool true) | 5 => Kd.val (.bool true) | 6 => Kd.val (.bool true) | 7 => Kd.val (.agg #[.int .i64 (F.1), .int .i64 (F.2.1), .int .i64 (F.2.2)]) | 8 => Kd.val (.int .i64 (discI F.1 F.2.1 F.2.2)) | 9 => Kd.val (.agg #[.int .i64 (G.1), .int .i64 (G.2.1), .int .i64 (G.2.2)]) | 10 => Kd.val (.int .i64 (discI G.1 G.2.1 G.2.2)) | 11 => Kd.val (.bool true) | 12 => Kd.val (.bool true) | 13 => Kd.val (.bool true) | _ => Kd.any : Nat → Kd) j)) (Sy w (w.heap.size + 1 + 1) [(⟨w.heap.size, 0, none⟩, .int .i64 (F.1)), (⟨w.heap.size, 1, none⟩, .int .i64 (F.2.1)), (⟨w.heap.size, 2, none⟩, .int .i64 (F.2.2)), (⟨w.heap.size + 1, 0, none⟩, .int .i64 (G.1)), (⟨w.heap.size + 1, 1, none⟩, .int .i64 (G.2.1)), (⟨w.heap.size + 1, 2, none⟩, .int .i64 (G.2.2))] []) (fun j => #[true, true, true, true, true, true, true, true, true, true, true, true, true, true].getD j true) (by kernel_rfl) ?_ ?_ ?_ ?_ ?_ ?_
     ·intro j hj
      have hj2 : j < 14 := hj
      have : ∀ j, j < 14 → (#[5,6,7,8,9,10,11,12,13,14,15,16,17,4] : Array Nat).getD j 0 < 18 := by decide
      exact this j hj2
     ·intro i o ho
      match i, ho with
      | 0, ho => cases ho; intro aq wq hd; exact wanted_free rfl
      | 1, ho => cases ho; intro aq wq hd; exact wanted_free rfl
      | 2, ho => cases ho; intro aq wq hd; exact wanted_free rfl
      | 3, ho => cases ho; intro aq wq hd; exact wanted_of (j := 2) (t := 7) (want := true) (b := true) rfl rfl (hd 2 (by decide +kernel))
      | 4, ho => cases ho; intro aq wq hd; exact wanted_of (j := 2) (t := 7) (want := true) (b := true) rfl rfl (hd 2 (by decide +kernel))
      | 5, ho => cases ho; intro aq wq hd; exact wanted_free rfl
      | 6, ho => cases ho; intro aq wq hd; exact wanted_free rfl
      | 7, ho => cases ho; intro aq wq hd; exact wanted_of (j := 6) (t := 11) (want := true) (b := true) rfl rfl (hd 6 (by decide +kernel))
      | 8, ho => cases ho; intro aq wq hd; exact wanted_of (j := 6) (t := 11) (want := true) (b := true) rfl rfl (hd 6 (by decide +kernel))
      | 9, ho => cases ho; intro aq wq hd; exact wanted_of (j := 6) (t := 11) (want := true) (b := true) rfl rfl (hd 6 (by decide +kernel))
      | 10, ho => cases ho; intro aq wq hd; exact wanted_of (j := 6) (t := 11) (want := true) (b := true) rfl rfl (hd 6 (by decide +kernel))
      | 11, ho => cases ho; intro aq wq hd; exact wanted_of (j := 6) (t := 11) (want := true) (b := true) rfl rfl (hd 6 (by decide +kernel))
      | 12, ho => cases ho; intro aq wq hd; exact wanted_free rfl
      | 13, ho => cases ho; intro aq wq hd; exact wanted_free rfl
      | i + 14, ho => exact absurd ho (by simp)
     ·intro i o ho hr
      match i, ho with
      | 0, ho => exact absurd hr (by decide)
      | 1, ho => exact absurd hr (by decide)
      | 2, ho => exact absurd hr (by decide)
      | 3, ho => exact absurd hr (by decide)
      | 4, ho => exact absurd hr (by decide)
      | 5, ho => exact absurd hr (by decide)
      | 6, ho => exact absurd hr (by decide)
      | 7, ho => exact absurd hr (by decide)
      | 8, ho => exact absurd hr (by decide)
      | 9, ho => exact absurd hr (by decide)
      | 10, ho => exact absurd hr (by decide)
      | 11, ho => exact absurd hr (by decide)
      | 12, ho => exact absurd hr (by decide)
      | 13, ho => exact absurd hr (by decide)
      | i + 14, ho => exact absurd ho (by simp)
     ·refine Sy.drew (Sy.mk_of ?_ ?_ ?_ ?_)
      ·first | rfl | (simp; done) | (simp; omega)
      ·intro c hc
       simp only [List.mem_cons, List.not_mem_nil, or_false] at hc
       rcases hc with rfl | rfl | rfl | rfl | rfl | rfl <;> exact byCT
      ·intro p hp; cases hp
      ·(repeat' first | with_reducible (first | exact Below.refl _ _ | assumption | refine gr_alloc ?_ _ | refine below_drewN ?_ _ | refine below_drew ?_ | refine gr_call ?_ (by assumption) | refine Below.setCell ?_ ?_ _) | go_size | omega | (simp; omega))
     ·clear h2 h3
      refine ⟨?r28x0, ?r28x1, ?r28x2, ?r28x3, ?r28x4, ?r28x5, ?r28x6, ?r28x7, ?r28x8, ?r28x9, ?r28x10, ?r28x11, ?r28x12, ?r28x13, trivial⟩
      all_goals intro _ aq wx Kq hf hS hdep ev1 ev2 hK
      case' r28x0 =>
       have F2 : aq.eval (.tmp 2) = .pointer (some ⟨w.heap.size, 0, none⟩) := hf 2
       have c0 := hS.cells (⟨w.heap.size, 0, none⟩, .int .i64 (F.1)) (by simp)
       have c1 := hS.cells (⟨w.heap.size, 1, none⟩, .int .i64 (F.2.1)) (by simp)
       have c2 := hS.cells (⟨w.heap.size, 2, none⟩, .int .i64 (F.2.2)) (by simp)
      case' r28x1 =>
       have D0 : aq.eval (.tmp 5) = _ := hdep 0
      case' r28x2 =>
       have D1 : aq.eval (.tmp 6) = _ := hdep 1
      case' r28x3 =>
       have F3 : aq.eval (.tmp 3) = .pointer (some ⟨w.heap.size + 1, 0, none⟩) := hf 3
       have c0 := hS.cells (⟨w.heap.size + 1, 0, none⟩, .int .i64 (G.1)) (by simp)
       have c1 := hS.cells (⟨w.heap.size + 1, 1, none⟩, .int .i64 (G.2.1)) (by simp)
       have c2 := hS.cells (⟨w.heap.size + 1, 2, none⟩, .int .i64 (G.2.2)) (by simp)
      case' r28x4 =>
       have D3 : aq.eval (.tmp 8) = _ := hdep 3
      case' r28x5 =>
       have D2 : aq.eval (.tmp 7) = _ := hdep 2
       have D4 : aq.eval (.tmp 9) = _ := hdep 4
      case' r28x6 =>
       have D5 : aq.eval (.tmp 10) = _ := hdep 5
      case' r28x7 =>
       have F2 : aq.eval (.tmp 2) = .pointer (some ⟨w.heap.size, 0, none⟩) := hf 2
       have c0 := hS.cells (⟨w.heap.size, 0, none⟩, .int .i64 (F.1)) (by simp)
       have c1 := hS.cells (⟨w.heap.size, 1, none⟩, .int .i64 (F.2.1)) (by simp)
       have c2 := hS.cells (⟨w.heap.size, 2, none⟩, .int .i64 (F.2.2)) (by simp)
      case' r28x8 =>
       have D7 : aq.eval (.tmp 12) = _ := hdep 7
      case' r28x9 =>
       have F3 : aq.eval (.tmp 3) = .pointer (some ⟨w.heap.size + 1, 0, none⟩) := hf 3
       have c0 := hS.cells (⟨w.heap.size + 1, 0, none⟩, .int .i64 (G.1)) (by simp)
       have c1 := hS.cells (⟨w.heap.size + 1, 1, none⟩, .int .i64 (G.2.1)) (by simp)
       have c2 := hS.cells (⟨w.heap.size + 1, 2, none⟩, .int .i64 (G.2.2)) (by simp)
      case' r28x10 =>
       have D9 : aq.eval (.tmp 14) = _ := hdep 9
      case' r28x11 =>
       have D8 : aq.eval (.tmp 13) = _ := hdep 8
       have D10 : aq.eval (.tmp 15) = _ := hdep 10
      case' r28x12 =>
       have D6 : aq.eval (.tmp 11) = _ := hdep 6
       have D11 : aq.eval (.tmp 16) = _ := hdep 11
      case' r28x13 =>
       have D12 : aq.eval (.tmp 17) = _ := hdep 12
      all_goals (clear hf hdep; unfold Oper.wp; generalize Act.eval _ = ev at *; go_simp)
      case r28x1 =>
       refine ((coGood_a F.1 F.2.1 F.2.2 _)).mono ?_
       rintro e w2 ⟨rfl, hb⟩
       refine hK _ _ (hS.call hb) ?_ (fun j u _ h => Kd.ok_below hb h)
       rw [if_pos (by rfl)]
       show (_ : Value) = _
       first | rfl | (refine congrArg (Value.int .i64) ?_; first | rfl | exact int_in (by omega) | exact quo_in (by omega) (by omega) (by omega) | exact rem_in (by omega) (by omega) | omega | (simp [*]; done) | exact congrArg Value.bool (by assumption) | (simp only [Value.bool.injEq, decide_eq_true_eq, decide_eq_false_iff_not]; assumption)) | (simp; done) | (simp [*]; done)
      case r28x4 =>
       refine ((coGood_a G.1 G.2.1 G.2.2 _)).mono ?_
       rintro e w2 ⟨rfl, hb⟩
       refine hK _ _ (hS.call hb) ?_ (fun j u _ h => Kd.ok_below hb h)
       rw [if_pos (by rfl)]
       show (_ : Value) = _
       first | rfl | (refine congrArg (Value.int .i64) ?_; first | rfl | exact int_in (by omega) | exact quo_in (by omega) (by omega) (by omega) | exact rem_in (by omega) (by omega) | omega | (simp [*]; done) | exact congrArg Value.bool (by assumption) | (simp only [Value.bool.injEq, decide_eq_true_eq, decide_eq_false_iff_not]; assumption)) | (simp; done) | (simp [*]; done)
      case r28x8 =>
       refine ((foDisc_a F.1 F.2.1 F.2.2 _ (class_form hc1))).mono ?_
       rintro e w2 ⟨rfl, hb⟩
       refine hK _ _ (hS.call hb) ?_ (fun j u _ h => Kd.ok_below hb h)
       rw [if_pos (by rfl)]
       show (_ : Value) = _
       first | rfl | (refine congrArg (Value.int .i64) ?_; first | rfl | exact int_in (by omega) | exact quo_in (by omega) (by omega) (by omega) | exact rem_in (by omega) (by omega) | omega | (simp [*]; done) | exact congrArg Value.bool (by assumption) | (simp only [Value.bool.injEq, decide_eq_true_eq, decide_eq_false_iff_not]; assumption)) | (simp; done) | (simp [*]; done)
      case r28x10 =>
       refine ((foDisc_a G.1 G.2.1 G.2.2 _ (class_form hc2))).mono ?_
       rintro e w2 ⟨rfl, hb⟩
       refine hK _ _ (hS.call hb) ?_ (fun j u _ h => Kd.ok_below hb h)
       rw [if_pos (by rfl)]
       show (_ : Value) = _
       first | rfl | (refine congrArg (Value.int .i64) ?_; first | rfl | exact int_in (by omega) | exact quo_in (by omega) (by omega) (by omega) | exact rem_in (by omega) (by omega) | omega | (simp [*]; done) | exact congrArg Value.bool (by assumption) | (simp only [Value.bool.injEq, decide_eq_true_eq, decide_eq_false_iff_not]; assumption)) | (simp; done) | (simp [*]; done)
      all_goals (refine hK _ _ hS ?_ (fun j u _ h => h); rw [if_pos (by rfl)]; show (_ : Value) = _; (first | rfl | (refine congrArg (Value.int .i64) ?_; first | rfl | exact int_in (by omega) | exact quo_in (by omega) (by omega) (by omega) | exact rem_in (by omega) (by omega) | omega | (simp [*]; done) | exact congrArg Value.bool (by assumption) | (simp only [Value.bool.injEq, decide_eq_true_eq, decide_eq_false_iff_not]; assumption)) | (simp; done) | (simp [*]; done)))
     ·intro aq wx hd hw hf hS hg
      have G4 : tau aq 4 = .bool true := hg 13 (by decide)
      have haq : aq = ⟨#[tau aq 0, tau aq 1, tau aq 2, tau aq 3, tau aq 4, tau aq 5, tau aq 6, tau aq 7, tau aq 8, tau aq 9, tau aq 10, tau aq 11, tau aq 12, tau aq 13, tau aq 14, tau aq 15, tau aq 16, tau aq 17], []⟩ := by
       obtain ⟨tq, dq⟩ := aq
       have h5 := arr_eq (show tq.size = 18 from hw)
       have h6 : dq = [] := hd
       subst h6
       exact congrArg (fun z => Act.mk z []) h5
      show K2 aq wx
      rw [haq, hf 0, hf 1, hf 2, hf 3, G4]
      clear haq hf hd hw
      try dsimp only
      refine h3 _ _ ?_
      go_meet
      refine ⟨rfl, Ri3.m ?_ ?_ ?_, Ri3.m ?_ ?_ ?_, hS.below⟩
      all_goals first | exact hS.cells (_, _) (by simp) | exact (hS.free _ (by simp)).2
    obtain ⟨rfl, ⟨c00, c01, c02, z0⟩, ⟨c10, c11, c12, z1⟩, hb0⟩ := hcut
    go_wp2
    refine bodyPost_ret (v := .bool true) (by simp [results, Tryz.results78, go_sem, *]) rfl ?_
    exact ⟨by rw [unhide HV], hb0⟩
end Go.Proofs.YtihfacmlfelliaaGreat
