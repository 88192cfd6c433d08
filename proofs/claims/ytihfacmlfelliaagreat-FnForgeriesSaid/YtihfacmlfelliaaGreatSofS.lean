/- SmallOrderForgery (spec). -/
import Derived.Test.YtihfacmlfelliaaGreatSof
namespace Go.Proofs.YtihfacmlfelliaaGreat
open Go.RowKit
set_option linter.unusedVariables false
set_option linter.unusedSimpArgs false
attribute [local go_sem] q2 q3 q4 q5 q6 q7 q8 q9 q10 q11 q12

set_option maxRecDepth 100000 in
set_option maxHeartbeats 8000000 in
theorem specSmallOrderForgery (F : T3) (t : Int) (W : T3) (w : World)  : Calls Tryz.prog 8 #[frm F, .int .i64 t, frm W] w fun e w' => e = .returned (.tuple #[frm (soX F t W), frm (soY F t W), .bool (soB F t W)]) ∧ Below w.heap.size w w' := by
 cases k0 : prB F W
 ·have HV : Hid ((.tuple #[frm (soX F t W), frm (soY F t W), .bool (soB F t W)] : Value) = .tuple #[.agg #[.int .i64 0, .int .i64 0, .int .i64 0], .agg #[.int .i64 0, .int .i64 0, .int .i64 0], .bool false]) := hide (so_no (by simp [soK, k0]))
  have HK0 : Hid (prB F W = false) := hide k0
  go_enter Tryz.func8, Tryz.ntmps8
  go_upto_region 1 with fail
  go_cut [31] (fun s31 wx => s31 = .bool true ∧ Ri3 wx w.heap.size F.1 F.2.1 F.2.2 ∧ Ri3 wx (w.heap.size + 1) W.1 W.2.1 W.2.2 ∧ Wi3 wx (w.heap.size + 1 + 1) 0 0 0 ∧ Wi3 wx (w.heap.size + 1 + 1 + 1) 0 0 0 ∧ Below w.heap.size w wx)
  case first =>
   have h1 := trivial
   rename_i K2 h2 h3
   let hgf9 : Nat → World → Value → Prop := fun j => match j with | 0 => Kd.ok (Kd.val (.agg #[.int .i64 (F.1), .int .i64 (F.2.1), .int .i64 (F.2.2)])) | 1 => Kd.ok (Kd.val (.agg #[.int .i64 (W.1), .int .i64 (W.2.1), .int .i64 (W.2.2)])) | 2 => (SlcF 2 6 (fun j => ([(F.1), (F.2.1), (F.2.2), (W.1), (W.2.1), (W.2.2)] : List Int).getD j 0)) | 3 => Kd.ok (Kd.val (.bool false)) | 4 => Kd.ok (Kd.val (.bool true)) | 5 => Kd.ok (Kd.val (.bool true)) | 6 => Kd.ok (Kd.val undef) | 7 => Kd.ok (Kd.val undef) | 8 => Kd.ok (Kd.val undef) | 9 => Kd.ok (Kd.val (.bool true)) | 10 => Kd.ok (Kd.val (.bool true)) | 11 => Kd.ok (Kd.val undef) | 12 => Kd.ok (Kd.val undef) | 13 => Kd.ok (Kd.val undef) | 14 => Kd.ok (Kd.val undef) | 15 => Kd.ok (Kd.val undef) | 16 => Kd.ok (Kd.val undef) | 17 => Kd.ok (Kd.val (.bool true)) | _ => Kd.ok Kd.any
   have hst9 : ∀ j, StB (hgf9 j) := fun j => match j with | 0 => (Kd.st (Kd.val (.agg #[.int .i64 (F.1), .int .i64 (F.2.1), .int .i64 (F.2.2)])) : StB (Kd.ok (Kd.val (.agg #[.int .i64 (F.1), .int .i64 (F.2.1), .int .i64 (F.2.2)])))) | 1 => (Kd.st (Kd.val (.agg #[.int .i64 (W.1), .int .i64 (W.2.1), .int .i64 (W.2.2)])) : StB (Kd.ok (Kd.val (.agg #[.int .i64 (W.1), .int .i64 (W.2.1), .int .i64 (W.2.2)])))) | 2 => (SlcF.st : StB (SlcF 2 6 (fun j => ([(F.1), (F.2.1), (F.2.2), (W.1), (W.2.1), (W.2.2)] : List Int).getD j 0))) | 3 => (Kd.st (Kd.val (.bool false)) : StB (Kd.ok (Kd.val (.bool false)))) | 4 => (Kd.st (Kd.val (.bool true)) : StB (Kd.ok (Kd.val (.bool true)))) | 5 => (Kd.st (Kd.val (.bool true)) : StB (Kd.ok (Kd.val (.bool true)))) | 6 => (Kd.st (Kd.val undef) : StB (Kd.ok (Kd.val undef))) | 7 => (Kd.st (Kd.val undef) : StB (Kd.ok (Kd.val undef))) | 8 => (Kd.st (Kd.val undef) : StB (Kd.ok (Kd.val undef))) | 9 => (Kd.st (Kd.val (.bool true)) : StB (Kd.ok (Kd.val (.bool true)))) | 10 => (Kd.st (Kd.val (.bool true)) : StB (Kd.ok (Kd.val (.bool true)))) | 11 => (Kd.st (Kd.val undef) : StB (Kd.ok (Kd.val undef))) | 12 => (Kd.st (Kd.val undef) : StB (Kd.ok (Kd.val undef))) | 13 => (Kd.st (Kd.val undef) : StB (Kd.ok (Kd.val undef))) | 14 => (Kd.st (Kd.val undef) : StB (Kd.ok (Kd.val undef))) | 15 => (Kd.st (Kd.val undef) : StB (Kd.ok (Kd.val undef))) | 16 => (Kd.st (Kd.val undef) : StB (Kd.ok (Kd.val undef))) | 17 => (Kd.st (Kd.val (.bool true)) : StB (Kd.ok (Kd.val (.bool true)))) | j + 18 => (Kd.st Kd.any : StB (Kd.ok Kd.any))
   refine region_n (by kernel_rfl) (fun j => #[14,15,16,17,18,19,20,21,22,23,24,25,26,27,28,29,30,31].getD j 0) (hgf9) (Sy w (w.heap.size + 1 + 1 + 1 + 1) [(⟨w.heap.size, 0, none⟩, .int .i64 (F.1)), (⟨w.heap.size, 1, none⟩, .int .i64 (F.2.1)), (⟨w.heap.size, 2, none⟩, .int .i64 (F.2.2)), (⟨w.heap.size + 1, 0, none⟩, .int .i64 (W.1)), (⟨w.heap.size + 1, 1, none⟩, .int .i64 (W.2.1)), (⟨w.heap.size + 1, 2, none⟩, .int .i64 (W.2.2)), (⟨w.heap.size + 1 + 1, 0, none⟩, .int .i64 0), (⟨w.heap.size + 1 + 1, 1, none⟩, .int .i64 0), (⟨w.heap.size + 1 + 1, 2, none⟩, .int .i64 0), (⟨w.heap.size + 1 + 1 + 1, 0, none⟩, .int .i64 0), (⟨w.heap.size + 1 + 1 + 1, 1, none⟩, .int .i64 0), (⟨w.heap.size + 1 + 1 + 1, 2, none⟩, .int .i64 0)] [⟨w.heap.size + 1 + 1, 0, none⟩, ⟨w.heap.size + 1 + 1, 1, none⟩, ⟨w.heap.size + 1 + 1, 2, none⟩, ⟨w.heap.size + 1 + 1 + 1, 0, none⟩, ⟨w.heap.size + 1 + 1 + 1, 1, none⟩, ⟨w.heap.size + 1 + 1 + 1, 2, none⟩]) (fun j => #[true, true, true, true, true, true, false, false, false, true, true, false, false, false, false, false, false, true].getD j true) (by kernel_rfl) ?_ ?_ ?_ ?_ ?_ ?_
   ·intro j hj
    have hj2 : j < 18 := hj
    have : ∀ j, j < 18 → (#[14,15,16,17,18,19,20,21,22,23,24,25,26,27,28,29,30,31] : Array Nat).getD j 0 < 66 := by decide
    exact this j hj2
   ·intro i o ho
    match i, ho with
    | 0, ho => cases ho; intro aq wq hd; exact wanted_free rfl
    | 1, ho => cases ho; intro aq wq hd; exact wanted_free rfl
    | 2, ho => cases ho; intro aq wq hd; exact wanted_free rfl
    | 3, ho => cases ho; intro aq wq hd; exact wanted_free rfl
    | 4, ho => cases ho; intro aq wq hd; exact wanted_free rfl
    | 5, ho => cases ho; intro aq wq hd; exact wanted_free rfl
    | 6, ho => cases ho; intro aq wq hd; exact wanted_of (j := 5) (t := 19) (want := false) (b := true) rfl rfl (hd 5 (by decide +kernel))
    | 7, ho => cases ho; intro aq wq hd; exact wanted_of (j := 5) (t := 19) (want := false) (b := true) rfl rfl (hd 5 (by decide +kernel))
    | 8, ho => cases ho; intro aq wq hd; exact wanted_of (j := 5) (t := 19) (want := false) (b := true) rfl rfl (hd 5 (by decide +kernel))
    | 9, ho => cases ho; intro aq wq hd; exact wanted_free rfl
    | 10, ho => cases ho; intro aq wq hd; exact wanted_free rfl
    | 11, ho => cases ho; intro aq wq hd; exact wanted_of (j := 10) (t := 24) (want := false) (b := true) rfl rfl (hd 10 (by decide +kernel))
    | 12, ho => cases ho; intro aq wq hd; exact wanted_of (j := 10) (t := 24) (want := false) (b := true) rfl rfl (hd 10 (by decide +kernel))
    | 13, ho => cases ho; intro aq wq hd; exact wanted_of (j := 10) (t := 24) (want := false) (b := true) rfl rfl (hd 10 (by decide +kernel))
    | 14, ho => cases ho; intro aq wq hd; exact wanted_of (j := 10) (t := 24) (want := false) (b := true) rfl rfl (hd 10 (by decide +kernel))
    | 15, ho => cases ho; intro aq wq hd; exact wanted_of (j := 10) (t := 24) (want := false) (b := true) rfl rfl (hd 10 (by decide +kernel))
    | 16, ho => cases ho; intro aq wq hd; exact wanted_of (j := 10) (t := 24) (want := false) (b := true) rfl rfl (hd 10 (by decide +kernel))
    | 17, ho => cases ho; intro aq wq hd; exact wanted_free rfl
    | i + 18, ho => exact absurd ho (by simp)
   ·intro i o ho hr
    match i, ho with
    | 0, ho => exact absurd hr (by decide)
    | 1, ho => exact absurd hr (by decide)
    | 2, ho => exact absurd hr (by decide)
    | 3, ho => exact absurd hr (by decide)
    | 4, ho => exact absurd hr (by decide)
    | 5, ho => exact absurd hr (by decide)
    | 6, ho => cases ho; exact ⟨rfl, fun _ _ => rfl⟩
    | 7, ho => cases ho; exact ⟨rfl, fun _ _ => rfl⟩
    | 8, ho => cases ho; exact ⟨rfl, fun _ _ => rfl⟩
    | 9, ho => exact absurd hr (by decide)
    | 10, ho => exact absurd hr (by decide)
    | 11, ho => cases ho; exact ⟨rfl, fun _ _ => rfl⟩
    | 12, ho => cases ho; exact ⟨rfl, fun _ _ => rfl⟩
    | 13, ho => cases ho; exact ⟨rfl, fun _ _ => rfl⟩
    | 14, ho => cases ho; exact ⟨rfl, fun _ _ => rfl⟩
    | 15, ho => cases ho; exact ⟨rfl, fun _ _ => rfl⟩
    | 16, ho => cases ho; exact ⟨rfl, fun _ _ => rfl⟩
    | 17, ho => exact absurd hr (by decide)
    | i + 18, ho => exact absurd ho (by simp)
   ·refine Sy.drew (Sy.mk_of ?_ ?_ ?_ ?_)
    ·first | rfl | (simp; done) | (simp; omega)
    ·intro c hc
     simp only [List.mem_cons, List.not_mem_nil, or_false] at hc
     rcases hc with rfl | rfl | rfl | rfl | rfl | rfl | rfl | rfl | rfl | rfl | rfl | rfl <;> exact byCT
    ·intro p hp
     simp only [List.mem_cons, List.not_mem_nil, or_false] at hp
     rcases hp with rfl | rfl | rfl | rfl | rfl | rfl <;> exact ⟨by first | ((repeat' with_reducible (first | refine ex_set _ ?_ | refine ex_al _ ?_ | exact ⟨_, by assumption⟩)); done) | first | exact ⟨_, by assumption⟩ | assumption | (go_simp; done) | (go_simp; exact ⟨_, rfl⟩), by first | ((repeat' first | with_reducible (first | assumption | refine frz_al _ ?_ ?_ | refine frz_set _ ?_) | omega | (simp; omega)); done) | assumption | (go_simp; done)⟩
    ·(repeat' first | with_reducible (first | exact Below.refl _ _ | assumption | refine gr_alloc ?_ _ | refine below_drewN ?_ _ | refine below_drew ?_ | refine gr_call ?_ (by assumption) | refine Below.setCell ?_ ?_ _) | go_size | omega | (simp; omega))
   ·clear h1 h2 h3
    refine ⟨?r49x0, ?r49x1, ?r49x2, ?r49x3, ?r49x4, ?r49x5, ?r49x6, ?r49x7, ?r49x8, ?r49x9, ?r49x10, ?r49x11, ?r49x12, ?r49x13, ?r49x14, ?r49x15, ?r49x16, ?r49x17, trivial⟩
    case r49x6 => intro hr; exact absurd hr (by decide)
    case r49x7 => intro hr; exact absurd hr (by decide)
    case r49x8 => intro hr; exact absurd hr (by decide)
    case r49x11 => intro hr; exact absurd hr (by decide)
    case r49x12 => intro hr; exact absurd hr (by decide)
    case r49x13 => intro hr; exact absurd hr (by decide)
    case r49x14 => intro hr; exact absurd hr (by decide)
    case r49x15 => intro hr; exact absurd hr (by decide)
    case r49x16 => intro hr; exact absurd hr (by decide)
    all_goals intro _ aq wx Kq hf hS hdep ev1 ev2 hK
    case' r49x0 =>
     have F3 : aq.eval (.tmp 3) = .pointer (some ⟨w.heap.size, 0, none⟩) := hf 3
     have c0 := hS.cells (⟨w.heap.size, 0, none⟩, .int .i64 (F.1)) (by simp)
     have c1 := hS.cells (⟨w.heap.size, 1, none⟩, .int .i64 (F.2.1)) (by simp)
     have c2 := hS.cells (⟨w.heap.size, 2, none⟩, .int .i64 (F.2.2)) (by simp)
    case' r49x1 =>
     have F5 : aq.eval (.tmp 5) = .pointer (some ⟨w.heap.size + 1, 0, none⟩) := hf 5
     have c0 := hS.cells (⟨w.heap.size + 1, 0, none⟩, .int .i64 (W.1)) (by simp)
     have c1 := hS.cells (⟨w.heap.size + 1, 1, none⟩, .int .i64 (W.2.1)) (by simp)
     have c2 := hS.cells (⟨w.heap.size + 1, 2, none⟩, .int .i64 (W.2.2)) (by simp)
    case' r49x2 =>
     have D0 : aq.eval (.tmp 14) = _ := hdep 0
     have D1 : aq.eval (.tmp 15) = _ := hdep 1
    case' r49x3 =>
     obtain ⟨gs16, DP16, hcs16⟩ := hdep 2
     change aq.eval (.tmp 16) = _ at DP16
    case' r49x4 =>
     have D3 : aq.eval (.tmp 17) = _ := hdep 3
    case' r49x5 =>
     have D4 : aq.eval (.tmp 18) = _ := hdep 4
    case' r49x9 =>
     have D5 : aq.eval (.tmp 19) = _ := hdep 5
     have D8 : aq.eval (.tmp 22) = _ := hdep 8
    case' r49x10 =>
     have D9 : aq.eval (.tmp 23) = _ := hdep 9
    case' r49x17 =>
     have D10 : aq.eval (.tmp 24) = _ := hdep 10
     have D16 : aq.eval (.tmp 30) = _ := hdep 16
    all_goals (clear hf hdep; unfold Oper.wp; generalize Act.eval _ = ev at *; go_simp)
    case r49x2 =>
     refine hK _ _ (hS.call (below_alloc_self _ _)) ?_ (fun j u _ h => hst9 j _ _ _ (below_alloc_self _ _) h)
     rw [if_pos (by rfl)]
     refine ⟨_, rfl, fun j hj => ?_⟩
     rcases (show j = 0 ∨ j = 1 ∨ j = 2 ∨ j = 3 ∨ j = 4 ∨ j = 5 by omega) with rfl | rfl | rfl | rfl | rfl | rfl <;> (go_simp; done)
    case r49x3 =>
     refine ((dlTwo F W gs16 false _ hcs16 (unhide HK0))).mono ?_
     rintro e w2 ⟨rfl, hb⟩
     refine hK _ _ (hS.call hb) ?_ (fun j u _ h => hst9 j _ _ _ hb h)
     rw [if_pos (by rfl)]
     show (_ : Value) = _
     first | rfl | (refine congrArg (Value.int .i64) ?_; first | rfl | exact int_in (by omega) | exact quo_in (by omega) (by omega) (by omega) | exact rem_in (by omega) (by omega) | omega | rfl) | (simp; done) | (simp [*]; done)
    all_goals (refine hK _ _ hS ?_ (fun j u _ h => h); rw [if_pos (by rfl)]; show (_ : Value) = _; (first | rfl | (refine congrArg (Value.int .i64) ?_; first | rfl | exact int_in (by omega) | exact quo_in (by omega) (by omega) (by omega) | exact rem_in (by omega) (by omega) | omega | rfl) | (simp; done) | (simp [*]; done)))
   ·intro aq wx hd hw hf hS hg
    have G31 : tau aq 31 = .bool true := hg 17 (by decide)
    have haq : aq = ⟨#[tau aq 0, tau aq 1, tau aq 2, tau aq 3, tau aq 4, tau aq 5, tau aq 6, tau aq 7, tau aq 8, tau aq 9, tau aq 10, tau aq 11, tau aq 12, tau aq 13, tau aq 14, tau aq 15, tau aq 16, tau aq 17, tau aq 18, tau aq 19, tau aq 20, tau aq 21, tau aq 22, tau aq 23, tau aq 24, tau aq 25, tau aq 26, tau aq 27, tau aq 28, tau aq 29, tau aq 30, tau aq 31, tau aq 32, tau aq 33, tau aq 34, tau aq 35, tau aq 36, tau aq 37, tau aq 38, tau aq 39, tau aq 40, tau aq 41, tau aq 42, tau aq 43, tau aq 44, tau aq 45, tau aq 46, tau aq 47, tau aq 48, tau aq 49, tau aq 50, tau aq 51, tau aq 52, tau aq 53, tau aq 54, tau aq 55, tau aq 56, tau aq 57, tau aq 58, tau aq 59, tau aq 60, tau aq 61, tau aq 62, tau aq 63, tau aq 64, tau aq 65], []⟩ := by
     obtain ⟨tq, dq⟩ := aq
     have h5 := arr_eq (show tq.size = 66 from hw)
     have h6 : dq = [] := hd
     subst h6
     exact congrArg (fun z => Act.mk z []) h5
    show K2 aq wx
    rw [haq, hf 0, hf 1, hf 2, hf 3, hf 4, hf 5, hf 6, hf 7, hf 8, hf 9, hf 10, hf 11, hf 12, hf 13, hf 32, hf 33, hf 34, hf 35, hf 36, hf 37, hf 38, hf 39, hf 40, hf 41, hf 42, hf 43, hf 44, hf 45, hf 46, hf 47, hf 48, hf 49, hf 50, hf 51, hf 52, hf 53, hf 54, hf 55, hf 56, hf 57, hf 58, hf 59, hf 60, hf 61, hf 62, hf 63, hf 64, hf 65, G31]
    clear haq hf hd hw
    try dsimp only
    refine h3 _ _ ?_
    go_meet
    refine ⟨rfl, Ri3.m ?_ ?_ ?_, Ri3.m ?_ ?_ ?_, Wi3.m ?_ ?_ ?_ ?_ ?_ ?_, Wi3.m ?_ ?_ ?_ ?_ ?_ ?_, hS.below⟩
    all_goals first | exact hS.cells (_, _) (by simp) | exact (hS.free _ (by simp)).2
  try clear c00
  try clear c01
  try clear c02
  try clear c10
  try clear c11
  try clear c12
  try clear c20
  try clear c21
  try clear c22
  try clear c30
  try clear c31
  try clear c32
  try clear f20
  try clear f21
  try clear f22
  try clear f30
  try clear f31
  try clear f32
  obtain ⟨rfl, ⟨c00, c01, c02, z0⟩, ⟨c10, c11, c12, z1⟩, ⟨c20, c21, c22, f20, f21, f22, z2⟩, ⟨c30, c31, c32, f30, f31, f32, z3⟩, hb0⟩ := hcut
  go_wp2
  refine bodyPost_ret (v := .tuple #[.agg #[.int .i64 0, .int .i64 0, .int .i64 0], .agg #[.int .i64 0, .int .i64 0, .int .i64 0], .bool false]) (by simp [results, Tryz.results8, go_sem, *]) rfl ?_
  exact ⟨by rw [unhide HV], byGG⟩
 ·obtain ⟨hF, hW⟩ := pr_true k0
  have hdd := hF.dd
  cases k1 : tmB t
  ·have HV : Hid ((.tuple #[frm (soX F t W), frm (soY F t W), .bool (soB F t W)] : Value) = .tuple #[.agg #[.int .i64 0, .int .i64 0, .int .i64 0], .agg #[.int .i64 0, .int .i64 0, .int .i64 0], .bool false]) := hide (so_no (by simp [soK, k1]))
   have HK0 : Hid (prB F W = true) := hide k0
   have HK1 : Hid (tmB t = false) := hide k1
   go_enter Tryz.func8, Tryz.ntmps8
   go_upto_region 1 with fail
   go_cut [31] (fun s31 wx => s31 = .bool true ∧ Ri3 wx w.heap.size F.1 F.2.1 F.2.2 ∧ Ri3 wx (w.heap.size + 1) W.1 W.2.1 W.2.2 ∧ Wi3 wx (w.heap.size + 1 + 1) 0 0 0 ∧ Wi3 wx (w.heap.size + 1 + 1 + 1) 0 0 0 ∧ Below w.heap.size w wx)
   case first =>
    have h1 := trivial
    rename_i K2 h2 h3
    let hgf9 : Nat → World → Value → Prop := fun j => match j with | 0 => Kd.ok (Kd.val (.agg #[.int .i64 (F.1), .int .i64 (F.2.1), .int .i64 (F.2.2)])) | 1 => Kd.ok (Kd.val (.agg #[.int .i64 (W.1), .int .i64 (W.2.1), .int .i64 (W.2.2)])) | 2 => (SlcF 2 6 (fun j => ([(F.1), (F.2.1), (F.2.2), (W.1), (W.2.1), (W.2.2)] : List Int).getD j 0)) | 3 => Kd.ok (Kd.val (.bool true)) | 4 => Kd.ok (Kd.val (.bool false)) | 5 => Kd.ok (Kd.val (.bool false)) | 6 => Kd.ok (Kd.val (.int .i64 t)) | 7 => Kd.ok (Kd.val (.bool false)) | 8 => Kd.ok (Kd.val (.bool true)) | 9 => Kd.ok (Kd.val (.bool true)) | 10 => Kd.ok (Kd.val (.bool true)) | 11 => Kd.ok (Kd.val undef) | 12 => Kd.ok (Kd.val undef) | 13 => Kd.ok (Kd.val undef) | 14 => Kd.ok (Kd.val undef) | 15 => Kd.ok (Kd.val undef) | 16 => Kd.ok (Kd.val undef) | 17 => Kd.ok (Kd.val (.bool true)) | _ => Kd.ok Kd.any
    have hst9 : ∀ j, StB (hgf9 j) := fun j => match j with | 0 => (Kd.st (Kd.val (.agg #[.int .i64 (F.1), .int .i64 (F.2.1), .int .i64 (F.2.2)])) : StB (Kd.ok (Kd.val (.agg #[.int .i64 (F.1), .int .i64 (F.2.1), .int .i64 (F.2.2)])))) | 1 => (Kd.st (Kd.val (.agg #[.int .i64 (W.1), .int .i64 (W.2.1), .int .i64 (W.2.2)])) : StB (Kd.ok (Kd.val (.agg #[.int .i64 (W.1), .int .i64 (W.2.1), .int .i64 (W.2.2)])))) | 2 => (SlcF.st : StB (SlcF 2 6 (fun j => ([(F.1), (F.2.1), (F.2.2), (W.1), (W.2.1), (W.2.2)] : List Int).getD j 0))) | 3 => (Kd.st (Kd.val (.bool true)) : StB (Kd.ok (Kd.val (.bool true)))) | 4 => (Kd.st (Kd.val (.bool false)) : StB (Kd.ok (Kd.val (.bool false)))) | 5 => (Kd.st (Kd.val (.bool false)) : StB (Kd.ok (Kd.val (.bool false)))) | 6 => (Kd.st (Kd.val (.int .i64 t)) : StB (Kd.ok (Kd.val (.int .i64 t)))) | 7 => (Kd.st (Kd.val (.bool false)) : StB (Kd.ok (Kd.val (.bool false)))) | 8 => (Kd.st (Kd.val (.bool true)) : StB (Kd.ok (Kd.val (.bool true)))) | 9 => (Kd.st (Kd.val (.bool true)) : StB (Kd.ok (Kd.val (.bool true)))) | 10 => (Kd.st (Kd.val (.bool true)) : StB (Kd.ok (Kd.val (.bool true)))) | 11 => (Kd.st (Kd.val undef) : StB (Kd.ok (Kd.val undef))) | 12 => (Kd.st (Kd.val undef) : StB (Kd.ok (Kd.val undef))) | 13 => (Kd.st (Kd.val undef) : StB (Kd.ok (Kd.val undef))) | 14 => (Kd.st (Kd.val undef) : StB (Kd.ok (Kd.val undef))) | 15 => (Kd.st (Kd.val undef) : StB (Kd.ok (Kd.val undef))) | 16 => (Kd.st (Kd.val undef) : StB (Kd.ok (Kd.val undef))) | 17 => (Kd.st (Kd.val (.bool true)) : StB (Kd.ok (Kd.val (.bool true)))) | j + 18 => (Kd.st Kd.any : StB (Kd.ok Kd.any))
    refine region_n (by kernel_rfl) (fun j => #[14,15,16,17,18,19,20,21,22,23,24,25,26,27,28,29,30,31].getD j 0) (hgf9) (Sy w (w.heap.size + 1 + 1 + 1 + 1) [(⟨w.heap.size, 0, none⟩, .int .i64 (F.1)), (⟨w.heap.size, 1, none⟩, .int .i64 (F.2.1)), (⟨w.heap.size, 2, none⟩, .int .i64 (F.2.2)), (⟨w.heap.size + 1, 0, none⟩, .int .i64 (W.1)), (⟨w.heap.size + 1, 1, none⟩, .int .i64 (W.2.1)), (⟨w.heap.size + 1, 2, none⟩, .int .i64 (W.2.2)), (⟨w.heap.size + 1 + 1, 0, none⟩, .int .i64 0), (⟨w.heap.size + 1 + 1, 1, none⟩, .int .i64 0), (⟨w.heap.size + 1 + 1, 2, none⟩, .int .i64 0), (⟨w.heap.size + 1 + 1 + 1, 0, none⟩, .int .i64 0), (⟨w.heap.size + 1 + 1 + 1, 1, none⟩, .int .i64 0), (⟨w.heap.size + 1 + 1 + 1, 2, none⟩, .int .i64 0)] [⟨w.heap.size + 1 + 1, 0, none⟩, ⟨w.heap.size + 1 + 1, 1, none⟩, ⟨w.heap.size + 1 + 1, 2, none⟩, ⟨w.heap.size + 1 + 1 + 1, 0, none⟩, ⟨w.heap.size + 1 + 1 + 1, 1, none⟩, ⟨w.heap.size + 1 + 1 + 1, 2, none⟩]) (fun j => #[true, true, true, true, true, true, true, true, true, true, true, false, false, false, false, false, false, true].getD j true) (by kernel_rfl) ?_ ?_ ?_ ?_ ?_ ?_
    ·intro j hj
     have hj2 : j < 18 := hj
     have : ∀ j, j < 18 → (#[14,15,16,17,18,19,20,21,22,23,24,25,26,27,28,29,30,31] : Array Nat).getD j 0 < 66 := by decide
     exact this j hj2
    ·intro i o ho
     match i, ho with
     | 0, ho => cases ho; intro aq wq hd; exact wanted_free rfl
     | 1, ho => cases ho; intro aq wq hd; exact wanted_free rfl
     | 2, ho => cases ho; intro aq wq hd; exact wanted_free rfl
     | 3, ho => cases ho; intro aq wq hd; exact wanted_free rfl
     | 4, ho => cases ho; intro aq wq hd; exact wanted_free rfl
     | 5, ho => cases ho; intro aq wq hd; exact wanted_free rfl
     | 6, ho => cases ho; intro aq wq hd; exact wanted_of (j := 5) (t := 19) (want := false) (b := false) rfl rfl (hd 5 (by decide +kernel))
     | 7, ho => cases ho; intro aq wq hd; exact wanted_of (j := 5) (t := 19) (want := false) (b := false) rfl rfl (hd 5 (by decide +kernel))
     | 8, ho => cases ho; intro aq wq hd; exact wanted_of (j := 5) (t := 19) (want := false) (b := false) rfl rfl (hd 5 (by decide +kernel))
     | 9, ho => cases ho; intro aq wq hd; exact wanted_free rfl
     | 10, ho => cases ho; intro aq wq hd; exact wanted_free rfl
     | 11, ho => cases ho; intro aq wq hd; exact wanted_of (j := 10) (t := 24) (want := false) (b := true) rfl rfl (hd 10 (by decide +kernel))
     | 12, ho => cases ho; intro aq wq hd; exact wanted_of (j := 10) (t := 24) (want := false) (b := true) rfl rfl (hd 10 (by decide +kernel))
     | 13, ho => cases ho; intro aq wq hd; exact wanted_of (j := 10) (t := 24) (want := false) (b := true) rfl rfl (hd 10 (by decide +kernel))
     | 14, ho => cases ho; intro aq wq hd; exact wanted_of (j := 10) (t := 24) (want := false) (b := true) rfl rfl (hd 10 (by decide +kernel))
     | 15, ho => cases ho; intro aq wq hd; exact wanted_of (j := 10) (t := 24) (want := false) (b := true) rfl rfl (hd 10 (by decide +kernel))
     | 16, ho => cases ho; intro aq wq hd; exact wanted_of (j := 10) (t := 24) (want := false) (b := true) rfl rfl (hd 10 (by decide +kernel))
     | 17, ho => cases ho; intro aq wq hd; exact wanted_free rfl
     | i + 18, ho => exact absurd ho (by simp)
    ·intro i o ho hr
     match i, ho with
     | 0, ho => exact absurd hr (by decide)
     | 1, ho => exact absurd hr (by decide)
     | 2, ho => exact absurd hr (by decide)
     | 3, ho => exact absurd hr (by decide)
     | 4, ho => exact absurd hr (by decide)
     | 5, ho => exact absurd hr (by decide)
     | 6, ho => exact absurd hr (by decide)
     | 7, ho => exact absurd hr (by decide)
     | 8, ho => exact absurd hr (by decide)
     | 9, ho => exact absurd hr (by decide)
     | 10, ho => exact absurd hr (by decide)
     | 11, ho => cases ho; exact ⟨rfl, fun _ _ => rfl⟩
     | 12, ho => cases ho; exact ⟨rfl, fun _ _ => rfl⟩
     | 13, ho => cases ho; exact ⟨rfl, fun _ _ => rfl⟩
     | 14, ho => cases ho; exact ⟨rfl, fun _ _ => rfl⟩
     | 15, ho => cases ho; exact ⟨rfl, fun _ _ => rfl⟩
     | 16, ho => cases ho; exact ⟨rfl, fun _ _ => rfl⟩
     | 17, ho => exact absurd hr (by decide)
     | i + 18, ho => exact absurd ho (by simp)
    ·refine Sy.drew (Sy.mk_of ?_ ?_ ?_ ?_)
     ·first | rfl | (simp; done) | (simp; omega)
     ·intro c hc
      simp only [List.mem_cons, List.not_mem_nil, or_false] at hc
      rcases hc with rfl | rfl | rfl | rfl | rfl | rfl | rfl | rfl | rfl | rfl | rfl | rfl <;> exact byCT
     ·intro p hp
      simp only [List.mem_cons, List.not_mem_nil, or_false] at hp
      rcases hp with rfl | rfl | rfl | rfl | rfl | rfl <;> exact ⟨by first | ((repeat' with_reducible (first | refine ex_set _ ?_ | refine ex_al _ ?_ | exact ⟨_, by assumption⟩)); done) | first | exact ⟨_, by assumption⟩ | assumption | (go_simp; done) | (go_simp; exact ⟨_, rfl⟩), by first | ((repeat' first | with_reducible (first | assumption | refine frz_al _ ?_ ?_ | refine frz_set _ ?_) | omega | (simp; omega)); done) | assumption | (go_simp; done)⟩
     ·(repeat' first | with_reducible (first | exact Below.refl _ _ | assumption | refine gr_alloc ?_ _ | refine below_drewN ?_ _ | refine below_drew ?_ | refine gr_call ?_ (by assumption) | refine Below.setCell ?_ ?_ _) | go_size | omega | (simp; omega))
    ·clear h1 h2 h3
     refine ⟨?r50x0, ?r50x1, ?r50x2, ?r50x3, ?r50x4, ?r50x5, ?r50x6, ?r50x7, ?r50x8, ?r50x9, ?r50x10, ?r50x11, ?r50x12, ?r50x13, ?r50x14, ?r50x15, ?r50x16, ?r50x17, trivial⟩
     case r50x11 => intro hr; exact absurd hr (by decide)
     case r50x12 => intro hr; exact absurd hr (by decide)
     case r50x13 => intro hr; exact absurd hr (by decide)
     case r50x14 => intro hr; exact absurd hr (by decide)
     case r50x15 => intro hr; exact absurd hr (by decide)
     case r50x16 => intro hr; exact absurd hr (by decide)
     all_goals intro _ aq wx Kq hf hS hdep ev1 ev2 hK
     case' r50x0 =>
      have F3 : aq.eval (.tmp 3) = .pointer (some ⟨w.heap.size, 0, none⟩) := hf 3
      have c0 := hS.cells (⟨w.heap.size, 0, none⟩, .int .i64 (F.1)) (by simp)
      have c1 := hS.cells (⟨w.heap.size, 1, none⟩, .int .i64 (F.2.1)) (by simp)
      have c2 := hS.cells (⟨w.heap.size, 2, none⟩, .int .i64 (F.2.2)) (by simp)
     case' r50x1 =>
      have F5 : aq.eval (.tmp 5) = .pointer (some ⟨w.heap.size + 1, 0, none⟩) := hf 5
      have c0 := hS.cells (⟨w.heap.size + 1, 0, none⟩, .int .i64 (W.1)) (by simp)
      have c1 := hS.cells (⟨w.heap.size + 1, 1, none⟩, .int .i64 (W.2.1)) (by simp)
      have c2 := hS.cells (⟨w.heap.size + 1, 2, none⟩, .int .i64 (W.2.2)) (by simp)
     case' r50x2 =>
      have D0 : aq.eval (.tmp 14) = _ := hdep 0
      have D1 : aq.eval (.tmp 15) = _ := hdep 1
     case' r50x3 =>
      obtain ⟨gs16, DP16, hcs16⟩ := hdep 2
      change aq.eval (.tmp 16) = _ at DP16
     case' r50x4 =>
      have D3 : aq.eval (.tmp 17) = _ := hdep 3
     case' r50x5 =>
      have D4 : aq.eval (.tmp 18) = _ := hdep 4
     case' r50x6 =>
      have F1 : aq.eval (.tmp 1) = .int .i64 t := hf 1
     case' r50x7 =>
      have D6 : aq.eval (.tmp 20) = _ := hdep 6
     case' r50x8 =>
      have D7 : aq.eval (.tmp 21) = _ := hdep 7
     case' r50x9 =>
      have D5 : aq.eval (.tmp 19) = _ := hdep 5
      have D8 : aq.eval (.tmp 22) = _ := hdep 8
     case' r50x10 =>
      have D9 : aq.eval (.tmp 23) = _ := hdep 9
     case' r50x17 =>
      have D10 : aq.eval (.tmp 24) = _ := hdep 10
      have D16 : aq.eval (.tmp 30) = _ := hdep 16
     all_goals (clear hf hdep; unfold Oper.wp; generalize Act.eval _ = ev at *; go_simp)
     case r50x2 =>
      refine hK _ _ (hS.call (below_alloc_self _ _)) ?_ (fun j u _ h => hst9 j _ _ _ (below_alloc_self _ _) h)
      rw [if_pos (by rfl)]
      refine ⟨_, rfl, fun j hj => ?_⟩
      rcases (show j = 0 ∨ j = 1 ∨ j = 2 ∨ j = 3 ∨ j = 4 ∨ j = 5 by omega) with rfl | rfl | rfl | rfl | rfl | rfl <;> (go_simp; done)
     case r50x3 =>
      refine ((dlTwo F W gs16 true _ hcs16 (unhide HK0))).mono ?_
      rintro e w2 ⟨rfl, hb⟩
      refine hK _ _ (hS.call hb) ?_ (fun j u _ h => hst9 j _ _ _ hb h)
      rw [if_pos (by rfl)]
      show (_ : Value) = _
      first | rfl | (refine congrArg (Value.int .i64) ?_; first | rfl | exact int_in (by omega) | exact quo_in (by omega) (by omega) (by omega) | exact rem_in (by omega) (by omega) | omega | rfl) | (simp; done) | (simp [*]; done)
     case r50x7 =>
      refine ((dlTime_rw t false _ (unhide HK1))).mono ?_
      rintro e w2 ⟨rfl, rfl⟩
      refine hK _ _ (hS.call (below_refl_self _)) ?_ (fun j u _ h => hst9 j _ _ _ (below_refl_self _) h)
      rw [if_pos (by rfl)]
      show (_ : Value) = _
      first | rfl | (refine congrArg (Value.int .i64) ?_; first | rfl | exact int_in (by omega) | exact quo_in (by omega) (by omega) (by omega) | exact rem_in (by omega) (by omega) | omega | rfl) | (simp; done) | (simp [*]; done)
     all_goals (refine hK _ _ hS ?_ (fun j u _ h => h); rw [if_pos (by rfl)]; show (_ : Value) = _; (first | rfl | (refine congrArg (Value.int .i64) ?_; first | rfl | exact int_in (by omega) | exact quo_in (by omega) (by omega) (by omega) | exact rem_in (by omega) (by omega) | omega | rfl) | (simp; done) | (simp [*]; done)))
    ·intro aq wx hd hw hf hS hg
     have G31 : tau aq 31 = .bool true := hg 17 (by decide)
     have haq : aq = ⟨#[tau aq 0, tau aq 1, tau aq 2, tau aq 3, tau aq 4, tau aq 5, tau aq 6, tau aq 7, tau aq 8, tau aq 9, tau aq 10, tau aq 11, tau aq 12, tau aq 13, tau aq 14, tau aq 15, tau aq 16, tau aq 17, tau aq 18, tau aq 19, tau aq 20, tau aq 21, tau aq 22, tau aq 23, tau aq 24, tau aq 25, tau aq 26, tau aq 27, tau aq 28, tau aq 29, tau aq 30, tau aq 31, tau aq 32, tau aq 33, tau aq 34, tau aq 35, tau aq 36, tau aq 37, tau aq 38, tau aq 39, tau aq 40, tau aq 41, tau aq 42, tau aq 43, tau aq 44, tau aq 45, tau aq 46, tau aq 47, tau aq 48, tau aq 49, tau aq 50, tau aq 51, tau aq 52, tau aq 53, tau aq 54, tau aq 55, tau aq 56, tau aq 57, tau aq 58, tau aq 59, tau aq 60, tau aq 61, tau aq 62, tau aq 63, tau aq 64, tau aq 65], []⟩ := by
      obtain ⟨tq, dq⟩ := aq
      have h5 := arr_eq (show tq.size = 66 from hw)
      have h6 : dq = [] := hd
      subst h6
      exact congrArg (fun z => Act.mk z []) h5
     show K2 aq wx
     rw [haq, hf 0, hf 1, hf 2, hf 3, hf 4, hf 5, hf 6, hf 7, hf 8, hf 9, hf 10, hf 11, hf 12, hf 13, hf 32, hf 33, hf 34, hf 35, hf 36, hf 37, hf 38, hf 39, hf 40, hf 41, hf 42, hf 43, hf 44, hf 45, hf 46, hf 47, hf 48, hf 49, hf 50, hf 51, hf 52, hf 53, hf 54, hf 55, hf 56, hf 57, hf 58, hf 59, hf 60, hf 61, hf 62, hf 63, hf 64, hf 65, G31]
     clear haq hf hd hw
     try dsimp only
     refine h3 _ _ ?_
     go_meet
     refine ⟨rfl, Ri3.m ?_ ?_ ?_, Ri3.m ?_ ?_ ?_, Wi3.m ?_ ?_ ?_ ?_ ?_ ?_, Wi3.m ?_ ?_ ?_ ?_ ?_ ?_, hS.below⟩
     all_goals first | exact hS.cells (_, _) (by simp) | exact (hS.free _ (by simp)).2
   try clear c00
   try clear c01
   try clear c02
   try clear c10
   try clear c11
   try clear c12
   try clear c20
   try clear c21
   try clear c22
   try clear c30
   try clear c31
   try clear c32
   try clear f20
   try clear f21
   try clear f22
   try clear f30
   try clear f31
   try clear f32
   obtain ⟨rfl, ⟨c00, c01, c02, z0⟩, ⟨c10, c11, c12, z1⟩, ⟨c20, c21, c22, f20, f21, f22, z2⟩, ⟨c30, c31, c32, f30, f31, f32, z3⟩, hb0⟩ := hcut
   go_wp2
   refine bodyPost_ret (v := .tuple #[.agg #[.int .i64 0, .int .i64 0, .int .i64 0], .agg #[.int .i64 0, .int .i64 0, .int .i64 0], .bool false]) (by simp [results, Tryz.results8, go_sem, *]) rfl ?_
   exact ⟨by rw [unhide HV], byGG⟩
  ·have ht : 0 ≤ t ∧ t ≤ 1000000 := by have := inB_true k1; omega
   cases k2 : soI (dT F) W
   ·have HK : Hid (soK F t W = true) := hide (by simp [soK, k0, k1, k2])
    have HK0 : Hid (prB F W = true) := hide k0
    have HK1 : Hid (tmB t = true) := hide k1
    obtain ⟨R, hR⟩ : ∃ R, R = rdT W := ⟨_, rfl⟩
    obtain ⟨O, hO⟩ : ∃ O, O = onT (dT F) := ⟨_, rfl⟩
    have hqq : eqT R O = false := by rw [hR, hO]; exact k2
    replace hR := hide hR
    replace hO := hide hO
    obtain ⟨S, hS9⟩ : ∃ S, S = sqN (rdT F) t.toNat := ⟨_, rfl⟩
    have fS : Frm (dT F) S := by rw [hS9]; exact hF.sq _
    obtain ⟨G, hG⟩ : ∃ G, G = cmp S W := ⟨_, rfl⟩
    have fG : Frm (dT F) G := by rw [hG]; exact fS.cp hW
    have hGe : Hid (G = soG F t W) := hide (by rw [hG, hS9]; rfl)
    obtain ⟨L, hL⟩ : ∃ L, L = dpL F G t := ⟨_, rfl⟩
    have hLe : Hid (L = soL F t W) := hide (by rw [hL, unhide hGe]; rfl)
    have hl := dpL_bd F G t
    rw [← hL] at hl
    have hl2 : L ≤ 1000 := by omega
    obtain ⟨n, hn⟩ : ∃ n : Int, n = (odN (dT F) W : Int) := ⟨_, rfl⟩
    have hn2 : Hid (n = soN F W) := hide hn
    have hnb : 1 ≤ n ∧ n ≤ 2000 := by have := od_is hW.i; unfold IsOd at this; omega
    obtain ⟨Pq, hPq⟩ : ∃ Pq, Pq = quD (dT F) F t L := ⟨_, rfl⟩
    have fPq : Frm (dT F) Pq := by rw [hPq]; exact hF.qu _ _
    obtain ⟨V, hV0⟩ : ∃ V, V = cmp (quD (dT F) F t L) (pwD (dT F) W (invI L n)) := ⟨_, rfl⟩
    have hVe : Hid (igcd (soL F t W) (soN F W) = 1 → soV F t W = V) := hide (fun _ => by rw [hV0, unhide hLe, hn]; rfl)
    replace hS9 := hide hS9
    replace hG := hide hG
    replace hL := hide hL
    replace hn := hide hn
    replace hPq := hide hPq
    replace hV0 := hide hV0
    go_enter Tryz.func8, Tryz.ntmps8
    go_upto_region 1 with fail
    go_cut [31] (fun s31 wx => s31 = .bool false ∧ Ri3 wx w.heap.size F.1 F.2.1 F.2.2 ∧ Ri3 wx (w.heap.size + 1) W.1 W.2.1 W.2.2 ∧ Wi3 wx (w.heap.size + 1 + 1) 0 0 0 ∧ Wi3 wx (w.heap.size + 1 + 1 + 1) 0 0 0 ∧ Below w.heap.size w wx)
    case first =>
     have h1 := trivial
     rename_i K2 h2 h3
     let hgf9 : Nat → World → Value → Prop := fun j => match j with | 0 => Kd.ok (Kd.val (.agg #[.int .i64 (F.1), .int .i64 (F.2.1), .int .i64 (F.2.2)])) | 1 => Kd.ok (Kd.val (.agg #[.int .i64 (W.1), .int .i64 (W.2.1), .int .i64 (W.2.2)])) | 2 => (SlcF 2 6 (fun j => ([(F.1), (F.2.1), (F.2.2), (W.1), (W.2.1), (W.2.2)] : List Int).getD j 0)) | 3 => Kd.ok (Kd.val (.bool true)) | 4 => Kd.ok (Kd.val (.bool false)) | 5 => Kd.ok (Kd.val (.bool false)) | 6 => Kd.ok (Kd.val (.int .i64 t)) | 7 => Kd.ok (Kd.val (.bool true)) | 8 => Kd.ok (Kd.val (.bool false)) | 9 => Kd.ok (Kd.val (.bool false)) | 10 => Kd.ok (Kd.val (.bool false)) | 11 => Kd.ok (Kd.val (.agg #[.int .i64 (W.1), .int .i64 (W.2.1), .int .i64 (W.2.2)])) | 12 => Kd.ok (Kd.val (.agg #[.int .i64 (R.1), .int .i64 (R.2.1), .int .i64 (R.2.2)])) | 13 => Kd.ok (Kd.val (.agg #[.int .i64 (W.1), .int .i64 (W.2.1), .int .i64 (W.2.2)])) | 14 => Kd.ok (Kd.val (.int .i64 ((dT F)))) | 15 => Kd.ok (Kd.val (.agg #[.int .i64 (O.1), .int .i64 (O.2.1), .int .i64 (O.2.2)])) | 16 => Kd.ok (Kd.val (.bool false)) | 17 => Kd.ok (Kd.val (.bool false)) | _ => Kd.ok Kd.any
     have hst9 : ∀ j, StB (hgf9 j) := fun j => match j with | 0 => (Kd.st (Kd.val (.agg #[.int .i64 (F.1), .int .i64 (F.2.1), .int .i64 (F.2.2)])) : StB (Kd.ok (Kd.val (.agg #[.int .i64 (F.1), .int .i64 (F.2.1), .int .i64 (F.2.2)])))) | 1 => (Kd.st (Kd.val (.agg #[.int .i64 (W.1), .int .i64 (W.2.1), .int .i64 (W.2.2)])) : StB (Kd.ok (Kd.val (.agg #[.int .i64 (W.1), .int .i64 (W.2.1), .int .i64 (W.2.2)])))) | 2 => (SlcF.st : StB (SlcF 2 6 (fun j => ([(F.1), (F.2.1), (F.2.2), (W.1), (W.2.1), (W.2.2)] : List Int).getD j 0))) | 3 => (Kd.st (Kd.val (.bool true)) : StB (Kd.ok (Kd.val (.bool true)))) | 4 => (Kd.st (Kd.val (.bool false)) : StB (Kd.ok (Kd.val (.bool false)))) | 5 => (Kd.st (Kd.val (.bool false)) : StB (Kd.ok (Kd.val (.bool false)))) | 6 => (Kd.st (Kd.val (.int .i64 t)) : StB (Kd.ok (Kd.val (.int .i64 t)))) | 7 => (Kd.st (Kd.val (.bool true)) : StB (Kd.ok (Kd.val (.bool true)))) | 8 => (Kd.st (Kd.val (.bool false)) : StB (Kd.ok (Kd.val (.bool false)))) | 9 => (Kd.st (Kd.val (.bool false)) : StB (Kd.ok (Kd.val (.bool false)))) | 10 => (Kd.st (Kd.val (.bool false)) : StB (Kd.ok (Kd.val (.bool false)))) | 11 => (Kd.st (Kd.val (.agg #[.int .i64 (W.1), .int .i64 (W.2.1), .int .i64 (W.2.2)])) : StB (Kd.ok (Kd.val (.agg #[.int .i64 (W.1), .int .i64 (W.2.1), .int .i64 (W.2.2)])))) | 12 => (Kd.st (Kd.val (.agg #[.int .i64 (R.1), .int .i64 (R.2.1), .int .i64 (R.2.2)])) : StB (Kd.ok (Kd.val (.agg #[.int .i64 (R.1), .int .i64 (R.2.1), .int .i64 (R.2.2)])))) | 13 => (Kd.st (Kd.val (.agg #[.int .i64 (W.1), .int .i64 (W.2.1), .int .i64 (W.2.2)])) : StB (Kd.ok (Kd.val (.agg #[.int .i64 (W.1), .int .i64 (W.2.1), .int .i64 (W.2.2)])))) | 14 => (Kd.st (Kd.val (.int .i64 ((dT F)))) : StB (Kd.ok (Kd.val (.int .i64 ((dT F)))))) | 15 => (Kd.st (Kd.val (.agg #[.int .i64 (O.1), .int .i64 (O.2.1), .int .i64 (O.2.2)])) : StB (Kd.ok (Kd.val (.agg #[.int .i64 (O.1), .int .i64 (O.2.1), .int .i64 (O.2.2)])))) | 16 => (Kd.st (Kd.val (.bool false)) : StB (Kd.ok (Kd.val (.bool false)))) | 17 => (Kd.st (Kd.val (.bool false)) : StB (Kd.ok (Kd.val (.bool false)))) | j + 18 => (Kd.st Kd.any : StB (Kd.ok Kd.any))
     refine region_n (by kernel_rfl) (fun j => #[14,15,16,17,18,19,20,21,22,23,24,25,26,27,28,29,30,31].getD j 0) (hgf9) (Sy w (w.heap.size + 1 + 1 + 1 + 1) [(⟨w.heap.size, 0, none⟩, .int .i64 (F.1)), (⟨w.heap.size, 1, none⟩, .int .i64 (F.2.1)), (⟨w.heap.size, 2, none⟩, .int .i64 (F.2.2)), (⟨w.heap.size + 1, 0, none⟩, .int .i64 (W.1)), (⟨w.heap.size + 1, 1, none⟩, .int .i64 (W.2.1)), (⟨w.heap.size + 1, 2, none⟩, .int .i64 (W.2.2)), (⟨w.heap.size + 1 + 1, 0, none⟩, .int .i64 0), (⟨w.heap.size + 1 + 1, 1, none⟩, .int .i64 0), (⟨w.heap.size + 1 + 1, 2, none⟩, .int .i64 0), (⟨w.heap.size + 1 + 1 + 1, 0, none⟩, .int .i64 0), (⟨w.heap.size + 1 + 1 + 1, 1, none⟩, .int .i64 0), (⟨w.heap.size + 1 + 1 + 1, 2, none⟩, .int .i64 0)] [⟨w.heap.size + 1 + 1, 0, none⟩, ⟨w.heap.size + 1 + 1, 1, none⟩, ⟨w.heap.size + 1 + 1, 2, none⟩, ⟨w.heap.size + 1 + 1 + 1, 0, none⟩, ⟨w.heap.size + 1 + 1 + 1, 1, none⟩, ⟨w.heap.size + 1 + 1 + 1, 2, none⟩]) (fun j => #[true, true, true, true, true, true, true, true, true, true, true, true, true, true, true, true, true, true].getD j true) (by kernel_rfl) ?_ ?_ ?_ ?_ ?_ ?_
     ·intro j hj
      have hj2 : j < 18 := hj
      have : ∀ j, j < 18 → (#[14,15,16,17,18,19,20,21,22,23,24,25,26,27,28,29,30,31] : Array Nat).getD j 0 < 66 := by decide
      exact this j hj2
     ·intro i o ho
      match i, ho with
      | 0, ho => cases ho; intro aq wq hd; exact wanted_free rfl
      | 1, ho => cases ho; intro aq wq hd; exact wanted_free rfl
      | 2, ho => cases ho; intro aq wq hd; exact wanted_free rfl
      | 3, ho => cases ho; intro aq wq hd; exact wanted_free rfl
      | 4, ho => cases ho; intro aq wq hd; exact wanted_free rfl
      | 5, ho => cases ho; intro aq wq hd; exact wanted_free rfl
      | 6, ho => cases ho; intro aq wq hd; exact wanted_of (j := 5) (t := 19) (want := false) (b := false) rfl rfl (hd 5 (by decide +kernel))
      | 7, ho => cases ho; intro aq wq hd; exact wanted_of (j := 5) (t := 19) (want := false) (b := false) rfl rfl (hd 5 (by decide +kernel))
      | 8, ho => cases ho; intro aq wq hd; exact wanted_of (j := 5) (t := 19) (want := false) (b := false) rfl rfl (hd 5 (by decide +kernel))
      | 9, ho => cases ho; intro aq wq hd; exact wanted_free rfl
      | 10, ho => cases ho; intro aq wq hd; exact wanted_free rfl
      | 11, ho => cases ho; intro aq wq hd; exact wanted_of (j := 10) (t := 24) (want := false) (b := false) rfl rfl (hd 10 (by decide +kernel))
      | 12, ho => cases ho; intro aq wq hd; exact wanted_of (j := 10) (t := 24) (want := false) (b := false) rfl rfl (hd 10 (by decide +kernel))
      | 13, ho => cases ho; intro aq wq hd; exact wanted_of (j := 10) (t := 24) (want := false) (b := false) rfl rfl (hd 10 (by decide +kernel))
      | 14, ho => cases ho; intro aq wq hd; exact wanted_of (j := 10) (t := 24) (want := false) (b := false) rfl rfl (hd 10 (by decide +kernel))
      | 15, ho => cases ho; intro aq wq hd; exact wanted_of (j := 10) (t := 24) (want := false) (b := false) rfl rfl (hd 10 (by decide +kernel))
      | 16, ho => cases ho; intro aq wq hd; exact wanted_of (j := 10) (t := 24) (want := false) (b := false) rfl rfl (hd 10 (by decide +kernel))
      | 17, ho => cases ho; intro aq wq hd; exact wanted_free rfl
      | i + 18, ho => exact absurd ho (by simp)
     ·intro i o ho hr
      match i, ho with
      | 0, ho => exact absurd hr (by decide)
      | 1, ho => exact absurd hr (by decide)
      | 2, ho => exact absurd hr (by decide)
      | 3, ho => exact absurd hr (by decide)
      | 4, ho => exact absurd hr (by decide)
      | 5, ho => exact absurd hr (by decide)
      | 6, ho => exact absurd hr (by decide)
      | 7, ho => exact absurd hr (by decide)
      | 8, ho => exact absurd hr (by decide)
      | 9, ho => exact absurd hr (by decide)
      | 10, ho => exact absurd hr (by decide)
      | 11, ho => exact absurd hr (by decide)
      | 12, ho => exact absurd hr (by decide)
      | 13, ho => exact absurd hr (by decide)
      | 14, ho => exact absurd hr (by decide)
      | 15, ho => exact absurd hr (by decide)
      | 16, ho => exact absurd hr (by decide)
      | 17, ho => exact absurd hr (by decide)
      | i + 18, ho => exact absurd ho (by simp)
     ·refine Sy.drew (Sy.mk_of ?_ ?_ ?_ ?_)
      ·first | rfl | (simp; done) | (simp; omega)
      ·intro c hc
       simp only [List.mem_cons, List.not_mem_nil, or_false] at hc
       rcases hc with rfl | rfl | rfl | rfl | rfl | rfl | rfl | rfl | rfl | rfl | rfl | rfl <;> exact byCT
      ·intro p hp
       simp only [List.mem_cons, List.not_mem_nil, or_false] at hp
       rcases hp with rfl | rfl | rfl | rfl | rfl | rfl <;> exact ⟨by first | ((repeat' with_reducible (first | refine ex_set _ ?_ | refine ex_al _ ?_ | exact ⟨_, by assumption⟩)); done) | first | exact ⟨_, by assumption⟩ | assumption | (go_simp; done) | (go_simp; exact ⟨_, rfl⟩), by first | ((repeat' first | with_reducible (first | assumption | refine frz_al _ ?_ ?_ | refine frz_set _ ?_) | omega | (simp; omega)); done) | assumption | (go_simp; done)⟩
      ·(repeat' first | with_reducible (first | exact Below.refl _ _ | assumption | refine gr_alloc ?_ _ | refine below_drewN ?_ _ | refine below_drew ?_ | refine gr_call ?_ (by assumption) | refine Below.setCell ?_ ?_ _) | go_size | omega | (simp; omega))
     ·clear h1 h2 h3
      refine ⟨?r51x0, ?r51x1, ?r51x2, ?r51x3, ?r51x4, ?r51x5, ?r51x6, ?r51x7, ?r51x8, ?r51x9, ?r51x10, ?r51x11, ?r51x12, ?r51x13, ?r51x14, ?r51x15, ?r51x16, ?r51x17, trivial⟩
      all_goals intro _ aq wx Kq hf hS hdep ev1 ev2 hK
      case' r51x0 =>
       have F3 : aq.eval (.tmp 3) = .pointer (some ⟨w.heap.size, 0, none⟩) := hf 3
       have c0 := hS.cells (⟨w.heap.size, 0, none⟩, .int .i64 (F.1)) (by simp)
       have c1 := hS.cells (⟨w.heap.size, 1, none⟩, .int .i64 (F.2.1)) (by simp)
       have c2 := hS.cells (⟨w.heap.size, 2, none⟩, .int .i64 (F.2.2)) (by simp)
      case' r51x1 =>
       have F5 : aq.eval (.tmp 5) = .pointer (some ⟨w.heap.size + 1, 0, none⟩) := hf 5
       have c0 := hS.cells (⟨w.heap.size + 1, 0, none⟩, .int .i64 (W.1)) (by simp)
       have c1 := hS.cells (⟨w.heap.size + 1, 1, none⟩, .int .i64 (W.2.1)) (by simp)
       have c2 := hS.cells (⟨w.heap.size + 1, 2, none⟩, .int .i64 (W.2.2)) (by simp)
      case' r51x2 =>
       have D0 : aq.eval (.tmp 14) = _ := hdep 0
       have D1 : aq.eval (.tmp 15) = _ := hdep 1
      case' r51x3 =>
       obtain ⟨gs16, DP16, hcs16⟩ := hdep 2
       change aq.eval (.tmp 16) = _ at DP16
      case' r51x4 =>
       have D3 : aq.eval (.tmp 17) = _ := hdep 3
      case' r51x5 =>
       have D4 : aq.eval (.tmp 18) = _ := hdep 4
      case' r51x6 =>
       have F1 : aq.eval (.tmp 1) = .int .i64 t := hf 1
      case' r51x7 =>
       have D6 : aq.eval (.tmp 20) = _ := hdep 6
      case' r51x8 =>
       have D7 : aq.eval (.tmp 21) = _ := hdep 7
      case' r51x9 =>
       have D5 : aq.eval (.tmp 19) = _ := hdep 5
       have D8 : aq.eval (.tmp 22) = _ := hdep 8
      case' r51x10 =>
       have D9 : aq.eval (.tmp 23) = _ := hdep 9
      case' r51x11 =>
       have F5 : aq.eval (.tmp 5) = .pointer (some ⟨w.heap.size + 1, 0, none⟩) := hf 5
       have c0 := hS.cells (⟨w.heap.size + 1, 0, none⟩, .int .i64 (W.1)) (by simp)
       have c1 := hS.cells (⟨w.heap.size + 1, 1, none⟩, .int .i64 (W.2.1)) (by simp)
       have c2 := hS.cells (⟨w.heap.size + 1, 2, none⟩, .int .i64 (W.2.2)) (by simp)
      case' r51x12 =>
       have D11 : aq.eval (.tmp 25) = _ := hdep 11
      case' r51x13 =>
       have F5 : aq.eval (.tmp 5) = .pointer (some ⟨w.heap.size + 1, 0, none⟩) := hf 5
       have c0 := hS.cells (⟨w.heap.size + 1, 0, none⟩, .int .i64 (W.1)) (by simp)
       have c1 := hS.cells (⟨w.heap.size + 1, 1, none⟩, .int .i64 (W.2.1)) (by simp)
       have c2 := hS.cells (⟨w.heap.size + 1, 2, none⟩, .int .i64 (W.2.2)) (by simp)
      case' r51x14 =>
       have D13 : aq.eval (.tmp 27) = _ := hdep 13
      case' r51x15 =>
       have D14 : aq.eval (.tmp 28) = _ := hdep 14
      case' r51x16 =>
       have D12 : aq.eval (.tmp 26) = _ := hdep 12
       have D15 : aq.eval (.tmp 29) = _ := hdep 15
      case' r51x17 =>
       have D10 : aq.eval (.tmp 24) = _ := hdep 10
       have D16 : aq.eval (.tmp 30) = _ := hdep 16
      all_goals (clear hf hdep; unfold Oper.wp; generalize Act.eval _ = ev at *; go_simp)
      case r51x2 =>
       refine hK _ _ (hS.call (below_alloc_self _ _)) ?_ (fun j u _ h => hst9 j _ _ _ (below_alloc_self _ _) h)
       rw [if_pos (by rfl)]
       refine ⟨_, rfl, fun j hj => ?_⟩
       rcases (show j = 0 ∨ j = 1 ∨ j = 2 ∨ j = 3 ∨ j = 4 ∨ j = 5 by omega) with rfl | rfl | rfl | rfl | rfl | rfl <;> (go_simp; done)
      case r51x3 =>
       refine ((dlTwo F W gs16 true _ hcs16 (unhide HK0))).mono ?_
       rintro e w2 ⟨rfl, hb⟩
       refine hK _ _ (hS.call hb) ?_ (fun j u _ h => hst9 j _ _ _ hb h)
       rw [if_pos (by rfl)]
       show (_ : Value) = _
       first | rfl | (refine congrArg (Value.int .i64) ?_; first | rfl | exact int_in (by omega) | exact quo_in (by omega) (by omega) (by omega) | exact rem_in (by omega) (by omega) | omega | rfl) | (simp; done) | (simp [*]; done)
      case r51x7 =>
       refine ((dlTime_rw t true _ (unhide HK1))).mono ?_
       rintro e w2 ⟨rfl, rfl⟩
       refine hK _ _ (hS.call (below_refl_self _)) ?_ (fun j u _ h => hst9 j _ _ _ (below_refl_self _) h)
       rw [if_pos (by rfl)]
       show (_ : Value) = _
       first | rfl | (refine congrArg (Value.int .i64) ?_; first | rfl | exact int_in (by omega) | exact quo_in (by omega) (by omega) (by omega) | exact rem_in (by omega) (by omega) | omega | rfl) | (simp; done) | (simp [*]; done)
      case r51x12 =>
       refine ((rd_rws W R _ hW.i (unhide hR))).mono ?_
       rintro e w2 ⟨rfl, hb⟩
       refine hK _ _ (hS.call hb) ?_ (fun j u _ h => hst9 j _ _ _ hb h)
       rw [if_pos (by rfl)]
       show (_ : Value) = _
       first | rfl | (refine congrArg (Value.int .i64) ?_; first | rfl | exact int_in (by omega) | exact quo_in (by omega) (by omega) (by omega) | exact rem_in (by omega) (by omega) | omega | rfl) | (simp; done) | (simp [*]; done)
      case r51x14 =>
       refine ((foDisc_D W _ hW.i hW.f)).mono ?_
       rintro e w2 ⟨rfl, hb⟩
       refine hK _ _ (hS.call hb) ?_ (fun j u _ h => hst9 j _ _ _ hb h)
       rw [if_pos (by rfl)]
       show (_ : Value) = _
       first | rfl | (refine congrArg (Value.int .i64) ?_; first | rfl | exact int_in (by omega) | exact quo_in (by omega) (by omega) (by omega) | exact rem_in (by omega) (by omega) | omega | rfl) | (simp; done) | (simp [*]; done)
      case r51x15 =>
       refine ((co_rws O _ hdd.1 hdd.2 (unhide hO))).mono ?_
       rintro e w2 ⟨rfl, hb⟩
       refine hK _ _ (hS.call hb) ?_ (fun j u _ h => hst9 j _ _ _ hb h)
       rw [if_pos (by rfl)]
       show (_ : Value) = _
       first | rfl | (refine congrArg (Value.int .i64) ?_; first | rfl | exact int_in (by omega) | exact quo_in (by omega) (by omega) (by omega) | exact rem_in (by omega) (by omega) | omega | rfl) | (simp; done) | (simp [*]; done)
      case' r51x16 =>
       rw [eq3_res, Oper.upon_value]
      all_goals (refine hK _ _ hS ?_ (fun j u _ h => h); rw [if_pos (by rfl)]; show (_ : Value) = _; (first | rfl | (refine congrArg (Value.int .i64) ?_; first | rfl | exact int_in (by omega) | exact quo_in (by omega) (by omega) (by omega) | exact rem_in (by omega) (by omega) | omega | rfl) | (simp; done) | (simp [*]; done)))
     ·intro aq wx hd hw hf hS hg
      have G31 : tau aq 31 = .bool false := hg 17 (by decide)
      have haq : aq = ⟨#[tau aq 0, tau aq 1, tau aq 2, tau aq 3, tau aq 4, tau aq 5, tau aq 6, tau aq 7, tau aq 8, tau aq 9, tau aq 10, tau aq 11, tau aq 12, tau aq 13, tau aq 14, tau aq 15, tau aq 16, tau aq 17, tau aq 18, tau aq 19, tau aq 20, tau aq 21, tau aq 22, tau aq 23, tau aq 24, tau aq 25, tau aq 26, tau aq 27, tau aq 28, tau aq 29, tau aq 30, tau aq 31, tau aq 32, tau aq 33, tau aq 34, tau aq 35, tau aq 36, tau aq 37, tau aq 38, tau aq 39, tau aq 40, tau aq 41, tau aq 42, tau aq 43, tau aq 44, tau aq 45, tau aq 46, tau aq 47, tau aq 48, tau aq 49, tau aq 50, tau aq 51, tau aq 52, tau aq 53, tau aq 54, tau aq 55, tau aq 56, tau aq 57, tau aq 58, tau aq 59, tau aq 60, tau aq 61, tau aq 62, tau aq 63, tau aq 64, tau aq 65], []⟩ := by
       obtain ⟨tq, dq⟩ := aq
       have h5 := arr_eq (show tq.size = 66 from hw)
       have h6 : dq = [] := hd
       subst h6
       exact congrArg (fun z => Act.mk z []) h5
      show K2 aq wx
      rw [haq, hf 0, hf 1, hf 2, hf 3, hf 4, hf 5, hf 6, hf 7, hf 8, hf 9, hf 10, hf 11, hf 12, hf 13, hf 32, hf 33, hf 34, hf 35, hf 36, hf 37, hf 38, hf 39, hf 40, hf 41, hf 42, hf 43, hf 44, hf 45, hf 46, hf 47, hf 48, hf 49, hf 50, hf 51, hf 52, hf 53, hf 54, hf 55, hf 56, hf 57, hf 58, hf 59, hf 60, hf 61, hf 62, hf 63, hf 64, hf 65, G31]
      clear haq hf hd hw
      try dsimp only
      refine h3 _ _ ?_
      go_meet
      refine ⟨rfl, Ri3.m ?_ ?_ ?_, Ri3.m ?_ ?_ ?_, Wi3.m ?_ ?_ ?_ ?_ ?_ ?_, Wi3.m ?_ ?_ ?_ ?_ ?_ ?_, hS.below⟩
      all_goals first | exact hS.cells (_, _) (by simp) | exact (hS.free _ (by simp)).2
    try clear c00
    try clear c01
    try clear c02
    try clear c10
    try clear c11
    try clear c12
    try clear c20
    try clear c21
    try clear c22
    try clear c30
    try clear c31
    try clear c32
    try clear f20
    try clear f21
    try clear f22
    try clear f30
    try clear f31
    try clear f32
    obtain ⟨rfl, ⟨c00, c01, c02, z0⟩, ⟨c10, c11, c12, z1⟩, ⟨c20, c21, c22, f20, f21, f22, z2⟩, ⟨c30, c31, c32, f30, f31, f32, z3⟩, hb0⟩ := hcut
    obtain ⟨wa, rfl⟩ : ∃ wa : World, wa = wc := ⟨_, rfl⟩
    go_upto_region 3 with fail
    go_cut [9] (fun s9 wx => ∃ g9 : Nat, s9 = .pointer (some ⟨g9, 0, none⟩) ∧ Ri3 wx w.heap.size F.1 F.2.1 F.2.2 ∧ Ri3 wx (w.heap.size + 1) W.1 W.2.1 W.2.2 ∧ Wi3 wx (w.heap.size + 1 + 1) 0 0 0 ∧ Wi3 wx (w.heap.size + 1 + 1 + 1) 0 0 0 ∧ Wi3 wx g9 G.1 G.2.1 G.2.2 ∧ Below w.heap.size w wx ∧ wa.heap.size ≤ g9)
    case first =>
     have h1 := trivial
     rename_i K2 h2 h3
     refine region_n0 (by kernel_rfl) (fun j => #[34,35,36,37,38,9,9].getD j 0) (fun j => Kd.ok ((fun j => match j with | 0 => Kd.val (.agg #[.int .i64 (F.1), .int .i64 (F.2.1), .int .i64 (F.2.2)]) | 1 => Kd.val (.int .i64 t) | 2 => Kd.val (.agg #[.int .i64 (S.1), .int .i64 (S.2.1), .int .i64 (S.2.2)]) | 3 => Kd.val (.agg #[.int .i64 (W.1), .int .i64 (W.2.1), .int .i64 (W.2.2)]) | 4 => Kd.val (.agg #[.int .i64 (G.1), .int .i64 (G.2.1), .int .i64 (G.2.2)]) | 5 => Kd.own (wa.heap.size) 3 | 6 => Kd.held (wa.heap.size) [.int .i64 (G.1), .int .i64 (G.2.1), .int .i64 (G.2.2)] | _ => Kd.any : Nat → Kd) j)) (Sy w (wa.heap.size) [(⟨w.heap.size, 0, none⟩, .int .i64 (F.1)), (⟨w.heap.size, 1, none⟩, .int .i64 (F.2.1)), (⟨w.heap.size, 2, none⟩, .int .i64 (F.2.2)), (⟨w.heap.size + 1, 0, none⟩, .int .i64 (W.1)), (⟨w.heap.size + 1, 1, none⟩, .int .i64 (W.2.1)), (⟨w.heap.size + 1, 2, none⟩, .int .i64 (W.2.2)), (⟨w.heap.size + 1 + 1, 0, none⟩, .int .i64 0), (⟨w.heap.size + 1 + 1, 1, none⟩, .int .i64 0), (⟨w.heap.size + 1 + 1, 2, none⟩, .int .i64 0), (⟨w.heap.size + 1 + 1 + 1, 0, none⟩, .int .i64 0), (⟨w.heap.size + 1 + 1 + 1, 1, none⟩, .int .i64 0), (⟨w.heap.size + 1 + 1 + 1, 2, none⟩, .int .i64 0)] [⟨w.heap.size + 1 + 1, 0, none⟩, ⟨w.heap.size + 1 + 1, 1, none⟩, ⟨w.heap.size + 1 + 1, 2, none⟩, ⟨w.heap.size + 1 + 1 + 1, 0, none⟩, ⟨w.heap.size + 1 + 1 + 1, 1, none⟩, ⟨w.heap.size + 1 + 1 + 1, 2, none⟩]) (by kernel_rfl) (by kernel_rfl) ?_ ?_ ?_ ?_
     ·intro j hj
      have hj2 : j < 7 := hj
      have : ∀ j, j < 7 → (#[34,35,36,37,38,9,9] : Array Nat).getD j 0 < 66 := by decide
      exact this j hj2
     ·refine Sy.drew (Sy.mk_of ?_ ?_ ?_ ?_)
      ·first | rfl | (simp; done) | (simp; omega)
      ·intro c hc
       simp only [List.mem_cons, List.not_mem_nil, or_false] at hc
       rcases hc with rfl | rfl | rfl | rfl | rfl | rfl | rfl | rfl | rfl | rfl | rfl | rfl <;> exact byCT
      ·intro p hp
       simp only [List.mem_cons, List.not_mem_nil, or_false] at hp
       rcases hp with rfl | rfl | rfl | rfl | rfl | rfl <;> exact ⟨by first | ((repeat' with_reducible (first | refine ex_set _ ?_ | refine ex_al _ ?_ | exact ⟨_, by assumption⟩)); done) | first | exact ⟨_, by assumption⟩ | assumption | (go_simp; done) | (go_simp; exact ⟨_, rfl⟩), by first | ((repeat' first | with_reducible (first | assumption | refine frz_al _ ?_ ?_ | refine frz_set _ ?_) | omega | (simp; omega)); done) | assumption | (go_simp; done)⟩
      ·(repeat' first | with_reducible (first | exact Below.refl _ _ | assumption | refine gr_alloc ?_ _ | refine below_drewN ?_ _ | refine below_drew ?_ | refine gr_call ?_ (by assumption) | refine Below.setCell ?_ ?_ _) | go_size | omega | (simp; omega))
     ·clear h1 h2 h3
      try clear c00
      try clear c01
      try clear c02
      try clear c10
      try clear c11
      try clear c12
      try clear c20
      try clear c21
      try clear c22
      try clear c30
      try clear c31
      try clear c32
      try clear f20
      try clear f21
      try clear f22
      try clear f30
      try clear f31
      try clear f32
      refine ⟨?r46x0, ?r46x1, ?r46x2, ?r46x3, ?r46x4, ?r46x5, ?r46x6, trivial⟩
      all_goals intro _ aq wx Kq hf hS hdep ev1 ev2 hK
      case' r46x0 =>
       have F3 : aq.eval (.tmp 3) = .pointer (some ⟨w.heap.size, 0, none⟩) := hf 3
       have c0 := hS.cells (⟨w.heap.size, 0, none⟩, .int .i64 (F.1)) (by simp)
       have c1 := hS.cells (⟨w.heap.size, 1, none⟩, .int .i64 (F.2.1)) (by simp)
       have c2 := hS.cells (⟨w.heap.size, 2, none⟩, .int .i64 (F.2.2)) (by simp)
      case' r46x1 =>
       have F1 : aq.eval (.tmp 1) = .int .i64 t := hf 1
      case' r46x2 =>
       have D0 : aq.eval (.tmp 34) = _ := hdep 0
       have D1 : aq.eval (.tmp 35) = _ := hdep 1
      case' r46x3 =>
       have F5 : aq.eval (.tmp 5) = .pointer (some ⟨w.heap.size + 1, 0, none⟩) := hf 5
       have c0 := hS.cells (⟨w.heap.size + 1, 0, none⟩, .int .i64 (W.1)) (by simp)
       have c1 := hS.cells (⟨w.heap.size + 1, 1, none⟩, .int .i64 (W.2.1)) (by simp)
       have c2 := hS.cells (⟨w.heap.size + 1, 2, none⟩, .int .i64 (W.2.2)) (by simp)
      case' r46x4 =>
       have D2 : aq.eval (.tmp 36) = _ := hdep 2
       have D3 : aq.eval (.tmp 37) = _ := hdep 3
      case' r46x6 =>
       have D4 : aq.eval (.tmp 38) = _ := hdep 4
       obtain ⟨gn, D5, r1, r2, r3⟩ := hdep 5
       change aq.eval (.tmp 9) = _ at D5
       obtain ⟨⟨vx0, cx0⟩, cf0⟩ := r3 0 (by decide)
       obtain ⟨⟨vx1, cx1⟩, cf1⟩ := r3 1 (by decide)
       obtain ⟨⟨vx2, cx2⟩, cf2⟩ := r3 2 (by decide)
       have D5' : tau aq 9 = _ := D5
      all_goals (clear hf hdep; unfold Oper.wp; generalize Act.eval _ = ev at *; go_simp)
      case r46x2 =>
       refine ((sq_rws F S t _ hF.i ht.1 ht.2 (unhide hS9))).mono ?_
       rintro e w2 ⟨rfl, hb⟩
       refine hK _ _ (hS.call hb) ?_ (fun j u _ h => Kd.ok_below hb h)
       rw [if_pos (by rfl)]
       show (_ : Value) = _
       first | rfl | (refine congrArg (Value.int .i64) ?_; first | rfl | exact int_in (by omega) | exact quo_in (by omega) (by omega) (by omega) | exact rem_in (by omega) (by omega) | omega) | (simp; done) | (simp [*]; done)
      case r46x4 =>
       refine ((cm_rws S W G _ fS.i hW.i (unhide hG))).mono ?_
       rintro e w2 ⟨rfl, hb⟩
       refine hK _ _ (hS.call hb) ?_ (fun j u _ h => Kd.ok_below hb h)
       rw [if_pos (by rfl)]
       show (_ : Value) = _
       first | rfl | (refine congrArg (Value.int .i64) ?_; first | rfl | exact int_in (by omega) | exact quo_in (by omega) (by omega) (by omega) | exact rem_in (by omega) (by omega) | omega) | (simp; done) | (simp [*]; done)
      case r46x5 =>
       refine hK _ _ (hS.call (below_alloc_self _ _)) ?_ (fun j u _ h => Kd.ok_below (below_alloc_self _ _) h)
       rw [if_pos (by rfl)]
       exact kd_new hS.size rfl
      case r46x6 =>
       refine hK undef (setAll gn 0 [.int .i64 (G.1), .int .i64 (G.2.1), .int .i64 (G.2.2)] wx) (Sy.setAll_new r1 hS) ?_ (fun j u hj h => ?_)
       ·rw [if_neg (by decide)]
        exact kd_held r1 r2 D5' r3
       ·match j, hj with
        | 0, hj | 1, hj | 2, hj | 3, hj | 4, hj => exact (show (u : Value) = _ from h)
        | 5, hj => exact Kd.ok_setAll_new (k := Kd.own (wa.heap.size) 3) rfl (fun B' cs e => by cases e) h
        | 6, hj => exact absurd rfl hj
        | j + 7, _ => trivial
      all_goals (refine hK _ _ hS ?_ (fun j u _ h => h); rw [if_pos (by rfl)]; show (_ : Value) = _; (first | rfl | (refine congrArg (Value.int .i64) ?_; first | rfl | exact int_in (by omega) | exact quo_in (by omega) (by omega) (by omega) | exact rem_in (by omega) (by omega) | omega) | (simp; done) | (simp [*]; done)))
     ·intro aq wx hd hw hf hS hg
      obtain ⟨g9, G9, r1g9, r2g9, r3g9⟩ := hg 6 (by decide)
      change tau aq 9 = _ at G9
      have haq : aq = ⟨#[tau aq 0, tau aq 1, tau aq 2, tau aq 3, tau aq 4, tau aq 5, tau aq 6, tau aq 7, tau aq 8, tau aq 9, tau aq 10, tau aq 11, tau aq 12, tau aq 13, tau aq 14, tau aq 15, tau aq 16, tau aq 17, tau aq 18, tau aq 19, tau aq 20, tau aq 21, tau aq 22, tau aq 23, tau aq 24, tau aq 25, tau aq 26, tau aq 27, tau aq 28, tau aq 29, tau aq 30, tau aq 31, tau aq 32, tau aq 33, tau aq 34, tau aq 35, tau aq 36, tau aq 37, tau aq 38, tau aq 39, tau aq 40, tau aq 41, tau aq 42, tau aq 43, tau aq 44, tau aq 45, tau aq 46, tau aq 47, tau aq 48, tau aq 49, tau aq 50, tau aq 51, tau aq 52, tau aq 53, tau aq 54, tau aq 55, tau aq 56, tau aq 57, tau aq 58, tau aq 59, tau aq 60, tau aq 61, tau aq 62, tau aq 63, tau aq 64, tau aq 65], []⟩ := by
       obtain ⟨tq, dq⟩ := aq
       have h5 := arr_eq (show tq.size = 66 from hw)
       have h6 : dq = [] := hd
       subst h6
       exact congrArg (fun z => Act.mk z []) h5
      show K2 aq wx
      rw [haq, hf 0, hf 1, hf 2, hf 3, hf 4, hf 5, hf 6, hf 7, hf 8, hf 10, hf 11, hf 12, hf 13, hf 14, hf 15, hf 16, hf 17, hf 18, hf 19, hf 20, hf 21, hf 22, hf 23, hf 24, hf 25, hf 26, hf 27, hf 28, hf 29, hf 30, hf 31, hf 32, hf 33, hf 39, hf 40, hf 41, hf 42, hf 43, hf 44, hf 45, hf 46, hf 47, hf 48, hf 49, hf 50, hf 51, hf 52, hf 53, hf 54, hf 55, hf 56, hf 57, hf 58, hf 59, hf 60, hf 61, hf 62, hf 63, hf 64, hf 65, G9]
      clear haq hf hd hw
      try dsimp only
      refine h3 _ _ ?_
      go_meet
      refine ⟨g9, rfl, Ri3.m ?_ ?_ ?_, Ri3.m ?_ ?_ ?_, Wi3.m ?_ ?_ ?_ ?_ ?_ ?_, Wi3.m ?_ ?_ ?_ ?_ ?_ ?_, Wi3.m (r3g9 0 (by simp)).1 (r3g9 1 (by simp)).1 (r3g9 2 (by simp)).1 (r3g9 0 (by simp)).2 (r3g9 1 (by simp)).2 (r3g9 2 (by simp)).2, hS.below, r1g9⟩
      all_goals first | exact hS.cells (_, _) (by simp) | exact (hS.free _ (by simp)).2
    try clear c00
    try clear c01
    try clear c02
    try clear c10
    try clear c11
    try clear c12
    try clear c20
    try clear c21
    try clear c22
    try clear c30
    try clear c31
    try clear c32
    try clear f20
    try clear f21
    try clear f22
    try clear f30
    try clear f31
    try clear f32
    obtain ⟨g9, rfl, ⟨c00, c01, c02, z0⟩, ⟨c10, c11, c12, z1⟩, ⟨c20, c21, c22, f20, f21, f22, z2⟩, ⟨c30, c31, c32, f30, f31, f32, z3⟩, ⟨c40, c41, c42, f40, f41, f42, z4⟩, hb0, ng9⟩ := hcut
    obtain ⟨wb, rfl⟩ : ∃ wb : World, wb = wc := ⟨_, rfl⟩
    go_upto_region 4 with fail
    go_cut [10, 11] (fun s10 s11 wx => s10 = .int .i64 L ∧ s11 = .int .i64 n ∧ Ri3 wx w.heap.size F.1 F.2.1 F.2.2 ∧ Ri3 wx (w.heap.size + 1) W.1 W.2.1 W.2.2 ∧ Wi3 wx (w.heap.size + 1 + 1) 0 0 0 ∧ Wi3 wx (w.heap.size + 1 + 1 + 1) 0 0 0 ∧ Wi3 wx g9 G.1 G.2.1 G.2.2 ∧ Below w.heap.size w wx)
    case first =>
     have h1 := trivial
     rename_i K2 h2 h3
     refine region_n0 (by kernel_rfl) (fun j => #[39,40,41,42,43,44,10,11].getD j 0) (fun j => Kd.ok ((fun j => match j with | 0 => Kd.val (.agg #[.int .i64 (F.1), .int .i64 (F.2.1), .int .i64 (F.2.2)]) | 1 => Kd.val (.agg #[.int .i64 (G.1), .int .i64 (G.2.1), .int .i64 (G.2.2)]) | 2 => Kd.val (.int .i64 t) | 3 => Kd.val (.int .i64 L) | 4 => Kd.val (.agg #[.int .i64 (W.1), .int .i64 (W.2.1), .int .i64 (W.2.2)]) | 5 => Kd.val (.int .i64 n) | 6 => Kd.val (.int .i64 L) | 7 => Kd.val (.int .i64 n) | _ => Kd.any : Nat → Kd) j)) (Sy w (wb.heap.size) [(⟨w.heap.size, 0, none⟩, .int .i64 (F.1)), (⟨w.heap.size, 1, none⟩, .int .i64 (F.2.1)), (⟨w.heap.size, 2, none⟩, .int .i64 (F.2.2)), (⟨w.heap.size + 1, 0, none⟩, .int .i64 (W.1)), (⟨w.heap.size + 1, 1, none⟩, .int .i64 (W.2.1)), (⟨w.heap.size + 1, 2, none⟩, .int .i64 (W.2.2)), (⟨w.heap.size + 1 + 1, 0, none⟩, .int .i64 0), (⟨w.heap.size + 1 + 1, 1, none⟩, .int .i64 0), (⟨w.heap.size + 1 + 1, 2, none⟩, .int .i64 0), (⟨w.heap.size + 1 + 1 + 1, 0, none⟩, .int .i64 0), (⟨w.heap.size + 1 + 1 + 1, 1, none⟩, .int .i64 0), (⟨w.heap.size + 1 + 1 + 1, 2, none⟩, .int .i64 0), (⟨g9, 0, none⟩, .int .i64 (G.1)), (⟨g9, 1, none⟩, .int .i64 (G.2.1)), (⟨g9, 2, none⟩, .int .i64 (G.2.2))] [⟨w.heap.size + 1 + 1, 0, none⟩, ⟨w.heap.size + 1 + 1, 1, none⟩, ⟨w.heap.size + 1 + 1, 2, none⟩, ⟨w.heap.size + 1 + 1 + 1, 0, none⟩, ⟨w.heap.size + 1 + 1 + 1, 1, none⟩, ⟨w.heap.size + 1 + 1 + 1, 2, none⟩, ⟨g9, 0, none⟩, ⟨g9, 1, none⟩, ⟨g9, 2, none⟩]) (by kernel_rfl) (by kernel_rfl) ?_ ?_ ?_ ?_
     ·intro j hj
      have hj2 : j < 8 := hj
      have : ∀ j, j < 8 → (#[39,40,41,42,43,44,10,11] : Array Nat).getD j 0 < 66 := by decide
      exact this j hj2
     ·refine Sy.drew (Sy.mk_of ?_ ?_ ?_ ?_)
      ·first | rfl | (simp; done) | (simp; omega)
      ·intro c hc
       simp only [List.mem_cons, List.not_mem_nil, or_false] at hc
       rcases hc with rfl | rfl | rfl | rfl | rfl | rfl | rfl | rfl | rfl | rfl | rfl | rfl | rfl | rfl | rfl <;> exact byCT
      ·intro p hp
       simp only [List.mem_cons, List.not_mem_nil, or_false] at hp
       rcases hp with rfl | rfl | rfl | rfl | rfl | rfl | rfl | rfl | rfl <;> exact ⟨by first | ((repeat' with_reducible (first | refine ex_set _ ?_ | refine ex_al _ ?_ | exact ⟨_, by assumption⟩)); done) | first | exact ⟨_, by assumption⟩ | assumption | (go_simp; done) | (go_simp; exact ⟨_, rfl⟩), by first | ((repeat' first | with_reducible (first | assumption | refine frz_al _ ?_ ?_ | refine frz_set _ ?_) | omega | (simp; omega)); done) | assumption | (go_simp; done)⟩
      ·(repeat' first | with_reducible (first | exact Below.refl _ _ | assumption | refine gr_alloc ?_ _ | refine below_drewN ?_ _ | refine below_drew ?_ | refine gr_call ?_ (by assumption) | refine Below.setCell ?_ ?_ _) | go_size | omega | (simp; omega))
     ·clear h1 h2 h3
      try clear c00
      try clear c01
      try clear c02
      try clear c10
      try clear c11
      try clear c12
      try clear c20
      try clear c21
      try clear c22
      try clear c30
      try clear c31
      try clear c32
      try clear c40
      try clear c41
      try clear c42
      try clear f20
      try clear f21
      try clear f22
      try clear f30
      try clear f31
      try clear f32
      try clear f40
      try clear f41
      try clear f42
      refine ⟨?r47x0, ?r47x1, ?r47x2, ?r47x3, ?r47x4, ?r47x5, ?r47x6, ?r47x7, trivial⟩
      all_goals intro _ aq wx Kq hf hS hdep ev1 ev2 hK
      case' r47x0 =>
       have F3 : aq.eval (.tmp 3) = .pointer (some ⟨w.heap.size, 0, none⟩) := hf 3
       have c0 := hS.cells (⟨w.heap.size, 0, none⟩, .int .i64 (F.1)) (by simp)
       have c1 := hS.cells (⟨w.heap.size, 1, none⟩, .int .i64 (F.2.1)) (by simp)
       have c2 := hS.cells (⟨w.heap.size, 2, none⟩, .int .i64 (F.2.2)) (by simp)
      case' r47x1 =>
       have F9 : aq.eval (.tmp 9) = .pointer (some ⟨g9, 0, none⟩) := hf 9
       have c0 := hS.cells (⟨g9, 0, none⟩, .int .i64 (G.1)) (by simp)
       have c1 := hS.cells (⟨g9, 1, none⟩, .int .i64 (G.2.1)) (by simp)
       have c2 := hS.cells (⟨g9, 2, none⟩, .int .i64 (G.2.2)) (by simp)
      case' r47x2 =>
       have F1 : aq.eval (.tmp 1) = .int .i64 t := hf 1
      case' r47x3 =>
       have D0 : aq.eval (.tmp 39) = _ := hdep 0
       have D1 : aq.eval (.tmp 40) = _ := hdep 1
       have D2 : aq.eval (.tmp 41) = _ := hdep 2
      case' r47x4 =>
       have F5 : aq.eval (.tmp 5) = .pointer (some ⟨w.heap.size + 1, 0, none⟩) := hf 5
       have c0 := hS.cells (⟨w.heap.size + 1, 0, none⟩, .int .i64 (W.1)) (by simp)
       have c1 := hS.cells (⟨w.heap.size + 1, 1, none⟩, .int .i64 (W.2.1)) (by simp)
       have c2 := hS.cells (⟨w.heap.size + 1, 2, none⟩, .int .i64 (W.2.2)) (by simp)
      case' r47x5 =>
       have D4 : aq.eval (.tmp 43) = _ := hdep 4
      case' r47x6 =>
       have D3 : aq.eval (.tmp 42) = _ := hdep 3
      case' r47x7 =>
       have D5 : aq.eval (.tmp 44) = _ := hdep 5
      all_goals (clear hf hdep; unfold Oper.wp; generalize Act.eval _ = ev at *; go_simp)
      case r47x3 =>
       refine ((ch_rxs F G t L _ hF fG ht.1 ht.2 (unhide hL))).mono ?_
       rintro e w2 ⟨rfl, hb⟩
       refine hK _ _ (hS.call hb) ?_ (fun j u _ h => Kd.ok_below hb h)
       rw [if_pos (by rfl)]
       show (_ : Value) = _
       first | rfl | (refine congrArg (Value.int .i64) ?_; first | rfl | exact int_in (by omega) | exact quo_in (by omega) (by omega) (by omega) | exact rem_in (by omega) (by omega) | omega) | (simp; done) | (simp [*]; done)
      case r47x5 =>
       refine ((or_rws W n _ hW (unhide hn))).mono ?_
       rintro e w2 ⟨rfl, hb⟩
       refine hK _ _ (hS.call hb) ?_ (fun j u _ h => Kd.ok_below hb h)
       rw [if_pos (by rfl)]
       show (_ : Value) = _
       first | rfl | (refine congrArg (Value.int .i64) ?_; first | rfl | exact int_in (by omega) | exact quo_in (by omega) (by omega) (by omega) | exact rem_in (by omega) (by omega) | omega) | (simp; done) | (simp [*]; done)
      all_goals (refine hK _ _ hS ?_ (fun j u _ h => h); rw [if_pos (by rfl)]; show (_ : Value) = _; (first | rfl | (refine congrArg (Value.int .i64) ?_; first | rfl | exact int_in (by omega) | exact quo_in (by omega) (by omega) (by omega) | exact rem_in (by omega) (by omega) | omega) | (simp; done) | (simp [*]; done)))
     ·intro aq wx hd hw hf hS hg
      have G10 : tau aq 10 = .int .i64 L := hg 6 (by decide)
      have G11 : tau aq 11 = .int .i64 n := hg 7 (by decide)
      have haq : aq = ⟨#[tau aq 0, tau aq 1, tau aq 2, tau aq 3, tau aq 4, tau aq 5, tau aq 6, tau aq 7, tau aq 8, tau aq 9, tau aq 10, tau aq 11, tau aq 12, tau aq 13, tau aq 14, tau aq 15, tau aq 16, tau aq 17, tau aq 18, tau aq 19, tau aq 20, tau aq 21, tau aq 22, tau aq 23, tau aq 24, tau aq 25, tau aq 26, tau aq 27, tau aq 28, tau aq 29, tau aq 30, tau aq 31, tau aq 32, tau aq 33, tau aq 34, tau aq 35, tau aq 36, tau aq 37, tau aq 38, tau aq 39, tau aq 40, tau aq 41, tau aq 42, tau aq 43, tau aq 44, tau aq 45, tau aq 46, tau aq 47, tau aq 48, tau aq 49, tau aq 50, tau aq 51, tau aq 52, tau aq 53, tau aq 54, tau aq 55, tau aq 56, tau aq 57, tau aq 58, tau aq 59, tau aq 60, tau aq 61, tau aq 62, tau aq 63, tau aq 64, tau aq 65], []⟩ := by
       obtain ⟨tq, dq⟩ := aq
       have h5 := arr_eq (show tq.size = 66 from hw)
       have h6 : dq = [] := hd
       subst h6
       exact congrArg (fun z => Act.mk z []) h5
      show K2 aq wx
      rw [haq, hf 0, hf 1, hf 2, hf 3, hf 4, hf 5, hf 6, hf 7, hf 8, hf 9, hf 12, hf 13, hf 14, hf 15, hf 16, hf 17, hf 18, hf 19, hf 20, hf 21, hf 22, hf 23, hf 24, hf 25, hf 26, hf 27, hf 28, hf 29, hf 30, hf 31, hf 32, hf 33, hf 34, hf 35, hf 36, hf 37, hf 38, hf 45, hf 46, hf 47, hf 48, hf 49, hf 50, hf 51, hf 52, hf 53, hf 54, hf 55, hf 56, hf 57, hf 58, hf 59, hf 60, hf 61, hf 62, hf 63, hf 64, hf 65, G10, G11]
      clear haq hf hd hw
      try dsimp only
      refine h3 _ _ ?_
      go_meet
      refine ⟨rfl, rfl, Ri3.m ?_ ?_ ?_, Ri3.m ?_ ?_ ?_, Wi3.m ?_ ?_ ?_ ?_ ?_ ?_, Wi3.m ?_ ?_ ?_ ?_ ?_ ?_, Wi3.m ?_ ?_ ?_ ?_ ?_ ?_, hS.below⟩
      all_goals first | exact hS.cells (_, _) (by simp) | exact (hS.free _ (by simp)).2
    try clear c00
    try clear c01
    try clear c02
    try clear c10
    try clear c11
    try clear c12
    try clear c20
    try clear c21
    try clear c22
    try clear c30
    try clear c31
    try clear c32
    try clear c40
    try clear c41
    try clear c42
    try clear f20
    try clear f21
    try clear f22
    try clear f30
    try clear f31
    try clear f32
    try clear f40
    try clear f41
    try clear f42
    obtain ⟨rfl, rfl, ⟨c00, c01, c02, z0⟩, ⟨c10, c11, c12, z1⟩, ⟨c20, c21, c22, f20, f21, f22, z2⟩, ⟨c30, c31, c32, f30, f31, f32, z3⟩, ⟨c40, c41, c42, f40, f41, f42, z4⟩, hb0⟩ := hcut
    obtain ⟨wd, rfl⟩ : ∃ wd : World, wd = wc := ⟨_, rfl⟩
    by_cases kc : igcd L n = 1
    ·have kt : (igcd L n != 1) = false := by simp [kc]
     have HV : Hid ((.tuple #[frm (soX F t W), frm (soY F t W), .bool (soB F t W)] : Value) = .tuple #[frm G, frm V, .bool true]) := hide (by
      have h2 : igcd (soL F t W) (soN F W) = 1 := by rw [← unhide hLe, ← unhide hn2]; exact kc
      rw [so_yes (unhide HK) h2, ← unhide hGe, unhide hVe h2])
     obtain ⟨iv, hiv⟩ : ∃ iv, iv = invI L n := ⟨_, rfl⟩
     have hib : 0 ≤ iv ∧ iv < n := by
      have := inv_is (a := L) (m := n) (by omega) (by unfold igcd at kc; rw [Int.gcd_comm]; omega)
      rw [hiv]; exact ⟨this.1, this.2.1⟩
     obtain ⟨Pw, hPw⟩ : ∃ Pw, Pw = pwD (dT F) W iv := ⟨_, rfl⟩
     have fPw : Frm (dT F) Pw := by rw [hPw]; exact hW.pw _
     have hV : Hid (V = cmp Pq Pw) := hide (by rw [unhide hV0, ← unhide hPq, hPw, hiv])
     replace hiv := hide hiv
     replace hPw := hide hPw
     go_wp2_with (go_at_call 47; refine (nuGcd_a L n _ (by omega) (by omega)).mono ?_; rintro e w' ⟨rfl, nq, rfl⟩)
     refine (dq_rw F Pq t L _ hF ht.1 ht.2 hl.1 hl2 (unhide hPq)).mono ?_
     rintro en w7 ⟨v7, rfl, ⟨r7, rfl⟩, hb7⟩
     have tq0 := Ri3.c hb7 w.heap.size F.1 F.2.1 F.2.2
     have tq1 := Ri3.c hb7 (w.heap.size + 1) W.1 W.2.1 W.2.2
     have tq2 := Wi3.c hb7 (w.heap.size + 1 + 1) 0 0 0
     have tq3 := Wi3.c hb7 (w.heap.size + 1 + 1 + 1) 0 0 0
     have tq4 := Wi3.c hb7 g9 G.1 G.2.1 G.2.2
     try clear c00 c01 c02
     try clear c10 c11 c12
     try clear c20 c21 c22 f20 f21 f22
     try clear c30 c31 c32 f30 f31 f32
     try clear c40 c41 c42 f40 f41 f42
     obtain ⟨c00, c01, c02, z0⟩ := tq0
     obtain ⟨c10, c11, c12, z1⟩ := tq1
     obtain ⟨c20, c21, c22, f20, f21, f22, z2⟩ := tq2
     obtain ⟨c30, c31, c32, f30, f31, f32, z3⟩ := tq3
     obtain ⟨c40, c41, c42, f40, f41, f42, z4⟩ := tq4
     have hs7 := hb7.size
     go_upto_region 8 with fail
     go_cut [8] (fun s8 wx => s8 = .bool true ∧ Ri3 wx w.heap.size F.1 F.2.1 F.2.2 ∧ Ri3 wx (w.heap.size + 1) W.1 W.2.1 W.2.2 ∧ Wi3 wx (w.heap.size + 1 + 1) G.1 G.2.1 G.2.2 ∧ Wi3 wx (w.heap.size + 1 + 1 + 1) V.1 V.2.1 V.2.2 ∧ Wi3 wx g9 G.1 G.2.1 G.2.2 ∧ Ri3 wx w7.heap.size Pq.1 Pq.2.1 Pq.2.2 ∧ Below w.heap.size w wx)
     case first =>
      have h1 := trivial
      rename_i K2 h2 h3
      refine region_n0 (by kernel_rfl) (fun j => #[58,59,60,61,62,63,64,65,6,7,8].getD j 0) (fun j => Kd.ok ((fun j => match j with | 0 => Kd.val (.agg #[.int .i64 (G.1), .int .i64 (G.2.1), .int .i64 (G.2.2)]) | 1 => Kd.val (.agg #[.int .i64 (Pq.1), .int .i64 (Pq.2.1), .int .i64 (Pq.2.2)]) | 2 => Kd.val (.agg #[.int .i64 (W.1), .int .i64 (W.2.1), .int .i64 (W.2.2)]) | 3 => Kd.val (.int .i64 L) | 4 => Kd.val (.int .i64 n) | 5 => Kd.val (.int .i64 iv) | 6 => Kd.val (.agg #[.int .i64 (Pw.1), .int .i64 (Pw.2.1), .int .i64 (Pw.2.2)]) | 7 => Kd.val (.agg #[.int .i64 (V.1), .int .i64 (V.2.1), .int .i64 (V.2.2)]) | 8 => Kd.old (w7.heap.size + 1) [(⟨w.heap.size + 1 + 1, 0, none⟩, .int .i64 (G.1)), (⟨w.heap.size + 1 + 1, 1, none⟩, .int .i64 (G.2.1)), (⟨w.heap.size + 1 + 1, 2, none⟩, .int .i64 (G.2.2))] | 9 => Kd.old (w7.heap.size + 1) [(⟨w.heap.size + 1 + 1 + 1, 0, none⟩, .int .i64 (V.1)), (⟨w.heap.size + 1 + 1 + 1, 1, none⟩, .int .i64 (V.2.1)), (⟨w.heap.size + 1 + 1 + 1, 2, none⟩, .int .i64 (V.2.2))] | 10 => Kd.val (.bool true) | _ => Kd.any : Nat → Kd) j)) (Sy w (w7.heap.size + 1) [(⟨w.heap.size, 0, none⟩, .int .i64 (F.1)), (⟨w.heap.size, 1, none⟩, .int .i64 (F.2.1)), (⟨w.heap.size, 2, none⟩, .int .i64 (F.2.2)), (⟨w.heap.size + 1, 0, none⟩, .int .i64 (W.1)), (⟨w.heap.size + 1, 1, none⟩, .int .i64 (W.2.1)), (⟨w.heap.size + 1, 2, none⟩, .int .i64 (W.2.2)), (⟨g9, 0, none⟩, .int .i64 (G.1)), (⟨g9, 1, none⟩, .int .i64 (G.2.1)), (⟨g9, 2, none⟩, .int .i64 (G.2.2)), (⟨w7.heap.size, 0, none⟩, .int .i64 (Pq.1)), (⟨w7.heap.size, 1, none⟩, .int .i64 (Pq.2.1)), (⟨w7.heap.size, 2, none⟩, .int .i64 (Pq.2.2))] [⟨w.heap.size + 1 + 1, 0, none⟩, ⟨w.heap.size + 1 + 1, 1, none⟩, ⟨w.heap.size + 1 + 1, 2, none⟩, ⟨w.heap.size + 1 + 1 + 1, 0, none⟩, ⟨w.heap.size + 1 + 1 + 1, 1, none⟩, ⟨w.heap.size + 1 + 1 + 1, 2, none⟩, ⟨g9, 0, none⟩, ⟨g9, 1, none⟩, ⟨g9, 2, none⟩]) (by kernel_rfl) (by kernel_rfl) ?_ ?_ ?_ ?_
      ·intro j hj
       have hj2 : j < 11 := hj
       have : ∀ j, j < 11 → (#[58,59,60,61,62,63,64,65,6,7,8] : Array Nat).getD j 0 < 66 := by decide
       exact this j hj2
      ·refine Sy.drew (Sy.mk_of ?_ ?_ ?_ ?_)
       ·first | rfl | (simp; done) | (simp; omega)
       ·intro c hc
        simp only [List.mem_cons, List.not_mem_nil, or_false] at hc
        rcases hc with rfl | rfl | rfl | rfl | rfl | rfl | rfl | rfl | rfl | rfl | rfl | rfl <;> exact byCT
       ·intro p hp
        simp only [List.mem_cons, List.not_mem_nil, or_false] at hp
        rcases hp with rfl | rfl | rfl | rfl | rfl | rfl | rfl | rfl | rfl <;> exact ⟨by first | ((repeat' with_reducible (first | refine ex_set _ ?_ | refine ex_al _ ?_ | exact ⟨_, by assumption⟩)); done) | first | exact ⟨_, by assumption⟩ | assumption | (go_simp; done) | (go_simp; exact ⟨_, rfl⟩), by first | ((repeat' first | with_reducible (first | assumption | refine frz_al _ ?_ ?_ | refine frz_set _ ?_) | omega | (simp; omega)); done) | assumption | (go_simp; done)⟩
       ·(repeat' first | with_reducible (first | exact Below.refl _ _ | assumption | refine gr_alloc ?_ _ | refine below_drewN ?_ _ | refine below_drew ?_ | refine gr_call ?_ (by assumption) | refine Below.setCell ?_ ?_ _) | go_size | omega | (simp; omega))
      ·clear h1 h2 h3
       try clear c00
       try clear c01
       try clear c02
       try clear c10
       try clear c11
       try clear c12
       try clear c20
       try clear c21
       try clear c22
       try clear c30
       try clear c31
       try clear c32
       try clear c40
       try clear c41
       try clear c42
       try clear c50
       try clear c51
       try clear c52
       try clear f20
       try clear f21
       try clear f22
       try clear f30
       try clear f31
       try clear f32
       try clear f40
       try clear f41
       try clear f42
       refine ⟨?r48x0, ?r48x1, ?r48x2, ?r48x3, ?r48x4, ?r48x5, ?r48x6, ?r48x7, ?r48x8, ?r48x9, ?r48x10, trivial⟩
       all_goals intro _ aq wx Kq hf hS hdep ev1 ev2 hK
       case' r48x0 =>
        have F9 : aq.eval (.tmp 9) = .pointer (some ⟨g9, 0, none⟩) := hf 9
        have c0 := hS.cells (⟨g9, 0, none⟩, .int .i64 (G.1)) (by simp)
        have c1 := hS.cells (⟨g9, 1, none⟩, .int .i64 (G.2.1)) (by simp)
        have c2 := hS.cells (⟨g9, 2, none⟩, .int .i64 (G.2.2)) (by simp)
       case' r48x1 =>
        have F12 : aq.eval (.tmp 12) = .pointer (some ⟨w7.heap.size, 0, none⟩) := hf 12
        have c0 := hS.cells (⟨w7.heap.size, 0, none⟩, .int .i64 (Pq.1)) (by simp)
        have c1 := hS.cells (⟨w7.heap.size, 1, none⟩, .int .i64 (Pq.2.1)) (by simp)
        have c2 := hS.cells (⟨w7.heap.size, 2, none⟩, .int .i64 (Pq.2.2)) (by simp)
       case' r48x2 =>
        have F5 : aq.eval (.tmp 5) = .pointer (some ⟨w.heap.size + 1, 0, none⟩) := hf 5
        have c0 := hS.cells (⟨w.heap.size + 1, 0, none⟩, .int .i64 (W.1)) (by simp)
        have c1 := hS.cells (⟨w.heap.size + 1, 1, none⟩, .int .i64 (W.2.1)) (by simp)
        have c2 := hS.cells (⟨w.heap.size + 1, 2, none⟩, .int .i64 (W.2.2)) (by simp)
       case' r48x3 =>
        have F10 : aq.eval (.tmp 10) = .int .i64 L := hf 10
       case' r48x4 =>
        have F11 : aq.eval (.tmp 11) = .int .i64 n := hf 11
       case' r48x5 =>
        have D3 : aq.eval (.tmp 61) = _ := hdep 3
        have D4 : aq.eval (.tmp 62) = _ := hdep 4
       case' r48x6 =>
        have D2 : aq.eval (.tmp 60) = _ := hdep 2
        have D5 : aq.eval (.tmp 63) = _ := hdep 5
       case' r48x7 =>
        have D1 : aq.eval (.tmp 59) = _ := hdep 1
        have D6 : aq.eval (.tmp 64) = _ := hdep 6
       case' r48x8 =>
        have D0 : aq.eval (.tmp 58) = _ := hdep 0
        have F6 : aq.eval (.tmp 6) = .pointer (some ⟨w.heap.size + 1 + 1, 0, none⟩) := hf 6
        obtain ⟨⟨vx0, cx0⟩, cf0⟩ := hS.free ⟨w.heap.size + 1 + 1, 0, none⟩ (by simp)
        obtain ⟨⟨vx1, cx1⟩, cf1⟩ := hS.free ⟨w.heap.size + 1 + 1, 1, none⟩ (by simp)
        obtain ⟨⟨vx2, cx2⟩, cf2⟩ := hS.free ⟨w.heap.size + 1 + 1, 2, none⟩ (by simp)
       case' r48x9 =>
        have D7 : aq.eval (.tmp 65) = _ := hdep 7
        have F7 : aq.eval (.tmp 7) = .pointer (some ⟨w.heap.size + 1 + 1 + 1, 0, none⟩) := hf 7
        obtain ⟨⟨vx0, cx0⟩, cf0⟩ := hS.free ⟨w.heap.size + 1 + 1 + 1, 0, none⟩ (by simp)
        obtain ⟨⟨vx1, cx1⟩, cf1⟩ := hS.free ⟨w.heap.size + 1 + 1 + 1, 1, none⟩ (by simp)
        obtain ⟨⟨vx2, cx2⟩, cf2⟩ := hS.free ⟨w.heap.size + 1 + 1 + 1, 2, none⟩ (by simp)
       all_goals (clear hf hdep; unfold Oper.wp; generalize Act.eval _ = ev at *; go_simp)
       case r48x5 =>
        refine ((iv_rws L n iv _ (by omega) (by omega) (by omega) kc (unhide hiv))).mono ?_
        rintro e w2 ⟨rfl, rfl⟩
        refine hK _ _ (hS.call (below_refl_self _)) ?_ (fun j u _ h => Kd.ok_below (below_refl_self _) h)
        rw [if_pos (by rfl)]
        show (_ : Value) = _
        first | rfl | (refine congrArg (Value.int .i64) ?_; first | rfl | exact int_in (by omega) | exact quo_in (by omega) (by omega) (by omega) | exact rem_in (by omega) (by omega) | omega) | (simp; done) | (simp [*]; done)
       case r48x6 =>
        refine ((pw_rws W Pw iv _ hW (by omega) (by omega) (unhide hPw))).mono ?_
        rintro e w2 ⟨rfl, hb⟩
        refine hK _ _ (hS.call hb) ?_ (fun j u _ h => Kd.ok_below hb h)
        rw [if_pos (by rfl)]
        show (_ : Value) = _
        first | rfl | (refine congrArg (Value.int .i64) ?_; first | rfl | exact int_in (by omega) | exact quo_in (by omega) (by omega) (by omega) | exact rem_in (by omega) (by omega) | omega) | (simp; done) | (simp [*]; done)
       case r48x7 =>
        refine ((cm_rws Pq Pw V _ fPq.i fPw.i (unhide hV))).mono ?_
        rintro e w2 ⟨rfl, hb⟩
        refine hK _ _ (hS.call hb) ?_ (fun j u _ h => Kd.ok_below hb h)
        rw [if_pos (by rfl)]
        show (_ : Value) = _
        first | rfl | (refine congrArg (Value.int .i64) ?_; first | rfl | exact int_in (by omega) | exact quo_in (by omega) (by omega) (by omega) | exact rem_in (by omega) (by omega) | omega) | (simp; done) | (simp [*]; done)
       case r48x8 =>
        refine hK undef (setAll (w.heap.size + 1 + 1) 0 [.int .i64 (G.1), .int .i64 (G.2.1), .int .i64 (G.2.2)] wx) (Sy.setAll (by first | omega | (simp; omega) | (simp; done)) (fa (far_blk (by first | (with_reducible assumption) | omega)) (fa (far_blk (by first | (with_reducible assumption) | omega)) (fa (far_blk (by first | (with_reducible assumption) | omega)) (fa (far_blk (by first | (with_reducible assumption) | omega)) (fa (far_blk (by first | (with_reducible assumption) | omega)) (fa (far_blk (by first | (with_reducible assumption) | omega)) (fa (far_blk (by first | (with_reducible assumption) | omega)) (fa (far_blk (by first | (with_reducible assumption) | omega)) (fa (far_blk (by first | (with_reducible assumption) | omega)) (fa (far_blk (by first | (with_reducible assumption) | omega)) (fa (far_blk (by first | (with_reducible assumption) | omega)) (fa (far_blk (by first | (with_reducible assumption) | omega)) (fa0))))))))))))) hS) ?_ (fun j u hj h => ?_)
        ·rw [if_neg (by decide)]
         exact fa ⟨setAll_at (w.heap.size + 1 + 1) [.int .i64 (G.1), .int .i64 (G.2.1), .int .i64 (G.2.2)] 0 wx 0 (show 0 < 3 by decide) ⟨vx0, cx0⟩, (by first | omega | (simp; omega) | (simp; done))⟩ (fa ⟨setAll_at (w.heap.size + 1 + 1) [.int .i64 (G.1), .int .i64 (G.2.1), .int .i64 (G.2.2)] 0 wx 1 (show 1 < 3 by decide) ⟨vx1, cx1⟩, (by first | omega | (simp; omega) | (simp; done))⟩ (fa ⟨setAll_at (w.heap.size + 1 + 1) [.int .i64 (G.1), .int .i64 (G.2.1), .int .i64 (G.2.2)] 0 wx 2 (show 2 < 3 by decide) ⟨vx2, cx2⟩, (by first | omega | (simp; omega) | (simp; done))⟩ (fa0)))
        ·match j, hj with
         | 0, hj | 1, hj | 2, hj | 3, hj | 4, hj | 5, hj | 6, hj | 7, hj | 10, hj => exact (show (u : Value) = _ from h)
         | 8, hj => exact absurd rfl hj
         | 9, hj => exact Kd.ok_setAll_old (k := Kd.old (w7.heap.size + 1) [(⟨w.heap.size + 1 + 1 + 1, 0, none⟩, .int .i64 (V.1)), (⟨w.heap.size + 1 + 1 + 1, 1, none⟩, .int .i64 (V.2.1)), (⟨w.heap.size + 1 + 1 + 1, 2, none⟩, .int .i64 (V.2.2))]) trivial (fa (far_blk (by first | (with_reducible assumption) | omega)) (fa (far_blk (by first | (with_reducible assumption) | omega)) (fa (far_blk (by first | (with_reducible assumption) | omega)) (fa0)))) h
         | j + 11, _ => trivial
       case r48x9 =>
        refine hK undef (setAll (w.heap.size + 1 + 1 + 1) 0 [.int .i64 (V.1), .int .i64 (V.2.1), .int .i64 (V.2.2)] wx) (Sy.setAll (by first | omega | (simp; omega) | (simp; done)) (fa (far_blk (by first | (with_reducible assumption) | omega)) (fa (far_blk (by first | (with_reducible assumption) | omega)) (fa (far_blk (by first | (with_reducible assumption) | omega)) (fa (far_blk (by first | (with_reducible assumption) | omega)) (fa (far_blk (by first | (with_reducible assumption) | omega)) (fa (far_blk (by first | (with_reducible assumption) | omega)) (fa (far_blk (by first | (with_reducible assumption) | omega)) (fa (far_blk (by first | (with_reducible assumption) | omega)) (fa (far_blk (by first | (with_reducible assumption) | omega)) (fa (far_blk (by first | (with_reducible assumption) | omega)) (fa (far_blk (by first | (with_reducible assumption) | omega)) (fa (far_blk (by first | (with_reducible assumption) | omega)) (fa0))))))))))))) hS) ?_ (fun j u hj h => ?_)
        ·rw [if_neg (by decide)]
         exact fa ⟨setAll_at (w.heap.size + 1 + 1 + 1) [.int .i64 (V.1), .int .i64 (V.2.1), .int .i64 (V.2.2)] 0 wx 0 (show 0 < 3 by decide) ⟨vx0, cx0⟩, (by first | omega | (simp; omega) | (simp; done))⟩ (fa ⟨setAll_at (w.heap.size + 1 + 1 + 1) [.int .i64 (V.1), .int .i64 (V.2.1), .int .i64 (V.2.2)] 0 wx 1 (show 1 < 3 by decide) ⟨vx1, cx1⟩, (by first | omega | (simp; omega) | (simp; done))⟩ (fa ⟨setAll_at (w.heap.size + 1 + 1 + 1) [.int .i64 (V.1), .int .i64 (V.2.1), .int .i64 (V.2.2)] 0 wx 2 (show 2 < 3 by decide) ⟨vx2, cx2⟩, (by first | omega | (simp; omega) | (simp; done))⟩ (fa0)))
        ·match j, hj with
         | 0, hj | 1, hj | 2, hj | 3, hj | 4, hj | 5, hj | 6, hj | 7, hj | 10, hj => exact (show (u : Value) = _ from h)
         | 8, hj => exact Kd.ok_setAll_old (k := Kd.old (w7.heap.size + 1) [(⟨w.heap.size + 1 + 1, 0, none⟩, .int .i64 (G.1)), (⟨w.heap.size + 1 + 1, 1, none⟩, .int .i64 (G.2.1)), (⟨w.heap.size + 1 + 1, 2, none⟩, .int .i64 (G.2.2))]) trivial (fa (far_blk (by first | (with_reducible assumption) | omega)) (fa (far_blk (by first | (with_reducible assumption) | omega)) (fa (far_blk (by first | (with_reducible assumption) | omega)) (fa0)))) h
         | 9, hj => exact absurd rfl hj
         | j + 11, _ => trivial
       all_goals (refine hK _ _ hS ?_ (fun j u _ h => h); rw [if_pos (by rfl)]; show (_ : Value) = _; (first | rfl | (refine congrArg (Value.int .i64) ?_; first | rfl | exact int_in (by omega) | exact quo_in (by omega) (by omega) (by omega) | exact rem_in (by omega) (by omega) | omega) | (simp; done) | (simp [*]; done)))
      ·intro aq wx hd hw hf hS hg
       have G8 : tau aq 8 = .bool true := hg 10 (by decide)
       have haq : aq = ⟨#[tau aq 0, tau aq 1, tau aq 2, tau aq 3, tau aq 4, tau aq 5, tau aq 6, tau aq 7, tau aq 8, tau aq 9, tau aq 10, tau aq 11, tau aq 12, tau aq 13, tau aq 14, tau aq 15, tau aq 16, tau aq 17, tau aq 18, tau aq 19, tau aq 20, tau aq 21, tau aq 22, tau aq 23, tau aq 24, tau aq 25, tau aq 26, tau aq 27, tau aq 28, tau aq 29, tau aq 30, tau aq 31, tau aq 32, tau aq 33, tau aq 34, tau aq 35, tau aq 36, tau aq 37, tau aq 38, tau aq 39, tau aq 40, tau aq 41, tau aq 42, tau aq 43, tau aq 44, tau aq 45, tau aq 46, tau aq 47, tau aq 48, tau aq 49, tau aq 50, tau aq 51, tau aq 52, tau aq 53, tau aq 54, tau aq 55, tau aq 56, tau aq 57, tau aq 58, tau aq 59, tau aq 60, tau aq 61, tau aq 62, tau aq 63, tau aq 64, tau aq 65], []⟩ := by
        obtain ⟨tq, dq⟩ := aq
        have h5 := arr_eq (show tq.size = 66 from hw)
        have h6 : dq = [] := hd
        subst h6
        exact congrArg (fun z => Act.mk z []) h5
       show K2 aq wx
       rw [haq, hf 0, hf 1, hf 2, hf 3, hf 4, hf 5, hf 6, hf 7, hf 9, hf 10, hf 11, hf 12, hf 13, hf 14, hf 15, hf 16, hf 17, hf 18, hf 19, hf 20, hf 21, hf 22, hf 23, hf 24, hf 25, hf 26, hf 27, hf 28, hf 29, hf 30, hf 31, hf 32, hf 33, hf 34, hf 35, hf 36, hf 37, hf 38, hf 39, hf 40, hf 41, hf 42, hf 43, hf 44, hf 45, hf 46, hf 47, hf 48, hf 49, hf 50, hf 51, hf 52, hf 53, hf 54, hf 55, hf 56, hf 57, G8]
       clear haq hf hd hw
       try dsimp only
       refine h3 _ _ ?_
       go_meet
       refine ⟨rfl, Ri3.m ?_ ?_ ?_, Ri3.m ?_ ?_ ?_, Wi3.m (hg 8 (by decide) (_, _) (by simp)).1 (hg 8 (by decide) (_, _) (by simp)).1 (hg 8 (by decide) (_, _) (by simp)).1 ?_ ?_ ?_, Wi3.m (hg 9 (by decide) (_, _) (by simp)).1 (hg 9 (by decide) (_, _) (by simp)).1 (hg 9 (by decide) (_, _) (by simp)).1 ?_ ?_ ?_, Wi3.m ?_ ?_ ?_ ?_ ?_ ?_, Ri3.m ?_ ?_ ?_, hS.below⟩
       all_goals first | exact hS.cells (_, _) (by simp) | exact (hS.free _ (by simp)).2
     try clear c00
     try clear c01
     try clear c02
     try clear c10
     try clear c11
     try clear c12
     try clear c20
     try clear c21
     try clear c22
     try clear c30
     try clear c31
     try clear c32
     try clear c40
     try clear c41
     try clear c42
     try clear c50
     try clear c51
     try clear c52
     try clear f20
     try clear f21
     try clear f22
     try clear f30
     try clear f31
     try clear f32
     try clear f40
     try clear f41
     try clear f42
     obtain ⟨rfl, ⟨c00, c01, c02, z0⟩, ⟨c10, c11, c12, z1⟩, ⟨c20, c21, c22, f20, f21, f22, z2⟩, ⟨c30, c31, c32, f30, f31, f32, z3⟩, ⟨c40, c41, c42, f40, f41, f42, z4⟩, ⟨c50, c51, c52, z5⟩, hb0⟩ := hcut
     go_wp2
     refine bodyPost_ret (v := .tuple #[frm G, frm V, .bool true]) (by simp [results, Tryz.results8, go_sem, *]) rfl ?_
     exact ⟨by rw [unhide HV], hb0⟩
    ·have kt : (igcd L n != 1) = true := by simp [kc]
     have HV : Hid ((.tuple #[frm (soX F t W), frm (soY F t W), .bool (soB F t W)] : Value) = .tuple #[.agg #[.int .i64 0, .int .i64 0, .int .i64 0], .agg #[.int .i64 0, .int .i64 0, .int .i64 0], .bool false]) := hide (so_no2 (by rw [← unhide hLe, ← unhide hn2]; exact kc))
     go_wp2_with (go_at_call 47; refine (nuGcd_a L n _ (by omega) (by omega)).mono ?_; rintro e w' ⟨rfl, nq, rfl⟩)
     refine bodyPost_ret (v := .tuple #[.agg #[.int .i64 0, .int .i64 0, .int .i64 0], .agg #[.int .i64 0, .int .i64 0, .int .i64 0], .bool false]) (by simp [results, Tryz.results8, go_sem, *]) rfl ?_
     exact ⟨by rw [unhide HV], byGG⟩
   ·have HV : Hid ((.tuple #[frm (soX F t W), frm (soY F t W), .bool (soB F t W)] : Value) = .tuple #[.agg #[.int .i64 0, .int .i64 0, .int .i64 0], .agg #[.int .i64 0, .int .i64 0, .int .i64 0], .bool false]) := hide (so_no (by simp [soK, k2]))
    have HK0 : Hid (prB F W = true) := hide k0
    have HK1 : Hid (tmB t = true) := hide k1
    obtain ⟨R, hR⟩ : ∃ R, R = rdT W := ⟨_, rfl⟩
    obtain ⟨O, hO⟩ : ∃ O, O = onT (dT F) := ⟨_, rfl⟩
    have hqq : eqT R O = true := by rw [hR, hO]; exact k2
    replace hR := hide hR
    replace hO := hide hO
    go_enter Tryz.func8, Tryz.ntmps8
    go_upto_region 1 with fail
    go_cut [31] (fun s31 wx => s31 = .bool true ∧ Ri3 wx w.heap.size F.1 F.2.1 F.2.2 ∧ Ri3 wx (w.heap.size + 1) W.1 W.2.1 W.2.2 ∧ Wi3 wx (w.heap.size + 1 + 1) 0 0 0 ∧ Wi3 wx (w.heap.size + 1 + 1 + 1) 0 0 0 ∧ Below w.heap.size w wx)
    case first =>
     have h1 := trivial
     rename_i K2 h2 h3
     let hgf9 : Nat → World → Value → Prop := fun j => match j with | 0 => Kd.ok (Kd.val (.agg #[.int .i64 (F.1), .int .i64 (F.2.1), .int .i64 (F.2.2)])) | 1 => Kd.ok (Kd.val (.agg #[.int .i64 (W.1), .int .i64 (W.2.1), .int .i64 (W.2.2)])) | 2 => (SlcF 2 6 (fun j => ([(F.1), (F.2.1), (F.2.2), (W.1), (W.2.1), (W.2.2)] : List Int).getD j 0)) | 3 => Kd.ok (Kd.val (.bool true)) | 4 => Kd.ok (Kd.val (.bool false)) | 5 => Kd.ok (Kd.val (.bool false)) | 6 => Kd.ok (Kd.val (.int .i64 t)) | 7 => Kd.ok (Kd.val (.bool true)) | 8 => Kd.ok (Kd.val (.bool false)) | 9 => Kd.ok (Kd.val (.bool false)) | 10 => Kd.ok (Kd.val (.bool false)) | 11 => Kd.ok (Kd.val (.agg #[.int .i64 (W.1), .int .i64 (W.2.1), .int .i64 (W.2.2)])) | 12 => Kd.ok (Kd.val (.agg #[.int .i64 (R.1), .int .i64 (R.2.1), .int .i64 (R.2.2)])) | 13 => Kd.ok (Kd.val (.agg #[.int .i64 (W.1), .int .i64 (W.2.1), .int .i64 (W.2.2)])) | 14 => Kd.ok (Kd.val (.int .i64 ((dT F)))) | 15 => Kd.ok (Kd.val (.agg #[.int .i64 (O.1), .int .i64 (O.2.1), .int .i64 (O.2.2)])) | 16 => Kd.ok (Kd.val (.bool true)) | 17 => Kd.ok (Kd.val (.bool true)) | _ => Kd.ok Kd.any
     have hst9 : ∀ j, StB (hgf9 j) := fun j => match j with | 0 => (Kd.st (Kd.val (.agg #[.int .i64 (F.1), .int .i64 (F.2.1), .int .i64 (F.2.2)])) : StB (Kd.ok (Kd.val (.agg #[.int .i64 (F.1), .int .i64 (F.2.1), .int .i64 (F.2.2)])))) | 1 => (Kd.st (Kd.val (.agg #[.int .i64 (W.1), .int .i64 (W.2.1), .int .i64 (W.2.2)])) : StB (Kd.ok (Kd.val (.agg #[.int .i64 (W.1), .int .i64 (W.2.1), .int .i64 (W.2.2)])))) | 2 => (SlcF.st : StB (SlcF 2 6 (fun j => ([(F.1), (F.2.1), (F.2.2), (W.1), (W.2.1), (W.2.2)] : List Int).getD j 0))) | 3 => (Kd.st (Kd.val (.bool true)) : StB (Kd.ok (Kd.val (.bool true)))) | 4 => (Kd.st (Kd.val (.bool false)) : StB (Kd.ok (Kd.val (.bool false)))) | 5 => (Kd.st (Kd.val (.bool false)) : StB (Kd.ok (Kd.val (.bool false)))) | 6 => (Kd.st (Kd.val (.int .i64 t)) : StB (Kd.ok (Kd.val (.int .i64 t)))) | 7 => (Kd.st (Kd.val (.bool true)) : StB (Kd.ok (Kd.val (.bool true)))) | 8 => (Kd.st (Kd.val (.bool false)) : StB (Kd.ok (Kd.val (.bool false)))) | 9 => (Kd.st (Kd.val (.bool false)) : StB (Kd.ok (Kd.val (.bool false)))) | 10 => (Kd.st (Kd.val (.bool false)) : StB (Kd.ok (Kd.val (.bool false)))) | 11 => (Kd.st (Kd.val (.agg #[.int .i64 (W.1), .int .i64 (W.2.1), .int .i64 (W.2.2)])) : StB (Kd.ok (Kd.val (.agg #[.int .i64 (W.1), .int .i64 (W.2.1), .int .i64 (W.2.2)])))) | 12 => (Kd.st (Kd.val (.agg #[.int .i64 (R.1), .int .i64 (R.2.1), .int .i64 (R.2.2)])) : StB (Kd.ok (Kd.val (.agg #[.int .i64 (R.1), .int .i64 (R.2.1), .int .i64 (R.2.2)])))) | 13 => (Kd.st (Kd.val (.agg #[.int .i64 (W.1), .int .i64 (W.2.1), .int .i64 (W.2.2)])) : StB (Kd.ok (Kd.val (.agg #[.int .i64 (W.1), .int .i64 (W.2.1), .int .i64 (W.2.2)])))) | 14 => (Kd.st (Kd.val (.int .i64 ((dT F)))) : StB (Kd.ok (Kd.val (.int .i64 ((dT F)))))) | 15 => (Kd.st (Kd.val (.agg #[.int .i64 (O.1), .int .i64 (O.2.1), .int .i64 (O.2.2)])) : StB (Kd.ok (Kd.val (.agg #[.int .i64 (O.1), .int .i64 (O.2.1), .int .i64 (O.2.2)])))) | 16 => (Kd.st (Kd.val (.bool true)) : StB (Kd.ok (Kd.val (.bool true)))) | 17 => (Kd.st (Kd.val (.bool true)) : StB (Kd.ok (Kd.val (.bool true)))) | j + 18 => (Kd.st Kd.any : StB (Kd.ok Kd.any))
     refine region_n (by kernel_rfl) (fun j => #[14,15,16,17,18,19,20,21,22,23,24,25,26,27,28,29,30,31].getD j 0) (hgf9) (Sy w (w.heap.size + 1 + 1 + 1 + 1) [(⟨w.heap.size, 0, none⟩, .int .i64 (F.1)), (⟨w.heap.size, 1, none⟩, .int .i64 (F.2.1)), (⟨w.heap.size, 2, none⟩, .int .i64 (F.2.2)), (⟨w.heap.size + 1, 0, none⟩, .int .i64 (W.1)), (⟨w.heap.size + 1, 1, none⟩, .int .i64 (W.2.1)), (⟨w.heap.size + 1, 2, none⟩, .int .i64 (W.2.2)), (⟨w.heap.size + 1 + 1, 0, none⟩, .int .i64 0), (⟨w.heap.size + 1 + 1, 1, none⟩, .int .i64 0), (⟨w.heap.size + 1 + 1, 2, none⟩, .int .i64 0), (⟨w.heap.size + 1 + 1 + 1, 0, none⟩, .int .i64 0), (⟨w.heap.size + 1 + 1 + 1, 1, none⟩, .int .i64 0), (⟨w.heap.size + 1 + 1 + 1, 2, none⟩, .int .i64 0)] [⟨w.heap.size + 1 + 1, 0, none⟩, ⟨w.heap.size + 1 + 1, 1, none⟩, ⟨w.heap.size + 1 + 1, 2, none⟩, ⟨w.heap.size + 1 + 1 + 1, 0, none⟩, ⟨w.heap.size + 1 + 1 + 1, 1, none⟩, ⟨w.heap.size + 1 + 1 + 1, 2, none⟩]) (fun j => #[true, true, true, true, true, true, true, true, true, true, true, true, true, true, true, true, true, true].getD j true) (by kernel_rfl) ?_ ?_ ?_ ?_ ?_ ?_
     ·intro j hj
      have hj2 : j < 18 := hj
      have : ∀ j, j < 18 → (#[14,15,16,17,18,19,20,21,22,23,24,25,26,27,28,29,30,31] : Array Nat).getD j 0 < 66 := by decide
      exact this j hj2
     ·intro i o ho
      match i, ho with
      | 0, ho => cases ho; intro aq wq hd; exact wanted_free rfl
      | 1, ho => cases ho; intro aq wq hd; exact wanted_free rfl
      | 2, ho => cases ho; intro aq wq hd; exact wanted_free rfl
      | 3, ho => cases ho; intro aq wq hd; exact wanted_free rfl
      | 4, ho => cases ho; intro aq wq hd; exact wanted_free rfl
      | 5, ho => cases ho; intro aq wq hd; exact wanted_free rfl
      | 6, ho => cases ho; intro aq wq hd; exact wanted_of (j := 5) (t := 19) (want := false) (b := false) rfl rfl (hd 5 (by decide +kernel))
      | 7, ho => cases ho; intro aq wq hd; exact wanted_of (j := 5) (t := 19) (want := false) (b := false) rfl rfl (hd 5 (by decide +kernel))
      | 8, ho => cases ho; intro aq wq hd; exact wanted_of (j := 5) (t := 19) (want := false) (b := false) rfl rfl (hd 5 (by decide +kernel))
      | 9, ho => cases ho; intro aq wq hd; exact wanted_free rfl
      | 10, ho => cases ho; intro aq wq hd; exact wanted_free rfl
      | 11, ho => cases ho; intro aq wq hd; exact wanted_of (j := 10) (t := 24) (want := false) (b := false) rfl rfl (hd 10 (by decide +kernel))
      | 12, ho => cases ho; intro aq wq hd; exact wanted_of (j := 10) (t := 24) (want := false) (b := false) rfl rfl (hd 10 (by decide +kernel))
      | 13, ho => cases ho; intro aq wq hd; exact wanted_of (j := 10) (t := 24) (want := false) (b := false) rfl rfl (hd 10 (by decide +kernel))
      | 14, ho => cases ho; intro aq wq hd; exact wanted_of (j := 10) (t := 24) (want := false) (b := false) rfl rfl (hd 10 (by decide +kernel))
      | 15, ho => cases ho; intro aq wq hd; exact wanted_of (j := 10) (t := 24) (want := false) (b := false) rfl rfl (hd 10 (by decide +kernel))
      | 16, ho => cases ho; intro aq wq hd; exact wanted_of (j := 10) (t := 24) (want := false) (b := false) rfl rfl (hd 10 (by decide +kernel))
      | 17, ho => cases ho; intro aq wq hd; exact wanted_free rfl
      | i + 18, ho => exact absurd ho (by simp)
     ·intro i o ho hr
      match i, ho with
      | 0, ho => exact absurd hr (by decide)
      | 1, ho => exact absurd hr (by decide)
      | 2, ho => exact absurd hr (by decide)
      | 3, ho => exact absurd hr (by decide)
      | 4, ho => exact absurd hr (by decide)
      | 5, ho => exact absurd hr (by decide)
      | 6, ho => exact absurd hr (by decide)
      | 7, ho => exact absurd hr (by decide)
      | 8, ho => exact absurd hr (by decide)
      | 9, ho => exact absurd hr (by decide)
      | 10, ho => exact absurd hr (by decide)
      | 11, ho => exact absurd hr (by decide)
      | 12, ho => exact absurd hr (by decide)
      | 13, ho => exact absurd hr (by decide)
      | 14, ho => exact absurd hr (by decide)
      | 15, ho => exact absurd hr (by decide)
      | 16, ho => exact absurd hr (by decide)
      | 17, ho => exact absurd hr (by decide)
      | i + 18, ho => exact absurd ho (by simp)
     ·refine Sy.drew (Sy.mk_of ?_ ?_ ?_ ?_)
      ·first | rfl | (simp; done) | (simp; omega)
      ·intro c hc
       simp only [List.mem_cons, List.not_mem_nil, or_false] at hc
       rcases hc with rfl | rfl | rfl | rfl | rfl | rfl | rfl | rfl | rfl | rfl | rfl | rfl <;> exact byCT
      ·intro p hp
       simp only [List.mem_cons, List.not_mem_nil, or_false] at hp
       rcases hp with rfl | rfl | rfl | rfl | rfl | rfl <;> exact ⟨by first | ((repeat' with_reducible (first | refine ex_set _ ?_ | refine ex_al _ ?_ | exact ⟨_, by assumption⟩)); done) | first | exact ⟨_, by assumption⟩ | assumption | (go_simp; done) | (go_simp; exact ⟨_, rfl⟩), by first | ((repeat' first | with_reducible (first | assumption | refine frz_al _ ?_ ?_ | refine frz_set _ ?_) | omega | (simp; omega)); done) | assumption | (go_simp; done)⟩
      ·(repeat' first | with_reducible (first | exact Below.refl _ _ | assumption | refine gr_alloc ?_ _ | refine below_drewN ?_ _ | refine below_drew ?_ | refine gr_call ?_ (by assumption) | refine Below.setCell ?_ ?_ _) | go_size | omega | (simp; omega))
     ·clear h1 h2 h3
      refine ⟨?r52x0, ?r52x1, ?r52x2, ?r52x3, ?r52x4, ?r52x5, ?r52x6, ?r52x7, ?r52x8, ?r52x9, ?r52x10, ?r52x11, ?r52x12, ?r52x13, ?r52x14, ?r52x15, ?r52x16, ?r52x17, trivial⟩
      all_goals intro _ aq wx Kq hf hS hdep ev1 ev2 hK
      case' r52x0 =>
       have F3 : aq.eval (.tmp 3) = .pointer (some ⟨w.heap.size, 0, none⟩) := hf 3
       have c0 := hS.cells (⟨w.heap.size, 0, none⟩, .int .i64 (F.1)) (by simp)
       have c1 := hS.cells (⟨w.heap.size, 1, none⟩, .int .i64 (F.2.1)) (by simp)
       have c2 := hS.cells (⟨w.heap.size, 2, none⟩, .int .i64 (F.2.2)) (by simp)
      case' r52x1 =>
       have F5 : aq.eval (.tmp 5) = .pointer (some ⟨w.heap.size + 1, 0, none⟩) := hf 5
       have c0 := hS.cells (⟨w.heap.size + 1, 0, none⟩, .int .i64 (W.1)) (by simp)
       have c1 := hS.cells (⟨w.heap.size + 1, 1, none⟩, .int .i64 (W.2.1)) (by simp)
       have c2 := hS.cells (⟨w.heap.size + 1, 2, none⟩, .int .i64 (W.2.2)) (by simp)
      case' r52x2 =>
       have D0 : aq.eval (.tmp 14) = _ := hdep 0
       have D1 : aq.eval (.tmp 15) = _ := hdep 1
      case' r52x3 =>
       obtain ⟨gs16, DP16, hcs16⟩ := hdep 2
       change aq.eval (.tmp 16) = _ at DP16
      case' r52x4 =>
       have D3 : aq.eval (.tmp 17) = _ := hdep 3
      case' r52x5 =>
       have D4 : aq.eval (.tmp 18) = _ := hdep 4
      case' r52x6 =>
       have F1 : aq.eval (.tmp 1) = .int .i64 t := hf 1
      case' r52x7 =>
       have D6 : aq.eval (.tmp 20) = _ := hdep 6
      case' r52x8 =>
       have D7 : aq.eval (.tmp 21) = _ := hdep 7
      case' r52x9 =>
       have D5 : aq.eval (.tmp 19) = _ := hdep 5
       have D8 : aq.eval (.tmp 22) = _ := hdep 8
      case' r52x10 =>
       have D9 : aq.eval (.tmp 23) = _ := hdep 9
      case' r52x11 =>
       have F5 : aq.eval (.tmp 5) = .pointer (some ⟨w.heap.size + 1, 0, none⟩) := hf 5
       have c0 := hS.cells (⟨w.heap.size + 1, 0, none⟩, .int .i64 (W.1)) (by simp)
       have c1 := hS.cells (⟨w.heap.size + 1, 1, none⟩, .int .i64 (W.2.1)) (by simp)
       have c2 := hS.cells (⟨w.heap.size + 1, 2, none⟩, .int .i64 (W.2.2)) (by simp)
      case' r52x12 =>
       have D11 : aq.eval (.tmp 25) = _ := hdep 11
      case' r52x13 =>
       have F5 : aq.eval (.tmp 5) = .pointer (some ⟨w.heap.size + 1, 0, none⟩) := hf 5
       have c0 := hS.cells (⟨w.heap.size + 1, 0, none⟩, .int .i64 (W.1)) (by simp)
       have c1 := hS.cells (⟨w.heap.size + 1, 1, none⟩, .int .i64 (W.2.1)) (by simp)
       have c2 := hS.cells (⟨w.heap.size + 1, 2, none⟩, .int .i64 (W.2.2)) (by simp)
      case' r52x14 =>
       have D13 : aq.eval (.tmp 27) = _ := hdep 13
      case' r52x15 =>
       have D14 : aq.eval (.tmp 28) = _ := hdep 14
      case' r52x16 =>
       have D12 : aq.eval (.tmp 26) = _ := hdep 12
       have D15 : aq.eval (.tmp 29) = _ := hdep 15
      case' r52x17 =>
       have D10 : aq.eval (.tmp 24) = _ := hdep 10
       have D16 : aq.eval (.tmp 30) = _ := hdep 16
      all_goals (clear hf hdep; unfold Oper.wp; generalize Act.eval _ = ev at *; go_simp)
      case r52x2 =>
       refine hK _ _ (hS.call (below_alloc_self _ _)) ?_ (fun j u _ h => hst9 j _ _ _ (below_alloc_self _ _) h)
       rw [if_pos (by rfl)]
       refine ⟨_, rfl, fun j hj => ?_⟩
       rcases (show j = 0 ∨ j = 1 ∨ j = 2 ∨ j = 3 ∨ j = 4 ∨ j = 5 by omega) with rfl | rfl | rfl | rfl | rfl | rfl <;> (go_simp; done)
      case r52x3 =>
       refine ((dlTwo F W gs16 true _ hcs16 (unhide HK0))).mono ?_
       rintro e w2 ⟨rfl, hb⟩
       refine hK _ _ (hS.call hb) ?_ (fun j u _ h => hst9 j _ _ _ hb h)
       rw [if_pos (by rfl)]
       show (_ : Value) = _
       first | rfl | (refine congrArg (Value.int .i64) ?_; first | rfl | exact int_in (by omega) | exact quo_in (by omega) (by omega) (by omega) | exact rem_in (by omega) (by omega) | omega | rfl) | (simp; done) | (simp [*]; done)
      case r52x7 =>
       refine ((dlTime_rw t true _ (unhide HK1))).mono ?_
       rintro e w2 ⟨rfl, rfl⟩
       refine hK _ _ (hS.call (below_refl_self _)) ?_ (fun j u _ h => hst9 j _ _ _ (below_refl_self _) h)
       rw [if_pos (by rfl)]
       show (_ : Value) = _
       first | rfl | (refine congrArg (Value.int .i64) ?_; first | rfl | exact int_in (by omega) | exact quo_in (by omega) (by omega) (by omega) | exact rem_in (by omega) (by omega) | omega | rfl) | (simp; done) | (simp [*]; done)
      case r52x12 =>
       refine ((rd_rws W R _ hW.i (unhide hR))).mono ?_
       rintro e w2 ⟨rfl, hb⟩
       refine hK _ _ (hS.call hb) ?_ (fun j u _ h => hst9 j _ _ _ hb h)
       rw [if_pos (by rfl)]
       show (_ : Value) = _
       first | rfl | (refine congrArg (Value.int .i64) ?_; first | rfl | exact int_in (by omega) | exact quo_in (by omega) (by omega) (by omega) | exact rem_in (by omega) (by omega) | omega | rfl) | (simp; done) | (simp [*]; done)
      case r52x14 =>
       refine ((foDisc_D W _ hW.i hW.f)).mono ?_
       rintro e w2 ⟨rfl, hb⟩
       refine hK _ _ (hS.call hb) ?_ (fun j u _ h => hst9 j _ _ _ hb h)
       rw [if_pos (by rfl)]
       show (_ : Value) = _
       first | rfl | (refine congrArg (Value.int .i64) ?_; first | rfl | exact int_in (by omega) | exact quo_in (by omega) (by omega) (by omega) | exact rem_in (by omega) (by omega) | omega | rfl) | (simp; done) | (simp [*]; done)
      case r52x15 =>
       refine ((co_rws O _ hdd.1 hdd.2 (unhide hO))).mono ?_
       rintro e w2 ⟨rfl, hb⟩
       refine hK _ _ (hS.call hb) ?_ (fun j u _ h => hst9 j _ _ _ hb h)
       rw [if_pos (by rfl)]
       show (_ : Value) = _
       first | rfl | (refine congrArg (Value.int .i64) ?_; first | rfl | exact int_in (by omega) | exact quo_in (by omega) (by omega) (by omega) | exact rem_in (by omega) (by omega) | omega | rfl) | (simp; done) | (simp [*]; done)
      case' r52x16 =>
       rw [eq3_res, Oper.upon_value]
      all_goals (refine hK _ _ hS ?_ (fun j u _ h => h); rw [if_pos (by rfl)]; show (_ : Value) = _; (first | rfl | (refine congrArg (Value.int .i64) ?_; first | rfl | exact int_in (by omega) | exact quo_in (by omega) (by omega) (by omega) | exact rem_in (by omega) (by omega) | omega | rfl) | (simp; done) | (simp [*]; done)))
     ·intro aq wx hd hw hf hS hg
      have G31 : tau aq 31 = .bool true := hg 17 (by decide)
      have haq : aq = ⟨#[tau aq 0, tau aq 1, tau aq 2, tau aq 3, tau aq 4, tau aq 5, tau aq 6, tau aq 7, tau aq 8, tau aq 9, tau aq 10, tau aq 11, tau aq 12, tau aq 13, tau aq 14, tau aq 15, tau aq 16, tau aq 17, tau aq 18, tau aq 19, tau aq 20, tau aq 21, tau aq 22, tau aq 23, tau aq 24, tau aq 25, tau aq 26, tau aq 27, tau aq 28, tau aq 29, tau aq 30, tau aq 31, tau aq 32, tau aq 33, tau aq 34, tau aq 35, tau aq 36, tau aq 37, tau aq 38, tau aq 39, tau aq 40, tau aq 41, tau aq 42, tau aq 43, tau aq 44, tau aq 45, tau aq 46, tau aq 47, tau aq 48, tau aq 49, tau aq 50, tau aq 51, tau aq 52, tau aq 53, tau aq 54, tau aq 55, tau aq 56, tau aq 57, tau aq 58, tau aq 59, tau aq 60, tau aq 61, tau aq 62, tau aq 63, tau aq 64, tau aq 65], []⟩ := by
       obtain ⟨tq, dq⟩ := aq
       have h5 := arr_eq (show tq.size = 66 from hw)
       have h6 : dq = [] := hd
       subst h6
       exact congrArg (fun z => Act.mk z []) h5
      show K2 aq wx
      rw [haq, hf 0, hf 1, hf 2, hf 3, hf 4, hf 5, hf 6, hf 7, hf 8, hf 9, hf 10, hf 11, hf 12, hf 13, hf 32, hf 33, hf 34, hf 35, hf 36, hf 37, hf 38, hf 39, hf 40, hf 41, hf 42, hf 43, hf 44, hf 45, hf 46, hf 47, hf 48, hf 49, hf 50, hf 51, hf 52, hf 53, hf 54, hf 55, hf 56, hf 57, hf 58, hf 59, hf 60, hf 61, hf 62, hf 63, hf 64, hf 65, G31]
      clear haq hf hd hw
      try dsimp only
      refine h3 _ _ ?_
      go_meet
      refine ⟨rfl, Ri3.m ?_ ?_ ?_, Ri3.m ?_ ?_ ?_, Wi3.m ?_ ?_ ?_ ?_ ?_ ?_, Wi3.m ?_ ?_ ?_ ?_ ?_ ?_, hS.below⟩
      all_goals first | exact hS.cells (_, _) (by simp) | exact (hS.free _ (by simp)).2
    try clear c00
    try clear c01
    try clear c02
    try clear c10
    try clear c11
    try clear c12
    try clear c20
    try clear c21
    try clear c22
    try clear c30
    try clear c31
    try clear c32
    try clear f20
    try clear f21
    try clear f22
    try clear f30
    try clear f31
    try clear f32
    obtain ⟨rfl, ⟨c00, c01, c02, z0⟩, ⟨c10, c11, c12, z1⟩, ⟨c20, c21, c22, f20, f21, f22, z2⟩, ⟨c30, c31, c32, f30, f31, f32, z3⟩, hb0⟩ := hcut
    go_wp2
    refine bodyPost_ret (v := .tuple #[.agg #[.int .i64 0, .int .i64 0, .int .i64 0], .agg #[.int .i64 0, .int .i64 0, .int .i64 0], .bool false]) (by simp [results, Tryz.results8, go_sem, *]) rfl ?_
    exact ⟨by rw [unhide HV], byGG⟩

end Go.Proofs.YtihfacmlfelliaaGreat
