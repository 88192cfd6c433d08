/- Challenges on both sides. -/
import Derived.Test.YtihfacmlfelliaaGreatPw
namespace Go.Proofs.YtihfacmlfelliaaGreat
open Go.RowKit
set_option linter.unusedVariables false
set_option linter.unusedSimpArgs false
attribute [local go_sem] q2 q3 q4 q5 q6 q7 q8 q9 q10 q11 q12

def StB (P : World → Value → Prop) : Prop := ∀ W w' v, Below W.heap.size W w' → P W v → P w' v
theorem Kd.st (k : Kd) : StB k.ok := fun W w' v hb h => Kd.ok_below hb h
def PtrTo (x : Value) (w : World) (v : Value) : Prop := ∃ a, v = .pointer (some a) ∧ w.cell? a = some x
theorem PtrTo.st {x : Value} : StB (PtrTo x) := fun W w' v hb ⟨a, h1, h2⟩ => ⟨a, h1, cell_call hb h2⟩
def SlcOf (n : Nat) (f : Nat → Int) (w : World) (v : Value) : Prop := ∃ g : Nat, v = .slice (some ⟨g, 0, none⟩) n n ∧ ∀ j, j < n → w.cell? ⟨g, j, none⟩ = some (.int .i64 (f j))
theorem SlcOf.st {n : Nat} {f : Nat → Int} : StB (SlcOf n f) := fun W w' v hb ⟨g, h1, h2⟩ => ⟨g, h1, fun j hj => cell_call hb (h2 j hj)⟩
def prN (j : Nat) : Int := ([3, 5, 7, 11, 13, 17, 19, 23, 29, 31, 37, 41, 43, 47, 53, 59] : List Int).getD j 0
theorem lt16 {j : Nat} (h : j < 16) : j = 0 ∨ j = 1 ∨ j = 2 ∨ j = 3 ∨ j = 4 ∨ j = 5 ∨ j = 6 ∨ j = 7 ∨ j = 8 ∨ j = 9 ∨ j = 10 ∨ j = 11 ∨ j = 12 ∨ j = 13 ∨ j = 14 ∨ j = 15 := by omega
theorem prN_bd : ∀ j, j < 16 → 2 ≤ prN j ∧ prN j ≤ 59 := by decide +kernel
noncomputable def chX (D k1 k2 t : Int) : Int := (31 * k1 + 37 * k2 + t - D) % 16
noncomputable def chI (D k1 k2 t : Int) : Int := prN (chX D k1 k2 t).toNat
theorem chX_bd (D k1 k2 t : Int) : 0 ≤ chX D k1 k2 t ∧ chX D k1 k2 t < 16 := ⟨Int.emod_nonneg _ (by omega), Int.emod_lt_of_pos _ (by omega)⟩
theorem chI_bd (D k1 k2 t : Int) : 2 ≤ chI D k1 k2 t ∧ chI D k1 k2 t ≤ 59 := prN_bd _ (by have := chX_bd D k1 k2 t; omega)

set_option maxRecDepth 100000 in
set_option maxHeartbeats 4000000 in
theorem dlPrimes_s  (w : World)  :
  Calls Tryz.prog 84 #[] w fun e w' => ∃ v, e = .returned v ∧ SlcOf 16 prN w' v ∧ Below w.heap.size w w' := by
 go_enter Tryz.func84, Tryz.ntmps84
 go_wp2
 refine bodyPost_ret (v := .slice (some ⟨w.heap.size, 0, none⟩) 16 16) (by simp [results, Tryz.results84, go_sem, *]) rfl ?_
 refine ⟨_, rfl, ⟨w.heap.size, rfl, ?_⟩, byGG⟩
 intro j hj
 rcases lt16 hj with rfl | rfl | rfl | rfl | rfl | rfl | rfl | rfl | rfl | rfl | rfl | rfl | rfl | rfl | rfl | rfl <;> first | (go_simp; done) | (simp [prN]; done) | (go_simp; rfl)

set_option maxRecDepth 100000 in
set_option maxHeartbeats 16000000 in
theorem challenge_D {D : Int} (F G : T3) (t : Int) (w : World) (h0 : Frm D F) (h1 : Frm D G) (h2 : 0 ≤ t) (h3 : t ≤ 1000000) :
  Calls Tryz.prog 32 #[frm F, frm G, .int .i64 t] w fun e w' => e = .returned (.int .i64 (chI D (keyT F) (keyT G) t)) ∧ Below w.heap.size w w' := by
 have kb1 := key_bd h0.i.cl
 have kb2 := key_bd h1.i.cl
 have hdd := h0.dd
 have hix := chX_bd D (keyT F) (keyT G) t
 go_enter Tryz.func32, Tryz.ntmps32
 go_upto_region 1 with fail
 go_cut [7] (fun s7 wx => s7 = .pointer (some ⟨w.heap.size + 1 + 1, 0, none⟩) ∧ wx.cell? ⟨w.heap.size, 0, none⟩ = some (.int .i64 (F.1)) ∧ wx.cell? ⟨w.heap.size, 1, none⟩ = some (.int .i64 (F.2.1)) ∧ wx.cell? ⟨w.heap.size, 2, none⟩ = some (.int .i64 (F.2.2)) ∧ wx.cell? ⟨w.heap.size + 1, 0, none⟩ = some (.int .i64 (G.1)) ∧ wx.cell? ⟨w.heap.size + 1, 1, none⟩ = some (.int .i64 (G.2.1)) ∧ wx.cell? ⟨w.heap.size + 1, 2, none⟩ = some (.int .i64 (G.2.2)) ∧ (∀ j : Nat, j < 16 → wx.cell? ⟨w.heap.size + 1 + 1, j, none⟩ = some (.int .i64 (prN j))) ∧ wx.heap.size = w.heap.size + 1 + 1 + 1 ∧ Below w.heap.size w wx)
 case first =>
  go_wp2
  rename_i K2 h2 h3
  refine h3 _ _ ?_
  (repeat apply Exists.intro)
  refine ⟨⟨rfl, ?_, ?_, ?_, ?_, ?_, ?_, ?_, ?_, ?_⟩, rfl⟩
  ·(first | with_reducible assumption | ((repeat' first | with_reducible (first | assumption | refine cell_al _ ?_ | refine cell_eq _ ?_ | refine cell_ne _ ?_ ?_ | refine ex_set _ ?_ | refine ex_al _ ?_ | exact ⟨_, by assumption⟩) | (intro hh; injection hh with hh1 hh2; omega)); done) | go_simp)
  ·(first | with_reducible assumption | ((repeat' first | with_reducible (first | assumption | refine cell_al _ ?_ | refine cell_eq _ ?_ | refine cell_ne _ ?_ ?_ | refine ex_set _ ?_ | refine ex_al _ ?_ | exact ⟨_, by assumption⟩) | (intro hh; injection hh with hh1 hh2; omega)); done) | go_simp)
  ·(first | with_reducible assumption | ((repeat' first | with_reducible (first | assumption | refine cell_al _ ?_ | refine cell_eq _ ?_ | refine cell_ne _ ?_ ?_ | refine ex_set _ ?_ | refine ex_al _ ?_ | exact ⟨_, by assumption⟩) | (intro hh; injection hh with hh1 hh2; omega)); done) | go_simp)
  ·(first | with_reducible assumption | ((repeat' first | with_reducible (first | assumption | refine cell_al _ ?_ | refine cell_eq _ ?_ | refine cell_ne _ ?_ ?_ | refine ex_set _ ?_ | refine ex_al _ ?_ | exact ⟨_, by assumption⟩) | (intro hh; injection hh with hh1 hh2; omega)); done) | go_simp)
  ·(first | with_reducible assumption | ((repeat' first | with_reducible (first | assumption | refine cell_al _ ?_ | refine cell_eq _ ?_ | refine cell_ne _ ?_ ?_ | refine ex_set _ ?_ | refine ex_al _ ?_ | exact ⟨_, by assumption⟩) | (intro hh; injection hh with hh1 hh2; omega)); done) | go_simp)
  ·(first | with_reducible assumption | ((repeat' first | with_reducible (first | assumption | refine cell_al _ ?_ | refine cell_eq _ ?_ | refine cell_ne _ ?_ ?_ | refine ex_set _ ?_ | refine ex_al _ ?_ | exact ⟨_, by assumption⟩) | (intro hh; injection hh with hh1 hh2; omega)); done) | go_simp)
  ·intro j hj; rcases lt16 hj with rfl | rfl | rfl | rfl | rfl | rfl | rfl | rfl | rfl | rfl | rfl | rfl | rfl | rfl | rfl | rfl <;> (first | with_reducible assumption | ((repeat' first | with_reducible (first | assumption | refine cell_al _ ?_ | refine cell_eq _ ?_ | refine cell_ne _ ?_ ?_ | refine ex_set _ ?_ | refine ex_al _ ?_ | exact ⟨_, by assumption⟩) | (intro hh; injection hh with hh1 hh2; omega)); done) | go_simp) <;> rfl
  ·simp
  ·(repeat' first | with_reducible (first | exact Below.refl _ _ | assumption | refine gr_alloc ?_ _ | refine below_drewN ?_ _ | refine below_drew ?_ | refine gr_call ?_ (by assumption) | refine Below.setCell ?_ ?_ _) | go_size | omega | (simp; omega))
 case rest =>
  obtain ⟨rfl, c00, c01, c02, c10, c11, c12, hA, hsz, hb0⟩ := hcut
  obtain ⟨wc0, rfl⟩ : ∃ wc0 : World, wc0 = wc := ⟨_, rfl⟩
  have c20 := hA (chX D (keyT F) (keyT G) t).toNat (by omega)
  change _ = some (Value.int .i64 (chI D (keyT F) (keyT G) t)) at c20
  clear hA
  have z0 := World.block_lt_of_cell? _ _ c00
  have z1 := World.block_lt_of_cell? _ _ c10
  have z2 := World.block_lt_of_cell? _ _ c20
  change w.heap.size < wc0.heap.size at z0
  change w.heap.size + 1 < wc0.heap.size at z1
  change w.heap.size + 1 + 1 < wc0.heap.size at z2
  go_upto_region 2 with fail
  go_cut [6] (fun s6 wx => s6 = .int .i64 (chI D (keyT F) (keyT G) t) ∧ Ri3 wx w.heap.size F.1 F.2.1 F.2.2 ∧ Ri3 wx (w.heap.size + 1) G.1 G.2.1 G.2.2 ∧ wx.cell? ⟨w.heap.size + 1 + 1, (chX D (keyT F) (keyT G) t).toNat, none⟩ = some (.int .i64 (chI D (keyT F) (keyT G) t)) ∧ Below w.heap.size w wx)
  case first =>
   have h1 := trivial
   rename_i K2 h2 h3
   refine region_n0 (by kernel_rfl) (fun j => #[9,10,11,12,13,14,15,16,17,18,19,20,21,22,23,6].getD j 0) (fun j => Kd.ok ((fun j => match j with | 0 => Kd.val (.agg #[.int .i64 (F.1), .int .i64 (F.2.1), .int .i64 (F.2.2)]) | 1 => Kd.val (.int .i64 (keyT F)) | 2 => Kd.val (.int .i64 (31 * (keyT F))) | 3 => Kd.val (.agg #[.int .i64 (G.1), .int .i64 (G.2.1), .int .i64 (G.2.2)]) | 4 => Kd.val (.int .i64 (keyT G)) | 5 => Kd.val (.int .i64 (37 * (keyT G))) | 6 => Kd.val (.int .i64 ((31 * (keyT F)) + (37 * (keyT G)))) | 7 => Kd.val (.int .i64 t) | 8 => Kd.val (.int .i64 (((31 * (keyT F)) + (37 * (keyT G))) + t)) | 9 => Kd.val (.agg #[.int .i64 (F.1), .int .i64 (F.2.1), .int .i64 (F.2.2)]) | 10 => Kd.val (.int .i64 D) | 11 => Kd.val (.int .i64 ((((31 * (keyT F)) + (37 * (keyT G))) + t) - D)) | 12 => Kd.val (.int .i64 ((chX D (keyT F) (keyT G) t))) | 13 => Kd.val (.pointer (some ⟨w.heap.size + 1 + 1, (chX D (keyT F) (keyT G) t).toNat, none⟩)) | 14 => Kd.val (.int .i64 (chI D (keyT F) (keyT G) t)) | 15 => Kd.val (.int .i64 (chI D (keyT F) (keyT G) t)) | _ => Kd.any : Nat → Kd) j)) (Sy w (wc0.heap.size) [(⟨w.heap.size, 0, none⟩, .int .i64 (F.1)), (⟨w.heap.size, 1, none⟩, .int .i64 (F.2.1)), (⟨w.heap.size, 2, none⟩, .int .i64 (F.2.2)), (⟨w.heap.size + 1, 0, none⟩, .int .i64 (G.1)), (⟨w.heap.size + 1, 1, none⟩, .int .i64 (G.2.1)), (⟨w.heap.size + 1, 2, none⟩, .int .i64 (G.2.2)), (⟨w.heap.size + 1 + 1, (chX D (keyT F) (keyT G) t).toNat, none⟩, .int .i64 (chI D (keyT F) (keyT G) t))] []) (by kernel_rfl) (by kernel_rfl) ?_ ?_ ?_ ?_
   ·intro j hj
    have hj2 : j < 16 := hj
    have : ∀ j, j < 16 → (#[9,10,11,12,13,14,15,16,17,18,19,20,21,22,23,6] : Array Nat).getD j 0 < 24 := by decide
    exact this j hj2
   ·refine Sy.drew (Sy.mk_of ?_ ?_ ?_ ?_)
    ·first | rfl | (simp; done) | (simp; omega)
    ·intro c hc
     simp only [List.mem_cons, List.not_mem_nil, or_false] at hc
     rcases hc with rfl | rfl | rfl | rfl | rfl | rfl | rfl <;> exact byCT
    ·intro p hp; cases hp
    ·(repeat' first | with_reducible (first | exact Below.refl _ _ | assumption | refine gr_alloc ?_ _ | refine below_drewN ?_ _ | refine below_drew ?_ | refine gr_call ?_ (by assumption) | refine Below.setCell ?_ ?_ _) | go_size | omega | (simp; omega))
   ·clear h1 h2 h3
    refine ⟨?r19x0, ?r19x1, ?r19x2, ?r19x3, ?r19x4, ?r19x5, ?r19x6, ?r19x7, ?r19x8, ?r19x9, ?r19x10, ?r19x11, ?r19x12, ?r19x13, ?r19x14, ?r19x15, trivial⟩
    all_goals intro _ aq wx Kq hf hS hdep ev1 ev2 hK
    case' r19x0 =>
     have F3 : aq.eval (.tmp 3) = .pointer (some ⟨w.heap.size, 0, none⟩) := hf 3
     have c0 := hS.cells (⟨w.heap.size, 0, none⟩, .int .i64 (F.1)) (by simp)
     have c1 := hS.cells (⟨w.heap.size, 1, none⟩, .int .i64 (F.2.1)) (by simp)
     have c2 := hS.cells (⟨w.heap.size, 2, none⟩, .int .i64 (F.2.2)) (by simp)
    case' r19x1 =>
     have D0 : aq.eval (.tmp 9) = _ := hdep 0
    case' r19x2 =>
     have D1 : aq.eval (.tmp 10) = _ := hdep 1
    case' r19x3 =>
     have F4 : aq.eval (.tmp 4) = .pointer (some ⟨w.heap.size + 1, 0, none⟩) := hf 4
     have c0 := hS.cells (⟨w.heap.size + 1, 0, none⟩, .int .i64 (G.1)) (by simp)
     have c1 := hS.cells (⟨w.heap.size + 1, 1, none⟩, .int .i64 (G.2.1)) (by simp)
     have c2 := hS.cells (⟨w.heap.size + 1, 2, none⟩, .int .i64 (G.2.2)) (by simp)
    case' r19x4 =>
     have D3 : aq.eval (.tmp 12) = _ := hdep 3
    case' r19x5 =>
     have D4 : aq.eval (.tmp 13) = _ := hdep 4
    case' r19x6 =>
     have D2 : aq.eval (.tmp 11) = _ := hdep 2
     have D5 : aq.eval (.tmp 14) = _ := hdep 5
    case' r19x7 =>
     have F2 : aq.eval (.tmp 2) = .int .i64 t := hf 2
    case' r19x8 =>
     have D6 : aq.eval (.tmp 15) = _ := hdep 6
     have D7 : aq.eval (.tmp 16) = _ := hdep 7
    case' r19x9 =>
     have F3 : aq.eval (.tmp 3) = .pointer (some ⟨w.heap.size, 0, none⟩) := hf 3
     have c0 := hS.cells (⟨w.heap.size, 0, none⟩, .int .i64 (F.1)) (by simp)
     have c1 := hS.cells (⟨w.heap.size, 1, none⟩, .int .i64 (F.2.1)) (by simp)
     have c2 := hS.cells (⟨w.heap.size, 2, none⟩, .int .i64 (F.2.2)) (by simp)
    case' r19x10 =>
     have D9 : aq.eval (.tmp 18) = _ := hdep 9
    case' r19x11 =>
     have D8 : aq.eval (.tmp 17) = _ := hdep 8
     have D10 : aq.eval (.tmp 19) = _ := hdep 10
    case' r19x12 =>
     have D11 : aq.eval (.tmp 20) = _ := hdep 11
    case' r19x13 =>
     have F7 : aq.eval (.tmp 7) = .pointer (some ⟨w.heap.size + 1 + 1, 0, none⟩) := hf 7
     have D12 : aq.eval (.tmp 21) = _ := hdep 12
    case' r19x14 =>
     have D13 : aq.eval (.tmp 22) = _ := hdep 13
     have c0 := hS.cells (⟨w.heap.size + 1 + 1, (chX D (keyT F) (keyT G) t).toNat, none⟩, .int .i64 (chI D (keyT F) (keyT G) t)) (by simp)
    case' r19x15 =>
     have D14 : aq.eval (.tmp 23) = _ := hdep 14
    all_goals (clear hf hdep; unfold Oper.wp; generalize Act.eval _ = ev at *; go_simp)
    case r19x1 =>
     refine ((key_D F _ h0.i)).mono ?_
     rintro e w2 ⟨rfl, hb⟩
     refine hK _ _ (hS.call hb) ?_ (fun j u _ h => Kd.ok_below hb h)
     rw [if_pos (by rfl)]
     show (_ : Value) = _
     first | rfl | (refine congrArg (Value.int .i64) ?_; first | rfl | exact int_in (by omega) | exact quo_in (by omega) (by omega) (by omega) | exact rem_in (by omega) (by omega) | omega) | (simp; done) | (simp [*]; done)
    case r19x4 =>
     refine ((key_D G _ h1.i)).mono ?_
     rintro e w2 ⟨rfl, hb⟩
     refine hK _ _ (hS.call hb) ?_ (fun j u _ h => Kd.ok_below hb h)
     rw [if_pos (by rfl)]
     show (_ : Value) = _
     first | rfl | (refine congrArg (Value.int .i64) ?_; first | rfl | exact int_in (by omega) | exact quo_in (by omega) (by omega) (by omega) | exact rem_in (by omega) (by omega) | omega) | (simp; done) | (simp [*]; done)
    case r19x10 =>
     refine ((disc_D F _ h0.i h0.f)).mono ?_
     rintro e w2 ⟨rfl, hb⟩
     refine hK _ _ (hS.call hb) ?_ (fun j u _ h => Kd.ok_below hb h)
     rw [if_pos (by rfl)]
     show (_ : Value) = _
     first | rfl | (refine congrArg (Value.int .i64) ?_; first | rfl | exact int_in (by omega) | exact quo_in (by omega) (by omega) (by omega) | exact rem_in (by omega) (by omega) | omega) | (simp; done) | (simp [*]; done)
    case r19x12 =>
     refine ((mod_a (31 * keyT F + 37 * keyT G + t - D) 16 _ (by omega) (by omega) (by omega))).mono ?_
     rintro e w2 ⟨rfl, rfl⟩
     refine hK _ _ (hS.call (below_refl_self _)) ?_ (fun j u _ h => Kd.ok_below (below_refl_self _) h)
     rw [if_pos (by rfl)]
     show (_ : Value) = _
     first | rfl | (refine congrArg (Value.int .i64) ?_; first | rfl | exact int_in (by omega) | exact quo_in (by omega) (by omega) (by omega) | exact rem_in (by omega) (by omega) | omega) | (simp; done) | (simp [*]; done)
    case' r19x13 =>
     try rw [if_pos (by omega), Oper.upon_value]
    all_goals (refine hK _ _ hS ?_ (fun j u _ h => h); rw [if_pos (by rfl)]; show (_ : Value) = _; (first | rfl | (refine congrArg (Value.int .i64) ?_; first | rfl | exact int_in (by omega) | exact quo_in (by omega) (by omega) (by omega) | exact rem_in (by omega) (by omega) | omega) | (simp; done) | (simp [*]; done)))
   ·intro aq wx hd hw hf hS hg
    have G6 : tau aq 6 = .int .i64 (chI D (keyT F) (keyT G) t) := hg 15 (by decide)
    have haq : aq = ⟨#[tau aq 0, tau aq 1, tau aq 2, tau aq 3, tau aq 4, tau aq 5, tau aq 6, tau aq 7, tau aq 8, tau aq 9, tau aq 10, tau aq 11, tau aq 12, tau aq 13, tau aq 14, tau aq 15, tau aq 16, tau aq 17, tau aq 18, tau aq 19, tau aq 20, tau aq 21, tau aq 22, tau aq 23], []⟩ := by
     obtain ⟨tq, dq⟩ := aq
     have h5 := arr_eq (show tq.size = 24 from hw)
     have h6 : dq = [] := hd
     subst h6
     exact congrArg (fun z => Act.mk z []) h5
    show K2 aq wx
    rw [haq, hf 0, hf 1, hf 2, hf 3, hf 4, hf 5, hf 7, hf 8, G6]
    clear haq hf hd hw
    try dsimp only
    refine h3 _ _ ?_
    go_meet
    refine ⟨rfl, Ri3.m ?_ ?_ ?_, Ri3.m ?_ ?_ ?_, ?_, hS.below⟩
    all_goals first | exact hS.cells (_, _) (by simp) | exact (hS.free _ (by simp)).2
  obtain ⟨rfl, ⟨c00, c01, c02, z0⟩, ⟨c10, c11, c12, z1⟩, c20, hb0⟩ := hcut
  have z2 := World.block_lt_of_cell? _ _ c20
  change w.heap.size + 1 + 1 < wc.heap.size at z2
  go_wp2
  refine bodyPost_ret (v := .int .i64 (chI D (keyT F) (keyT G) t)) (by simp [results, Tryz.results32, go_sem, *]) rfl ?_
  exact ⟨rfl, hb0⟩

set_option maxRecDepth 100000 in
set_option maxHeartbeats 16000000 in
theorem dlChallenge_D {D : Int} (F G : T3) (t : Int) (w : World) (h0 : Frm D F) (h1 : Frm D G) (h2 : 0 ≤ t) (h3 : t ≤ 1000000) :
  Calls Tryz.prog 45 #[frm F, frm G, .int .i64 t] w fun e w' => e = .returned (.int .i64 (chI D (keyT F) (keyT G) t)) ∧ Below w.heap.size w w' := by
 have kb1 := key_bd h0.i.cl
 have kb2 := key_bd h1.i.cl
 have hdd := h0.dd
 have hix := chX_bd D (keyT F) (keyT G) t
 have HX : (-D + 31 * keyT F + 37 * keyT G + t).tmod 16 = (chX D (keyT F) (keyT G) t) := by
  unfold chX; rw [rem_in (by omega) (by omega)]; congr 1; omega
 go_enter Tryz.func45, Tryz.ntmps45
 go_upto_region 1 with fail
 go_cut [6] (fun s6 wx => s6 = .int .i64 (chI D (keyT F) (keyT G) t) ∧ Ri3 wx w.heap.size F.1 F.2.1 F.2.2 ∧ Ri3 wx (w.heap.size + 1) G.1 G.2.1 G.2.2 ∧ Below w.heap.size w wx)
 case first =>
  have h1 := trivial
  rename_i K2 h2 h3
  let hgf9 : Nat → World → Value → Prop := fun j => match j with | 0 => (SlcOf 16 prN) | 1 => Kd.ok (Kd.val (.agg #[.int .i64 (F.1), .int .i64 (F.2.1), .int .i64 (F.2.2)])) | 2 => Kd.ok (Kd.val (.int .i64 D)) | 3 => Kd.ok (Kd.val (.int .i64 (-D))) | 4 => Kd.ok (Kd.val (.agg #[.int .i64 (F.1), .int .i64 (F.2.1), .int .i64 (F.2.2)])) | 5 => Kd.ok (Kd.val (.int .i64 (keyT F))) | 6 => Kd.ok (Kd.val (.int .i64 (31 * (keyT F)))) | 7 => Kd.ok (Kd.val (.int .i64 ((-D) + (31 * (keyT F))))) | 8 => Kd.ok (Kd.val (.agg #[.int .i64 (G.1), .int .i64 (G.2.1), .int .i64 (G.2.2)])) | 9 => Kd.ok (Kd.val (.int .i64 (keyT G))) | 10 => Kd.ok (Kd.val (.int .i64 (37 * (keyT G)))) | 11 => Kd.ok (Kd.val (.int .i64 (((-D) + (31 * (keyT F))) + (37 * (keyT G))))) | 12 => Kd.ok (Kd.val (.int .i64 t)) | 13 => Kd.ok (Kd.val (.int .i64 ((((-D) + (31 * (keyT F))) + (37 * (keyT G))) + t))) | 14 => Kd.ok (Kd.val (.int .i64 ((chX D (keyT F) (keyT G) t)))) | 15 => (PtrTo (.int .i64 (chI D (keyT F) (keyT G) t))) | 16 => Kd.ok (Kd.val (.int .i64 (chI D (keyT F) (keyT G) t))) | 17 => Kd.ok (Kd.val (.int .i64 (chI D (keyT F) (keyT G) t))) | _ => Kd.ok Kd.any
  have hst9 : ∀ j, StB (hgf9 j) := fun j => match j with | 0 => (SlcOf.st : StB (SlcOf 16 prN)) | 1 => (Kd.st (Kd.val (.agg #[.int .i64 (F.1), .int .i64 (F.2.1), .int .i64 (F.2.2)])) : StB (Kd.ok (Kd.val (.agg #[.int .i64 (F.1), .int .i64 (F.2.1), .int .i64 (F.2.2)])))) | 2 => (Kd.st (Kd.val (.int .i64 D)) : StB (Kd.ok (Kd.val (.int .i64 D)))) | 3 => (Kd.st (Kd.val (.int .i64 (-D))) : StB (Kd.ok (Kd.val (.int .i64 (-D))))) | 4 => (Kd.st (Kd.val (.agg #[.int .i64 (F.1), .int .i64 (F.2.1), .int .i64 (F.2.2)])) : StB (Kd.ok (Kd.val (.agg #[.int .i64 (F.1), .int .i64 (F.2.1), .int .i64 (F.2.2)])))) | 5 => (Kd.st (Kd.val (.int .i64 (keyT F))) : StB (Kd.ok (Kd.val (.int .i64 (keyT F))))) | 6 => (Kd.st (Kd.val (.int .i64 (31 * (keyT F)))) : StB (Kd.ok (Kd.val (.int .i64 (31 * (keyT F)))))) | 7 => (Kd.st (Kd.val (.int .i64 ((-D) + (31 * (keyT F))))) : StB (Kd.ok (Kd.val (.int .i64 ((-D) + (31 * (keyT F))))))) | 8 => (Kd.st (Kd.val (.agg #[.int .i64 (G.1), .int .i64 (G.2.1), .int .i64 (G.2.2)])) : StB (Kd.ok (Kd.val (.agg #[.int .i64 (G.1), .int .i64 (G.2.1), .int .i64 (G.2.2)])))) | 9 => (Kd.st (Kd.val (.int .i64 (keyT G))) : StB (Kd.ok (Kd.val (.int .i64 (keyT G))))) | 10 => (Kd.st (Kd.val (.int .i64 (37 * (keyT G)))) : StB (Kd.ok (Kd.val (.int .i64 (37 * (keyT G)))))) | 11 => (Kd.st (Kd.val (.int .i64 (((-D) + (31 * (keyT F))) + (37 * (keyT G))))) : StB (Kd.ok (Kd.val (.int .i64 (((-D) + (31 * (keyT F))) + (37 * (keyT G))))))) | 12 => (Kd.st (Kd.val (.int .i64 t)) : StB (Kd.ok (Kd.val (.int .i64 t)))) | 13 => (Kd.st (Kd.val (.int .i64 ((((-D) + (31 * (keyT F))) + (37 * (keyT G))) + t))) : StB (Kd.ok (Kd.val (.int .i64 ((((-D) + (31 * (keyT F))) + (37 * (keyT G))) + t))))) | 14 => (Kd.st (Kd.val (.int .i64 ((chX D (keyT F) (keyT G) t)))) : StB (Kd.ok (Kd.val (.int .i64 ((chX D (keyT F) (keyT G) t)))))) | 15 => (PtrTo.st : StB (PtrTo (.int .i64 (chI D (keyT F) (keyT G) t)))) | 16 => (Kd.st (Kd.val (.int .i64 (chI D (keyT F) (keyT G) t))) : StB (Kd.ok (Kd.val (.int .i64 (chI D (keyT F) (keyT G) t))))) | 17 => (Kd.st (Kd.val (.int .i64 (chI D (keyT F) (keyT G) t))) : StB (Kd.ok (Kd.val (.int .i64 (chI D (keyT F) (keyT G) t))))) | j + 18 => (Kd.st Kd.any : StB (Kd.ok Kd.any))
  refine region_n0 (by kernel_rfl) (fun j => #[7,8,9,10,11,12,13,14,15,16,17,18,19,20,21,22,23,6].getD j 0) (hgf9) (Sy w (w.heap.size + 1 + 1) [(⟨w.heap.size, 0, none⟩, .int .i64 (F.1)), (⟨w.heap.size, 1, none⟩, .int .i64 (F.2.1)), (⟨w.heap.size, 2, none⟩, .int .i64 (F.2.2)), (⟨w.heap.size + 1, 0, none⟩, .int .i64 (G.1)), (⟨w.heap.size + 1, 1, none⟩, .int .i64 (G.2.1)), (⟨w.heap.size + 1, 2, none⟩, .int .i64 (G.2.2))] []) (by kernel_rfl) (by kernel_rfl) ?_ ?_ ?_ ?_
  ·intro j hj
   have hj2 : j < 18 := hj
   have : ∀ j, j < 18 → (#[7,8,9,10,11,12,13,14,15,16,17,18,19,20,21,22,23,6] : Array Nat).getD j 0 < 24 := by decide
   exact this j hj2
  ·refine Sy.drew (Sy.mk_of ?_ ?_ ?_ ?_)
   ·first | rfl | (simp; done) | (simp; omega)
   ·intro c hc
    simp only [List.mem_cons, List.not_mem_nil, or_false] at hc
    rcases hc with rfl | rfl | rfl | rfl | rfl | rfl <;> exact byCT
   ·intro p hp; cases hp
   ·(repeat' first | with_reducible (first | exact Below.refl _ _ | assumption | refine gr_alloc ?_ _ | refine below_drewN ?_ _ | refine below_drew ?_ | refine gr_call ?_ (by assumption) | refine Below.setCell ?_ ?_ _) | go_size | omega | (simp; omega))
  ·clear h1 h2 h3
   refine ⟨?r20x0, ?r20x1, ?r20x2, ?r20x3, ?r20x4, ?r20x5, ?r20x6, ?r20x7, ?r20x8, ?r20x9, ?r20x10, ?r20x11, ?r20x12, ?r20x13, ?r20x14, ?r20x15, ?r20x16, ?r20x17, trivial⟩
   all_goals intro _ aq wx Kq hf hS hdep ev1 ev2 hK
   case' r20x1 =>
    have F3 : aq.eval (.tmp 3) = .pointer (some ⟨w.heap.size, 0, none⟩) := hf 3
    have c0 := hS.cells (⟨w.heap.size, 0, none⟩, .int .i64 (F.1)) (by simp)
    have c1 := hS.cells (⟨w.heap.size, 1, none⟩, .int .i64 (F.2.1)) (by simp)
    have c2 := hS.cells (⟨w.heap.size, 2, none⟩, .int .i64 (F.2.2)) (by simp)
   case' r20x2 =>
    have D1 : aq.eval (.tmp 8) = _ := hdep 1
   case' r20x3 =>
    have D2 : aq.eval (.tmp 9) = _ := hdep 2
   case' r20x4 =>
    have F3 : aq.eval (.tmp 3) = .pointer (some ⟨w.heap.size, 0, none⟩) := hf 3
    have c0 := hS.cells (⟨w.heap.size, 0, none⟩, .int .i64 (F.1)) (by simp)
    have c1 := hS.cells (⟨w.heap.size, 1, none⟩, .int .i64 (F.2.1)) (by simp)
    have c2 := hS.cells (⟨w.heap.size, 2, none⟩, .int .i64 (F.2.2)) (by simp)
   case' r20x5 =>
    have D4 : aq.eval (.tmp 11) = _ := hdep 4
   case' r20x6 =>
    have D5 : aq.eval (.tmp 12) = _ := hdep 5
   case' r20x7 =>
    have D3 : aq.eval (.tmp 10) = _ := hdep 3
    have D6 : aq.eval (.tmp 13) = _ := hdep 6
   case' r20x8 =>
    have F4 : aq.eval (.tmp 4) = .pointer (some ⟨w.heap.size + 1, 0, none⟩) := hf 4
    have c0 := hS.cells (⟨w.heap.size + 1, 0, none⟩, .int .i64 (G.1)) (by simp)
    have c1 := hS.cells (⟨w.heap.size + 1, 1, none⟩, .int .i64 (G.2.1)) (by simp)
    have c2 := hS.cells (⟨w.heap.size + 1, 2, none⟩, .int .i64 (G.2.2)) (by simp)
   case' r20x9 =>
    have D8 : aq.eval (.tmp 15) = _ := hdep 8
   case' r20x10 =>
    have D9 : aq.eval (.tmp 16) = _ := hdep 9
   case' r20x11 =>
    have D7 : aq.eval (.tmp 14) = _ := hdep 7
    have D10 : aq.eval (.tmp 17) = _ := hdep 10
   case' r20x12 =>
    have F2 : aq.eval (.tmp 2) = .int .i64 t := hf 2
   case' r20x13 =>
    have D11 : aq.eval (.tmp 18) = _ := hdep 11
    have D12 : aq.eval (.tmp 19) = _ := hdep 12
   case' r20x14 =>
    have D13 : aq.eval (.tmp 20) = _ := hdep 13
   case' r20x15 =>
    obtain ⟨gs, DP7, hcs⟩ := hdep 0
    change aq.eval (.tmp 7) = _ at DP7
    have D14 : aq.eval (.tmp 21) = _ := hdep 14
   case' r20x16 =>
    obtain ⟨ga, DP22, hca⟩ := hdep 15
    change aq.eval (.tmp 22) = _ at DP22
   case' r20x17 =>
    have D16 : aq.eval (.tmp 23) = _ := hdep 16
   all_goals (clear hf hdep; unfold Oper.wp; generalize Act.eval _ = ev at *; go_simp)
   case r20x0 =>
    refine ((dlPrimes_s _)).mono ?_
    rintro e w2 ⟨v9, rfl, hpr, hb⟩
    refine hK _ _ (hS.call hb) ?_ (fun j u _ h => hst9 j _ _ _ hb h)
    rw [if_pos (by rfl)]
    exact hpr
   case r20x2 =>
    refine ((foDisc_D F _ h0.i h0.f)).mono ?_
    rintro e w2 ⟨rfl, hb⟩
    refine hK _ _ (hS.call hb) ?_ (fun j u _ h => hst9 j _ _ _ hb h)
    rw [if_pos (by rfl)]
    show (_ : Value) = _
    first | rfl | (refine congrArg (Value.int .i64) ?_; first | rfl | exact int_in (by omega) | exact quo_in (by omega) (by omega) (by omega) | exact rem_in (by omega) (by omega) | omega | exact HX) | (simp; done) | (simp [*]; done)
   case r20x5 =>
    refine ((dlKey_D F _ h0.i)).mono ?_
    rintro e w2 ⟨rfl, hb⟩
    refine hK _ _ (hS.call hb) ?_ (fun j u _ h => hst9 j _ _ _ hb h)
    rw [if_pos (by rfl)]
    show (_ : Value) = _
    first | rfl | (refine congrArg (Value.int .i64) ?_; first | rfl | exact int_in (by omega) | exact quo_in (by omega) (by omega) (by omega) | exact rem_in (by omega) (by omega) | omega | exact HX) | (simp; done) | (simp [*]; done)
   case r20x9 =>
    refine ((dlKey_D G _ h1.i)).mono ?_
    rintro e w2 ⟨rfl, hb⟩
    refine hK _ _ (hS.call hb) ?_ (fun j u _ h => hst9 j _ _ _ hb h)
    rw [if_pos (by rfl)]
    show (_ : Value) = _
    first | rfl | (refine congrArg (Value.int .i64) ?_; first | rfl | exact int_in (by omega) | exact quo_in (by omega) (by omega) (by omega) | exact rem_in (by omega) (by omega) | omega | exact HX) | (simp; done) | (simp [*]; done)
   case' r20x14 =>
    try rw [if_neg (by omega), Oper.upon_value]
   case r20x15 =>
    refine hK _ _ hS ?_ (fun j u _ h => h)
    rw [if_pos (by rfl)]
    exact ⟨_, rfl, hcs _ (by omega)⟩
   all_goals (refine hK _ _ hS ?_ (fun j u _ h => h); rw [if_pos (by rfl)]; show (_ : Value) = _; (first | rfl | (refine congrArg (Value.int .i64) ?_; first | rfl | exact int_in (by omega) | exact quo_in (by omega) (by omega) (by omega) | exact rem_in (by omega) (by omega) | omega | exact HX) | (simp; done) | (simp [*]; done)))
  ·intro aq wx hd hw hf hS hg
   have G6 : tau aq 6 = .int .i64 (chI D (keyT F) (keyT G) t) := hg 17 (by decide)
   have haq : aq = ⟨#[tau aq 0, tau aq 1, tau aq 2, tau aq 3, tau aq 4, tau aq 5, tau aq 6, tau aq 7, tau aq 8, tau aq 9, tau aq 10, tau aq 11, tau aq 12, tau aq 13, tau aq 14, tau aq 15, tau aq 16, tau aq 17, tau aq 18, tau aq 19, tau aq 20, tau aq 21, tau aq 22, tau aq 23], []⟩ := by
    obtain ⟨tq, dq⟩ := aq
    have h5 := arr_eq (show tq.size = 24 from hw)
    have h6 : dq = [] := hd
    subst h6
    exact congrArg (fun z => Act.mk z []) h5
   show K2 aq wx
   rw [haq, hf 0, hf 1, hf 2, hf 3, hf 4, hf 5, G6]
   clear haq hf hd hw
   try dsimp only
   refine h3 _ _ ?_
   go_meet
   refine ⟨rfl, Ri3.m ?_ ?_ ?_, Ri3.m ?_ ?_ ?_, hS.below⟩
   all_goals first | exact hS.cells (_, _) (by simp) | exact (hS.free _ (by simp)).2
 obtain ⟨rfl, ⟨c00, c01, c02, z0⟩, ⟨c10, c11, c12, z1⟩, hb0⟩ := hcut
 go_wp2
 refine bodyPost_ret (v := .int .i64 (chI D (keyT F) (keyT G) t)) (by simp [results, Tryz.results45, go_sem, *]) rfl ?_
 exact ⟨rfl, hb0⟩
end Go.Proofs.YtihfacmlfelliaaGreat
