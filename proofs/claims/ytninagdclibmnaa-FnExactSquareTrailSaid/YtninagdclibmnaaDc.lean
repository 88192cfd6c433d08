/-
  DelayChallenge, HalvingChallenge on both sides.
-/
import Derived.Test.YtninagdclibmnaaRw
namespace Go.Proofs.Ytninagdclibmnaa
open Go.RowKit
set_option linter.unusedVariables false
set_option linter.unusedSimpArgs false
attribute [local go_sem] q2 q3 q4 q5 q6 q7 q8 q9 q10 q11 q12

def tmB (t : Int) : Bool := inB t 0 200
def hvB (k : Int) : Bool := inB k 0 6
def twoT (F G : T3) (i : Nat) : T3 := if i = 0 then F else G
def thrT (F G M : T3) (i : Nat) : T3 := if i = 0 then F else if i = 1 then G else M
theorem pr_self (F : T3) : prB F F = clB F := by simp [prB]
theorem on_two (F G : T3) : onB (twoT F G) 2 = prB F G := by
  simp only [onB, twoT, Bool.true_and]
  simp [pr_self, prB]
def trB (F G M : T3) : Bool := prB F G && prB F M
theorem on_three (F G M : T3) : onB (thrT F G M) 3 = trB F G M := by
  simp only [onB, thrT, Bool.true_and]
  simp [pr_self, prB, trB]
  try (cases clB F <;> simp)
theorem tr_true {F G M : T3} (h : trB F G M = true) : Frm (dT F) F ∧ Frm (dT F) G ∧ Frm (dT F) M := by
  unfold trB at h; simp at h
  exact ⟨(pr_true h.1).1, (pr_true h.1).2, (pr_true h.2).2⟩
noncomputable def khX (D kx ky km k : Int) : Int := (3 * kx + 5 * ky + 7 * km + k - D) % 13
noncomputable def khI (D kx ky km k : Int) : Int := 2 + khX D kx ky km k
theorem khX_bd (D kx ky km k : Int) : 0 ≤ khX D kx ky km k ∧ khX D kx ky km k < 13 := ⟨Int.emod_nonneg _ (by omega), Int.emod_lt_of_pos _ (by omega)⟩
def dcB (F G : T3) (t : Int) : Bool := prB F G && tmB t
noncomputable def dcV (F G : T3) (t : Int) : Int := if dcB F G t then chI (dT F) (keyT F) (keyT G) t else 0
def hcB (F G M : T3) (k : Int) : Bool := trB F G M && hvB k
noncomputable def hcV (F G M : T3) (k : Int) : Int := if hcB F G M k then khI (dT F) (keyT F) (keyT G) (keyT M) k else 0
theorem two_fs {w : World} {g : Nat} {F G : T3} (h : w.cell? ⟨g, 0, none⟩ = some (.int .i64 F.1) ∧ w.cell? ⟨g, 1, none⟩ = some (.int .i64 F.2.1) ∧ w.cell? ⟨g, 2, none⟩ = some (.int .i64 F.2.2) ∧ w.cell? ⟨g, 3, none⟩ = some (.int .i64 G.1) ∧ w.cell? ⟨g, 4, none⟩ = some (.int .i64 G.2.1) ∧ w.cell? ⟨g, 5, none⟩ = some (.int .i64 G.2.2)) : FsAt w g 2 (twoT F G) := by
  obtain ⟨h0, h1, h2, h3, h4, h5⟩ := h
  intro i hi
  rcases (show i = 0 ∨ i = 1 by omega) with rfl | rfl
  · exact ⟨h0, h1, h2⟩
  · exact ⟨h3, h4, h5⟩
theorem three_fs {w : World} {g : Nat} {F G M : T3} (h : w.cell? ⟨g, 0, none⟩ = some (.int .i64 F.1) ∧ w.cell? ⟨g, 1, none⟩ = some (.int .i64 F.2.1) ∧ w.cell? ⟨g, 2, none⟩ = some (.int .i64 F.2.2) ∧ w.cell? ⟨g, 3, none⟩ = some (.int .i64 G.1) ∧ w.cell? ⟨g, 4, none⟩ = some (.int .i64 G.2.1) ∧ w.cell? ⟨g, 5, none⟩ = some (.int .i64 G.2.2) ∧ w.cell? ⟨g, 6, none⟩ = some (.int .i64 M.1) ∧ w.cell? ⟨g, 7, none⟩ = some (.int .i64 M.2.1) ∧ w.cell? ⟨g, 8, none⟩ = some (.int .i64 M.2.2)) : FsAt w g 3 (thrT F G M) := by
  obtain ⟨h0, h1, h2, h3, h4, h5, h6, h7, h8⟩ := h
  intro i hi
  rcases (show i = 0 ∨ i = 1 ∨ i = 2 by omega) with rfl | rfl | rfl
  · exact ⟨h0, h1, h2⟩
  · exact ⟨h3, h4, h5⟩
  · exact ⟨h6, h7, h8⟩
theorem two_i64 {F G : T3} (h1 : I64T F) (h2 : I64T G) : ∀ i, i < 2 → I64T (twoT F G i) := fun i hi => by
  rcases (show i = 0 ∨ i = 1 by omega) with rfl | rfl
  · exact h1
  · exact h2
theorem three_i64 {F G M : T3} (h1 : I64T F) (h2 : I64T G) (h3 : I64T M) : ∀ i, i < 3 → I64T (thrT F G M i) := fun i hi => by
  rcases (show i = 0 ∨ i = 1 ∨ i = 2 by omega) with rfl | rfl | rfl
  · exact h1
  · exact h2
  · exact h3

set_option maxRecDepth 100000 in
set_option maxHeartbeats 1000000 in
theorem isTime_b (t : Int) (w : World) :
    Calls Try.prog 54 #[.int .i64 t] w fun e w' => e = .returned (.bool (tmB t)) ∧ w = w' := by
  by_cases k0 : 0 ≤ t
  · by_cases k1 : t ≤ 200
    · go_enter Try.func54, Try.ntmps54
      go_wp2
      go_returns
      exact ⟨ret_bool (by simp [tmB, inB, k0, k1] <;> (try (intros; omega))), rfl⟩
    · go_enter Try.func54, Try.ntmps54
      go_wp2
      go_returns
      exact ⟨ret_bool (by simp [tmB, inB, k0, k1] <;> (try (intros; omega))), rfl⟩
  · go_enter Try.func54, Try.ntmps54
    go_wp2
    go_returns
    exact ⟨ret_bool (by simp [tmB, inB, k0] <;> (try (intros; omega))), rfl⟩

set_option maxRecDepth 100000 in
set_option maxHeartbeats 1000000 in
theorem isHalvings_b (t : Int) (w : World) :
    Calls Try.prog 59 #[.int .i64 t] w fun e w' => e = .returned (.bool (hvB t)) ∧ w = w' := by
  by_cases k0 : 0 ≤ t
  · by_cases k1 : t ≤ 6
    · go_enter Try.func59, Try.ntmps59
      go_wp2
      go_returns
      exact ⟨ret_bool (by simp [hvB, inB, k0, k1] <;> (try (intros; omega))), rfl⟩
    · go_enter Try.func59, Try.ntmps59
      go_wp2
      go_returns
      exact ⟨ret_bool (by simp [hvB, inB, k0, k1] <;> (try (intros; omega))), rfl⟩
  · go_enter Try.func59, Try.ntmps59
    go_wp2
    go_returns
    exact ⟨ret_bool (by simp [hvB, inB, k0] <;> (try (intros; omega))), rfl⟩

set_option maxRecDepth 100000 in
set_option maxHeartbeats 400000 in
theorem dlTime_b (t : Int) (w : World) :
    Calls Try.prog 51 #[.int .i64 t] w fun e w' => e = .returned (.bool (tmB t)) ∧ w = w' := by
  go_enter Try.func51, Try.ntmps51
  go_wp2_with (go_at_call 106; refine (l1In_any _ _ _ _).mono ?_; rintro e w' ⟨rfl, rfl⟩)
  go_returns
  exact ⟨rfl, rfl⟩

set_option maxRecDepth 100000 in
set_option maxHeartbeats 400000 in
theorem dlHalving_b (t : Int) (w : World) :
    Calls Try.prog 56 #[.int .i64 t] w fun e w' => e = .returned (.bool (hvB t)) ∧ w = w' := by
  go_enter Try.func56, Try.ntmps56
  go_wp2_with (go_at_call 106; refine (l1In_any _ _ _ _).mono ?_; rintro e w' ⟨rfl, rfl⟩)
  go_returns
  exact ⟨rfl, rfl⟩

set_option maxRecDepth 100000 in
set_option maxHeartbeats 16000000 in
theorem halvingChallenge_D {D : Int} (F G M : T3) (k : Int) (w : World) (h0 : Frm D F) (h1 : Frm D G) (h2 : Frm D M) (h3 : 0 ≤ k) (h4 : k ≤ 1000000) :
    Calls Try.prog 60 #[frm F, frm G, frm M, .int .i64 k] w fun e w' => e = .returned (.int .i64 (khI D (keyT F) (keyT G) (keyT M) k)) ∧ Below w.heap.size w w' := by
  have kb1 := key_bd h0.i.cl
  have kb2 := key_bd h1.i.cl
  have kb3 := key_bd h2.i.cl
  have hdd := h0.dd
  have hix := khX_bd D (keyT F) (keyT G) (keyT M) k
  have HX : (-D + 3 * keyT F + 5 * keyT G + 7 * keyT M + k).tmod 13 = khX D (keyT F) (keyT G) (keyT M) k := by
    unfold khX; rw [rem_in (by omega) (by omega)]; congr 1; omega
  have HY : IntKind.i64.wrap (2 + khX D (keyT F) (keyT G) (keyT M) k) = khI D (keyT F) (keyT G) (keyT M) k := int_in (by omega)
  go_enter Try.func60, Try.ntmps60
  go_upto_region 1 with fail
  go_cut [8] (fun s8 wx => s8 = .int .i64 (khI D (keyT F) (keyT G) (keyT M) k) ∧ wx.cell? ⟨w.heap.size, 0, none⟩ = some (.int .i64 (F.1)) ∧ wx.cell? ⟨w.heap.size, 1, none⟩ = some (.int .i64 (F.2.1)) ∧ wx.cell? ⟨w.heap.size, 2, none⟩ = some (.int .i64 (F.2.2)) ∧ wx.cell? ⟨w.heap.size + 1, 0, none⟩ = some (.int .i64 (G.1)) ∧ wx.cell? ⟨w.heap.size + 1, 1, none⟩ = some (.int .i64 (G.2.1)) ∧ wx.cell? ⟨w.heap.size + 1, 2, none⟩ = some (.int .i64 (G.2.2)) ∧ wx.cell? ⟨w.heap.size + 1 + 1, 0, none⟩ = some (.int .i64 (M.1)) ∧ wx.cell? ⟨w.heap.size + 1 + 1, 1, none⟩ = some (.int .i64 (M.2.1)) ∧ wx.cell? ⟨w.heap.size + 1 + 1, 2, none⟩ = some (.int .i64 (M.2.2)) ∧ Below w.heap.size w wx)
  case first =>
    have h1 := trivial
    rename_i K2 h2 h3
    refine region_n0 (by kernel_rfl) (fun j => #[9,10,11,12,13,14,15,16,17,18,19,20,21,22,23,24,25,26,8].getD j 0) (fun j => Kd.ok ((fun j => match j with | 0 => Kd.val (.agg #[.int .i64 (F.1), .int .i64 (F.2.1), .int .i64 (F.2.2)]) | 1 => Kd.val (.int .i64 (keyT F)) | 2 => Kd.val (.int .i64 (3 * (keyT F))) | 3 => Kd.val (.agg #[.int .i64 (G.1), .int .i64 (G.2.1), .int .i64 (G.2.2)]) | 4 => Kd.val (.int .i64 (keyT G)) | 5 => Kd.val (.int .i64 (5 * (keyT G))) | 6 => Kd.val (.int .i64 ((3 * (keyT F)) + (5 * (keyT G)))) | 7 => Kd.val (.agg #[.int .i64 (M.1), .int .i64 (M.2.1), .int .i64 (M.2.2)]) | 8 => Kd.val (.int .i64 (keyT M)) | 9 => Kd.val (.int .i64 (7 * (keyT M))) | 10 => Kd.val (.int .i64 (((3 * (keyT F)) + (5 * (keyT G))) + (7 * (keyT M)))) | 11 => Kd.val (.int .i64 k) | 12 => Kd.val (.int .i64 ((((3 * (keyT F)) + (5 * (keyT G))) + (7 * (keyT M))) + k)) | 13 => Kd.val (.agg #[.int .i64 (F.1), .int .i64 (F.2.1), .int .i64 (F.2.2)]) | 14 => Kd.val (.int .i64 D) | 15 => Kd.val (.int .i64 (((((3 * (keyT F)) + (5 * (keyT G))) + (7 * (keyT M))) + k) - D)) | 16 => Kd.val (.int .i64 (khX D (keyT F) (keyT G) (keyT M) k)) | 17 => Kd.val (.int .i64 (khI D (keyT F) (keyT G) (keyT M) k)) | 18 => Kd.val (.int .i64 (khI D (keyT F) (keyT G) (keyT M) k)) | _ => Kd.any : Nat → Kd) j)) (Sy w (w.heap.size + 1 + 1 + 1) [(⟨w.heap.size, 0, none⟩, .int .i64 (F.1)), (⟨w.heap.size, 1, none⟩, .int .i64 (F.2.1)), (⟨w.heap.size, 2, none⟩, .int .i64 (F.2.2)), (⟨w.heap.size + 1, 0, none⟩, .int .i64 (G.1)), (⟨w.heap.size + 1, 1, none⟩, .int .i64 (G.2.1)), (⟨w.heap.size + 1, 2, none⟩, .int .i64 (G.2.2)), (⟨w.heap.size + 1 + 1, 0, none⟩, .int .i64 (M.1)), (⟨w.heap.size + 1 + 1, 1, none⟩, .int .i64 (M.2.1)), (⟨w.heap.size + 1 + 1, 2, none⟩, .int .i64 (M.2.2))] []) (by kernel_rfl) (by kernel_rfl) ?_ ?_ ?_ ?_
    · intro j hj
      have hj2 : j < 19 := hj
      have : ∀ j, j < 19 → (#[9,10,11,12,13,14,15,16,17,18,19,20,21,22,23,24,25,26,8] : Array Nat).getD j 0 < 27 := by decide
      exact this j hj2
    · refine Sy.drew (Sy.mk_of ?_ ?_ ?_ ?_)
      · first | rfl | (simp; done) | (simp; omega)
      · intro c hc
        simp only [List.mem_cons, List.not_mem_nil, or_false] at hc
        rcases hc with rfl | rfl | rfl | rfl | rfl | rfl | rfl | rfl | rfl <;> (first | with_reducible assumption | ((repeat' first | with_reducible (first | assumption | refine cell_al _ ?_ | refine cell_eq _ ?_ | refine cell_ne _ ?_ ?_ | refine ex_set _ ?_ | refine ex_al _ ?_ | exact ⟨_, by assumption⟩) | (intro hh; injection hh with hh1 hh2; omega)); done) | go_simp)
      · intro p hp; cases hp
      · (repeat' first | with_reducible (first | exact Below.refl _ _ | assumption | refine gr_alloc ?_ _ | refine below_drewN ?_ _ | refine below_drew ?_ | refine gr_call ?_ (by assumption) | refine Below.setCell ?_ ?_ _) | go_size | omega | (simp; omega))
    · clear h1 h2 h3
      refine ⟨?r33x0, ?r33x1, ?r33x2, ?r33x3, ?r33x4, ?r33x5, ?r33x6, ?r33x7, ?r33x8, ?r33x9, ?r33x10, ?r33x11, ?r33x12, ?r33x13, ?r33x14, ?r33x15, ?r33x16, ?r33x17, ?r33x18, trivial⟩
      all_goals intro _ aq wx Kq hf hS hdep ev1 ev2 hK
      case' r33x0 =>
        have F4 : aq.eval (.tmp 4) = .pointer (some ⟨w.heap.size, 0, none⟩) := hf 4
        have c0 := hS.cells (⟨w.heap.size, 0, none⟩, .int .i64 (F.1)) (by simp)
        have c1 := hS.cells (⟨w.heap.size, 1, none⟩, .int .i64 (F.2.1)) (by simp)
        have c2 := hS.cells (⟨w.heap.size, 2, none⟩, .int .i64 (F.2.2)) (by simp)
      case' r33x1 =>
        have D0 : aq.eval (.tmp 9) = _ := hdep 0
      case' r33x2 =>
        have D1 : aq.eval (.tmp 10) = _ := hdep 1
      case' r33x3 =>
        have F5 : aq.eval (.tmp 5) = .pointer (some ⟨w.heap.size + 1, 0, none⟩) := hf 5
        have c0 := hS.cells (⟨w.heap.size + 1, 0, none⟩, .int .i64 (G.1)) (by simp)
        have c1 := hS.cells (⟨w.heap.size + 1, 1, none⟩, .int .i64 (G.2.1)) (by simp)
        have c2 := hS.cells (⟨w.heap.size + 1, 2, none⟩, .int .i64 (G.2.2)) (by simp)
      case' r33x4 =>
        have D3 : aq.eval (.tmp 12) = _ := hdep 3
      case' r33x5 =>
        have D4 : aq.eval (.tmp 13) = _ := hdep 4
      case' r33x6 =>
        have D2 : aq.eval (.tmp 11) = _ := hdep 2
        have D5 : aq.eval (.tmp 14) = _ := hdep 5
      case' r33x7 =>
        have F6 : aq.eval (.tmp 6) = .pointer (some ⟨w.heap.size + 1 + 1, 0, none⟩) := hf 6
        have c0 := hS.cells (⟨w.heap.size + 1 + 1, 0, none⟩, .int .i64 (M.1)) (by simp)
        have c1 := hS.cells (⟨w.heap.size + 1 + 1, 1, none⟩, .int .i64 (M.2.1)) (by simp)
        have c2 := hS.cells (⟨w.heap.size + 1 + 1, 2, none⟩, .int .i64 (M.2.2)) (by simp)
      case' r33x8 =>
        have D7 : aq.eval (.tmp 16) = _ := hdep 7
      case' r33x9 =>
        have D8 : aq.eval (.tmp 17) = _ := hdep 8
      case' r33x10 =>
        have D6 : aq.eval (.tmp 15) = _ := hdep 6
        have D9 : aq.eval (.tmp 18) = _ := hdep 9
      case' r33x11 =>
        have F3 : aq.eval (.tmp 3) = .int .i64 k := hf 3
      case' r33x12 =>
        have D10 : aq.eval (.tmp 19) = _ := hdep 10
        have D11 : aq.eval (.tmp 20) = _ := hdep 11
      case' r33x13 =>
        have F4 : aq.eval (.tmp 4) = .pointer (some ⟨w.heap.size, 0, none⟩) := hf 4
        have c0 := hS.cells (⟨w.heap.size, 0, none⟩, .int .i64 (F.1)) (by simp)
        have c1 := hS.cells (⟨w.heap.size, 1, none⟩, .int .i64 (F.2.1)) (by simp)
        have c2 := hS.cells (⟨w.heap.size, 2, none⟩, .int .i64 (F.2.2)) (by simp)
      case' r33x14 =>
        have D13 : aq.eval (.tmp 22) = _ := hdep 13
      case' r33x15 =>
        have D12 : aq.eval (.tmp 21) = _ := hdep 12
        have D14 : aq.eval (.tmp 23) = _ := hdep 14
      case' r33x16 =>
        have D15 : aq.eval (.tmp 24) = _ := hdep 15
      case' r33x17 =>
        have D16 : aq.eval (.tmp 25) = _ := hdep 16
      case' r33x18 =>
        have D17 : aq.eval (.tmp 26) = _ := hdep 17
      all_goals (clear hf hdep; unfold Oper.wp; generalize Act.eval _ = ev at *; go_simp)
      case r33x1 =>
        refine ((key_D F _ h0.i)).mono ?_
        rintro e w2 ⟨rfl, hb⟩
        refine hK _ _ (hS.call hb) ?_ (fun j u _ h => Kd.ok_below hb h)
        rw [if_pos (by rfl)]
        show (_ : Value) = _
        first | rfl | (refine congrArg (Value.int .i64) ?_; first | rfl | exact int_in (by omega) | exact quo_in (by omega) (by omega) (by omega) | exact rem_in (by omega) (by omega) | omega | exact HX | exact HY) | (simp; done) | (simp [*]; done)
      case r33x4 =>
        refine ((key_D G _ h1.i)).mono ?_
        rintro e w2 ⟨rfl, hb⟩
        refine hK _ _ (hS.call hb) ?_ (fun j u _ h => Kd.ok_below hb h)
        rw [if_pos (by rfl)]
        show (_ : Value) = _
        first | rfl | (refine congrArg (Value.int .i64) ?_; first | rfl | exact int_in (by omega) | exact quo_in (by omega) (by omega) (by omega) | exact rem_in (by omega) (by omega) | omega | exact HX | exact HY) | (simp; done) | (simp [*]; done)
      case r33x8 =>
        refine ((key_D M _ h2.i)).mono ?_
        rintro e w2 ⟨rfl, hb⟩
        refine hK _ _ (hS.call hb) ?_ (fun j u _ h => Kd.ok_below hb h)
        rw [if_pos (by rfl)]
        show (_ : Value) = _
        first | rfl | (refine congrArg (Value.int .i64) ?_; first | rfl | exact int_in (by omega) | exact quo_in (by omega) (by omega) (by omega) | exact rem_in (by omega) (by omega) | omega | exact HX | exact HY) | (simp; done) | (simp [*]; done)
      case r33x14 =>
        refine ((disc_D F _ h0.i h0.f)).mono ?_
        rintro e w2 ⟨rfl, hb⟩
        refine hK _ _ (hS.call hb) ?_ (fun j u _ h => Kd.ok_below hb h)
        rw [if_pos (by rfl)]
        show (_ : Value) = _
        first | rfl | (refine congrArg (Value.int .i64) ?_; first | rfl | exact int_in (by omega) | exact quo_in (by omega) (by omega) (by omega) | exact rem_in (by omega) (by omega) | omega | exact HX | exact HY) | (simp; done) | (simp [*]; done)
      case r33x16 =>
        refine ((mod_a (3 * keyT F + 5 * keyT G + 7 * keyT M + k - D) 13 _ (by omega) (by omega) (by omega))).mono ?_
        rintro e w2 ⟨rfl, rfl⟩
        refine hK _ _ (hS.call (below_refl_self _)) ?_ (fun j u _ h => Kd.ok_below (below_refl_self _) h)
        rw [if_pos (by rfl)]
        show (_ : Value) = _
        first | rfl | (refine congrArg (Value.int .i64) ?_; first | rfl | exact int_in (by omega) | exact quo_in (by omega) (by omega) (by omega) | exact rem_in (by omega) (by omega) | omega | exact HX | exact HY) | (simp; done) | (simp [*]; done)
      all_goals (refine hK _ _ hS ?_ (fun j u _ h => h); rw [if_pos (by rfl)]; show (_ : Value) = _; (first | rfl | (refine congrArg (Value.int .i64) ?_; first | rfl | exact int_in (by omega) | exact quo_in (by omega) (by omega) (by omega) | exact rem_in (by omega) (by omega) | omega | exact HX | exact HY) | (simp; done) | (simp [*]; done)))
    · intro aq wx hd hw hf hS hg
      have G8 : tau aq 8 = .int .i64 (khI D (keyT F) (keyT G) (keyT M) k) := hg 18 (by decide)
      have haq : aq = ⟨#[tau aq 0, tau aq 1, tau aq 2, tau aq 3, tau aq 4, tau aq 5, tau aq 6, tau aq 7, tau aq 8, tau aq 9, tau aq 10, tau aq 11, tau aq 12, tau aq 13, tau aq 14, tau aq 15, tau aq 16, tau aq 17, tau aq 18, tau aq 19, tau aq 20, tau aq 21, tau aq 22, tau aq 23, tau aq 24, tau aq 25, tau aq 26], []⟩ := by
        obtain ⟨tq, dq⟩ := aq
        have h5 := arr_eq (show tq.size = 27 from hw)
        have h6 : dq = [] := hd
        subst h6
        exact congrArg (fun z => Act.mk z []) h5
      show K2 aq wx
      rw [haq, hf 0, hf 1, hf 2, hf 3, hf 4, hf 5, hf 6, hf 7, G8]
      clear haq hf hd hw
      try dsimp only
      refine h3 _ _ ?_
      go_meet
      exact ⟨rfl, hS.cells (⟨w.heap.size, 0, none⟩, .int .i64 (F.1)) (by simp), hS.cells (⟨w.heap.size, 1, none⟩, .int .i64 (F.2.1)) (by simp), hS.cells (⟨w.heap.size, 2, none⟩, .int .i64 (F.2.2)) (by simp), hS.cells (⟨w.heap.size + 1, 0, none⟩, .int .i64 (G.1)) (by simp), hS.cells (⟨w.heap.size + 1, 1, none⟩, .int .i64 (G.2.1)) (by simp), hS.cells (⟨w.heap.size + 1, 2, none⟩, .int .i64 (G.2.2)) (by simp), hS.cells (⟨w.heap.size + 1 + 1, 0, none⟩, .int .i64 (M.1)) (by simp), hS.cells (⟨w.heap.size + 1 + 1, 1, none⟩, .int .i64 (M.2.1)) (by simp), hS.cells (⟨w.heap.size + 1 + 1, 2, none⟩, .int .i64 (M.2.2)) (by simp), hS.below⟩
  obtain ⟨rfl, c00, c01, c02, c10, c11, c12, c20, c21, c22, hb0⟩ := hcut
  have z0 := World.block_lt_of_cell? _ _ c00
  have z1 := World.block_lt_of_cell? _ _ c10
  have z2 := World.block_lt_of_cell? _ _ c20
  change _ < wc.heap.size at z0
  change _ < wc.heap.size at z1
  change _ < wc.heap.size at z2
  go_wp2
  refine bodyPost_ret (v := .int .i64 (khI D (keyT F) (keyT G) (keyT M) k)) (by simp [results, Try.results60, go_sem, *]) rfl ?_
  exact ⟨rfl, hb0⟩

set_option maxRecDepth 100000 in
set_option maxHeartbeats 16000000 in
theorem dlHalf_D {D : Int} (F G M : T3) (k : Int) (w : World) (h0 : Frm D F) (h1 : Frm D G) (h2 : Frm D M) (h3 : 0 ≤ k) (h4 : k ≤ 1000000) :
    Calls Try.prog 57 #[frm F, frm G, frm M, .int .i64 k] w fun e w' => e = .returned (.int .i64 (khI D (keyT F) (keyT G) (keyT M) k)) ∧ Below w.heap.size w w' := by
  have kb1 := key_bd h0.i.cl
  have kb2 := key_bd h1.i.cl
  have kb3 := key_bd h2.i.cl
  have hdd := h0.dd
  have hix := khX_bd D (keyT F) (keyT G) (keyT M) k
  have HX : (-D + 3 * keyT F + 5 * keyT G + 7 * keyT M + k).tmod 13 = khX D (keyT F) (keyT G) (keyT M) k := by
    unfold khX; rw [rem_in (by omega) (by omega)]; congr 1; omega
  have HY : IntKind.i64.wrap (2 + khX D (keyT F) (keyT G) (keyT M) k) = khI D (keyT F) (keyT G) (keyT M) k := int_in (by omega)
  go_enter Try.func57, Try.ntmps57
  go_upto_region 1 with fail
  go_cut [8] (fun s8 wx => s8 = .int .i64 (khI D (keyT F) (keyT G) (keyT M) k) ∧ wx.cell? ⟨w.heap.size, 0, none⟩ = some (.int .i64 (F.1)) ∧ wx.cell? ⟨w.heap.size, 1, none⟩ = some (.int .i64 (F.2.1)) ∧ wx.cell? ⟨w.heap.size, 2, none⟩ = some (.int .i64 (F.2.2)) ∧ wx.cell? ⟨w.heap.size + 1, 0, none⟩ = some (.int .i64 (G.1)) ∧ wx.cell? ⟨w.heap.size + 1, 1, none⟩ = some (.int .i64 (G.2.1)) ∧ wx.cell? ⟨w.heap.size + 1, 2, none⟩ = some (.int .i64 (G.2.2)) ∧ wx.cell? ⟨w.heap.size + 1 + 1, 0, none⟩ = some (.int .i64 (M.1)) ∧ wx.cell? ⟨w.heap.size + 1 + 1, 1, none⟩ = some (.int .i64 (M.2.1)) ∧ wx.cell? ⟨w.heap.size + 1 + 1, 2, none⟩ = some (.int .i64 (M.2.2)) ∧ Below w.heap.size w wx)
  case first =>
    have h1 := trivial
    rename_i K2 h2 h3
    refine region_n0 (by kernel_rfl) (fun j => #[9,10,11,12,13,14,15,16,17,18,19,20,21,22,23,24,25,26,27,8].getD j 0) (fun j => Kd.ok ((fun j => match j with | 0 => Kd.val (.agg #[.int .i64 (F.1), .int .i64 (F.2.1), .int .i64 (F.2.2)]) | 1 => Kd.val (.int .i64 D) | 2 => Kd.val (.int .i64 (-D)) | 3 => Kd.val (.agg #[.int .i64 (F.1), .int .i64 (F.2.1), .int .i64 (F.2.2)]) | 4 => Kd.val (.int .i64 (keyT F)) | 5 => Kd.val (.int .i64 (3 * (keyT F))) | 6 => Kd.val (.int .i64 ((-D) + (3 * (keyT F)))) | 7 => Kd.val (.agg #[.int .i64 (G.1), .int .i64 (G.2.1), .int .i64 (G.2.2)]) | 8 => Kd.val (.int .i64 (keyT G)) | 9 => Kd.val (.int .i64 (5 * (keyT G))) | 10 => Kd.val (.int .i64 (((-D) + (3 * (keyT F))) + (5 * (keyT G)))) | 11 => Kd.val (.agg #[.int .i64 (M.1), .int .i64 (M.2.1), .int .i64 (M.2.2)]) | 12 => Kd.val (.int .i64 (keyT M)) | 13 => Kd.val (.int .i64 (7 * (keyT M))) | 14 => Kd.val (.int .i64 ((((-D) + (3 * (keyT F))) + (5 * (keyT G))) + (7 * (keyT M)))) | 15 => Kd.val (.int .i64 k) | 16 => Kd.val (.int .i64 (((((-D) + (3 * (keyT F))) + (5 * (keyT G))) + (7 * (keyT M))) + k)) | 17 => Kd.val (.int .i64 (khX D (keyT F) (keyT G) (keyT M) k)) | 18 => Kd.val (.int .i64 (khI D (keyT F) (keyT G) (keyT M) k)) | 19 => Kd.val (.int .i64 (khI D (keyT F) (keyT G) (keyT M) k)) | _ => Kd.any : Nat → Kd) j)) (Sy w (w.heap.size + 1 + 1 + 1) [(⟨w.heap.size, 0, none⟩, .int .i64 (F.1)), (⟨w.heap.size, 1, none⟩, .int .i64 (F.2.1)), (⟨w.heap.size, 2, none⟩, .int .i64 (F.2.2)), (⟨w.heap.size + 1, 0, none⟩, .int .i64 (G.1)), (⟨w.heap.size + 1, 1, none⟩, .int .i64 (G.2.1)), (⟨w.heap.size + 1, 2, none⟩, .int .i64 (G.2.2)), (⟨w.heap.size + 1 + 1, 0, none⟩, .int .i64 (M.1)), (⟨w.heap.size + 1 + 1, 1, none⟩, .int .i64 (M.2.1)), (⟨w.heap.size + 1 + 1, 2, none⟩, .int .i64 (M.2.2))] []) (by kernel_rfl) (by kernel_rfl) ?_ ?_ ?_ ?_
    · intro j hj
      have hj2 : j < 20 := hj
      have : ∀ j, j < 20 → (#[9,10,11,12,13,14,15,16,17,18,19,20,21,22,23,24,25,26,27,8] : Array Nat).getD j 0 < 28 := by decide
      exact this j hj2
    · refine Sy.drew (Sy.mk_of ?_ ?_ ?_ ?_)
      · first | rfl | (simp; done) | (simp; omega)
      · intro c hc
        simp only [List.mem_cons, List.not_mem_nil, or_false] at hc
        rcases hc with rfl | rfl | rfl | rfl | rfl | rfl | rfl | rfl | rfl <;> (first | with_reducible assumption | ((repeat' first | with_reducible (first | assumption | refine cell_al _ ?_ | refine cell_eq _ ?_ | refine cell_ne _ ?_ ?_ | refine ex_set _ ?_ | refine ex_al _ ?_ | exact ⟨_, by assumption⟩) | (intro hh; injection hh with hh1 hh2; omega)); done) | go_simp)
      · intro p hp; cases hp
      · (repeat' first | with_reducible (first | exact Below.refl _ _ | assumption | refine gr_alloc ?_ _ | refine below_drewN ?_ _ | refine below_drew ?_ | refine gr_call ?_ (by assumption) | refine Below.setCell ?_ ?_ _) | go_size | omega | (simp; omega))
    · clear h1 h2 h3
      refine ⟨?r34x0, ?r34x1, ?r34x2, ?r34x3, ?r34x4, ?r34x5, ?r34x6, ?r34x7, ?r34x8, ?r34x9, ?r34x10, ?r34x11, ?r34x12, ?r34x13, ?r34x14, ?r34x15, ?r34x16, ?r34x17, ?r34x18, ?r34x19, trivial⟩
      all_goals intro _ aq wx Kq hf hS hdep ev1 ev2 hK
      case' r34x0 =>
        have F4 : aq.eval (.tmp 4) = .pointer (some ⟨w.heap.size, 0, none⟩) := hf 4
        have c0 := hS.cells (⟨w.heap.size, 0, none⟩, .int .i64 (F.1)) (by simp)
        have c1 := hS.cells (⟨w.heap.size, 1, none⟩, .int .i64 (F.2.1)) (by simp)
        have c2 := hS.cells (⟨w.heap.size, 2, none⟩, .int .i64 (F.2.2)) (by simp)
      case' r34x1 =>
        have D0 : aq.eval (.tmp 9) = _ := hdep 0
      case' r34x2 =>
        have D1 : aq.eval (.tmp 10) = _ := hdep 1
      case' r34x3 =>
        have F4 : aq.eval (.tmp 4) = .pointer (some ⟨w.heap.size, 0, none⟩) := hf 4
        have c0 := hS.cells (⟨w.heap.size, 0, none⟩, .int .i64 (F.1)) (by simp)
        have c1 := hS.cells (⟨w.heap.size, 1, none⟩, .int .i64 (F.2.1)) (by simp)
        have c2 := hS.cells (⟨w.heap.size, 2, none⟩, .int .i64 (F.2.2)) (by simp)
      case' r34x4 =>
        have D3 : aq.eval (.tmp 12) = _ := hdep 3
      case' r34x5 =>
        have D4 : aq.eval (.tmp 13) = _ := hdep 4
      case' r34x6 =>
        have D2 : aq.eval (.tmp 11) = _ := hdep 2
        have D5 : aq.eval (.tmp 14) = _ := hdep 5
      case' r34x7 =>
        have F5 : aq.eval (.tmp 5) = .pointer (some ⟨w.heap.size + 1, 0, none⟩) := hf 5
        have c0 := hS.cells (⟨w.heap.size + 1, 0, none⟩, .int .i64 (G.1)) (by simp)
        have c1 := hS.cells (⟨w.heap.size + 1, 1, none⟩, .int .i64 (G.2.1)) (by simp)
        have c2 := hS.cells (⟨w.heap.size + 1, 2, none⟩, .int .i64 (G.2.2)) (by simp)
      case' r34x8 =>
        have D7 : aq.eval (.tmp 16) = _ := hdep 7
      case' r34x9 =>
        have D8 : aq.eval (.tmp 17) = _ := hdep 8
      case' r34x10 =>
        have D6 : aq.eval (.tmp 15) = _ := hdep 6
        have D9 : aq.eval (.tmp 18) = _ := hdep 9
      case' r34x11 =>
        have F6 : aq.eval (.tmp 6) = .pointer (some ⟨w.heap.size + 1 + 1, 0, none⟩) := hf 6
        have c0 := hS.cells (⟨w.heap.size + 1 + 1, 0, none⟩, .int .i64 (M.1)) (by simp)
        have c1 := hS.cells (⟨w.heap.size + 1 + 1, 1, none⟩, .int .i64 (M.2.1)) (by simp)
        have c2 := hS.cells (⟨w.heap.size + 1 + 1, 2, none⟩, .int .i64 (M.2.2)) (by simp)
      case' r34x12 =>
        have D11 : aq.eval (.tmp 20) = _ := hdep 11
      case' r34x13 =>
        have D12 : aq.eval (.tmp 21) = _ := hdep 12
      case' r34x14 =>
        have D10 : aq.eval (.tmp 19) = _ := hdep 10
        have D13 : aq.eval (.tmp 22) = _ := hdep 13
      case' r34x15 =>
        have F3 : aq.eval (.tmp 3) = .int .i64 k := hf 3
      case' r34x16 =>
        have D14 : aq.eval (.tmp 23) = _ := hdep 14
        have D15 : aq.eval (.tmp 24) = _ := hdep 15
      case' r34x17 =>
        have D16 : aq.eval (.tmp 25) = _ := hdep 16
      case' r34x18 =>
        have D17 : aq.eval (.tmp 26) = _ := hdep 17
      case' r34x19 =>
        have D18 : aq.eval (.tmp 27) = _ := hdep 18
      all_goals (clear hf hdep; unfold Oper.wp; generalize Act.eval _ = ev at *; go_simp)
      case r34x1 =>
        refine ((foDisc_D F _ h0.i h0.f)).mono ?_
        rintro e w2 ⟨rfl, hb⟩
        refine hK _ _ (hS.call hb) ?_ (fun j u _ h => Kd.ok_below hb h)
        rw [if_pos (by rfl)]
        show (_ : Value) = _
        first | rfl | (refine congrArg (Value.int .i64) ?_; first | rfl | exact int_in (by omega) | exact quo_in (by omega) (by omega) (by omega) | exact rem_in (by omega) (by omega) | omega | exact HX | exact HY) | (simp; done) | (simp [*]; done)
      case r34x4 =>
        refine ((dlKey_D F _ h0.i)).mono ?_
        rintro e w2 ⟨rfl, hb⟩
        refine hK _ _ (hS.call hb) ?_ (fun j u _ h => Kd.ok_below hb h)
        rw [if_pos (by rfl)]
        show (_ : Value) = _
        first | rfl | (refine congrArg (Value.int .i64) ?_; first | rfl | exact int_in (by omega) | exact quo_in (by omega) (by omega) (by omega) | exact rem_in (by omega) (by omega) | omega | exact HX | exact HY) | (simp; done) | (simp [*]; done)
      case r34x8 =>
        refine ((dlKey_D G _ h1.i)).mono ?_
        rintro e w2 ⟨rfl, hb⟩
        refine hK _ _ (hS.call hb) ?_ (fun j u _ h => Kd.ok_below hb h)
        rw [if_pos (by rfl)]
        show (_ : Value) = _
        first | rfl | (refine congrArg (Value.int .i64) ?_; first | rfl | exact int_in (by omega) | exact quo_in (by omega) (by omega) (by omega) | exact rem_in (by omega) (by omega) | omega | exact HX | exact HY) | (simp; done) | (simp [*]; done)
      case r34x12 =>
        refine ((dlKey_D M _ h2.i)).mono ?_
        rintro e w2 ⟨rfl, hb⟩
        refine hK _ _ (hS.call hb) ?_ (fun j u _ h => Kd.ok_below hb h)
        rw [if_pos (by rfl)]
        show (_ : Value) = _
        first | rfl | (refine congrArg (Value.int .i64) ?_; first | rfl | exact int_in (by omega) | exact quo_in (by omega) (by omega) (by omega) | exact rem_in (by omega) (by omega) | omega | exact HX | exact HY) | (simp; done) | (simp [*]; done)
      case' r34x17 =>
        try rw [if_neg (by omega), Oper.upon_value]
      all_goals (refine hK _ _ hS ?_ (fun j u _ h => h); rw [if_pos (by rfl)]; show (_ : Value) = _; (first | rfl | (refine congrArg (Value.int .i64) ?_; first | rfl | exact int_in (by omega) | exact quo_in (by omega) (by omega) (by omega) | exact rem_in (by omega) (by omega) | omega | exact HX | exact HY) | (simp; done) | (simp [*]; done)))
    · intro aq wx hd hw hf hS hg
      have G8 : tau aq 8 = .int .i64 (khI D (keyT F) (keyT G) (keyT M) k) := hg 19 (by decide)
      have haq : aq = ⟨#[tau aq 0, tau aq 1, tau aq 2, tau aq 3, tau aq 4, tau aq 5, tau aq 6, tau aq 7, tau aq 8, tau aq 9, tau aq 10, tau aq 11, tau aq 12, tau aq 13, tau aq 14, tau aq 15, tau aq 16, tau aq 17, tau aq 18, tau aq 19, tau aq 20, tau aq 21, tau aq 22, tau aq 23, tau aq 24, tau aq 25, tau aq 26, tau aq 27], []⟩ := by
        obtain ⟨tq, dq⟩ := aq
        have h5 := arr_eq (show tq.size = 28 from hw)
        have h6 : dq = [] := hd
        subst h6
        exact congrArg (fun z => Act.mk z []) h5
      show K2 aq wx
      rw [haq, hf 0, hf 1, hf 2, hf 3, hf 4, hf 5, hf 6, hf 7, G8]
      clear haq hf hd hw
      try dsimp only
      refine h3 _ _ ?_
      go_meet
      exact ⟨rfl, hS.cells (⟨w.heap.size, 0, none⟩, .int .i64 (F.1)) (by simp), hS.cells (⟨w.heap.size, 1, none⟩, .int .i64 (F.2.1)) (by simp), hS.cells (⟨w.heap.size, 2, none⟩, .int .i64 (F.2.2)) (by simp), hS.cells (⟨w.heap.size + 1, 0, none⟩, .int .i64 (G.1)) (by simp), hS.cells (⟨w.heap.size + 1, 1, none⟩, .int .i64 (G.2.1)) (by simp), hS.cells (⟨w.heap.size + 1, 2, none⟩, .int .i64 (G.2.2)) (by simp), hS.cells (⟨w.heap.size + 1 + 1, 0, none⟩, .int .i64 (M.1)) (by simp), hS.cells (⟨w.heap.size + 1 + 1, 1, none⟩, .int .i64 (M.2.1)) (by simp), hS.cells (⟨w.heap.size + 1 + 1, 2, none⟩, .int .i64 (M.2.2)) (by simp), hS.below⟩
  obtain ⟨rfl, c00, c01, c02, c10, c11, c12, c20, c21, c22, hb0⟩ := hcut
  have z0 := World.block_lt_of_cell? _ _ c00
  have z1 := World.block_lt_of_cell? _ _ c10
  have z2 := World.block_lt_of_cell? _ _ c20
  change _ < wc.heap.size at z0
  change _ < wc.heap.size at z1
  change _ < wc.heap.size at z2
  go_wp2
  refine bodyPost_ret (v := .int .i64 (khI D (keyT F) (keyT G) (keyT M) k)) (by simp [results, Try.results57, go_sem, *]) rfl ?_
  exact ⟨rfl, hb0⟩

set_option maxRecDepth 100000 in
set_option maxHeartbeats 4000000 in
theorem implDelayChallenge (F G : T3) (t : Int) (w : World) (i0 : I64T F) (i1 : I64T G) : Calls Try.prog 18 #[frm F, frm G, .int .i64 t] w fun e w' => e = .returned (.tuple #[.int .i64 (dcV F G t), .bool (dcB F G t)]) ∧ Below w.heap.size w w' := by
  cases k0 : prB F G
  · have HV : Hid (dcV F G t = 0 ∧ dcB F G t = false) := hide (by unfold dcV dcB; rw [k0]; exact ⟨rfl, rfl⟩)
    go_enter Try.func18, Try.ntmps18
    go_wp2_with fail
    refine (arePair_p F G _ i0 i1).mono ?_
    rintro en w1 ⟨rfl, hb1⟩
    have hcs9 := cells_calls hb1 [⟨w.heap.size, 0, none⟩, ⟨w.heap.size, 1, none⟩, ⟨w.heap.size, 2, none⟩, ⟨w.heap.size + 1, 0, none⟩, ⟨w.heap.size + 1, 1, none⟩, ⟨w.heap.size + 1, 2, none⟩] [.int .i64 (F.1), .int .i64 (F.2.1), .int .i64 (F.2.2), .int .i64 (G.1), .int .i64 (G.2.1), .int .i64 (G.2.2)] (by refine ⟨?_, ?_, ?_, ?_, ?_, ?_, trivial⟩ <;> (first | with_reducible assumption | ((repeat' first | with_reducible (first | assumption | refine cell_al _ ?_ | refine cell_eq _ ?_ | refine cell_ne _ ?_ ?_ | refine ex_set _ ?_ | refine ex_al _ ?_ | exact ⟨_, by assumption⟩) | (intro hh; injection hh with hh1 hh2; omega)); done) | go_simp))
    have hzs9 := blocks_calls hb1 [w.heap.size, w.heap.size + 1] (by refine ⟨?_, ?_, trivial⟩ <;> first | with_reducible assumption | omega | (simp; omega) | (simp; done))
    try clear c00 c01 c02
    try clear c10 c11 c12
    obtain ⟨c00, c01, c02, c10, c11, c12, -⟩ := hcs9
    obtain ⟨z0, z1, -⟩ := hzs9
    have hs1 := hb1.size
    have o10 := z0
    have o11 := z1
    rw [k0]
    go_wp2
    refine bodyPost_ret (v := .tuple #[.int .i64 0, .bool false]) (by simp [results, Try.results18, go_sem, *]) rfl ?_
    exact ⟨by rw [(unhide HV).1, (unhide HV).2], by (repeat' first | with_reducible (first | exact Below.refl _ _ | assumption | refine gr_alloc ?_ _ | refine below_drewN ?_ _ | refine below_drew ?_ | refine gr_call ?_ (by assumption) | refine Below.setCell ?_ ?_ _) | go_size | omega | (simp; omega))⟩
  · cases k1 : tmB t
    · have HV : Hid (dcV F G t = 0 ∧ dcB F G t = false) := hide (by unfold dcV dcB; rw [k0, k1]; exact ⟨rfl, rfl⟩)
      go_enter Try.func18, Try.ntmps18
      go_wp2_with fail
      refine (arePair_p F G _ i0 i1).mono ?_
      rintro en w1 ⟨rfl, hb1⟩
      have hcs9 := cells_calls hb1 [⟨w.heap.size, 0, none⟩, ⟨w.heap.size, 1, none⟩, ⟨w.heap.size, 2, none⟩, ⟨w.heap.size + 1, 0, none⟩, ⟨w.heap.size + 1, 1, none⟩, ⟨w.heap.size + 1, 2, none⟩] [.int .i64 (F.1), .int .i64 (F.2.1), .int .i64 (F.2.2), .int .i64 (G.1), .int .i64 (G.2.1), .int .i64 (G.2.2)] (by refine ⟨?_, ?_, ?_, ?_, ?_, ?_, trivial⟩ <;> (first | with_reducible assumption | ((repeat' first | with_reducible (first | assumption | refine cell_al _ ?_ | refine cell_eq _ ?_ | refine cell_ne _ ?_ ?_ | refine ex_set _ ?_ | refine ex_al _ ?_ | exact ⟨_, by assumption⟩) | (intro hh; injection hh with hh1 hh2; omega)); done) | go_simp))
      have hzs9 := blocks_calls hb1 [w.heap.size, w.heap.size + 1] (by refine ⟨?_, ?_, trivial⟩ <;> first | with_reducible assumption | omega | (simp; omega) | (simp; done))
      try clear c00 c01 c02
      try clear c10 c11 c12
      obtain ⟨c00, c01, c02, c10, c11, c12, -⟩ := hcs9
      obtain ⟨z0, z1, -⟩ := hzs9
      have hs1 := hb1.size
      have o10 := z0
      have o11 := z1
      rw [k0]
      go_wp2_with (go_at_call 54; refine (isTime_b _ _).mono ?_; rintro e w' ⟨rfl, rfl⟩)
      go_wp2
      refine bodyPost_ret (v := .tuple #[.int .i64 0, .bool false]) (by simp [results, Try.results18, go_sem, *]) rfl ?_
      exact ⟨by rw [(unhide HV).1, (unhide HV).2], by (repeat' first | with_reducible (first | exact Below.refl _ _ | assumption | refine gr_alloc ?_ _ | refine below_drewN ?_ _ | refine below_drew ?_ | refine gr_call ?_ (by assumption) | refine Below.setCell ?_ ?_ _) | go_size | omega | (simp; omega))⟩
    · have HV : Hid (dcV F G t = chI (dT F) (keyT F) (keyT G) t ∧ dcB F G t = true) := hide (by unfold dcV dcB; rw [k0, k1]; exact ⟨rfl, rfl⟩)
      have hq := pr_true k0
      have ht : 0 ≤ t ∧ t ≤ 1000000 := by have := inB_true k1; omega
      go_enter Try.func18, Try.ntmps18
      go_wp2_with fail
      refine (arePair_p F G _ i0 i1).mono ?_
      rintro en w1 ⟨rfl, hb1⟩
      have hcs9 := cells_calls hb1 [⟨w.heap.size, 0, none⟩, ⟨w.heap.size, 1, none⟩, ⟨w.heap.size, 2, none⟩, ⟨w.heap.size + 1, 0, none⟩, ⟨w.heap.size + 1, 1, none⟩, ⟨w.heap.size + 1, 2, none⟩] [.int .i64 (F.1), .int .i64 (F.2.1), .int .i64 (F.2.2), .int .i64 (G.1), .int .i64 (G.2.1), .int .i64 (G.2.2)] (by refine ⟨?_, ?_, ?_, ?_, ?_, ?_, trivial⟩ <;> (first | with_reducible assumption | ((repeat' first | with_reducible (first | assumption | refine cell_al _ ?_ | refine cell_eq _ ?_ | refine cell_ne _ ?_ ?_ | refine ex_set _ ?_ | refine ex_al _ ?_ | exact ⟨_, by assumption⟩) | (intro hh; injection hh with hh1 hh2; omega)); done) | go_simp))
      have hzs9 := blocks_calls hb1 [w.heap.size, w.heap.size + 1] (by refine ⟨?_, ?_, trivial⟩ <;> first | with_reducible assumption | omega | (simp; omega) | (simp; done))
      try clear c00 c01 c02
      try clear c10 c11 c12
      obtain ⟨c00, c01, c02, c10, c11, c12, -⟩ := hcs9
      obtain ⟨z0, z1, -⟩ := hzs9
      have hs1 := hb1.size
      have o10 := z0
      have o11 := z1
      rw [k0]
      go_wp2_with (go_at_call 54; refine (isTime_b _ _).mono ?_; rintro e w' ⟨rfl, rfl⟩)
      refine (challenge_D F G t _ hq.1 hq.2 ht.1 ht.2).mono ?_
      rintro en w2 ⟨rfl, hb2⟩
      have hcs9 := cells_calls hb2 [⟨w.heap.size, 0, none⟩, ⟨w.heap.size, 1, none⟩, ⟨w.heap.size, 2, none⟩, ⟨w.heap.size + 1, 0, none⟩, ⟨w.heap.size + 1, 1, none⟩, ⟨w.heap.size + 1, 2, none⟩] [.int .i64 (F.1), .int .i64 (F.2.1), .int .i64 (F.2.2), .int .i64 (G.1), .int .i64 (G.2.1), .int .i64 (G.2.2)] (by refine ⟨?_, ?_, ?_, ?_, ?_, ?_, trivial⟩ <;> (first | with_reducible assumption | ((repeat' first | with_reducible (first | assumption | refine cell_al _ ?_ | refine cell_eq _ ?_ | refine cell_ne _ ?_ ?_ | refine ex_set _ ?_ | refine ex_al _ ?_ | exact ⟨_, by assumption⟩) | (intro hh; injection hh with hh1 hh2; omega)); done) | go_simp))
      have hzs9 := blocks_calls hb2 [w.heap.size, w.heap.size + 1] (by refine ⟨?_, ?_, trivial⟩ <;> first | with_reducible assumption | omega | (simp; omega) | (simp; done))
      try clear c00 c01 c02
      try clear c10 c11 c12
      obtain ⟨c00, c01, c02, c10, c11, c12, -⟩ := hcs9
      obtain ⟨z0, z1, -⟩ := hzs9
      have hs2 := hb2.size
      go_wp2
      refine bodyPost_ret (v := .tuple #[.int .i64 (chI (dT F) (keyT F) (keyT G) t), .bool true]) (by simp [results, Try.results18, go_sem, *]) rfl ?_
      exact ⟨by rw [(unhide HV).1, (unhide HV).2], by (repeat' first | with_reducible (first | exact Below.refl _ _ | assumption | refine gr_alloc ?_ _ | refine below_drewN ?_ _ | refine below_drew ?_ | refine gr_call ?_ (by assumption) | refine Below.setCell ?_ ?_ _) | go_size | omega | (simp; omega))⟩

set_option maxRecDepth 100000 in
set_option maxHeartbeats 4000000 in
theorem specDelayChallenge (F G : T3) (t : Int) (w : World)  : Calls Try.prog 16 #[frm F, frm G, .int .i64 t] w fun e w' => e = .returned (.tuple #[.int .i64 (dcV F G t), .bool (dcB F G t)]) ∧ Below w.heap.size w w' := by
  cases k0 : prB F G
  · have HV : Hid (dcV F G t = 0 ∧ dcB F G t = false) := hide (by unfold dcV dcB; rw [k0]; exact ⟨rfl, rfl⟩)
    go_enter Try.func16, Try.ntmps16
    go_wp2_with fail
    refine (dlAll_l (twoT F G) (w.heap.size + 1 + 1) 2 2 _ (by omega) (two_fs (by refine ⟨?_, ?_, ?_, ?_, ?_, ?_⟩ <;> (first | with_reducible assumption | ((repeat' first | with_reducible (first | assumption | refine cell_al _ ?_ | refine cell_eq _ ?_ | refine cell_ne _ ?_ ?_ | refine ex_set _ ?_ | refine ex_al _ ?_ | exact ⟨_, by assumption⟩) | (intro hh; injection hh with hh1 hh2; omega)); done) | go_simp)))).mono ?_
    rintro en w1 ⟨rfl, hb1⟩
    have hcs9 := cells_calls hb1 [⟨w.heap.size, 0, none⟩, ⟨w.heap.size, 1, none⟩, ⟨w.heap.size, 2, none⟩, ⟨w.heap.size + 1, 0, none⟩, ⟨w.heap.size + 1, 1, none⟩, ⟨w.heap.size + 1, 2, none⟩] [.int .i64 (F.1), .int .i64 (F.2.1), .int .i64 (F.2.2), .int .i64 (G.1), .int .i64 (G.2.1), .int .i64 (G.2.2)] (by refine ⟨?_, ?_, ?_, ?_, ?_, ?_, trivial⟩ <;> (first | with_reducible assumption | ((repeat' first | with_reducible (first | assumption | refine cell_al _ ?_ | refine cell_eq _ ?_ | refine cell_ne _ ?_ ?_ | refine ex_set _ ?_ | refine ex_al _ ?_ | exact ⟨_, by assumption⟩) | (intro hh; injection hh with hh1 hh2; omega)); done) | go_simp))
    have hzs9 := blocks_calls hb1 [w.heap.size, w.heap.size + 1] (by refine ⟨?_, ?_, trivial⟩ <;> first | with_reducible assumption | omega | (simp; omega) | (simp; done))
    try clear c00 c01 c02
    try clear c10 c11 c12
    obtain ⟨c00, c01, c02, c10, c11, c12, -⟩ := hcs9
    obtain ⟨z0, z1, -⟩ := hzs9
    have hs1 := hb1.size
    rw [on_two]
    rw [k0]
    go_wp2
    refine bodyPost_ret (v := .tuple #[.int .i64 0, .bool false]) (by simp [results, Try.results16, go_sem, *]) rfl ?_
    exact ⟨by rw [(unhide HV).1, (unhide HV).2], by (repeat' first | with_reducible (first | exact Below.refl _ _ | assumption | refine gr_alloc ?_ _ | refine below_drewN ?_ _ | refine below_drew ?_ | refine gr_call ?_ (by assumption) | refine Below.setCell ?_ ?_ _) | go_size | omega | (simp; omega))⟩
  · cases k1 : tmB t
    · have HV : Hid (dcV F G t = 0 ∧ dcB F G t = false) := hide (by unfold dcV dcB; rw [k0, k1]; exact ⟨rfl, rfl⟩)
      go_enter Try.func16, Try.ntmps16
      go_wp2_with fail
      refine (dlAll_l (twoT F G) (w.heap.size + 1 + 1) 2 2 _ (by omega) (two_fs (by refine ⟨?_, ?_, ?_, ?_, ?_, ?_⟩ <;> (first | with_reducible assumption | ((repeat' first | with_reducible (first | assumption | refine cell_al _ ?_ | refine cell_eq _ ?_ | refine cell_ne _ ?_ ?_ | refine ex_set _ ?_ | refine ex_al _ ?_ | exact ⟨_, by assumption⟩) | (intro hh; injection hh with hh1 hh2; omega)); done) | go_simp)))).mono ?_
      rintro en w1 ⟨rfl, hb1⟩
      have hcs9 := cells_calls hb1 [⟨w.heap.size, 0, none⟩, ⟨w.heap.size, 1, none⟩, ⟨w.heap.size, 2, none⟩, ⟨w.heap.size + 1, 0, none⟩, ⟨w.heap.size + 1, 1, none⟩, ⟨w.heap.size + 1, 2, none⟩] [.int .i64 (F.1), .int .i64 (F.2.1), .int .i64 (F.2.2), .int .i64 (G.1), .int .i64 (G.2.1), .int .i64 (G.2.2)] (by refine ⟨?_, ?_, ?_, ?_, ?_, ?_, trivial⟩ <;> (first | with_reducible assumption | ((repeat' first | with_reducible (first | assumption | refine cell_al _ ?_ | refine cell_eq _ ?_ | refine cell_ne _ ?_ ?_ | refine ex_set _ ?_ | refine ex_al _ ?_ | exact ⟨_, by assumption⟩) | (intro hh; injection hh with hh1 hh2; omega)); done) | go_simp))
      have hzs9 := blocks_calls hb1 [w.heap.size, w.heap.size + 1] (by refine ⟨?_, ?_, trivial⟩ <;> first | with_reducible assumption | omega | (simp; omega) | (simp; done))
      try clear c00 c01 c02
      try clear c10 c11 c12
      obtain ⟨c00, c01, c02, c10, c11, c12, -⟩ := hcs9
      obtain ⟨z0, z1, -⟩ := hzs9
      have hs1 := hb1.size
      rw [on_two]
      rw [k0]
      go_wp2_with (go_at_call 51; refine (dlTime_b _ _).mono ?_; rintro e w' ⟨rfl, rfl⟩)
      go_wp2
      refine bodyPost_ret (v := .tuple #[.int .i64 0, .bool false]) (by simp [results, Try.results16, go_sem, *]) rfl ?_
      exact ⟨by rw [(unhide HV).1, (unhide HV).2], by (repeat' first | with_reducible (first | exact Below.refl _ _ | assumption | refine gr_alloc ?_ _ | refine below_drewN ?_ _ | refine below_drew ?_ | refine gr_call ?_ (by assumption) | refine Below.setCell ?_ ?_ _) | go_size | omega | (simp; omega))⟩
    · have HV : Hid (dcV F G t = chI (dT F) (keyT F) (keyT G) t ∧ dcB F G t = true) := hide (by unfold dcV dcB; rw [k0, k1]; exact ⟨rfl, rfl⟩)
      have hq := pr_true k0
      have ht : 0 ≤ t ∧ t ≤ 1000000 := by have := inB_true k1; omega
      go_enter Try.func16, Try.ntmps16
      go_wp2_with fail
      refine (dlAll_l (twoT F G) (w.heap.size + 1 + 1) 2 2 _ (by omega) (two_fs (by refine ⟨?_, ?_, ?_, ?_, ?_, ?_⟩ <;> (first | with_reducible assumption | ((repeat' first | with_reducible (first | assumption | refine cell_al _ ?_ | refine cell_eq _ ?_ | refine cell_ne _ ?_ ?_ | refine ex_set _ ?_ | refine ex_al _ ?_ | exact ⟨_, by assumption⟩) | (intro hh; injection hh with hh1 hh2; omega)); done) | go_simp)))).mono ?_
      rintro en w1 ⟨rfl, hb1⟩
      have hcs9 := cells_calls hb1 [⟨w.heap.size, 0, none⟩, ⟨w.heap.size, 1, none⟩, ⟨w.heap.size, 2, none⟩, ⟨w.heap.size + 1, 0, none⟩, ⟨w.heap.size + 1, 1, none⟩, ⟨w.heap.size + 1, 2, none⟩] [.int .i64 (F.1), .int .i64 (F.2.1), .int .i64 (F.2.2), .int .i64 (G.1), .int .i64 (G.2.1), .int .i64 (G.2.2)] (by refine ⟨?_, ?_, ?_, ?_, ?_, ?_, trivial⟩ <;> (first | with_reducible assumption | ((repeat' first | with_reducible (first | assumption | refine cell_al _ ?_ | refine cell_eq _ ?_ | refine cell_ne _ ?_ ?_ | refine ex_set _ ?_ | refine ex_al _ ?_ | exact ⟨_, by assumption⟩) | (intro hh; injection hh with hh1 hh2; omega)); done) | go_simp))
      have hzs9 := blocks_calls hb1 [w.heap.size, w.heap.size + 1] (by refine ⟨?_, ?_, trivial⟩ <;> first | with_reducible assumption | omega | (simp; omega) | (simp; done))
      try clear c00 c01 c02
      try clear c10 c11 c12
      obtain ⟨c00, c01, c02, c10, c11, c12, -⟩ := hcs9
      obtain ⟨z0, z1, -⟩ := hzs9
      have hs1 := hb1.size
      rw [on_two]
      rw [k0]
      go_wp2_with (go_at_call 51; refine (dlTime_b _ _).mono ?_; rintro e w' ⟨rfl, rfl⟩)
      refine (dlChallenge_D F G t _ hq.1 hq.2 ht.1 ht.2).mono ?_
      rintro en w2 ⟨rfl, hb2⟩
      have hcs9 := cells_calls hb2 [⟨w.heap.size, 0, none⟩, ⟨w.heap.size, 1, none⟩, ⟨w.heap.size, 2, none⟩, ⟨w.heap.size + 1, 0, none⟩, ⟨w.heap.size + 1, 1, none⟩, ⟨w.heap.size + 1, 2, none⟩] [.int .i64 (F.1), .int .i64 (F.2.1), .int .i64 (F.2.2), .int .i64 (G.1), .int .i64 (G.2.1), .int .i64 (G.2.2)] (by refine ⟨?_, ?_, ?_, ?_, ?_, ?_, trivial⟩ <;> (first | with_reducible assumption | ((repeat' first | with_reducible (first | assumption | refine cell_al _ ?_ | refine cell_eq _ ?_ | refine cell_ne _ ?_ ?_ | refine ex_set _ ?_ | refine ex_al _ ?_ | exact ⟨_, by assumption⟩) | (intro hh; injection hh with hh1 hh2; omega)); done) | go_simp))
      have hzs9 := blocks_calls hb2 [w.heap.size, w.heap.size + 1] (by refine ⟨?_, ?_, trivial⟩ <;> first | with_reducible assumption | omega | (simp; omega) | (simp; done))
      try clear c00 c01 c02
      try clear c10 c11 c12
      obtain ⟨c00, c01, c02, c10, c11, c12, -⟩ := hcs9
      obtain ⟨z0, z1, -⟩ := hzs9
      have hs2 := hb2.size
      go_wp2
      refine bodyPost_ret (v := .tuple #[.int .i64 (chI (dT F) (keyT F) (keyT G) t), .bool true]) (by simp [results, Try.results16, go_sem, *]) rfl ?_
      exact ⟨by rw [(unhide HV).1, (unhide HV).2], by (repeat' first | with_reducible (first | exact Below.refl _ _ | assumption | refine gr_alloc ?_ _ | refine below_drewN ?_ _ | refine below_drew ?_ | refine gr_call ?_ (by assumption) | refine Below.setCell ?_ ?_ _) | go_size | omega | (simp; omega))⟩

set_option maxRecDepth 100000 in
set_option maxHeartbeats 4000000 in
theorem implHalvingChallenge (F G M : T3) (k : Int) (w : World) (i0 : I64T F) (i1 : I64T G) (i2 : I64T M) : Calls Try.prog 20 #[frm F, frm G, frm M, .int .i64 k] w fun e w' => e = .returned (.tuple #[.int .i64 (hcV F G M k), .bool (hcB F G M k)]) ∧ Below w.heap.size w w' := by
  cases k0 : trB F G M
  · have HV : Hid (hcV F G M k = 0 ∧ hcB F G M k = false) := hide (by unfold hcV hcB; rw [k0]; exact ⟨rfl, rfl⟩)
    go_enter Try.func20, Try.ntmps20
    go_wp2_with fail
    refine (areOne_l (thrT F G M) (w.heap.size + 1 + 1 + 1) 3 3 _ (by omega) (three_fs (by refine ⟨?_, ?_, ?_, ?_, ?_, ?_, ?_, ?_, ?_⟩ <;> (first | with_reducible assumption | ((repeat' first | with_reducible (first | assumption | refine cell_al _ ?_ | refine cell_eq _ ?_ | refine cell_ne _ ?_ ?_ | refine ex_set _ ?_ | refine ex_al _ ?_ | exact ⟨_, by assumption⟩) | (intro hh; injection hh with hh1 hh2; omega)); done) | go_simp))) (three_i64 i0 i1 i2)).mono ?_
    rintro en w1 ⟨rfl, hb1⟩
    have hcs9 := cells_calls hb1 [⟨w.heap.size, 0, none⟩, ⟨w.heap.size, 1, none⟩, ⟨w.heap.size, 2, none⟩, ⟨w.heap.size + 1, 0, none⟩, ⟨w.heap.size + 1, 1, none⟩, ⟨w.heap.size + 1, 2, none⟩, ⟨w.heap.size + 1 + 1, 0, none⟩, ⟨w.heap.size + 1 + 1, 1, none⟩, ⟨w.heap.size + 1 + 1, 2, none⟩] [.int .i64 (F.1), .int .i64 (F.2.1), .int .i64 (F.2.2), .int .i64 (G.1), .int .i64 (G.2.1), .int .i64 (G.2.2), .int .i64 (M.1), .int .i64 (M.2.1), .int .i64 (M.2.2)] (by refine ⟨?_, ?_, ?_, ?_, ?_, ?_, ?_, ?_, ?_, trivial⟩ <;> (first | with_reducible assumption | ((repeat' first | with_reducible (first | assumption | refine cell_al _ ?_ | refine cell_eq _ ?_ | refine cell_ne _ ?_ ?_ | refine ex_set _ ?_ | refine ex_al _ ?_ | exact ⟨_, by assumption⟩) | (intro hh; injection hh with hh1 hh2; omega)); done) | go_simp))
    have hzs9 := blocks_calls hb1 [w.heap.size, w.heap.size + 1, w.heap.size + 1 + 1] (by refine ⟨?_, ?_, ?_, trivial⟩ <;> first | with_reducible assumption | omega | (simp; omega) | (simp; done))
    try clear c00 c01 c02
    try clear c10 c11 c12
    try clear c20 c21 c22
    obtain ⟨c00, c01, c02, c10, c11, c12, c20, c21, c22, -⟩ := hcs9
    obtain ⟨z0, z1, z2, -⟩ := hzs9
    have hs1 := hb1.size
    rw [on_three]
    rw [k0]
    go_wp2
    refine bodyPost_ret (v := .tuple #[.int .i64 0, .bool false]) (by simp [results, Try.results20, go_sem, *]) rfl ?_
    exact ⟨by rw [(unhide HV).1, (unhide HV).2], by (repeat' first | with_reducible (first | exact Below.refl _ _ | assumption | refine gr_alloc ?_ _ | refine below_drewN ?_ _ | refine below_drew ?_ | refine gr_call ?_ (by assumption) | refine Below.setCell ?_ ?_ _) | go_size | omega | (simp; omega))⟩
  · cases k1 : hvB k
    · have HV : Hid (hcV F G M k = 0 ∧ hcB F G M k = false) := hide (by unfold hcV hcB; rw [k0, k1]; exact ⟨rfl, rfl⟩)
      go_enter Try.func20, Try.ntmps20
      go_wp2_with fail
      refine (areOne_l (thrT F G M) (w.heap.size + 1 + 1 + 1) 3 3 _ (by omega) (three_fs (by refine ⟨?_, ?_, ?_, ?_, ?_, ?_, ?_, ?_, ?_⟩ <;> (first | with_reducible assumption | ((repeat' first | with_reducible (first | assumption | refine cell_al _ ?_ | refine cell_eq _ ?_ | refine cell_ne _ ?_ ?_ | refine ex_set _ ?_ | refine ex_al _ ?_ | exact ⟨_, by assumption⟩) | (intro hh; injection hh with hh1 hh2; omega)); done) | go_simp))) (three_i64 i0 i1 i2)).mono ?_
      rintro en w1 ⟨rfl, hb1⟩
      have hcs9 := cells_calls hb1 [⟨w.heap.size, 0, none⟩, ⟨w.heap.size, 1, none⟩, ⟨w.heap.size, 2, none⟩, ⟨w.heap.size + 1, 0, none⟩, ⟨w.heap.size + 1, 1, none⟩, ⟨w.heap.size + 1, 2, none⟩, ⟨w.heap.size + 1 + 1, 0, none⟩, ⟨w.heap.size + 1 + 1, 1, none⟩, ⟨w.heap.size + 1 + 1, 2, none⟩] [.int .i64 (F.1), .int .i64 (F.2.1), .int .i64 (F.2.2), .int .i64 (G.1), .int .i64 (G.2.1), .int .i64 (G.2.2), .int .i64 (M.1), .int .i64 (M.2.1), .int .i64 (M.2.2)] (by refine ⟨?_, ?_, ?_, ?_, ?_, ?_, ?_, ?_, ?_, trivial⟩ <;> (first | with_reducible assumption | ((repeat' first | with_reducible (first | assumption | refine cell_al _ ?_ | refine cell_eq _ ?_ | refine cell_ne _ ?_ ?_ | refine ex_set _ ?_ | refine ex_al _ ?_ | exact ⟨_, by assumption⟩) | (intro hh; injection hh with hh1 hh2; omega)); done) | go_simp))
      have hzs9 := blocks_calls hb1 [w.heap.size, w.heap.size + 1, w.heap.size + 1 + 1] (by refine ⟨?_, ?_, ?_, trivial⟩ <;> first | with_reducible assumption | omega | (simp; omega) | (simp; done))
      try clear c00 c01 c02
      try clear c10 c11 c12
      try clear c20 c21 c22
      obtain ⟨c00, c01, c02, c10, c11, c12, c20, c21, c22, -⟩ := hcs9
      obtain ⟨z0, z1, z2, -⟩ := hzs9
      have hs1 := hb1.size
      rw [on_three]
      rw [k0]
      go_wp2_with (go_at_call 59; refine (isHalvings_b _ _).mono ?_; rintro e w' ⟨rfl, rfl⟩)
      go_wp2
      refine bodyPost_ret (v := .tuple #[.int .i64 0, .bool false]) (by simp [results, Try.results20, go_sem, *]) rfl ?_
      exact ⟨by rw [(unhide HV).1, (unhide HV).2], by (repeat' first | with_reducible (first | exact Below.refl _ _ | assumption | refine gr_alloc ?_ _ | refine below_drewN ?_ _ | refine below_drew ?_ | refine gr_call ?_ (by assumption) | refine Below.setCell ?_ ?_ _) | go_size | omega | (simp; omega))⟩
    · have HV : Hid (hcV F G M k = khI (dT F) (keyT F) (keyT G) (keyT M) k ∧ hcB F G M k = true) := hide (by unfold hcV hcB; rw [k0, k1]; exact ⟨rfl, rfl⟩)
      have hq := tr_true k0
      have ht : 0 ≤ k ∧ k ≤ 1000000 := by have := inB_true k1; omega
      go_enter Try.func20, Try.ntmps20
      go_wp2_with fail
      refine (areOne_l (thrT F G M) (w.heap.size + 1 + 1 + 1) 3 3 _ (by omega) (three_fs (by refine ⟨?_, ?_, ?_, ?_, ?_, ?_, ?_, ?_, ?_⟩ <;> (first | with_reducible assumption | ((repeat' first | with_reducible (first | assumption | refine cell_al _ ?_ | refine cell_eq _ ?_ | refine cell_ne _ ?_ ?_ | refine ex_set _ ?_ | refine ex_al _ ?_ | exact ⟨_, by assumption⟩) | (intro hh; injection hh with hh1 hh2; omega)); done) | go_simp))) (three_i64 i0 i1 i2)).mono ?_
      rintro en w1 ⟨rfl, hb1⟩
      have hcs9 := cells_calls hb1 [⟨w.heap.size, 0, none⟩, ⟨w.heap.size, 1, none⟩, ⟨w.heap.size, 2, none⟩, ⟨w.heap.size + 1, 0, none⟩, ⟨w.heap.size + 1, 1, none⟩, ⟨w.heap.size + 1, 2, none⟩, ⟨w.heap.size + 1 + 1, 0, none⟩, ⟨w.heap.size + 1 + 1, 1, none⟩, ⟨w.heap.size + 1 + 1, 2, none⟩] [.int .i64 (F.1), .int .i64 (F.2.1), .int .i64 (F.2.2), .int .i64 (G.1), .int .i64 (G.2.1), .int .i64 (G.2.2), .int .i64 (M.1), .int .i64 (M.2.1), .int .i64 (M.2.2)] (by refine ⟨?_, ?_, ?_, ?_, ?_, ?_, ?_, ?_, ?_, trivial⟩ <;> (first | with_reducible assumption | ((repeat' first | with_reducible (first | assumption | refine cell_al _ ?_ | refine cell_eq _ ?_ | refine cell_ne _ ?_ ?_ | refine ex_set _ ?_ | refine ex_al _ ?_ | exact ⟨_, by assumption⟩) | (intro hh; injection hh with hh1 hh2; omega)); done) | go_simp))
      have hzs9 := blocks_calls hb1 [w.heap.size, w.heap.size + 1, w.heap.size + 1 + 1] (by refine ⟨?_, ?_, ?_, trivial⟩ <;> first | with_reducible assumption | omega | (simp; omega) | (simp; done))
      try clear c00 c01 c02
      try clear c10 c11 c12
      try clear c20 c21 c22
      obtain ⟨c00, c01, c02, c10, c11, c12, c20, c21, c22, -⟩ := hcs9
      obtain ⟨z0, z1, z2, -⟩ := hzs9
      have hs1 := hb1.size
      rw [on_three]
      rw [k0]
      go_wp2_with (go_at_call 59; refine (isHalvings_b _ _).mono ?_; rintro e w' ⟨rfl, rfl⟩)
      refine (halvingChallenge_D F G M k _ hq.1 hq.2.1 hq.2.2 ht.1 ht.2).mono ?_
      rintro en w2 ⟨rfl, hb2⟩
      have hcs9 := cells_calls hb2 [⟨w.heap.size, 0, none⟩, ⟨w.heap.size, 1, none⟩, ⟨w.heap.size, 2, none⟩, ⟨w.heap.size + 1, 0, none⟩, ⟨w.heap.size + 1, 1, none⟩, ⟨w.heap.size + 1, 2, none⟩, ⟨w.heap.size + 1 + 1, 0, none⟩, ⟨w.heap.size + 1 + 1, 1, none⟩, ⟨w.heap.size + 1 + 1, 2, none⟩] [.int .i64 (F.1), .int .i64 (F.2.1), .int .i64 (F.2.2), .int .i64 (G.1), .int .i64 (G.2.1), .int .i64 (G.2.2), .int .i64 (M.1), .int .i64 (M.2.1), .int .i64 (M.2.2)] (by refine ⟨?_, ?_, ?_, ?_, ?_, ?_, ?_, ?_, ?_, trivial⟩ <;> (first | with_reducible assumption | ((repeat' first | with_reducible (first | assumption | refine cell_al _ ?_ | refine cell_eq _ ?_ | refine cell_ne _ ?_ ?_ | refine ex_set _ ?_ | refine ex_al _ ?_ | exact ⟨_, by assumption⟩) | (intro hh; injection hh with hh1 hh2; omega)); done) | go_simp))
      have hzs9 := blocks_calls hb2 [w.heap.size, w.heap.size + 1, w.heap.size + 1 + 1] (by refine ⟨?_, ?_, ?_, trivial⟩ <;> first | with_reducible assumption | omega | (simp; omega) | (simp; done))
      try clear c00 c01 c02
      try clear c10 c11 c12
      try clear c20 c21 c22
      obtain ⟨c00, c01, c02, c10, c11, c12, c20, c21, c22, -⟩ := hcs9
      obtain ⟨z0, z1, z2, -⟩ := hzs9
      have hs2 := hb2.size
      go_wp2
      refine bodyPost_ret (v := .tuple #[.int .i64 (khI (dT F) (keyT F) (keyT G) (keyT M) k), .bool true]) (by simp [results, Try.results20, go_sem, *]) rfl ?_
      exact ⟨by rw [(unhide HV).1, (unhide HV).2], by (repeat' first | with_reducible (first | exact Below.refl _ _ | assumption | refine gr_alloc ?_ _ | refine below_drewN ?_ _ | refine below_drew ?_ | refine gr_call ?_ (by assumption) | refine Below.setCell ?_ ?_ _) | go_size | omega | (simp; omega))⟩

set_option maxRecDepth 100000 in
set_option maxHeartbeats 4000000 in
theorem specHalvingChallenge (F G M : T3) (k : Int) (w : World)  : Calls Try.prog 19 #[frm F, frm G, frm M, .int .i64 k] w fun e w' => e = .returned (.tuple #[.int .i64 (hcV F G M k), .bool (hcB F G M k)]) ∧ Below w.heap.size w w' := by
  cases k0 : trB F G M
  · have HV : Hid (hcV F G M k = 0 ∧ hcB F G M k = false) := hide (by unfold hcV hcB; rw [k0]; exact ⟨rfl, rfl⟩)
    go_enter Try.func19, Try.ntmps19
    go_wp2_with fail
    refine (dlAll_l (thrT F G M) (w.heap.size + 1 + 1 + 1) 3 3 _ (by omega) (three_fs (by refine ⟨?_, ?_, ?_, ?_, ?_, ?_, ?_, ?_, ?_⟩ <;> (first | with_reducible assumption | ((repeat' first | with_reducible (first | assumption | refine cell_al _ ?_ | refine cell_eq _ ?_ | refine cell_ne _ ?_ ?_ | refine ex_set _ ?_ | refine ex_al _ ?_ | exact ⟨_, by assumption⟩) | (intro hh; injection hh with hh1 hh2; omega)); done) | go_simp)))).mono ?_
    rintro en w1 ⟨rfl, hb1⟩
    have hcs9 := cells_calls hb1 [⟨w.heap.size, 0, none⟩, ⟨w.heap.size, 1, none⟩, ⟨w.heap.size, 2, none⟩, ⟨w.heap.size + 1, 0, none⟩, ⟨w.heap.size + 1, 1, none⟩, ⟨w.heap.size + 1, 2, none⟩, ⟨w.heap.size + 1 + 1, 0, none⟩, ⟨w.heap.size + 1 + 1, 1, none⟩, ⟨w.heap.size + 1 + 1, 2, none⟩] [.int .i64 (F.1), .int .i64 (F.2.1), .int .i64 (F.2.2), .int .i64 (G.1), .int .i64 (G.2.1), .int .i64 (G.2.2), .int .i64 (M.1), .int .i64 (M.2.1), .int .i64 (M.2.2)] (by refine ⟨?_, ?_, ?_, ?_, ?_, ?_, ?_, ?_, ?_, trivial⟩ <;> (first | with_reducible assumption | ((repeat' first | with_reducible (first | assumption | refine cell_al _ ?_ | refine cell_eq _ ?_ | refine cell_ne _ ?_ ?_ | refine ex_set _ ?_ | refine ex_al _ ?_ | exact ⟨_, by assumption⟩) | (intro hh; injection hh with hh1 hh2; omega)); done) | go_simp))
    have hzs9 := blocks_calls hb1 [w.heap.size, w.heap.size + 1, w.heap.size + 1 + 1] (by refine ⟨?_, ?_, ?_, trivial⟩ <;> first | with_reducible assumption | omega | (simp; omega) | (simp; done))
    try clear c00 c01 c02
    try clear c10 c11 c12
    try clear c20 c21 c22
    obtain ⟨c00, c01, c02, c10, c11, c12, c20, c21, c22, -⟩ := hcs9
    obtain ⟨z0, z1, z2, -⟩ := hzs9
    have hs1 := hb1.size
    rw [on_three]
    rw [k0]
    go_wp2
    refine bodyPost_ret (v := .tuple #[.int .i64 0, .bool false]) (by simp [results, Try.results19, go_sem, *]) rfl ?_
    exact ⟨by rw [(unhide HV).1, (unhide HV).2], by (repeat' first | with_reducible (first | exact Below.refl _ _ | assumption | refine gr_alloc ?_ _ | refine below_drewN ?_ _ | refine below_drew ?_ | refine gr_call ?_ (by assumption) | refine Below.setCell ?_ ?_ _) | go_size | omega | (simp; omega))⟩
  · cases k1 : hvB k
    · have HV : Hid (hcV F G M k = 0 ∧ hcB F G M k = false) := hide (by unfold hcV hcB; rw [k0, k1]; exact ⟨rfl, rfl⟩)
      go_enter Try.func19, Try.ntmps19
      go_wp2_with fail
      refine (dlAll_l (thrT F G M) (w.heap.size + 1 + 1 + 1) 3 3 _ (by omega) (three_fs (by refine ⟨?_, ?_, ?_, ?_, ?_, ?_, ?_, ?_, ?_⟩ <;> (first | with_reducible assumption | ((repeat' first | with_reducible (first | assumption | refine cell_al _ ?_ | refine cell_eq _ ?_ | refine cell_ne _ ?_ ?_ | refine ex_set _ ?_ | refine ex_al _ ?_ | exact ⟨_, by assumption⟩) | (intro hh; injection hh with hh1 hh2; omega)); done) | go_simp)))).mono ?_
      rintro en w1 ⟨rfl, hb1⟩
      have hcs9 := cells_calls hb1 [⟨w.heap.size, 0, none⟩, ⟨w.heap.size, 1, none⟩, ⟨w.heap.size, 2, none⟩, ⟨w.heap.size + 1, 0, none⟩, ⟨w.heap.size + 1, 1, none⟩, ⟨w.heap.size + 1, 2, none⟩, ⟨w.heap.size + 1 + 1, 0, none⟩, ⟨w.heap.size + 1 + 1, 1, none⟩, ⟨w.heap.size + 1 + 1, 2, none⟩] [.int .i64 (F.1), .int .i64 (F.2.1), .int .i64 (F.2.2), .int .i64 (G.1), .int .i64 (G.2.1), .int .i64 (G.2.2), .int .i64 (M.1), .int .i64 (M.2.1), .int .i64 (M.2.2)] (by refine ⟨?_, ?_, ?_, ?_, ?_, ?_, ?_, ?_, ?_, trivial⟩ <;> (first | with_reducible assumption | ((repeat' first | with_reducible (first | assumption | refine cell_al _ ?_ | refine cell_eq _ ?_ | refine cell_ne _ ?_ ?_ | refine ex_set _ ?_ | refine ex_al _ ?_ | exact ⟨_, by assumption⟩) | (intro hh; injection hh with hh1 hh2; omega)); done) | go_simp))
      have hzs9 := blocks_calls hb1 [w.heap.size, w.heap.size + 1, w.heap.size + 1 + 1] (by refine ⟨?_, ?_, ?_, trivial⟩ <;> first | with_reducible assumption | omega | (simp; omega) | (simp; done))
      try clear c00 c01 c02
      try clear c10 c11 c12
      try clear c20 c21 c22
      obtain ⟨c00, c01, c02, c10, c11, c12, c20, c21, c22, -⟩ := hcs9
      obtain ⟨z0, z1, z2, -⟩ := hzs9
      have hs1 := hb1.size
      rw [on_three]
      rw [k0]
      go_wp2_with (go_at_call 56; refine (dlHalving_b _ _).mono ?_; rintro e w' ⟨rfl, rfl⟩)
      go_wp2
      refine bodyPost_ret (v := .tuple #[.int .i64 0, .bool false]) (by simp [results, Try.results19, go_sem, *]) rfl ?_
      exact ⟨by rw [(unhide HV).1, (unhide HV).2], by (repeat' first | with_reducible (first | exact Below.refl _ _ | assumption | refine gr_alloc ?_ _ | refine below_drewN ?_ _ | refine below_drew ?_ | refine gr_call ?_ (by assumption) | refine Below.setCell ?_ ?_ _) | go_size | omega | (simp; omega))⟩
    · have HV : Hid (hcV F G M k = khI (dT F) (keyT F) (keyT G) (keyT M) k ∧ hcB F G M k = true) := hide (by unfold hcV hcB; rw [k0, k1]; exact ⟨rfl, rfl⟩)
      have hq := tr_true k0
      have ht : 0 ≤ k ∧ k ≤ 1000000 := by have := inB_true k1; omega
      go_enter Try.func19, Try.ntmps19
      go_wp2_with fail
      refine (dlAll_l (thrT F G M) (w.heap.size + 1 + 1 + 1) 3 3 _ (by omega) (three_fs (by refine ⟨?_, ?_, ?_, ?_, ?_, ?_, ?_, ?_, ?_⟩ <;> (first | with_reducible assumption | ((repeat' first | with_reducible (first | assumption | refine cell_al _ ?_ | refine cell_eq _ ?_ | refine cell_ne _ ?_ ?_ | refine ex_set _ ?_ | refine ex_al _ ?_ | exact ⟨_, by assumption⟩) | (intro hh; injection hh with hh1 hh2; omega)); done) | go_simp)))).mono ?_
      rintro en w1 ⟨rfl, hb1⟩
      have hcs9 := cells_calls hb1 [⟨w.heap.size, 0, none⟩, ⟨w.heap.size, 1, none⟩, ⟨w.heap.size, 2, none⟩, ⟨w.heap.size + 1, 0, none⟩, ⟨w.heap.size + 1, 1, none⟩, ⟨w.heap.size + 1, 2, none⟩, ⟨w.heap.size + 1 + 1, 0, none⟩, ⟨w.heap.size + 1 + 1, 1, none⟩, ⟨w.heap.size + 1 + 1, 2, none⟩] [.int .i64 (F.1), .int .i64 (F.2.1), .int .i64 (F.2.2), .int .i64 (G.1), .int .i64 (G.2.1), .int .i64 (G.2.2), .int .i64 (M.1), .int .i64 (M.2.1), .int .i64 (M.2.2)] (by refine ⟨?_, ?_, ?_, ?_, ?_, ?_, ?_, ?_, ?_, trivial⟩ <;> (first | with_reducible assumption | ((repeat' first | with_reducible (first | assumption | refine cell_al _ ?_ | refine cell_eq _ ?_ | refine cell_ne _ ?_ ?_ | refine ex_set _ ?_ | refine ex_al _ ?_ | exact ⟨_, by assumption⟩) | (intro hh; injection hh with hh1 hh2; omega)); done) | go_simp))
      have hzs9 := blocks_calls hb1 [w.heap.size, w.heap.size + 1, w.heap.size + 1 + 1] (by refine ⟨?_, ?_, ?_, trivial⟩ <;> first | with_reducible assumption | omega | (simp; omega) | (simp; done))
      try clear c00 c01 c02
      try clear c10 c11 c12
      try clear c20 c21 c22
      obtain ⟨c00, c01, c02, c10, c11, c12, c20, c21, c22, -⟩ := hcs9
      obtain ⟨z0, z1, z2, -⟩ := hzs9
      have hs1 := hb1.size
      rw [on_three]
      rw [k0]
      go_wp2_with (go_at_call 56; refine (dlHalving_b _ _).mono ?_; rintro e w' ⟨rfl, rfl⟩)
      refine (dlHalf_D F G M k _ hq.1 hq.2.1 hq.2.2 ht.1 ht.2).mono ?_
      rintro en w2 ⟨rfl, hb2⟩
      have hcs9 := cells_calls hb2 [⟨w.heap.size, 0, none⟩, ⟨w.heap.size, 1, none⟩, ⟨w.heap.size, 2, none⟩, ⟨w.heap.size + 1, 0, none⟩, ⟨w.heap.size + 1, 1, none⟩, ⟨w.heap.size + 1, 2, none⟩, ⟨w.heap.size + 1 + 1, 0, none⟩, ⟨w.heap.size + 1 + 1, 1, none⟩, ⟨w.heap.size + 1 + 1, 2, none⟩] [.int .i64 (F.1), .int .i64 (F.2.1), .int .i64 (F.2.2), .int .i64 (G.1), .int .i64 (G.2.1), .int .i64 (G.2.2), .int .i64 (M.1), .int .i64 (M.2.1), .int .i64 (M.2.2)] (by refine ⟨?_, ?_, ?_, ?_, ?_, ?_, ?_, ?_, ?_, trivial⟩ <;> (first | with_reducible assumption | ((repeat' first | with_reducible (first | assumption | refine cell_al _ ?_ | refine cell_eq _ ?_ | refine cell_ne _ ?_ ?_ | refine ex_set _ ?_ | refine ex_al _ ?_ | exact ⟨_, by assumption⟩) | (intro hh; injection hh with hh1 hh2; omega)); done) | go_simp))
      have hzs9 := blocks_calls hb2 [w.heap.size, w.heap.size + 1, w.heap.size + 1 + 1] (by refine ⟨?_, ?_, ?_, trivial⟩ <;> first | with_reducible assumption | omega | (simp; omega) | (simp; done))
      try clear c00 c01 c02
      try clear c10 c11 c12
      try clear c20 c21 c22
      obtain ⟨c00, c01, c02, c10, c11, c12, c20, c21, c22, -⟩ := hcs9
      obtain ⟨z0, z1, z2, -⟩ := hzs9
      have hs2 := hb2.size
      go_wp2
      refine bodyPost_ret (v := .tuple #[.int .i64 (khI (dT F) (keyT F) (keyT G) (keyT M) k), .bool true]) (by simp [results, Try.results19, go_sem, *]) rfl ?_
      exact ⟨by rw [(unhide HV).1, (unhide HV).2], by (repeat' first | with_reducible (first | exact Below.refl _ _ | assumption | refine gr_alloc ?_ _ | refine below_drewN ?_ _ | refine below_drew ?_ | refine gr_call ?_ (by assumption) | refine Below.setCell ?_ ?_ _) | go_size | omega | (simp; omega))⟩
end Go.Proofs.Ytninagdclibmnaa
