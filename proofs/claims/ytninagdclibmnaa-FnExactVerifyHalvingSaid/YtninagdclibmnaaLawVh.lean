/-
  The law of VerifyHalving.
-/
import Derived.Test.YtninagdclibmnaaVh
import Derived.Test.YtninagdclibmnaaToF
namespace Go.Proofs.Ytninagdclibmnaa
open Go.RowKit
set_option linter.unusedVariables false
set_option linter.unusedSimpArgs false
attribute [local go_sem] q2 q3 q4 q5 q6 q7 q8 q9 q10 q11 q12

/-- A slice of forms in a block of its own. -/
def SlcR (n : Nat) (P : Nat → T3) (w : World) (v : Value) : Prop := ∃ g : Nat, v = .slice (some ⟨g, 0, none⟩) n n ∧ RowF w g n P ∧ g < w.heap.size
theorem SlcR.st {n : Nat} {P : Nat → T3} : StB (SlcR n P) := fun W w' v hb ⟨g, h1, h2, h3⟩ => ⟨g, h1, h2.below hb, Nat.lt_of_lt_of_le h3 hb.size⟩
theorem toFormS_p (v : Value) (n : Nat) (P : Nat → T3) (w : World) (h : ArgF w v n P) (hn : n ≤ 2000000) :
    Calls Try.prog 37 #[v] w fun e w' => ∃ v', e = .returned v' ∧ SlcR n P w' v' ∧ Below w.heap.size w w' :=
  (toFormS_a v n P w h hn).mono fun e w' ⟨he, hr, hb⟩ => ⟨_, he, ⟨_, rfl, hr, World.rowIs.lt hr⟩, hb⟩
theorem lvh_s (F G : T3) (k : Int) (n : Nat) (P : Nat → T3) (B c : Nat) (v b : Bool) (w : World) (hn : n ≤ 1100000) (hF : RowF w B n P) (hV : vhV F G n P k = v) (hB : vhB F G n P k = b) :
    Calls Try.prog 36 #[frm F, frm G, .int .i64 k, .slice (some ⟨B, 0, none⟩) n c] w fun e w' => e = .returned (.tuple #[.bool v, .bool b]) ∧ Below w.heap.size w w' := by
  subst hV hB; exact specVerifyHalving F G k n P B c w hn hF.fs (World.rowIs.lt hF)
theorem lvh_i (F G : T3) (k : Int) (n : Nat) (P : Nat → T3) (B c : Nat) (v b : Bool) (w : World) (hn : n ≤ 1100000) (hF : RowF w B n P) (i0 : I64T F) (i1 : I64T G) (i2 : ∀ i, i < n → I64T (P i)) (hV : vhV F G n P k = v) (hB : vhB F G n P k = b) :
    Calls Try.prog 38 #[frm F, frm G, .int .i64 k, .slice (some ⟨B, 0, none⟩) n c] w fun e w' => e = .returned (.tuple #[.bool v, .bool b]) ∧ Below w.heap.size w w' := by
  subst hV hB; exact implVerifyHalving F G k n P B c w hn hF.fs (World.rowIs.lt hF) i0 i1 i2

set_option maxRecDepth 100000 in
set_option maxHeartbeats 4000000 in
theorem lawVerifyHalving (F G : T3) (k : Int) (v : Value) (n : Nat) (P : Nat → T3) (w : World) (i0 : I64T F) (i1 : I64T G) (i2 : ∀ i, i < n → I64T (P i)) (hA : ArgF w v n P) (hr : n ≤ 9223372036854775807) :
    Calls Try.prog 10 #[frm F, frm G, .int .i64 k, v] w fun e w' => e = .returned (.bool true) ∧ Below w.heap.size w w' := by
  have HA2 : Hid (ArgF (((w.alloc (.cells #[.int .i64 F.1, .int .i64 F.2.1, .int .i64 F.2.2] 23)).alloc (.cells #[.int .i64 G.1, .int .i64 G.2.1, .int .i64 G.2.2] 23))) v n P) := hide ((hA.below (below_alloc_self _ _)).below (below_alloc_self _ _))
  have HA := hide hA
  have I2 := hide i2
  clear hA i2
  obtain ⟨b1, hV⟩ : ∃ b1, vhV F G n P k = b1 := ⟨_, rfl⟩
  obtain ⟨b2, hB⟩ : ∃ b2, vhB F G n P k = b2 := ⟨_, rfl⟩
  replace hV := hide hV
  replace hB := hide hB
  by_cases hn : n ≤ 1048576
  · have hif : Hid ((if (1048576 : Int) < n then (-1 : Int) else 1048576 - n) = 1048576 - n) := hide (if_neg (by omega))
    have hl : 0 ≤ (1048576 : Int) - n := by omega
    go_enter Try.func10, Try.ntmps10
    go_wp2_with fail
    refine (szFormS_a v n 1048576 P _ (unhide HA2) hr (by omega)).mono ?_
    rintro en w1 ⟨rfl, rfl⟩
    rw [unhide hif]
    go_upto_region 5 with fail
    go_cut [10, 11] (fun s10 s11 wx => s10 = .bool b1 ∧ s11 = .bool b2 ∧ wx.cell? ⟨w.heap.size, 0, none⟩ = some (.int .i64 (F.1)) ∧ wx.cell? ⟨w.heap.size, 1, none⟩ = some (.int .i64 (F.2.1)) ∧ wx.cell? ⟨w.heap.size, 2, none⟩ = some (.int .i64 (F.2.2)) ∧ wx.cell? ⟨w.heap.size + 1, 0, none⟩ = some (.int .i64 (G.1)) ∧ wx.cell? ⟨w.heap.size + 1, 1, none⟩ = some (.int .i64 (G.2.1)) ∧ wx.cell? ⟨w.heap.size + 1, 2, none⟩ = some (.int .i64 (G.2.2)) ∧ Below w.heap.size w wx)
    case first =>
      have h1 := trivial
      rename_i K2 h2 h3
      let hgf9 : Nat → World → Value → Prop := fun j => match j with | 0 => Kd.ok (Kd.val (.agg #[.int .i64 (F.1), .int .i64 (F.2.1), .int .i64 (F.2.2)])) | 1 => Kd.ok (Kd.val (.agg #[.int .i64 (F.1), .int .i64 (F.2.1), .int .i64 (F.2.2)])) | 2 => Kd.ok (Kd.val (.agg #[.int .i64 (G.1), .int .i64 (G.2.1), .int .i64 (G.2.2)])) | 3 => Kd.ok (Kd.val (.agg #[.int .i64 (G.1), .int .i64 (G.2.1), .int .i64 (G.2.2)])) | 4 => Kd.ok (Kd.val (.int .i64 k)) | 5 => Kd.ok (Kd.val (v)) | 6 => (SlcR n P) | 7 => Kd.ok (Kd.val (.tuple #[.bool b1, .bool b2])) | 8 => Kd.ok (Kd.val (.tuple #[.bool b1, .bool b2])) | 9 => Kd.ok (Kd.val (.bool b1)) | 10 => Kd.ok (Kd.val (.bool b2)) | 11 => Kd.ok (Kd.val (.bool b1)) | 12 => Kd.ok (Kd.val (.bool b2)) | _ => Kd.ok Kd.any
      have hst9 : ∀ j, StB (hgf9 j) := fun j => match j with | 0 => (Kd.st (Kd.val (.agg #[.int .i64 (F.1), .int .i64 (F.2.1), .int .i64 (F.2.2)])) : StB (Kd.ok (Kd.val (.agg #[.int .i64 (F.1), .int .i64 (F.2.1), .int .i64 (F.2.2)])))) | 1 => (Kd.st (Kd.val (.agg #[.int .i64 (F.1), .int .i64 (F.2.1), .int .i64 (F.2.2)])) : StB (Kd.ok (Kd.val (.agg #[.int .i64 (F.1), .int .i64 (F.2.1), .int .i64 (F.2.2)])))) | 2 => (Kd.st (Kd.val (.agg #[.int .i64 (G.1), .int .i64 (G.2.1), .int .i64 (G.2.2)])) : StB (Kd.ok (Kd.val (.agg #[.int .i64 (G.1), .int .i64 (G.2.1), .int .i64 (G.2.2)])))) | 3 => (Kd.st (Kd.val (.agg #[.int .i64 (G.1), .int .i64 (G.2.1), .int .i64 (G.2.2)])) : StB (Kd.ok (Kd.val (.agg #[.int .i64 (G.1), .int .i64 (G.2.1), .int .i64 (G.2.2)])))) | 4 => (Kd.st (Kd.val (.int .i64 k)) : StB (Kd.ok (Kd.val (.int .i64 k)))) | 5 => (Kd.st (Kd.val (v)) : StB (Kd.ok (Kd.val (v)))) | 6 => (SlcR.st : StB (SlcR n P)) | 7 => (Kd.st (Kd.val (.tuple #[.bool b1, .bool b2])) : StB (Kd.ok (Kd.val (.tuple #[.bool b1, .bool b2])))) | 8 => (Kd.st (Kd.val (.tuple #[.bool b1, .bool b2])) : StB (Kd.ok (Kd.val (.tuple #[.bool b1, .bool b2])))) | 9 => (Kd.st (Kd.val (.bool b1)) : StB (Kd.ok (Kd.val (.bool b1)))) | 10 => (Kd.st (Kd.val (.bool b2)) : StB (Kd.ok (Kd.val (.bool b2)))) | 11 => (Kd.st (Kd.val (.bool b1)) : StB (Kd.ok (Kd.val (.bool b1)))) | 12 => (Kd.st (Kd.val (.bool b2)) : StB (Kd.ok (Kd.val (.bool b2)))) | j + 13 => (Kd.st Kd.any : StB (Kd.ok Kd.any))
      refine region_n0 (by kernel_rfl) (fun j => #[21,22,23,24,25,26,27,28,20,29,30,10,11].getD j 0) (hgf9) (Sy w (w.heap.size + 1 + 1) [(⟨w.heap.size, 0, none⟩, .int .i64 (F.1)), (⟨w.heap.size, 1, none⟩, .int .i64 (F.2.1)), (⟨w.heap.size, 2, none⟩, .int .i64 (F.2.2)), (⟨w.heap.size + 1, 0, none⟩, .int .i64 (G.1)), (⟨w.heap.size + 1, 1, none⟩, .int .i64 (G.2.1)), (⟨w.heap.size + 1, 2, none⟩, .int .i64 (G.2.2))] []) (by kernel_rfl) (by kernel_rfl) ?_ ?_ ?_ ?_
      · intro j hj
        have hj2 : j < 13 := hj
        have : ∀ j, j < 13 → (#[21,22,23,24,25,26,27,28,20,29,30,10,11] : Array Nat).getD j 0 < 56 := by decide
        exact this j hj2
      · refine Sy.drew (Sy.mk_of ?_ ?_ ?_ ?_)
        · first | rfl | (simp; done) | (simp; omega)
        · intro c hc
          simp only [List.mem_cons, List.not_mem_nil, or_false] at hc
          rcases hc with rfl | rfl | rfl | rfl | rfl | rfl <;> exact byCT
        · intro p hp; cases hp
        · (repeat' first | with_reducible (first | exact Below.refl _ _ | assumption | refine gr_alloc ?_ _ | refine below_drewN ?_ _ | refine below_drew ?_ | refine gr_call ?_ (by assumption) | refine Below.setCell ?_ ?_ _) | go_size | omega | (simp; omega))
      · clear h1 h2 h3
        refine ⟨?r52x0, ?r52x1, ?r52x2, ?r52x3, ?r52x4, ?r52x5, ?r52x6, ?r52x7, ?r52x8, ?r52x9, ?r52x10, ?r52x11, ?r52x12, trivial⟩
        all_goals intro _ aq wx Kq hf hS hdep ev1 ev2 hK
        case' r52x0 =>
          have F4 : aq.eval (.tmp 4) = .pointer (some ⟨w.heap.size, 0, none⟩) := hf 4
          have c0 := hS.cells (⟨w.heap.size, 0, none⟩, .int .i64 (F.1)) (by simp)
          have c1 := hS.cells (⟨w.heap.size, 1, none⟩, .int .i64 (F.2.1)) (by simp)
          have c2 := hS.cells (⟨w.heap.size, 2, none⟩, .int .i64 (F.2.2)) (by simp)
        case' r52x1 =>
          have D0 : aq.eval (.tmp 21) = _ := hdep 0
        case' r52x2 =>
          have F5 : aq.eval (.tmp 5) = .pointer (some ⟨w.heap.size + 1, 0, none⟩) := hf 5
          have c0 := hS.cells (⟨w.heap.size + 1, 0, none⟩, .int .i64 (G.1)) (by simp)
          have c1 := hS.cells (⟨w.heap.size + 1, 1, none⟩, .int .i64 (G.2.1)) (by simp)
          have c2 := hS.cells (⟨w.heap.size + 1, 2, none⟩, .int .i64 (G.2.2)) (by simp)
        case' r52x3 =>
          have D2 : aq.eval (.tmp 23) = _ := hdep 2
        case' r52x4 =>
          have F2 : aq.eval (.tmp 2) = .int .i64 k := hf 2
        case' r52x5 =>
          have F3 : aq.eval (.tmp 3) = v := hf 3
        case' r52x6 =>
          have D5 : aq.eval (.tmp 26) = _ := hdep 5
        case' r52x7 =>
          have D1 : aq.eval (.tmp 22) = _ := hdep 1
          have D3 : aq.eval (.tmp 24) = _ := hdep 3
          have D4 : aq.eval (.tmp 25) = _ := hdep 4
          obtain ⟨gq27, DP27, hrw27, hlt27⟩ := hdep 6
          change aq.eval (.tmp 27) = _ at DP27
        case' r52x8 =>
          have D7 : aq.eval (.tmp 28) = _ := hdep 7
        case' r52x9 =>
          have D8 : aq.eval (.tmp 20) = _ := hdep 8
        case' r52x10 =>
          have D8 : aq.eval (.tmp 20) = _ := hdep 8
        case' r52x11 =>
          have D9 : aq.eval (.tmp 29) = _ := hdep 9
        case' r52x12 =>
          have D10 : aq.eval (.tmp 30) = _ := hdep 10
        all_goals (clear hf hdep; unfold Oper.wp; generalize Act.eval _ = ev at *; go_simp)
        case r52x1 =>
          refine ((toForm_w F _)).mono ?_
          rintro e w2 ⟨rfl, hb⟩
          refine hK _ _ (hS.call hb) ?_ (fun j u _ h => hst9 j _ _ _ hb h)
          rw [if_pos (by rfl)]
          show (_ : Value) = _
          first | rfl | (refine congrArg (Value.int .i64) ?_; first | rfl | exact int_in (by omega) | exact quo_in (by omega) (by omega) (by omega) | exact rem_in (by omega) (by omega) | omega) | (simp; done) | (simp [*]; done)
        case r52x3 =>
          refine ((toForm_w G _)).mono ?_
          rintro e w2 ⟨rfl, hb⟩
          refine hK _ _ (hS.call hb) ?_ (fun j u _ h => hst9 j _ _ _ hb h)
          rw [if_pos (by rfl)]
          show (_ : Value) = _
          first | rfl | (refine congrArg (Value.int .i64) ?_; first | rfl | exact int_in (by omega) | exact quo_in (by omega) (by omega) (by omega) | exact rem_in (by omega) (by omega) | omega) | (simp; done) | (simp [*]; done)
        case r52x6 =>
          refine ((toFormS_p v n P _ ((unhide HA).below hS.below) (by omega))).mono ?_
          rintro e w2 ⟨v9, rfl, hpr, hb⟩
          refine hK _ _ (hS.call hb) ?_ (fun j u _ h => hst9 j _ _ _ hb h)
          rw [if_pos (by rfl)]
          exact hpr
        case r52x7 =>
          refine ((lvh_s F G k n P gq27 n b1 b2 _ (by omega) hrw27 (unhide hV) (unhide hB))).mono ?_
          rintro e w2 ⟨rfl, hb⟩
          refine hK _ _ (hS.call hb) ?_ (fun j u _ h => hst9 j _ _ _ hb h)
          rw [if_pos (by rfl)]
          show (_ : Value) = _
          first | rfl | (refine congrArg (Value.int .i64) ?_; first | rfl | exact int_in (by omega) | exact quo_in (by omega) (by omega) (by omega) | exact rem_in (by omega) (by omega) | omega) | (simp; done) | (simp [*]; done)
        all_goals (refine hK _ _ hS ?_ (fun j u _ h => h); rw [if_pos (by rfl)]; show (_ : Value) = _; (first | rfl | (refine congrArg (Value.int .i64) ?_; first | rfl | exact int_in (by omega) | exact quo_in (by omega) (by omega) (by omega) | exact rem_in (by omega) (by omega) | omega) | (simp; done) | (simp [*]; done)))
      · intro aq wx hd hw hf hS hg
        have G10 : tau aq 10 = .bool b1 := hg 11 (by decide)
        have G11 : tau aq 11 = .bool b2 := hg 12 (by decide)
        have haq : aq = ⟨#[tau aq 0, tau aq 1, tau aq 2, tau aq 3, tau aq 4, tau aq 5, tau aq 6, tau aq 7, tau aq 8, tau aq 9, tau aq 10, tau aq 11, tau aq 12, tau aq 13, tau aq 14, tau aq 15, tau aq 16, tau aq 17, tau aq 18, tau aq 19, tau aq 20, tau aq 21, tau aq 22, tau aq 23, tau aq 24, tau aq 25, tau aq 26, tau aq 27, tau aq 28, tau aq 29, tau aq 30, tau aq 31, tau aq 32, tau aq 33, tau aq 34, tau aq 35, tau aq 36, tau aq 37, tau aq 38, tau aq 39, tau aq 40, tau aq 41, tau aq 42, tau aq 43, tau aq 44, tau aq 45, tau aq 46, tau aq 47, tau aq 48, tau aq 49, tau aq 50, tau aq 51, tau aq 52, tau aq 53, tau aq 54, tau aq 55], []⟩ := by
          obtain ⟨tq, dq⟩ := aq
          have h5 := arr_eq (show tq.size = 56 from hw)
          have h6 : dq = [] := hd
          subst h6
          exact congrArg (fun z => Act.mk z []) h5
        show K2 aq wx
        rw [haq, hf 0, hf 1, hf 2, hf 3, hf 4, hf 5, hf 6, hf 7, hf 8, hf 9, hf 12, hf 13, hf 14, hf 15, hf 16, hf 17, hf 18, hf 19, hf 31, hf 32, hf 33, hf 34, hf 35, hf 36, hf 37, hf 38, hf 39, hf 40, hf 41, hf 42, hf 43, hf 44, hf 45, hf 46, hf 47, hf 48, hf 49, hf 50, hf 51, hf 52, hf 53, hf 54, hf 55, G10, G11]
        clear haq hf hd hw
        try dsimp only
        refine h3 _ _ ?_
        go_meet
        exact ⟨rfl, rfl, hS.cells (⟨w.heap.size, 0, none⟩, .int .i64 (F.1)) (by simp), hS.cells (⟨w.heap.size, 1, none⟩, .int .i64 (F.2.1)) (by simp), hS.cells (⟨w.heap.size, 2, none⟩, .int .i64 (F.2.2)) (by simp), hS.cells (⟨w.heap.size + 1, 0, none⟩, .int .i64 (G.1)) (by simp), hS.cells (⟨w.heap.size + 1, 1, none⟩, .int .i64 (G.2.1)) (by simp), hS.cells (⟨w.heap.size + 1, 2, none⟩, .int .i64 (G.2.2)) (by simp), hS.below⟩
    obtain ⟨rfl, rfl, c00, c01, c02, c10, c11, c12, hb0⟩ := hcut
    have z0 := World.block_lt_of_cell? _ _ c00
    have z1 := World.block_lt_of_cell? _ _ c10
    change w.heap.size < wc.heap.size at z0
    change w.heap.size + 1 < wc.heap.size at z1
    obtain ⟨wq, rfl⟩ : ∃ wq : World, wq = wc := ⟨_, rfl⟩
    have hbq := hb0
    clear hb0
    go_wp2_with fail
    refine (toFormS_a v n P _ ((unhide HA).below hbq) (by omega)).mono ?_
    rintro en w6 ⟨rfl, hrow, hb6⟩
    have hcs9 := cells_calls hb6 [⟨w.heap.size, 0, none⟩, ⟨w.heap.size, 1, none⟩, ⟨w.heap.size, 2, none⟩, ⟨w.heap.size + 1, 0, none⟩, ⟨w.heap.size + 1, 1, none⟩, ⟨w.heap.size + 1, 2, none⟩] [.int .i64 (F.1), .int .i64 (F.2.1), .int .i64 (F.2.2), .int .i64 (G.1), .int .i64 (G.2.1), .int .i64 (G.2.2)] (by refine ⟨?_, ?_, ?_, ?_, ?_, ?_, trivial⟩ <;> exact byCT)
    have hzs9 := blocks_calls hb6 [w.heap.size, w.heap.size + 1] (by refine ⟨?_, ?_, trivial⟩ <;> first | with_reducible assumption | omega | (simp; omega) | (simp; done))
    try clear c00 c01 c02
    try clear c10 c11 c12
    obtain ⟨c00, c01, c02, c10, c11, c12, -⟩ := hcs9
    obtain ⟨z0, z1, -⟩ := hzs9
    have hs6 := hb6.size
    have hbr : Below w.heap.size w w6 := hbq.trans (hb6.mono hbq.size)
    have HR := hide hrow
    clear hrow
    go_upto_region 7 with fail
    go_cut [13, 14] (fun s13 s14 wx => s13 = .bool b1 ∧ s14 = .bool b2 ∧ wx.cell? ⟨w.heap.size, 0, none⟩ = some (.int .i64 (F.1)) ∧ wx.cell? ⟨w.heap.size, 1, none⟩ = some (.int .i64 (F.2.1)) ∧ wx.cell? ⟨w.heap.size, 2, none⟩ = some (.int .i64 (F.2.2)) ∧ wx.cell? ⟨w.heap.size + 1, 0, none⟩ = some (.int .i64 (G.1)) ∧ wx.cell? ⟨w.heap.size + 1, 1, none⟩ = some (.int .i64 (G.2.1)) ∧ wx.cell? ⟨w.heap.size + 1, 2, none⟩ = some (.int .i64 (G.2.2)) ∧ Below w6.heap.size w6 wx)
    case first =>
      have h1 := trivial
      rename_i K2 h2 h3
      refine region_n0 (by kernel_rfl) (fun j => #[34,35,36,37,38,39,40,33,41,42,13,14].getD j 0) (fun j => Kd.ok ((fun j => match j with | 0 => Kd.val (.agg #[.int .i64 (F.1), .int .i64 (F.2.1), .int .i64 (F.2.2)]) | 1 => Kd.val (.agg #[.int .i64 (F.1), .int .i64 (F.2.1), .int .i64 (F.2.2)]) | 2 => Kd.val (.agg #[.int .i64 (G.1), .int .i64 (G.2.1), .int .i64 (G.2.2)]) | 3 => Kd.val (.agg #[.int .i64 (G.1), .int .i64 (G.2.1), .int .i64 (G.2.2)]) | 4 => Kd.val (.int .i64 k) | 5 => Kd.val (.slice (some ⟨wq.heap.size, 0, none⟩) n n) | 6 => Kd.val (.tuple #[.bool b1, .bool b2]) | 7 => Kd.val (.tuple #[.bool b1, .bool b2]) | 8 => Kd.val (.bool b1) | 9 => Kd.val (.bool b2) | 10 => Kd.val (.bool b1) | 11 => Kd.val (.bool b2) | _ => Kd.any : Nat → Kd) j)) (Sy w6 (w6.heap.size) [(⟨w.heap.size, 0, none⟩, .int .i64 (F.1)), (⟨w.heap.size, 1, none⟩, .int .i64 (F.2.1)), (⟨w.heap.size, 2, none⟩, .int .i64 (F.2.2)), (⟨w.heap.size + 1, 0, none⟩, .int .i64 (G.1)), (⟨w.heap.size + 1, 1, none⟩, .int .i64 (G.2.1)), (⟨w.heap.size + 1, 2, none⟩, .int .i64 (G.2.2))] []) (by kernel_rfl) (by kernel_rfl) ?_ ?_ ?_ ?_
      · intro j hj
        have hj2 : j < 12 := hj
        have : ∀ j, j < 12 → (#[34,35,36,37,38,39,40,33,41,42,13,14] : Array Nat).getD j 0 < 56 := by decide
        exact this j hj2
      · refine Sy.drew (Sy.mk_of ?_ ?_ ?_ ?_)
        · first | rfl | (simp; done) | (simp; omega)
        · intro c hc
          simp only [List.mem_cons, List.not_mem_nil, or_false] at hc
          rcases hc with rfl | rfl | rfl | rfl | rfl | rfl <;> exact byCT
        · intro p hp; cases hp
        · (repeat' first | with_reducible (first | exact Below.refl _ _ | assumption | refine gr_alloc ?_ _ | refine below_drewN ?_ _ | refine below_drew ?_ | refine gr_call ?_ (by assumption) | refine Below.setCell ?_ ?_ _) | go_size | omega | (simp; omega))
      · clear h1 h2 h3
        try clear c00
        try clear c01
        try clear c02
        try clear c10
        try clear c11
        try clear c12
        refine ⟨?r53x0, ?r53x1, ?r53x2, ?r53x3, ?r53x4, ?r53x5, ?r53x6, ?r53x7, ?r53x8, ?r53x9, ?r53x10, ?r53x11, trivial⟩
        all_goals intro _ aq wx Kq hf hS hdep ev1 ev2 hK
        case' r53x0 =>
          have F4 : aq.eval (.tmp 4) = .pointer (some ⟨w.heap.size, 0, none⟩) := hf 4
          have c0 := hS.cells (⟨w.heap.size, 0, none⟩, .int .i64 (F.1)) (by simp)
          have c1 := hS.cells (⟨w.heap.size, 1, none⟩, .int .i64 (F.2.1)) (by simp)
          have c2 := hS.cells (⟨w.heap.size, 2, none⟩, .int .i64 (F.2.2)) (by simp)
        case' r53x1 =>
          have D0 : aq.eval (.tmp 34) = _ := hdep 0
        case' r53x2 =>
          have F5 : aq.eval (.tmp 5) = .pointer (some ⟨w.heap.size + 1, 0, none⟩) := hf 5
          have c0 := hS.cells (⟨w.heap.size + 1, 0, none⟩, .int .i64 (G.1)) (by simp)
          have c1 := hS.cells (⟨w.heap.size + 1, 1, none⟩, .int .i64 (G.2.1)) (by simp)
          have c2 := hS.cells (⟨w.heap.size + 1, 2, none⟩, .int .i64 (G.2.2)) (by simp)
        case' r53x3 =>
          have D2 : aq.eval (.tmp 36) = _ := hdep 2
        case' r53x4 =>
          have F2 : aq.eval (.tmp 2) = .int .i64 k := hf 2
        case' r53x5 =>
          have F12 : aq.eval (.tmp 12) = .slice (some ⟨wq.heap.size, 0, none⟩) n n := hf 12
        case' r53x6 =>
          have D1 : aq.eval (.tmp 35) = _ := hdep 1
          have D3 : aq.eval (.tmp 37) = _ := hdep 3
          have D4 : aq.eval (.tmp 38) = _ := hdep 4
          have D5 : aq.eval (.tmp 39) = _ := hdep 5
        case' r53x7 =>
          have D6 : aq.eval (.tmp 40) = _ := hdep 6
        case' r53x8 =>
          have D7 : aq.eval (.tmp 33) = _ := hdep 7
        case' r53x9 =>
          have D7 : aq.eval (.tmp 33) = _ := hdep 7
        case' r53x10 =>
          have D8 : aq.eval (.tmp 41) = _ := hdep 8
        case' r53x11 =>
          have D9 : aq.eval (.tmp 42) = _ := hdep 9
        all_goals (clear hf hdep; unfold Oper.wp; generalize Act.eval _ = ev at *; go_simp)
        case r53x1 =>
          refine ((toForm_w F _)).mono ?_
          rintro e w2 ⟨rfl, hb⟩
          refine hK _ _ (hS.call hb) ?_ (fun j u _ h => Kd.ok_below hb h)
          rw [if_pos (by rfl)]
          show (_ : Value) = _
          first | rfl | (refine congrArg (Value.int .i64) ?_; first | rfl | exact int_in (by omega) | exact quo_in (by omega) (by omega) (by omega) | exact rem_in (by omega) (by omega) | omega) | (simp; done) | (simp [*]; done)
        case r53x3 =>
          refine ((toForm_w G _)).mono ?_
          rintro e w2 ⟨rfl, hb⟩
          refine hK _ _ (hS.call hb) ?_ (fun j u _ h => Kd.ok_below hb h)
          rw [if_pos (by rfl)]
          show (_ : Value) = _
          first | rfl | (refine congrArg (Value.int .i64) ?_; first | rfl | exact int_in (by omega) | exact quo_in (by omega) (by omega) (by omega) | exact rem_in (by omega) (by omega) | omega) | (simp; done) | (simp [*]; done)
        case r53x6 =>
          refine ((lvh_i F G k n P wq.heap.size n b1 b2 _ (by omega) ((unhide HR).below hS.below) i0 i1 (unhide I2) (unhide hV) (unhide hB))).mono ?_
          rintro e w2 ⟨rfl, hb⟩
          refine hK _ _ (hS.call hb) ?_ (fun j u _ h => Kd.ok_below hb h)
          rw [if_pos (by rfl)]
          show (_ : Value) = _
          first | rfl | (refine congrArg (Value.int .i64) ?_; first | rfl | exact int_in (by omega) | exact quo_in (by omega) (by omega) (by omega) | exact rem_in (by omega) (by omega) | omega) | (simp; done) | (simp [*]; done)
        all_goals (refine hK _ _ hS ?_ (fun j u _ h => h); rw [if_pos (by rfl)]; show (_ : Value) = _; (first | rfl | (refine congrArg (Value.int .i64) ?_; first | rfl | exact int_in (by omega) | exact quo_in (by omega) (by omega) (by omega) | exact rem_in (by omega) (by omega) | omega) | (simp; done) | (simp [*]; done)))
      · intro aq wx hd hw hf hS hg
        have G13 : tau aq 13 = .bool b1 := hg 10 (by decide)
        have G14 : tau aq 14 = .bool b2 := hg 11 (by decide)
        have haq : aq = ⟨#[tau aq 0, tau aq 1, tau aq 2, tau aq 3, tau aq 4, tau aq 5, tau aq 6, tau aq 7, tau aq 8, tau aq 9, tau aq 10, tau aq 11, tau aq 12, tau aq 13, tau aq 14, tau aq 15, tau aq 16, tau aq 17, tau aq 18, tau aq 19, tau aq 20, tau aq 21, tau aq 22, tau aq 23, tau aq 24, tau aq 25, tau aq 26, tau aq 27, tau aq 28, tau aq 29, tau aq 30, tau aq 31, tau aq 32, tau aq 33, tau aq 34, tau aq 35, tau aq 36, tau aq 37, tau aq 38, tau aq 39, tau aq 40, tau aq 41, tau aq 42, tau aq 43, tau aq 44, tau aq 45, tau aq 46, tau aq 47, tau aq 48, tau aq 49, tau aq 50, tau aq 51, tau aq 52, tau aq 53, tau aq 54, tau aq 55], []⟩ := by
          obtain ⟨tq, dq⟩ := aq
          have h5 := arr_eq (show tq.size = 56 from hw)
          have h6 : dq = [] := hd
          subst h6
          exact congrArg (fun z => Act.mk z []) h5
        show K2 aq wx
        rw [haq, hf 0, hf 1, hf 2, hf 3, hf 4, hf 5, hf 6, hf 7, hf 8, hf 9, hf 10, hf 11, hf 12, hf 15, hf 16, hf 17, hf 18, hf 19, hf 20, hf 21, hf 22, hf 23, hf 24, hf 25, hf 26, hf 27, hf 28, hf 29, hf 30, hf 31, hf 32, hf 43, hf 44, hf 45, hf 46, hf 47, hf 48, hf 49, hf 50, hf 51, hf 52, hf 53, hf 54, hf 55, G13, G14]
        clear haq hf hd hw
        try dsimp only
        refine h3 _ _ ?_
        go_meet
        exact ⟨rfl, rfl, hS.cells (⟨w.heap.size, 0, none⟩, .int .i64 (F.1)) (by simp), hS.cells (⟨w.heap.size, 1, none⟩, .int .i64 (F.2.1)) (by simp), hS.cells (⟨w.heap.size, 2, none⟩, .int .i64 (F.2.2)) (by simp), hS.cells (⟨w.heap.size + 1, 0, none⟩, .int .i64 (G.1)) (by simp), hS.cells (⟨w.heap.size + 1, 1, none⟩, .int .i64 (G.2.1)) (by simp), hS.cells (⟨w.heap.size + 1, 2, none⟩, .int .i64 (G.2.2)) (by simp), hS.below⟩
    try clear c00
    try clear c01
    try clear c02
    try clear c10
    try clear c11
    try clear c12
    obtain ⟨rfl, rfl, c00, c01, c02, c10, c11, c12, hb0⟩ := hcut
    have z0 := World.block_lt_of_cell? _ _ c00
    have z1 := World.block_lt_of_cell? _ _ c10
    change w.heap.size < wc.heap.size at z0
    change w.heap.size + 1 < wc.heap.size at z1
    have hb7 : Below w.heap.size w wc := hbr.trans (hb0.mono hbr.size)
    have hrw7 := (unhide HR).below hb0
    go_wp2_with fail
    refine (toFormS_a v n P _ ((unhide HA).below hb7) (by omega)).mono ?_
    rintro en w8 ⟨rfl, hrow8, hb8⟩
    have hrw8 := hrw7.below hb8
    have hR8 := hide (RowF.at hrow8 (Nat.le_refl _))
    have hR7 := hide (RowF.at hrw8 (Nat.le_refl _))
    have hb9 : Below w.heap.size w w8 := hb7.trans (hb8.mono hb7.size)
    clear hrow8 hrw8 hrw7
    go_wp2_with fail
    refine (eqFormS_any _ _ _ _ _ _ n n n (flP P) w8 (by omega) (unhide hR7) (unhide hR8)).mono ?_
    rintro en w9 ⟨rfl, hb10⟩
    go_wp2
    go_ret
    exact ⟨rfl, hb9.trans (hb10.mono hb9.size)⟩
  · have hif : Hid ((if (1048576 : Int) < n then (-1 : Int) else 1048576 - n) = -1) := hide (if_pos (by omega))
    go_enter Try.func10, Try.ntmps10
    go_wp2_with fail
    refine (szFormS_a v n 1048576 P _ (unhide HA2) hr (by omega)).mono ?_
    rintro en w1 ⟨rfl, rfl⟩
    rw [unhide hif]
    go_wp2
    go_ret
    exact ⟨rfl, byGG⟩
end Go.Proofs.Ytninagdclibmnaa
