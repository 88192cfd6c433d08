/-
  markEntryS, heldEntryS over lists of entries.
-/
import Derived.Test.YtligbfegafkpjaaElH
namespace Go.Proofs.Ytligbfegafkpjaa
open Go.RowKit
set_option linter.unusedVariables false
set_option linter.unusedSimpArgs false
attribute [local go_sem] q2 q3 q4 q5 q6 q7 q8 q9 q10 q11 q12

theorem markEntryS_any (a : Option Addr) (lo hi n c k : Nat) (E : Nat → Ent) (w : World) (hn : n ≤ 10000000) (h0 : 1 ≤ k) (hk : k ≤ 10000000) (hz : ¬ n = 0) (h : EntsAt w lo hi a n E) :
    Calls Try.prog 26 #[.slice a n c, .int .i64 (k : Int)] w fun e w' => e = .returned (.int .i64 ((k : Int) + 4 * n)) ∧ EntsAt w' lo hi a n (mkEn k) ∧ (∀ j, j < lo → j < w.heap.size → w'.heap[j]? = w.heap[j]?) ∧ w.heap.size ≤ w'.heap.size ∧ (∀ B, B ≤ lo → B ≤ w.heap.size → Below B w w') := by
  rcases h with rfl | ⟨g, cap, F, rfl, hlo, hhi, q, r, e⟩
  · exact absurd rfl hz
  · refine (markEntryS_row g n c cap k F w hn h0 hk q r).mono ?_
    rintro e w' ⟨rfl, hr, hg⟩
    have := r.lt
    exact ⟨rfl, .inr ⟨g, cap, _, rfl, hlo, hhi, q, hr, fun i hi => by simp [hi]⟩, fun j hj hs => hg.block j hs (fun e => by cases e; omega), hg.size, fun B hB hB2 => ⟨hg.os, hg.tape, hg.output, hg.size, fun j hj => hg.block j (by omega) (fun e => by cases e; omega)⟩⟩
set_option maxHeartbeats 1000000 in
theorem markEntryS_nil (a : Option Addr) (c : Nat) (k : Int) (w : World) :
    Calls Try.prog 26 #[.slice a 0 c, .int .i64 k] w fun e w' => e = .returned (.int .i64 k) ∧ w = w' := by
  go_enter Try.func26, Try.ntmps26
  go_wp2
  refine wp_loop_rounds 1 ?_
  rw [rounds_succ]
  go_wp2
  go_ret
  exact ⟨rfl, rfl⟩
set_option maxHeartbeats 1000000 in
theorem heldEntryS_nil (a : Option Addr) (c : Nat) (k : Int) (w : World) :
    Calls Try.prog 31 #[.slice a 0 c, .int .i64 k] w fun e w' => e = .returned (.int .i64 k) ∧ w = w' := by
  go_enter Try.func31, Try.ntmps31
  go_wp2
  refine wp_loop_rounds 1 ?_
  rw [rounds_succ]
  go_wp2
  go_ret
  exact ⟨rfl, rfl⟩
set_option maxRecDepth 100000 in
set_option maxHeartbeats 8000000 in
theorem heldEntryS_row (g n c k : Nat) (w : World) (hn : n ≤ 10000000) (h0 : 1 ≤ k) (hk : k ≤ 10000000) (h : ∀ i, i < n → EntAt w g (i * 4) (mkEn k i)) :
    Calls Try.prog 31 #[.slice (some ⟨g, 0, none⟩) n c, .int .i64 (k : Int)] w fun e w' => e = .returned (.int .i64 ((k : Int) + 4 * n)) ∧ Below w.heap.size w w' := by
  have R := hide h
  clear h
  go_enter Try.func31, Try.ntmps31
  go_wp2
  go_loopw [1, 5] (fun ks is wr => ∃ ix : Nat, ix ≤ n ∧ is = .int .i64 (ix : Int) ∧ ks = .int .i64 ((k : Int) + 4 * ix) ∧ Below w.heap.size w wr) (fun _ is _ => n - (intOf is).toNat)
  case atStart => exact ⟨0, by omega, rfl, congrArg (Value.int .i64) (by omega), Below.refl _ _⟩
  case round =>
    obtain ⟨ix, hi, rfl, rfl, hb⟩ := hrel
    obtain ⟨wl, rfl⟩ : ∃ wl : World, wl = wr := ⟨_, rfl⟩
    have hzl := hb.size
    by_cases q : ix < n
    · have hci : (ix : Int) < (n : Int) := by omega
      obtain ⟨c00, c01, c02, c03⟩ := (unhide R ix q).below hb
      obtain ⟨nm, hnm⟩ : ∃ s, mkT (k + 4 * ix) = s := ⟨_, rfl⟩
      simp only [mkEn] at c00 c01 c02 c03
      rw [hnm] at c00
      have HM := hide hnm
      clear hnm
      go_upto_region 4 with fail
      go_cut [19] (fun s19 wx => s19 = .bool false ∧ wx.cell? ⟨g, ix * 4, none⟩ = some (.string nm) ∧ wx.cell? ⟨g, ix * 4 + 1, none⟩ = some (.int .i64 (((k + 4 * ix + 1 : Nat) : Int))) ∧ wx.cell? ⟨g, ix * 4 + 2, none⟩ = some (.int .i64 (((k + 4 * ix + 2 : Nat) : Int))) ∧ wx.cell? ⟨g, ix * 4 + 3, none⟩ = some (.int .i64 (((k + 4 * ix + 3 : Nat) : Int))) ∧ Below w.heap.size w wx)
      case first =>
        have h1 := trivial
        rename_i K2 h2 h3
        refine region_n0 (by kernel_rfl) (fun j => #[12,13,14,15,16,17,18,19].getD j 0) (fun j => Kd.ok ((fun j => match j with | 0 => Kd.val (.slice (some ⟨g, 0, none⟩) n c) | 1 => Kd.val (.int .i64 ((ix : Int))) | 2 => Kd.val (.pointer (some ⟨g, ix * 4, none⟩)) | 3 => Kd.val (.pointer (some ⟨g, ix * 4, none⟩)) | 4 => Kd.val (.string nm) | 5 => Kd.val (.int .i64 (((k : Int) + 4 * ix))) | 6 => Kd.val (.string nm) | 7 => Kd.val (.bool false) | _ => Kd.any : Nat → Kd) j)) (Sy w (wl.heap.size) [(⟨g, ix * 4, none⟩, .string nm), (⟨g, ix * 4 + 1, none⟩, .int .i64 (((k + 4 * ix + 1 : Nat) : Int))), (⟨g, ix * 4 + 2, none⟩, .int .i64 (((k + 4 * ix + 2 : Nat) : Int))), (⟨g, ix * 4 + 3, none⟩, .int .i64 (((k + 4 * ix + 3 : Nat) : Int)))] []) (by kernel_rfl) (by kernel_rfl) ?_ ?_ ?_ ?_
        · intro j hj
          have hj2 : j < 8 := hj
          have : ∀ j, j < 8 → (#[12,13,14,15,16,17,18,19] : Array Nat).getD j 0 < 53 := by decide
          exact this j hj2
        · refine Sy.drew (Sy.mk_of ?_ ?_ ?_ ?_)
          · first | rfl | (simp; done) | (simp; omega)
          · intro c hc
            simp only [List.mem_cons, List.not_mem_nil, or_false] at hc
            rcases hc with rfl | rfl | rfl | rfl <;> exact byCT
          · intro p hp; cases hp
          · (repeat' first | with_reducible (first | exact Below.refl _ _ | assumption | refine gr_alloc ?_ _ | refine below_drewN ?_ _ | refine below_drew ?_ | refine gr_call ?_ (by assumption) | refine Below.setCell ?_ ?_ _) | go_size | omega | (simp; omega))
        · clear h1 h2 h3
          refine ⟨?r28x0, ?r28x1, ?r28x2, ?r28x3, ?r28x4, ?r28x5, ?r28x6, ?r28x7, trivial⟩
          all_goals intro _ aq wx Kq hf hS hdep ev1 ev2 hK
          case' r28x0 =>
            have F0 : aq.eval (.tmp 0) = .slice (some ⟨g, 0, none⟩) n c := hf 0
          case' r28x1 =>
            have F5 : aq.eval (.tmp 5) = .int .i64 ((ix : Int)) := hf 5
          case' r28x2 =>
            have D0 : aq.eval (.tmp 12) = _ := hdep 0
            have D1 : aq.eval (.tmp 13) = _ := hdep 1
          case' r28x3 =>
            have D2 : aq.eval (.tmp 14) = _ := hdep 2
          case' r28x4 =>
            have D3 : aq.eval (.tmp 15) = _ := hdep 3
            have c0 := hS.cells (⟨g, ix * 4, none⟩, .string nm) (by simp)
          case' r28x5 =>
            have F1 : aq.eval (.tmp 1) = .int .i64 (((k : Int) + 4 * ix)) := hf 1
          case' r28x6 =>
            have D5 : aq.eval (.tmp 17) = _ := hdep 5
          case' r28x7 =>
            have D4 : aq.eval (.tmp 16) = _ := hdep 4
            have D6 : aq.eval (.tmp 18) = _ := hdep 6
          all_goals (clear hf hdep; unfold Oper.wp; generalize Act.eval _ = ev at *; go_simp)
          case' r28x2 =>
            try rw [if_pos (by omega), Oper.upon_value]
          case r28x6 =>
            refine ((markText_n _ (k + 4 * ix) nm (by first | rfl | omega) (unhide HM) _ (by omega) (by omega))).mono ?_
            rintro e w2 ⟨rfl, hb⟩
            refine hK _ _ (hS.call hb) ?_ (fun j u _ h => Kd.ok_below hb h)
            rw [if_pos (by rfl)]
            show (_ : Value) = _
            first | rfl | (refine congrArg (Value.int .i64) ?_; first | rfl | exact int_in (by omega) | exact quo_in (by omega) (by omega) (by omega) | exact rem_in (by omega) (by omega) | omega | (simp [*]; done)) | (simp; done) | (simp [*]; done)
          all_goals (refine hK _ _ hS ?_ (fun j u _ h => h); rw [if_pos (by rfl)]; show (_ : Value) = _; (first | rfl | (refine congrArg (Value.int .i64) ?_; first | rfl | exact int_in (by omega) | exact quo_in (by omega) (by omega) (by omega) | exact rem_in (by omega) (by omega) | omega | (simp [*]; done)) | (simp; done) | (simp [*]; done)))
        · intro aq wx hd hw hf hS hg
          have G19 : tau aq 19 = .bool false := hg 7 (by decide)
          have haq : aq = ⟨#[tau aq 0, tau aq 1, tau aq 2, tau aq 3, tau aq 4, tau aq 5, tau aq 6, tau aq 7, tau aq 8, tau aq 9, tau aq 10, tau aq 11, tau aq 12, tau aq 13, tau aq 14, tau aq 15, tau aq 16, tau aq 17, tau aq 18, tau aq 19, tau aq 20, tau aq 21, tau aq 22, tau aq 23, tau aq 24, tau aq 25, tau aq 26, tau aq 27, tau aq 28, tau aq 29, tau aq 30, tau aq 31, tau aq 32, tau aq 33, tau aq 34, tau aq 35, tau aq 36, tau aq 37, tau aq 38, tau aq 39, tau aq 40, tau aq 41, tau aq 42, tau aq 43, tau aq 44, tau aq 45, tau aq 46, tau aq 47, tau aq 48, tau aq 49, tau aq 50, tau aq 51, tau aq 52], []⟩ := by
            obtain ⟨tq, dq⟩ := aq
            have h5 := arr_eq (show tq.size = 53 from hw)
            have h6 : dq = [] := hd
            subst h6
            exact congrArg (fun z => Act.mk z []) h5
          show K2 aq wx
          rw [haq, hf 0, hf 1, hf 2, hf 3, hf 4, hf 5, hf 6, hf 7, hf 8, hf 9, hf 10, hf 11, hf 20, hf 21, hf 22, hf 23, hf 24, hf 25, hf 26, hf 27, hf 28, hf 29, hf 30, hf 31, hf 32, hf 33, hf 34, hf 35, hf 36, hf 37, hf 38, hf 39, hf 40, hf 41, hf 42, hf 43, hf 44, hf 45, hf 46, hf 47, hf 48, hf 49, hf 50, hf 51, hf 52, G19]
          clear haq hf hd hw
          try dsimp only
          refine h3 _ _ ?_
          go_meet
          exact ⟨rfl, hS.cells (⟨g, ix * 4, none⟩, .string nm) (by simp), hS.cells (⟨g, ix * 4 + 1, none⟩, .int .i64 (((k + 4 * ix + 1 : Nat) : Int))) (by simp), hS.cells (⟨g, ix * 4 + 2, none⟩, .int .i64 (((k + 4 * ix + 2 : Nat) : Int))) (by simp), hS.cells (⟨g, ix * 4 + 3, none⟩, .int .i64 (((k + 4 * ix + 3 : Nat) : Int))) (by simp), hS.below⟩
      try clear c00
      try clear c01
      try clear c02
      try clear c03
      obtain ⟨rfl, c00, c01, c02, c03, hb0⟩ := hcut
      have z0 := World.block_lt_of_cell? _ _ c00
      change g < wc.heap.size at z0
      have e1 : ((k + 4 * ix + 1 : Nat) : Int) = (k : Int) + 4 * ix + 1 := by omega
      have e2 : ((k + 4 * ix + 2 : Nat) : Int) = (k : Int) + 4 * ix + 1 + 1 := by omega
      have e3 : ((k + 4 * ix + 3 : Nat) : Int) = (k : Int) + 4 * ix + 1 + 1 + 1 := by omega
      rw [e1] at c01
      rw [e2] at c02
      rw [e3] at c03
      clear e1 e2 e3
      go_wp2
      go_roundw
      case rel => exact ⟨ix + 1, by omega, by first | rfl | go_num, congrArg (Value.int .i64) (by omega), hb0⟩
      case measure => simp [intOf]; omega
    · have hin : ix = n := by omega
      have HN := hide hin
      clear hin
      go_wp2
      go_ret
      exact ⟨ret_int (by rw [unhide HN]), hb⟩
theorem heldEntryS_any (a : Option Addr) (lo hi n c k : Nat) (w : World) (hn : n ≤ 10000000) (h0 : 1 ≤ k) (hk : k ≤ 10000000) (h : EntsAt w lo hi a n (mkEn k)) :
    Calls Try.prog 31 #[.slice a n c, .int .i64 (k : Int)] w fun e w' => e = .returned (.int .i64 ((k : Int) + 4 * n)) ∧ Below w.heap.size w w' := by
  by_cases q : n = 0
  · subst q
    refine (heldEntryS_nil a c k w).mono ?_
    rintro e w' ⟨rfl, rfl⟩
    exact ⟨ret_int (by omega), Below.refl _ _⟩
  · obtain ⟨g, rfl, e1⟩ := h.cells q
    exact heldEntryS_row g n c k w hn h0 hk e1
end Go.Proofs.Ytligbfegafkpjaa
