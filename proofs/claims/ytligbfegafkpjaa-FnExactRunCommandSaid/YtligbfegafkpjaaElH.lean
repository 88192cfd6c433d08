/-
  The laws' helpers over lists of entries: equal, mark, held.
-/
import Derived.Test.YtligbfegafkpjaaEl
import Derived.Test.YtligbfegafkpjaaStrL
namespace Go.Proofs.Ytligbfegafkpjaa
open Go.RowKit
set_option linter.unusedVariables false
set_option linter.unusedSimpArgs false
attribute [local go_sem] q2 q3 q4 q5 q6 q7 q8 q9 q10 q11 q12

set_option maxRecDepth 100000 in
set_option maxHeartbeats 4000000 in
theorem eqEntryS_row (g1 g2 n c1 c2 : Nat) (E : Nat → Ent) (w : World) (hn : n ≤ 2000000) (h1 : ∀ i, i < n → EntAt w g1 (i * 4) (E i)) (h2 : ∀ i, i < n → EntAt w g2 (i * 4) (E i)) :
    Calls Try.prog 21 #[.slice (some ⟨g1, 0, none⟩) n c1, .slice (some ⟨g2, 0, none⟩) n c2] w fun e w' => e = .returned (.bool true) ∧ Below w.heap.size w w' := by
  have H1 := hide h1
  have H2 := hide h2
  clear h1 h2
  go_enter Try.func21, Try.ntmps21
  go_wp2
  go_loopw [5] (fun is wr => ∃ ix : Nat, ix ≤ n ∧ is = .int .i64 (ix : Int) ∧ Below w.heap.size w wr) (fun is _ => n - (intOf is).toNat)
  case atStart => exact ⟨0, by omega, rfl, Below.refl _ _⟩
  case round =>
    obtain ⟨ix, hi, rfl, hb⟩ := hrel
    obtain ⟨wl, rfl⟩ : ∃ wl : World, wl = wr := ⟨_, rfl⟩
    have hzl := hb.size
    by_cases q : ix < n
    · have hci : (ix : Int) < (n : Int) := by omega
      obtain ⟨c00, c01, c02, c03⟩ := (unhide H1 ix q).below hb
      obtain ⟨c10, c11, c12, c13⟩ := (unhide H2 ix q).below hb
      obtain ⟨nm, hnm⟩ : ∃ s, (E ix).n = s := ⟨_, rfl⟩
      obtain ⟨x, hx⟩ : ∃ x, (E ix).f.1 = x := ⟨_, rfl⟩
      obtain ⟨y, hy⟩ : ∃ y, (E ix).f.2.1 = y := ⟨_, rfl⟩
      obtain ⟨z, hz⟩ : ∃ z, (E ix).f.2.2 = z := ⟨_, rfl⟩
      rw [hnm] at c00 c10
      rw [hx] at c01 c11
      rw [hy] at c02 c12
      rw [hz] at c03 c13
      clear hnm hx hy hz
      go_upto_region 6 with fail
      go_cut [26] (fun s26 wx => s26 = .bool false ∧ wx.cell? ⟨g1, ix * 4, none⟩ = some (.string nm) ∧ wx.cell? ⟨g1, ix * 4 + 1, none⟩ = some (.int .i64 x) ∧ wx.cell? ⟨g1, ix * 4 + 2, none⟩ = some (.int .i64 y) ∧ wx.cell? ⟨g1, ix * 4 + 3, none⟩ = some (.int .i64 z) ∧ wx.cell? ⟨g2, ix * 4, none⟩ = some (.string nm) ∧ wx.cell? ⟨g2, ix * 4 + 1, none⟩ = some (.int .i64 x) ∧ wx.cell? ⟨g2, ix * 4 + 2, none⟩ = some (.int .i64 y) ∧ wx.cell? ⟨g2, ix * 4 + 3, none⟩ = some (.int .i64 z) ∧ Below w.heap.size w wx)
      case first =>
        have h1 := trivial
        rename_i K2 h2 h3
        refine region_n0 (by kernel_rfl) (fun j => #[17,18,19,20,21,22,23,24,25,26].getD j 0) (fun j => Kd.ok ((fun j => match j with | 0 => Kd.val (.slice (some ⟨g1, 0, none⟩) n c1) | 1 => Kd.val (.int .i64 ((ix : Int))) | 2 => Kd.val (.pointer (some ⟨g1, ix * 4, none⟩)) | 3 => Kd.val (.agg #[.string nm, .int .i64 x, .int .i64 y, .int .i64 z]) | 4 => Kd.val (.slice (some ⟨g2, 0, none⟩) n c2) | 5 => Kd.val (.int .i64 ((ix : Int))) | 6 => Kd.val (.pointer (some ⟨g2, ix * 4, none⟩)) | 7 => Kd.val (.agg #[.string nm, .int .i64 x, .int .i64 y, .int .i64 z]) | 8 => Kd.val (.bool true) | 9 => Kd.val (.bool false) | _ => Kd.any : Nat → Kd) j)) (Sy w (wl.heap.size) [(⟨g1, ix * 4, none⟩, .string nm), (⟨g1, ix * 4 + 1, none⟩, .int .i64 x), (⟨g1, ix * 4 + 2, none⟩, .int .i64 y), (⟨g1, ix * 4 + 3, none⟩, .int .i64 z), (⟨g2, ix * 4, none⟩, .string nm), (⟨g2, ix * 4 + 1, none⟩, .int .i64 x), (⟨g2, ix * 4 + 2, none⟩, .int .i64 y), (⟨g2, ix * 4 + 3, none⟩, .int .i64 z)] []) (by kernel_rfl) (by kernel_rfl) ?_ ?_ ?_ ?_
        · intro j hj
          have hj2 : j < 10 := hj
          have : ∀ j, j < 10 → (#[17,18,19,20,21,22,23,24,25,26] : Array Nat).getD j 0 < 27 := by decide
          exact this j hj2
        · refine Sy.drew (Sy.mk_of ?_ ?_ ?_ ?_)
          · first | rfl | (simp; done) | (simp; omega)
          · intro c hc
            simp only [List.mem_cons, List.not_mem_nil, or_false] at hc
            rcases hc with rfl | rfl | rfl | rfl | rfl | rfl | rfl | rfl <;> exact byCT
          · intro p hp; cases hp
          · (repeat' first | with_reducible (first | exact Below.refl _ _ | assumption | refine gr_alloc ?_ _ | refine below_drewN ?_ _ | refine below_drew ?_ | refine gr_call ?_ (by assumption) | refine Below.setCell ?_ ?_ _) | go_size | omega | (simp; omega))
        · clear h1 h2 h3
          refine ⟨?r27x0, ?r27x1, ?r27x2, ?r27x3, ?r27x4, ?r27x5, ?r27x6, ?r27x7, ?r27x8, ?r27x9, trivial⟩
          all_goals intro _ aq wx Kq hf hS hdep ev1 ev2 hK
          case' r27x0 =>
            have F0 : aq.eval (.tmp 0) = .slice (some ⟨g1, 0, none⟩) n c1 := hf 0
          case' r27x1 =>
            have F5 : aq.eval (.tmp 5) = .int .i64 ((ix : Int)) := hf 5
          case' r27x2 =>
            have D0 : aq.eval (.tmp 17) = _ := hdep 0
            have D1 : aq.eval (.tmp 18) = _ := hdep 1
          case' r27x3 =>
            have D2 : aq.eval (.tmp 19) = _ := hdep 2
            have c0 := hS.cells (⟨g1, ix * 4, none⟩, .string nm) (by simp)
            have c1 := hS.cells (⟨g1, ix * 4 + 1, none⟩, .int .i64 x) (by simp)
            have c2 := hS.cells (⟨g1, ix * 4 + 2, none⟩, .int .i64 y) (by simp)
            have c3 := hS.cells (⟨g1, ix * 4 + 3, none⟩, .int .i64 z) (by simp)
          case' r27x4 =>
            have F1 : aq.eval (.tmp 1) = .slice (some ⟨g2, 0, none⟩) n c2 := hf 1
          case' r27x5 =>
            have F5 : aq.eval (.tmp 5) = .int .i64 ((ix : Int)) := hf 5
          case' r27x6 =>
            have D4 : aq.eval (.tmp 21) = _ := hdep 4
            have D5 : aq.eval (.tmp 22) = _ := hdep 5
          case' r27x7 =>
            have D6 : aq.eval (.tmp 23) = _ := hdep 6
            have c0 := hS.cells (⟨g2, ix * 4, none⟩, .string nm) (by simp)
            have c1 := hS.cells (⟨g2, ix * 4 + 1, none⟩, .int .i64 x) (by simp)
            have c2 := hS.cells (⟨g2, ix * 4 + 2, none⟩, .int .i64 y) (by simp)
            have c3 := hS.cells (⟨g2, ix * 4 + 3, none⟩, .int .i64 z) (by simp)
          case' r27x8 =>
            have D3 : aq.eval (.tmp 20) = _ := hdep 3
            have D7 : aq.eval (.tmp 24) = _ := hdep 7
          case' r27x9 =>
            have D8 : aq.eval (.tmp 25) = _ := hdep 8
          all_goals (clear hf hdep; unfold Oper.wp; generalize Act.eval _ = ev at *; go_simp)
          case' r27x2 =>
            try rw [if_pos (by omega), Oper.upon_value]
          case' r27x6 =>
            try rw [if_pos (by omega), Oper.upon_value]
          case r27x8 =>
            refine ((eqEntry_a nm x y z _)).mono ?_
            rintro e w2 ⟨rfl, hb⟩
            refine hK _ _ (hS.call hb) ?_ (fun j u _ h => Kd.ok_below hb h)
            rw [if_pos (by rfl)]
            show (_ : Value) = _
            first | rfl | (refine congrArg (Value.int .i64) ?_; first | rfl | exact int_in (by omega) | exact quo_in (by omega) (by omega) (by omega) | exact rem_in (by omega) (by omega) | omega | (simp [*]; done)) | (simp; done) | (simp [*]; done)
          all_goals (refine hK _ _ hS ?_ (fun j u _ h => h); rw [if_pos (by rfl)]; show (_ : Value) = _; (first | rfl | (refine congrArg (Value.int .i64) ?_; first | rfl | exact int_in (by omega) | exact quo_in (by omega) (by omega) (by omega) | exact rem_in (by omega) (by omega) | omega | (simp [*]; done)) | (simp; done) | (simp [*]; done)))
        · intro aq wx hd hw hf hS hg
          have G26 : tau aq 26 = .bool false := hg 9 (by decide)
          have haq : aq = ⟨#[tau aq 0, tau aq 1, tau aq 2, tau aq 3, tau aq 4, tau aq 5, tau aq 6, tau aq 7, tau aq 8, tau aq 9, tau aq 10, tau aq 11, tau aq 12, tau aq 13, tau aq 14, tau aq 15, tau aq 16, tau aq 17, tau aq 18, tau aq 19, tau aq 20, tau aq 21, tau aq 22, tau aq 23, tau aq 24, tau aq 25, tau aq 26], []⟩ := by
            obtain ⟨tq, dq⟩ := aq
            have h5 := arr_eq (show tq.size = 27 from hw)
            have h6 : dq = [] := hd
            subst h6
            exact congrArg (fun z => Act.mk z []) h5
          show K2 aq wx
          rw [haq, hf 0, hf 1, hf 2, hf 3, hf 4, hf 5, hf 6, hf 7, hf 8, hf 9, hf 10, hf 11, hf 12, hf 13, hf 14, hf 15, hf 16, G26]
          clear haq hf hd hw
          try dsimp only
          refine h3 _ _ ?_
          go_meet
          exact ⟨rfl, hS.cells (⟨g1, ix * 4, none⟩, .string nm) (by simp), hS.cells (⟨g1, ix * 4 + 1, none⟩, .int .i64 x) (by simp), hS.cells (⟨g1, ix * 4 + 2, none⟩, .int .i64 y) (by simp), hS.cells (⟨g1, ix * 4 + 3, none⟩, .int .i64 z) (by simp), hS.cells (⟨g2, ix * 4, none⟩, .string nm) (by simp), hS.cells (⟨g2, ix * 4 + 1, none⟩, .int .i64 x) (by simp), hS.cells (⟨g2, ix * 4 + 2, none⟩, .int .i64 y) (by simp), hS.cells (⟨g2, ix * 4 + 3, none⟩, .int .i64 z) (by simp), hS.below⟩
      try clear c00
      try clear c01
      try clear c02
      try clear c03
      try clear c10
      try clear c11
      try clear c12
      try clear c13
      obtain ⟨rfl, c00, c01, c02, c03, c10, c11, c12, c13, hb0⟩ := hcut
      have z0 := World.block_lt_of_cell? _ _ c00
      have z1 := World.block_lt_of_cell? _ _ c10
      change g1 < wc.heap.size at z0
      change g2 < wc.heap.size at z1
      go_wp2
      go_roundw
      case rel => exact ⟨ix + 1, by omega, by first | rfl | go_num, hb0⟩
      case measure => simp [intOf]; omega
    · obtain rfl : ix = n := by omega
      go_wp2
      go_ret
      exact ⟨rfl, hb⟩

theorem EntsAt.cells {w : World} {lo hi n : Nat} {a : Option Addr} {E : Nat → Ent} (h : EntsAt w lo hi a n E) (h0 : ¬ n = 0) : ∃ g, a = some ⟨g, 0, none⟩ ∧ ∀ i, i < n → EntAt w g (i * 4) (E i) := by
  rcases h with h | ⟨g, cap, F, ha, _, _, h3, h4, h5⟩
  · exact absurd h h0
  · refine ⟨g, ha, fun i hi => ?_⟩
    obtain ⟨e0, e1, e2, e3⟩ := elE_at E i
    refine ⟨?_, ?_, ?_, ?_⟩
    · rw [← e0, ← h5 _ (by omega)]; exact h4.cell (by omega)
    · rw [← e1, ← h5 _ (by omega)]; exact h4.cell (by omega)
    · rw [← e2, ← h5 _ (by omega)]; exact h4.cell (by omega)
    · rw [← e3, ← h5 _ (by omega)]; exact h4.cell (by omega)
set_option maxHeartbeats 1000000 in
theorem eqEntryS_nil (a1 a2 : Option Addr) (c1 c2 : Nat) (w : World) :
    Calls Try.prog 21 #[.slice a1 0 c1, .slice a2 0 c2] w fun e w' => e = .returned (.bool true) ∧ Below w.heap.size w w' := by
  go_enter Try.func21, Try.ntmps21
  go_wp2
  refine wp_loop_rounds 1 ?_
  rw [rounds_succ]
  go_wp2
  go_ret
  exact ⟨rfl, Below.refl _ _⟩
theorem eqEntryS_any (a1 a2 : Option Addr) (l1 u1 l2 u2 n c1 c2 : Nat) (E : Nat → Ent) (w : World) (hn : n ≤ 2000000) (h1 : EntsAt w l1 u1 a1 n E) (h2 : EntsAt w l2 u2 a2 n E) :
    Calls Try.prog 21 #[.slice a1 n c1, .slice a2 n c2] w fun e w' => e = .returned (.bool true) ∧ Below w.heap.size w w' := by
  by_cases q : n = 0
  · subst q; exact eqEntryS_nil _ _ _ _ _
  · obtain ⟨g1, rfl, e1⟩ := h1.cells q
    obtain ⟨g2, rfl, e2⟩ := h2.cells q
    exact eqEntryS_row g1 g2 n c1 c2 E w hn e1 e2
def mkEn (k i : Nat) : Ent := ⟨mkT (k + 4 * i), (((k + 4 * i + 1 : Nat) : Int), ((k + 4 * i + 2 : Nat) : Int), ((k + 4 * i + 3 : Nat) : Int))⟩
theorem _root_.Go.World.grownBy.setB {w w' : World} {g : Nat} (h : w.grownBy w' (some g)) (o : Nat) (v : Value) : w.grownBy (w'.setCell ⟨g, o, none⟩ v) (some g) :=
  ⟨h.os, h.tape, h.output, by simpa [World.setCell] using h.size, fun j hj hne => (Below.heap_setCell _ _ _ _ (fun e => hne (by rw [e]))).trans (h.block j hj hne)⟩
set_option maxRecDepth 100000 in
set_option maxHeartbeats 4000000 in
theorem markEntryS_row (g n c cap k : Nat) (F0 : Nat → Value) (w : World) (hn : n ≤ 10000000) (h0 : 1 ≤ k) (hk : k ≤ 10000000) (hcap : n ≤ cap) (h : w.rowIs g 67 (cap * 4) F0) :
    Calls Try.prog 26 #[.slice (some ⟨g, 0, none⟩) n c, .int .i64 (k : Int)] w fun e w' => e = .returned (.int .i64 ((k : Int) + 4 * n)) ∧ w'.rowIs g 67 (cap * 4) (fun i => if i < n * 4 then elE (mkEn k) i else F0 i) ∧ w.grownBy w' (some g) := by
  go_enter Try.func26, Try.ntmps26
  go_wp2
  go_loopw [1, 5] (fun ks is wr => ∃ ix : Nat, ix ≤ n ∧ is = .int .i64 (ix : Int) ∧ ks = .int .i64 ((k : Int) + 4 * ix) ∧ wr.rowIs g 67 (cap * 4) (fun i => if i < ix * 4 then elE (mkEn k) i else F0 i) ∧ w.grownBy wr (some g)) (fun _ is _ => n - (intOf is).toNat)
  case atStart => exact ⟨0, by omega, rfl, congrArg (Value.int .i64) (by omega), h.congr (fun i _ => by simp), ⟨rfl, rfl, rfl, Nat.le_refl _, fun _ _ _ => rfl⟩⟩
  case round =>
    obtain ⟨ix, hi, rfl, rfl, hr, hg⟩ := hrel
    obtain ⟨wl, rfl⟩ : ∃ wl : World, wl = wr := ⟨_, rfl⟩
    by_cases q : ix < n
    · have hci : (ix : Int) < (n : Int) := by omega
      go_wp2_with fail
      refine (markText_z _ (k + 4 * ix) (by omega) _ (by omega) (by omega)).mono ?_
      rintro e w1 ⟨rfl, hb1⟩
      have hr1 := hr.of_block (hb1.block g hr.lt)
      have hg1 : w.grownBy w1 (some g) := ⟨hb1.os.trans hg.os, hb1.tape.trans hg.tape, hb1.output.trans hg.output, Nat.le_trans hg.size hb1.size, fun j hj hne => (hb1.block j (Nat.lt_of_lt_of_le hj hg.size)).trans (hg.block j hj hne)⟩
      clear hr hg hb1
      have d0 := hr1.cell (i := ix * 4) (by omega)
      have f0 := hr1.frozen (ix * 4)
      have d1 := hr1.cell (i := ix * 4 + 1) (by omega)
      have f1 := hr1.frozen (ix * 4 + 1)
      have d2 := hr1.cell (i := ix * 4 + 2) (by omega)
      have f2 := hr1.frozen (ix * 4 + 2)
      have d3 := hr1.cell (i := ix * 4 + 3) (by omega)
      have f3 := hr1.frozen (ix * 4 + 3)
      go_wp2
      go_roundw
      case rel =>
        refine ⟨ix + 1, by omega, by first | rfl | go_num, congrArg (Value.int .i64) (by omega), (((((hr1.set _ _).set _ _).set _ _).set _ _)).congr (fun i _ => ?_), (((hg1.setB _ _).setB _ _).setB _ _).setB _ _⟩
        obtain ⟨e0, e1, e2, e3⟩ := elE_at (mkEn k) ix
        have hcs : i < ix * 4 ∨ i = ix * 4 ∨ i = ix * 4 + 1 ∨ i = ix * 4 + 2 ∨ i = ix * 4 + 3 ∨ (ix + 1) * 4 ≤ i := by omega
        rcases hcs with q9 | q9 | q9 | q9 | q9 | q9
        · rw [if_pos (show i < (ix + 1) * 4 by omega)]
          (repeat' split) <;> first | (exfalso; omega) | rfl
        · rw [if_pos (show i < (ix + 1) * 4 by omega), q9, e0]
          (repeat' split) <;> first | (exfalso; omega) | rfl
        · rw [if_pos (show i < (ix + 1) * 4 by omega), q9, e1]
          (repeat' split) <;> first | (exfalso; omega) | rfl | (simp only [mkEn]; refine congrArg (Value.int .i64) ?_; omega)
        · rw [if_pos (show i < (ix + 1) * 4 by omega), q9, e2]
          (repeat' split) <;> first | (exfalso; omega) | rfl | (simp only [mkEn]; refine congrArg (Value.int .i64) ?_; omega)
        · rw [if_pos (show i < (ix + 1) * 4 by omega), q9, e3]
          (repeat' split) <;> first | (exfalso; omega) | rfl | (simp only [mkEn]; refine congrArg (Value.int .i64) ?_; omega)
        · rw [if_neg (show ¬ i < (ix + 1) * 4 by omega)]
          (repeat' split) <;> first | (exfalso; omega) | rfl
      case measure => simp [intOf]; omega
    · have hin : ix = n := by omega
      have HN := hide hin
      clear hin
      go_wp2
      go_ret
      exact ⟨ret_int (by rw [unhide HN]), hr.congr (fun i _ => by rw [unhide HN]), hg⟩
end Go.Proofs.Ytligbfegafkpjaa
