/-
  lgRun.
-/
import Derived.Test.YtligbfegafkpjaaLrP
namespace Go.Proofs.Ytligbfegafkpjaa
open Go.RowKit
set_option linter.unusedVariables false
set_option linter.unusedSimpArgs false
attribute [local go_sem] q2 q3 q4 q5 q6 q7 q8 q9 q10 q11 q12

set_option maxRecDepth 100000 in
set_option maxHeartbeats 4000000 in
theorem coInverse_b (x y z : Int) (R : T3n) (w : World) (hb9 : -1000000 ≤ y ∧ y ≤ 1000000) (h : OkF x (-y) z) (hR : R = rfN (x, -y, z)) : Calls Try.prog 72 #[.agg #[.int .i64 x, .int .i64 y, .int .i64 z]] w fun e w' => e = .returned (.agg #[.int .i64 R.1, .int .i64 R.2.1, .int .i64 R.2.2]) ∧ Below w.heap.size w w' := by
  go_enter Try.func72, Try.ntmps72
  go_wp2_with fail
  refine (opposite_s x y z _ hb9).mono ?_
  rintro e w1 ⟨rfl, hb1⟩
  have hcs9 := cells_calls hb1 [⟨w.heap.size, 0, none⟩, ⟨w.heap.size, 1, none⟩, ⟨w.heap.size, 2, none⟩, ⟨w.heap.size + 1, 0, none⟩, ⟨w.heap.size + 1, 1, none⟩, ⟨w.heap.size + 1, 2, none⟩] [.int .i64 x, .int .i64 y, .int .i64 z, .int .i64 0, .int .i64 0, .int .i64 0] (by refine ⟨?_, ?_, ?_, ?_, ?_, ?_, trivial⟩ <;> exact byCT)
  have hfs9 := frees_calls hb1 [⟨w.heap.size + 1, 0, none⟩, ⟨w.heap.size + 1, 1, none⟩, ⟨w.heap.size + 1, 2, none⟩] (by refine ⟨?_, ?_, ?_, trivial⟩ <;> first | with_reducible assumption | omega | (simp; omega) | (simp; done)) (by refine ⟨?_, ?_, ?_, trivial⟩ <;> exact byFT)
  have hzs9 := blocks_calls hb1 [w.heap.size, w.heap.size + 1] (by refine ⟨?_, ?_, trivial⟩ <;> first | with_reducible assumption | omega | (simp; omega) | (simp; done))
  try clear c00 c01 c02
  try clear c10 c11 c12 f10 f11 f12
  obtain ⟨c00, c01, c02, c10, c11, c12, -⟩ := hcs9
  obtain ⟨f10, f11, f12, -⟩ := hfs9
  obtain ⟨z0, z1, -⟩ := hzs9
  have hs1 := hb1.size
  go_wp2_with fail
  refine (rdN_s x (-y) z R _ h hR).mono ?_
  rintro e w2 ⟨rfl, hb2⟩
  have hcs9 := cells_calls hb2 [⟨w.heap.size, 0, none⟩, ⟨w.heap.size, 1, none⟩, ⟨w.heap.size, 2, none⟩, ⟨w.heap.size + 1, 0, none⟩, ⟨w.heap.size + 1, 1, none⟩, ⟨w.heap.size + 1, 2, none⟩] [.int .i64 x, .int .i64 y, .int .i64 z, .int .i64 0, .int .i64 0, .int .i64 0] (by refine ⟨?_, ?_, ?_, ?_, ?_, ?_, trivial⟩ <;> exact byCT)
  have hfs9 := frees_calls hb2 [⟨w.heap.size + 1, 0, none⟩, ⟨w.heap.size + 1, 1, none⟩, ⟨w.heap.size + 1, 2, none⟩] (by refine ⟨?_, ?_, ?_, trivial⟩ <;> first | with_reducible assumption | omega | (simp; omega) | (simp; done)) (by refine ⟨?_, ?_, ?_, trivial⟩ <;> exact byFT)
  have hzs9 := blocks_calls hb2 [w.heap.size, w.heap.size + 1] (by refine ⟨?_, ?_, trivial⟩ <;> first | with_reducible assumption | omega | (simp; omega) | (simp; done))
  try clear c00 c01 c02
  try clear c10 c11 c12 f10 f11 f12
  obtain ⟨c00, c01, c02, c10, c11, c12, -⟩ := hcs9
  obtain ⟨f10, f11, f12, -⟩ := hfs9
  obtain ⟨z0, z1, -⟩ := hzs9
  have hs2 := hb2.size
  go_wp2
  first | go_returns | (refine bodyPost_ret (v := .agg #[.int .i64 R.1, .int .i64 R.2.1, .int .i64 R.2.2]) (by simp [results, Try.results72, go_sem, *]) rfl ?_)
  exact ⟨rfl, byGG⟩
theorem eqN_comm (X Y : T3n) : eqN X Y = eqN Y X := by
  unfold eqN
  rw [Bool.eq_iff_iff]
  simp only [Bool.and_eq_true, decide_eq_true_eq]
  exact ⟨fun ⟨a, b, c⟩ => ⟨a.symm, b.symm, c.symm⟩, fun ⟨a, b, c⟩ => ⟨a.symm, b.symm, c.symm⟩⟩
theorem neN_resB (X Y : T3n) (w : World) : (if X.1 = Y.1 then if X.2.1 = Y.2.1 then if X.2.2 = Y.2.2 then Result.ok (Next.value (Value.bool false)) w else Result.ok (Next.value (Value.bool true)) w else Result.ok (Next.value (Value.bool true)) w else Result.ok (Next.value (Value.bool true)) w) = Result.ok (Next.value (Value.bool (!eqN Y X))) w := by
  rw [neN_res, eqN_comm]

set_option maxRecDepth 100000 in
set_option maxHeartbeats 16000000 in
theorem lgRun_a (g n c' : Nat) (E : Nat → Ent) (c : Cmd) (w : World) (hr : ∀ i, i < n → EntAt w g (i * 4) (E i)) (hn : n ≤ 2000000) (hcc : n ≤ c') (hcm : cmB c = true) (hct : ctG E n = true) (hn20 : n ≤ 20) :
    Calls Try.prog 49 #[.slice (some ⟨g, 0, none⟩) n c', cmv c] w (RetEC w (rnL E n c) (rnC E n c)) := by
  obtain ⟨k, nm, a, b, f0, f1, f2⟩ := c
  obtain ⟨-, hcs⟩ := cm_cases hcm
  simp only [] at hcs
  have HR := hide hr
  have HI := hide (ct_inc n hct)
  obtain ⟨N, hN⟩ : ∃ N, N = fdF E nm n := ⟨_, rfl⟩
  obtain ⟨kn, hkn⟩ : ∃ k, k = fdB E nm n := ⟨_, rfl⟩
  obtain ⟨IN, hIN⟩ : ∃ I, I = fdI E nm n := ⟨_, rfl⟩
  have CN : Hid (kn = true → classB N.1 N.2.1 N.2.2 = true) := hide (fun h => by rw [hN]; exact fd_cls hct (by rw [← hkn]; exact h))
  have TN : Hid ((IN = -1 ∧ kn = false ∧ fd E nm n = none) ∨ ∃ k : Nat, IN = (k : Int) ∧ kn = true ∧ fd E nm n = some k ∧ k < n ∧ N = (E k).f) := hide (by rw [hIN, hkn, hN]; exact fd_two)
  obtain ⟨A, hA⟩ : ∃ A, A = fdF E a n := ⟨_, rfl⟩
  obtain ⟨ka, hka⟩ : ∃ k, k = fdB E a n := ⟨_, rfl⟩
  obtain ⟨IA, hIA⟩ : ∃ I, I = fdI E a n := ⟨_, rfl⟩
  have CA : Hid (ka = true → classB A.1 A.2.1 A.2.2 = true) := hide (fun h => by rw [hA]; exact fd_cls hct (by rw [← hka]; exact h))
  have TA : Hid ((IA = -1 ∧ ka = false ∧ fd E a n = none) ∨ ∃ k : Nat, IA = (k : Int) ∧ ka = true ∧ fd E a n = some k ∧ k < n ∧ A = (E k).f) := hide (by rw [hIA, hka, hA]; exact fd_two)
  obtain ⟨B, hB⟩ : ∃ B, B = fdF E b n := ⟨_, rfl⟩
  obtain ⟨kb, hkb⟩ : ∃ k, k = fdB E b n := ⟨_, rfl⟩
  obtain ⟨IB, hIB⟩ : ∃ I, I = fdI E b n := ⟨_, rfl⟩
  have CB : Hid (kb = true → classB B.1 B.2.1 B.2.2 = true) := hide (fun h => by rw [hB]; exact fd_cls hct (by rw [← hkb]; exact h))
  have TB : Hid ((IB = -1 ∧ kb = false ∧ fd E b n = none) ∨ ∃ k : Nat, IB = (k : Int) ∧ kb = true ∧ fd E b n = some k ∧ k < n ∧ B = (E k).f) := hide (by rw [hIB, hkb, hB]; exact fd_two)
  have HRC : Hid (rcC E n ⟨k, nm, a, b, f0, f1, f2⟩ = rcD k kn ka kb (emB a) (emB b) N A B (f0, f1, f2)) := hide (by rw [hN, hA, hB, hkn, hka, hkb]; rfl)
  have HN := hide hN
  have HA := hide hA
  have HB := hide hB
  have HIN := hide hIN
  have HIA := hide hIA
  have HIB := hide hIB
  have HCS := hide hcs
  clear hN hA hB hkn hka hkb hIN hIA hIB hr hcm hcs
  go_enter Try.func49, Try.ntmps49
  go_upto_region 1 with fail
  go_cut [6, 7, 8] (fun s6 s7 s8 wx => s6 = .int .i64 IN ∧ s7 = .int .i64 IA ∧ s8 = .int .i64 IB ∧ wx.cell? ⟨w.heap.size, 0, none⟩ = some (.int .i64 k) ∧ wx.cell? ⟨w.heap.size, 1, none⟩ = some (.string nm) ∧ wx.cell? ⟨w.heap.size, 2, none⟩ = some (.string a) ∧ wx.cell? ⟨w.heap.size, 3, none⟩ = some (.string b) ∧ wx.cell? ⟨w.heap.size, 4, none⟩ = some (.int .i64 f0) ∧ wx.cell? ⟨w.heap.size, 5, none⟩ = some (.int .i64 f1) ∧ wx.cell? ⟨w.heap.size, 6, none⟩ = some (.int .i64 f2) ∧ Below w.heap.size w wx)
  case first =>
    have h1 := trivial
    rename_i K2 h2 h3
    refine region_n0 (by kernel_rfl) (fun j => #[11,12,13,14,15,16,17,18,19,20,21,22,6,7,8].getD j 0) (fun j => Kd.ok ((fun j => match j with | 0 => Kd.val (.slice (some ⟨g, 0, none⟩) n c') | 1 => Kd.val (.pointer (some ⟨w.heap.size, 1, none⟩)) | 2 => Kd.val (.string nm) | 3 => Kd.val (.int .i64 IN) | 4 => Kd.val (.slice (some ⟨g, 0, none⟩) n c') | 5 => Kd.val (.pointer (some ⟨w.heap.size, 2, none⟩)) | 6 => Kd.val (.string a) | 7 => Kd.val (.int .i64 IA) | 8 => Kd.val (.slice (some ⟨g, 0, none⟩) n c') | 9 => Kd.val (.pointer (some ⟨w.heap.size, 3, none⟩)) | 10 => Kd.val (.string b) | 11 => Kd.val (.int .i64 IB) | 12 => Kd.val (.int .i64 IN) | 13 => Kd.val (.int .i64 IA) | 14 => Kd.val (.int .i64 IB) | _ => Kd.any : Nat → Kd) j)) (Sy w (w.heap.size + 1) [(⟨w.heap.size, 0, none⟩, .int .i64 k), (⟨w.heap.size, 1, none⟩, .string nm), (⟨w.heap.size, 2, none⟩, .string a), (⟨w.heap.size, 3, none⟩, .string b), (⟨w.heap.size, 4, none⟩, .int .i64 f0), (⟨w.heap.size, 5, none⟩, .int .i64 f1), (⟨w.heap.size, 6, none⟩, .int .i64 f2)] []) (by kernel_rfl) (by kernel_rfl) ?_ ?_ ?_ ?_
    · intro j hj
      have hj2 : j < 15 := hj
      have : ∀ j, j < 15 → (#[11,12,13,14,15,16,17,18,19,20,21,22,6,7,8] : Array Nat).getD j 0 < 133 := by decide
      exact this j hj2
    · refine Sy.drew (Sy.mk_of ?_ ?_ ?_ ?_)
      · first | rfl | (simp; done) | (simp; omega)
      · intro c hc
        simp only [List.mem_cons, List.not_mem_nil, or_false] at hc
        rcases hc with rfl | rfl | rfl | rfl | rfl | rfl | rfl <;> exact byCT
      · intro p hp; cases hp
      · (repeat' first | with_reducible (first | exact Below.refl _ _ | assumption | refine gr_alloc ?_ _ | refine below_drewN ?_ _ | refine below_drew ?_ | refine gr_call ?_ (by assumption) | refine Below.setCell ?_ ?_ _) | go_size | omega | (simp; omega))
    · clear h1 h2 h3
      refine ⟨?r22x0, ?r22x1, ?r22x2, ?r22x3, ?r22x4, ?r22x5, ?r22x6, ?r22x7, ?r22x8, ?r22x9, ?r22x10, ?r22x11, ?r22x12, ?r22x13, ?r22x14, trivial⟩
      all_goals intro _ aq wx Kq hf hS hdep ev1 ev2 hK
      case' r22x0 =>
        have F0 : aq.eval (.tmp 0) = .slice (some ⟨g, 0, none⟩) n c' := hf 0
      case' r22x1 =>
        have F3 : aq.eval (.tmp 3) = .pointer (some ⟨w.heap.size, 0, none⟩) := hf 3
      case' r22x2 =>
        have D1 : aq.eval (.tmp 12) = _ := hdep 1
        have c0 := hS.cells (⟨w.heap.size, 1, none⟩, .string nm) (by simp)
      case' r22x3 =>
        have D0 : aq.eval (.tmp 11) = _ := hdep 0
        have D2 : aq.eval (.tmp 13) = _ := hdep 2
      case' r22x4 =>
        have F0 : aq.eval (.tmp 0) = .slice (some ⟨g, 0, none⟩) n c' := hf 0
      case' r22x5 =>
        have F3 : aq.eval (.tmp 3) = .pointer (some ⟨w.heap.size, 0, none⟩) := hf 3
      case' r22x6 =>
        have D5 : aq.eval (.tmp 16) = _ := hdep 5
        have c0 := hS.cells (⟨w.heap.size, 2, none⟩, .string a) (by simp)
      case' r22x7 =>
        have D4 : aq.eval (.tmp 15) = _ := hdep 4
        have D6 : aq.eval (.tmp 17) = _ := hdep 6
      case' r22x8 =>
        have F0 : aq.eval (.tmp 0) = .slice (some ⟨g, 0, none⟩) n c' := hf 0
      case' r22x9 =>
        have F3 : aq.eval (.tmp 3) = .pointer (some ⟨w.heap.size, 0, none⟩) := hf 3
      case' r22x10 =>
        have D9 : aq.eval (.tmp 20) = _ := hdep 9
        have c0 := hS.cells (⟨w.heap.size, 3, none⟩, .string b) (by simp)
      case' r22x11 =>
        have D8 : aq.eval (.tmp 19) = _ := hdep 8
        have D10 : aq.eval (.tmp 21) = _ := hdep 10
      case' r22x12 =>
        have D3 : aq.eval (.tmp 14) = _ := hdep 3
      case' r22x13 =>
        have D7 : aq.eval (.tmp 18) = _ := hdep 7
      case' r22x14 =>
        have D11 : aq.eval (.tmp 22) = _ := hdep 11
      all_goals (clear hf hdep; unfold Oper.wp; generalize Act.eval _ = ev at *; go_simp)
      case r22x3 =>
        refine ((lgFind_b g n c' E nm IN _ (fun i hi => (unhide HR i hi).below hS.below) hn (unhide HIN))).mono ?_
        rintro e w2 ⟨rfl, hb⟩
        refine hK _ _ (hS.call hb) ?_ (fun j u _ h => Kd.ok_below hb h)
        rw [if_pos (by rfl)]
        show (_ : Value) = _
        first | rfl | (refine congrArg (Value.int .i64) ?_; first | rfl | exact int_in (by omega) | exact quo_in (by omega) (by omega) (by omega) | exact rem_in (by omega) (by omega) | omega) | (simp; done) | (simp [*]; done)
      case r22x7 =>
        refine ((lgFind_b g n c' E a IA _ (fun i hi => (unhide HR i hi).below hS.below) hn (unhide HIA))).mono ?_
        rintro e w2 ⟨rfl, hb⟩
        refine hK _ _ (hS.call hb) ?_ (fun j u _ h => Kd.ok_below hb h)
        rw [if_pos (by rfl)]
        show (_ : Value) = _
        first | rfl | (refine congrArg (Value.int .i64) ?_; first | rfl | exact int_in (by omega) | exact quo_in (by omega) (by omega) (by omega) | exact rem_in (by omega) (by omega) | omega) | (simp; done) | (simp [*]; done)
      case r22x11 =>
        refine ((lgFind_b g n c' E b IB _ (fun i hi => (unhide HR i hi).below hS.below) hn (unhide HIB))).mono ?_
        rintro e w2 ⟨rfl, hb⟩
        refine hK _ _ (hS.call hb) ?_ (fun j u _ h => Kd.ok_below hb h)
        rw [if_pos (by rfl)]
        show (_ : Value) = _
        first | rfl | (refine congrArg (Value.int .i64) ?_; first | rfl | exact int_in (by omega) | exact quo_in (by omega) (by omega) (by omega) | exact rem_in (by omega) (by omega) | omega) | (simp; done) | (simp [*]; done)
      all_goals (refine hK _ _ hS ?_ (fun j u _ h => h); rw [if_pos (by rfl)]; show (_ : Value) = _; (first | rfl | (refine congrArg (Value.int .i64) ?_; first | rfl | exact int_in (by omega) | exact quo_in (by omega) (by omega) (by omega) | exact rem_in (by omega) (by omega) | omega) | (simp; done) | (simp [*]; done)))
    · intro aq wx hd hw hf hS hg
      have G6 : tau aq 6 = .int .i64 IN := hg 12 (by decide)
      have G7 : tau aq 7 = .int .i64 IA := hg 13 (by decide)
      have G8 : tau aq 8 = .int .i64 IB := hg 14 (by decide)
      have haq : aq = ⟨#[tau aq 0, tau aq 1, tau aq 2, tau aq 3, tau aq 4, tau aq 5, tau aq 6, tau aq 7, tau aq 8, tau aq 9, tau aq 10, tau aq 11, tau aq 12, tau aq 13, tau aq 14, tau aq 15, tau aq 16, tau aq 17, tau aq 18, tau aq 19, tau aq 20, tau aq 21, tau aq 22, tau aq 23, tau aq 24, tau aq 25, tau aq 26, tau aq 27, tau aq 28, tau aq 29, tau aq 30, tau aq 31, tau aq 32, tau aq 33, tau aq 34, tau aq 35, tau aq 36, tau aq 37, tau aq 38, tau aq 39, tau aq 40, tau aq 41, tau aq 42, tau aq 43, tau aq 44, tau aq 45, tau aq 46, tau aq 47, tau aq 48, tau aq 49, tau aq 50, tau aq 51, tau aq 52, tau aq 53, tau aq 54, tau aq 55, tau aq 56, tau aq 57, tau aq 58, tau aq 59, tau aq 60, tau aq 61, tau aq 62, tau aq 63, tau aq 64, tau aq 65, tau aq 66, tau aq 67, tau aq 68, tau aq 69, tau aq 70, tau aq 71, tau aq 72, tau aq 73, tau aq 74, tau aq 75, tau aq 76, tau aq 77, tau aq 78, tau aq 79, tau aq 80, tau aq 81, tau aq 82, tau aq 83, tau aq 84, tau aq 85, tau aq 86, tau aq 87, tau aq 88, tau aq 89, tau aq 90, tau aq 91, tau aq 92, tau aq 93, tau aq 94, tau aq 95, tau aq 96, tau aq 97, tau aq 98, tau aq 99, tau aq 100, tau aq 101, tau aq 102, tau aq 103, tau aq 104, tau aq 105, tau aq 106, tau aq 107, tau aq 108, tau aq 109, tau aq 110, tau aq 111, tau aq 112, tau aq 113, tau aq 114, tau aq 115, tau aq 116, tau aq 117, tau aq 118, tau aq 119, tau aq 120, tau aq 121, tau aq 122, tau aq 123, tau aq 124, tau aq 125, tau aq 126, tau aq 127, tau aq 128, tau aq 129, tau aq 130, tau aq 131, tau aq 132], []⟩ := by
        obtain ⟨tq, dq⟩ := aq
        have h5 := arr_eq (show tq.size = 133 from hw)
        have h6 : dq = [] := hd
        subst h6
        exact congrArg (fun z => Act.mk z []) h5
      show K2 aq wx
      rw [haq, hf 0, hf 1, hf 2, hf 3, hf 4, hf 5, hf 9, hf 10, hf 23, hf 24, hf 25, hf 26, hf 27, hf 28, hf 29, hf 30, hf 31, hf 32, hf 33, hf 34, hf 35, hf 36, hf 37, hf 38, hf 39, hf 40, hf 41, hf 42, hf 43, hf 44, hf 45, hf 46, hf 47, hf 48, hf 49, hf 50, hf 51, hf 52, hf 53, hf 54, hf 55, hf 56, hf 57, hf 58, hf 59, hf 60, hf 61, hf 62, hf 63, hf 64, hf 65, hf 66, hf 67, hf 68, hf 69, hf 70, hf 71, hf 72, hf 73, hf 74, hf 75, hf 76, hf 77, hf 78, hf 79, hf 80, hf 81, hf 82, hf 83, hf 84, hf 85, hf 86, hf 87, hf 88, hf 89, hf 90, hf 91, hf 92, hf 93, hf 94, hf 95, hf 96, hf 97, hf 98, hf 99, hf 100, hf 101, hf 102, hf 103, hf 104, hf 105, hf 106, hf 107, hf 108, hf 109, hf 110, hf 111, hf 112, hf 113, hf 114, hf 115, hf 116, hf 117, hf 118, hf 119, hf 120, hf 121, hf 122, hf 123, hf 124, hf 125, hf 126, hf 127, hf 128, hf 129, hf 130, hf 131, hf 132, G6, G7, G8]
      clear haq hf hd hw
      try dsimp only
      refine h3 _ _ ?_
      go_meet
      exact ⟨rfl, rfl, rfl, hS.cells (⟨w.heap.size, 0, none⟩, .int .i64 k) (by simp), hS.cells (⟨w.heap.size, 1, none⟩, .string nm) (by simp), hS.cells (⟨w.heap.size, 2, none⟩, .string a) (by simp), hS.cells (⟨w.heap.size, 3, none⟩, .string b) (by simp), hS.cells (⟨w.heap.size, 4, none⟩, .int .i64 f0) (by simp), hS.cells (⟨w.heap.size, 5, none⟩, .int .i64 f1) (by simp), hS.cells (⟨w.heap.size, 6, none⟩, .int .i64 f2) (by simp), hS.below⟩
  try clear c00
  try clear c01
  try clear c02
  try clear c03
  try clear c04
  try clear c05
  try clear c06
  obtain ⟨rfl, rfl, rfl, c00, c01, c02, c03, c04, c05, c06, hR1⟩ := hcut
  have z0 := World.block_lt_of_cell? _ _ c00
  change w.heap.size < wc.heap.size at z0
  obtain ⟨wd1, rfl⟩ : ∃ wd : World, wd = wc := ⟨_, rfl⟩
  rcases unhide HCS with ⟨rfl, ea, eb, cf⟩ | ⟨rfl, ea, eb⟩ | ⟨rfl, ea, eb⟩ | ⟨rfl, ea, eb⟩ | ⟨rfl, ea, eb, cf⟩
  · have ea1 : a.toList = [] := by simpa [emB] using ea
    have eb1 : b.toList = [] := by simpa [emB] using eb
    rcases unhide TN with ⟨rfl, rfl, hfN⟩ | ⟨iN, rfl, rfl, hfN, hlN, heN⟩
    · have HFN := hide hfN
      clear hfN
      have HV : Hid (rcC E n ⟨1, nm, a, b, f0, f1, f2⟩ = 0) := hide (by rw [unhide HRC]; simp [rcD, ea, eb])

      obtain ⟨W, hW0⟩ : ∃ W, W = weL (atE (woL E nm n)) ⟨nm, (f0, f1, f2)⟩ (woL E nm n).length := ⟨_, rfl⟩
      have HW := hide hW0
      have HWW : Hid (rnW E n ⟨1, nm, a, b, f0, f1, f2⟩ = W) := hide (by rw [hW0]; unfold rnW rnF; rfl)
      have HWl : Hid (W.length = n + 1) := hide (by rw [hW0, weL_size, wo_size_none (unhide HFN)])
      clear hW0
      by_cases hl : n < 20
      · have HL : Hid (rnL E n ⟨1, nm, a, b, f0, f1, f2⟩ = W) := hide (by unfold rnL; rw [unhide HV, if_pos rfl, if_neg (by simp), unhide HWW, if_pos (by rw [unhide HWl]; omega)])
        have HC : Hid (rnC E n ⟨1, nm, a, b, f0, f1, f2⟩ = 0) := hide (by unfold rnC; rw [unhide HV, if_pos rfl, if_neg (by simp), unhide HWW, if_pos (by rw [unhide HWl]; omega)])
        have hl2 : ¬ (20 ≤ (n : Int)) := by omega
        clear hl
        go_wp2_with fail
        refine (lgPut_row g n c' E nm f0 f1 f2 W _ (fun i hi => (unhide HR i hi).below byGG) hn hcc (unhide HFN) (unhide HW)).mono ?_
        rintro e8 w8 ⟨v8, rfl, hW, hb8⟩
        have hB8 : Below w.heap.size w w8 := byGG
        have hW2 := hW.low (lo' := w.heap.size) byGE
        clear hb8
        go_wp2
        refine bodyPost_ret (v := .tuple #[v8, .int .i64 0]) (by simp [results, Try.results49, go_sem, *]) rfl ?_
        exact ⟨_, by rw [unhide HC], by rw [unhide HL]; exact hW2, byGG⟩
      · have HL : Hid (rnL E n ⟨1, nm, a, b, f0, f1, f2⟩ = []) := hide (by unfold rnL; rw [unhide HV, if_pos rfl, if_neg (by simp), unhide HWW, if_neg (by rw [unhide HWl]; omega)])
        have HC : Hid (rnC E n ⟨1, nm, a, b, f0, f1, f2⟩ = 5) := hide (by unfold rnC; rw [unhide HV, if_pos rfl, if_neg (by simp), unhide HWW, if_neg (by rw [unhide HWl]; omega)])
        have hl2 : (20 ≤ (n : Int)) := by omega
        clear hl
        go_wp2
        refine bodyPost_ret (v := .tuple #[.slice none 0 0, .int .i64 5]) (by simp [results, Try.results49, go_sem, *]) rfl ?_
        exact ⟨_, by rw [unhide HC], by rw [unhide HL]; exact EL.nil _ _, byGG⟩
    · have HFN := hide hfN
      clear hfN
      have HV : Hid (rcC E n ⟨1, nm, a, b, f0, f1, f2⟩ = 2) := hide (by rw [unhide HRC]; simp [rcD, ea, eb])
      have HL : Hid (rnL E n ⟨1, nm, a, b, f0, f1, f2⟩ = []) := hide (by unfold rnL; rw [unhide HV]; rfl)
      have HC : Hid (rnC E n ⟨1, nm, a, b, f0, f1, f2⟩ = 2) := hide (by unfold rnC; rw [unhide HV]; rfl)
      go_wp2
      refine bodyPost_ret (v := .tuple #[.slice none 0 0, .int .i64 2]) (by simp [results, Try.results49, go_sem, *]) rfl ?_
      exact ⟨_, by rw [unhide HC], by rw [unhide HL]; exact EL.nil _ _, byGG⟩
  · have ea1 : a.toList = [] := by simpa [emB] using ea
    have eb1 : b.toList = [] := by simpa [emB] using eb
    rcases unhide TN with ⟨rfl, rfl, hfN⟩ | ⟨iN, rfl, rfl, hfN, hlN, heN⟩
    · have HFN := hide hfN
      clear hfN
      have HV : Hid (rcC E n ⟨2, nm, a, b, f0, f1, f2⟩ = 3) := hide (by rw [unhide HRC]; simp [rcD, ea, eb])
      have HL : Hid (rnL E n ⟨2, nm, a, b, f0, f1, f2⟩ = []) := hide (by unfold rnL; rw [unhide HV]; rfl)
      have HC : Hid (rnC E n ⟨2, nm, a, b, f0, f1, f2⟩ = 3) := hide (by unfold rnC; rw [unhide HV]; rfl)
      go_wp2
      refine bodyPost_ret (v := .tuple #[.slice none 0 0, .int .i64 3]) (by simp [results, Try.results49, go_sem, *]) rfl ?_
      exact ⟨_, by rw [unhide HC], by rw [unhide HL]; exact EL.nil _ _, byGG⟩
    · have HFN := hide hfN
      clear hfN
      have HV : Hid (rcC E n ⟨2, nm, a, b, f0, f1, f2⟩ = 0) := hide (by rw [unhide HRC]; simp [rcD, ea, eb])

      obtain ⟨L, hL0⟩ : ∃ L, L = woL E nm n := ⟨_, rfl⟩
      have HL : Hid (rnL E n ⟨2, nm, a, b, f0, f1, f2⟩ = L) := hide (by unfold rnL; rw [unhide HV, if_pos rfl, if_pos rfl, hL0])
      have HC : Hid (rnC E n ⟨2, nm, a, b, f0, f1, f2⟩ = 0) := hide (by unfold rnC; rw [unhide HV, if_pos rfl, if_pos rfl])
      have HL0 := hide hL0
      clear hL0
      go_wp2_with fail
      refine (lgDrop_row g n c' iN E nm L _ (fun i hi => (unhide HR i hi).below byGG) hn hcc (unhide HI) (unhide HFN) w.heap.size byGE (unhide HL0)).mono ?_
      rintro e8 w8 ⟨v8, rfl, ⟨g8, c8, rfl, hc8, hW2⟩, hb8⟩
      have hB8 : Below w.heap.size w w8 := byGG
      clear hb8
      go_wp2
      refine bodyPost_ret (v := .tuple #[.slice (some ⟨g8, 0, none⟩) L.length c8, .int .i64 0]) (by simp [results, Try.results49, go_sem, *]) rfl ?_
      exact ⟨_, by rw [unhide HC], by rw [unhide HL]; exact hW2, byGG⟩
  · replace ea := nm_em ea
    have ea1 : ¬ a.toList = [] := by simpa [emB] using ea
    have ea2 : a.toList.isEmpty = false := by simpa using ea1
    replace eb := nm_em eb
    have eb1 : ¬ b.toList = [] := by simpa [emB] using eb
    have eb2 : b.toList.isEmpty = false := by simpa using eb1
    rcases unhide TN with ⟨rfl, rfl, hfN⟩ | ⟨iN, rfl, rfl, hfN, hlN, heN⟩
    · have HFN := hide hfN
      clear hfN
      rcases unhide TA with ⟨rfl, rfl, hfA⟩ | ⟨iA, rfl, rfl, hfA, hlA, heA⟩
      · have HFA := hide hfA
        clear hfA
        have HV : Hid (rcC E n ⟨3, nm, a, b, f0, f1, f2⟩ = 3) := hide (by rw [unhide HRC]; simp [rcD, ea, eb])
        have HL : Hid (rnL E n ⟨3, nm, a, b, f0, f1, f2⟩ = []) := hide (by unfold rnL; rw [unhide HV]; rfl)
        have HC : Hid (rnC E n ⟨3, nm, a, b, f0, f1, f2⟩ = 3) := hide (by unfold rnC; rw [unhide HV]; rfl)
        go_wp2
        refine bodyPost_ret (v := .tuple #[.slice none 0 0, .int .i64 3]) (by simp [results, Try.results49, go_sem, *]) rfl ?_
        exact ⟨_, by rw [unhide HC], by rw [unhide HL]; exact EL.nil _ _, byGG⟩
      · have HFA := hide hfA
        clear hfA
        rcases unhide TB with ⟨rfl, rfl, hfB⟩ | ⟨iB, rfl, rfl, hfB, hlB, heB⟩
        · have HFB := hide hfB
          clear hfB
          have HV : Hid (rcC E n ⟨3, nm, a, b, f0, f1, f2⟩ = 3) := hide (by rw [unhide HRC]; simp [rcD, ea, eb])
          have HL : Hid (rnL E n ⟨3, nm, a, b, f0, f1, f2⟩ = []) := hide (by unfold rnL; rw [unhide HV]; rfl)
          have HC : Hid (rnC E n ⟨3, nm, a, b, f0, f1, f2⟩ = 3) := hide (by unfold rnC; rw [unhide HV]; rfl)
          go_wp2
          refine bodyPost_ret (v := .tuple #[.slice none 0 0, .int .i64 3]) (by simp [results, Try.results49, go_sem, *]) rfl ?_
          exact ⟨_, by rw [unhide HC], by rw [unhide HL]; exact EL.nil _ _, byGG⟩
        · have HFB := hide hfB
          clear hfB
          have dA := ((unhide HR iA hlA).below (show Below w.heap.size w wd1 from hR1)).2
          obtain ⟨dA0, dA1, dA2⟩ := dA
          rw [← heA] at dA0 dA1 dA2
          have dA1' : wd1.cell? ⟨g, iA * 4 + 1 + 1, none⟩ = some (.int .i64 A.2.1) := dA1
          have dA2' : wd1.cell? ⟨g, iA * 4 + 1 + 2, none⟩ = some (.int .i64 A.2.2) := dA2
          have hciA : (iA : Int) < (n : Int) := by omega
          have hglA : g < wd1.heap.size := World.block_lt_of_cell? _ _ dA0
          clear dA1 dA2
          have HEA := hide heA
          clear heA
          have dB := ((unhide HR iB hlB).below (show Below w.heap.size w wd1 from hR1)).2
          obtain ⟨dB0, dB1, dB2⟩ := dB
          rw [← heB] at dB0 dB1 dB2
          have dB1' : wd1.cell? ⟨g, iB * 4 + 1 + 1, none⟩ = some (.int .i64 B.2.1) := dB1
          have dB2' : wd1.cell? ⟨g, iB * 4 + 1 + 2, none⟩ = some (.int .i64 B.2.2) := dB2
          have hciB : (iB : Int) < (n : Int) := by omega
          have hglB : g < wd1.heap.size := World.block_lt_of_cell? _ _ dB0
          clear dB1 dB2
          have HEB := hide heB
          clear heB
          have hfa := class_form (unhide CA rfl)
          have hfb := class_form (unhide CB rfl)
          by_cases hdd : discI A.1 A.2.1 A.2.2 = discI B.1 B.2.1 B.2.2
          · have HV : Hid (rcC E n ⟨3, nm, a, b, f0, f1, f2⟩ = 0) := hide (by rw [unhide HRC]; simp [rcD, ea, eb, hdd])

            have hcA := cls_of (unhide CA rfl)
            have hcB := cls_of (unhide CB rfl)
            obtain ⟨C, hC⟩ : ∃ C, C = cmp A B := ⟨_, rfl⟩
            have HCC := hide hC
            obtain ⟨W, hW0⟩ : ∃ W, W = weL (atE (woL E nm n)) ⟨nm, (C.1, C.2.1, C.2.2)⟩ (woL E nm n).length := ⟨_, rfl⟩
            have HW := hide hW0
            have HWW : Hid (rnW E n ⟨3, nm, a, b, f0, f1, f2⟩ = W) := hide (by rw [hW0]; unfold rnW rnF; rw [if_pos rfl, ← unhide HA, ← unhide HB, ← hC])
            have HWl : Hid (W.length = n + 1) := hide (by rw [hW0, weL_size, wo_size_none (unhide HFN)])
            clear hW0
            clear hC
            go_upto_region 16 with fail
            go_cut [104] (fun s104 wx => s104 = .bool false ∧ wx.cell? ⟨w.heap.size, 0, none⟩ = some (.int .i64 3) ∧ wx.cell? ⟨w.heap.size, 1, none⟩ = some (.string nm) ∧ wx.cell? ⟨w.heap.size, 2, none⟩ = some (.string a) ∧ wx.cell? ⟨w.heap.size, 3, none⟩ = some (.string b) ∧ wx.cell? ⟨w.heap.size, 4, none⟩ = some (.int .i64 f0) ∧ wx.cell? ⟨w.heap.size, 5, none⟩ = some (.int .i64 f1) ∧ wx.cell? ⟨w.heap.size, 6, none⟩ = some (.int .i64 f2) ∧ wx.cell? ⟨g, iA * 4 + 1, none⟩ = some (.int .i64 (A.1)) ∧ wx.cell? ⟨g, iA * 4 + 1 + 1, none⟩ = some (.int .i64 (A.2.1)) ∧ wx.cell? ⟨g, iA * 4 + 1 + 2, none⟩ = some (.int .i64 (A.2.2)) ∧ wx.cell? ⟨g, iB * 4 + 1, none⟩ = some (.int .i64 (B.1)) ∧ wx.cell? ⟨g, iB * 4 + 1 + 1, none⟩ = some (.int .i64 (B.2.1)) ∧ wx.cell? ⟨g, iB * 4 + 1 + 2, none⟩ = some (.int .i64 (B.2.2)) ∧ wx.cell? ⟨wd1.heap.size, 0, none⟩ = some (.int .i64 f0) ∧ wx.frozen? ⟨wd1.heap.size, 0, none⟩ = false ∧ wx.cell? ⟨wd1.heap.size, 1, none⟩ = some (.int .i64 f1) ∧ wx.frozen? ⟨wd1.heap.size, 1, none⟩ = false ∧ wx.cell? ⟨wd1.heap.size, 2, none⟩ = some (.int .i64 f2) ∧ wx.frozen? ⟨wd1.heap.size, 2, none⟩ = false ∧ Below w.heap.size w wx)
            case first =>
              have h1 := trivial
              rename_i K2 h2 h3
              refine region_n0 (by kernel_rfl) (fun j => #[92,93,94,95,96,97,98,99,100,101,102,103,104].getD j 0) (fun j => Kd.ok ((fun j => match j with | 0 => Kd.val (.slice (some ⟨g, 0, none⟩) n c') | 1 => Kd.val (.int .i64 ((iA : Int))) | 2 => Kd.val (.pointer (some ⟨g, iA * 4, none⟩)) | 3 => Kd.val (.pointer (some ⟨g, iA * 4 + 1, none⟩)) | 4 => Kd.val (.agg #[.int .i64 (A.1), .int .i64 (A.2.1), .int .i64 (A.2.2)]) | 5 => Kd.val (.int .i64 ((discI A.1 A.2.1 A.2.2))) | 6 => Kd.val (.slice (some ⟨g, 0, none⟩) n c') | 7 => Kd.val (.int .i64 ((iB : Int))) | 8 => Kd.val (.pointer (some ⟨g, iB * 4, none⟩)) | 9 => Kd.val (.pointer (some ⟨g, iB * 4 + 1, none⟩)) | 10 => Kd.val (.agg #[.int .i64 (B.1), .int .i64 (B.2.1), .int .i64 (B.2.2)]) | 11 => Kd.val (.int .i64 ((discI B.1 B.2.1 B.2.2))) | 12 => Kd.val (.bool false) | _ => Kd.any : Nat → Kd) j)) (Sy w (wd1.heap.size + 1) [(⟨w.heap.size, 0, none⟩, .int .i64 3), (⟨w.heap.size, 1, none⟩, .string nm), (⟨w.heap.size, 2, none⟩, .string a), (⟨w.heap.size, 3, none⟩, .string b), (⟨w.heap.size, 4, none⟩, .int .i64 f0), (⟨w.heap.size, 5, none⟩, .int .i64 f1), (⟨w.heap.size, 6, none⟩, .int .i64 f2), (⟨g, iA * 4 + 1, none⟩, .int .i64 (A.1)), (⟨g, iA * 4 + 1 + 1, none⟩, .int .i64 (A.2.1)), (⟨g, iA * 4 + 1 + 2, none⟩, .int .i64 (A.2.2)), (⟨g, iB * 4 + 1, none⟩, .int .i64 (B.1)), (⟨g, iB * 4 + 1 + 1, none⟩, .int .i64 (B.2.1)), (⟨g, iB * 4 + 1 + 2, none⟩, .int .i64 (B.2.2)), (⟨wd1.heap.size, 0, none⟩, .int .i64 f0), (⟨wd1.heap.size, 1, none⟩, .int .i64 f1), (⟨wd1.heap.size, 2, none⟩, .int .i64 f2)] [⟨wd1.heap.size, 0, none⟩, ⟨wd1.heap.size, 1, none⟩, ⟨wd1.heap.size, 2, none⟩]) (by kernel_rfl) (by kernel_rfl) ?_ ?_ ?_ ?_
              · intro j hj
                have hj2 : j < 13 := hj
                have : ∀ j, j < 13 → (#[92,93,94,95,96,97,98,99,100,101,102,103,104] : Array Nat).getD j 0 < 133 := by decide
                exact this j hj2
              · refine Sy.drew (Sy.mk_of ?_ ?_ ?_ ?_)
                · first | rfl | (simp; done) | (simp; omega)
                · intro c hc
                  simp only [List.mem_cons, List.not_mem_nil, or_false] at hc
                  rcases hc with rfl | rfl | rfl | rfl | rfl | rfl | rfl | rfl | rfl | rfl | rfl | rfl | rfl | rfl | rfl | rfl <;> exact byCT
                · intro p hp
                  simp only [List.mem_cons, List.not_mem_nil, or_false] at hp
                  rcases hp with rfl | rfl | rfl <;> exact ⟨by first | ((repeat' with_reducible (first | refine ex_set _ ?_ | refine ex_al _ ?_ | exact ⟨_, by assumption⟩)); done) | first | exact ⟨_, by assumption⟩ | assumption | (go_simp; done) | (go_simp; exact ⟨_, rfl⟩), by first | ((repeat' first | with_reducible (first | assumption | refine frz_al _ ?_ ?_ | refine frz_set _ ?_) | omega | (simp; omega)); done) | assumption | (go_simp; done)⟩
                · (repeat' first | with_reducible (first | exact Below.refl _ _ | assumption | refine gr_alloc ?_ _ | refine below_drewN ?_ _ | refine below_drew ?_ | refine gr_call ?_ (by assumption) | refine Below.setCell ?_ ?_ _) | go_size | omega | (simp; omega))
              · clear h1 h2 h3
                refine ⟨?r17x0, ?r17x1, ?r17x2, ?r17x3, ?r17x4, ?r17x5, ?r17x6, ?r17x7, ?r17x8, ?r17x9, ?r17x10, ?r17x11, ?r17x12, trivial⟩
                all_goals intro _ aq wx Kq hf hS hdep ev1 ev2 hK
                case' r17x0 =>
                  have F0 : aq.eval (.tmp 0) = .slice (some ⟨g, 0, none⟩) n c' := hf 0
                case' r17x1 =>
                  have F7 : aq.eval (.tmp 7) = .int .i64 ((iA : Int)) := hf 7
                case' r17x2 =>
                  have D0 : aq.eval (.tmp 92) = _ := hdep 0
                  have D1 : aq.eval (.tmp 93) = _ := hdep 1
                case' r17x3 =>
                  have D2 : aq.eval (.tmp 94) = _ := hdep 2
                case' r17x4 =>
                  have D3 : aq.eval (.tmp 95) = _ := hdep 3
                  have c0 := hS.cells (⟨g, iA * 4 + 1, none⟩, .int .i64 (A.1)) (by simp)
                  have c1 := hS.cells (⟨g, iA * 4 + 1 + 1, none⟩, .int .i64 (A.2.1)) (by simp)
                  have c2 := hS.cells (⟨g, iA * 4 + 1 + 2, none⟩, .int .i64 (A.2.2)) (by simp)
                case' r17x5 =>
                  have D4 : aq.eval (.tmp 96) = _ := hdep 4
                case' r17x6 =>
                  have F0 : aq.eval (.tmp 0) = .slice (some ⟨g, 0, none⟩) n c' := hf 0
                case' r17x7 =>
                  have F8 : aq.eval (.tmp 8) = .int .i64 ((iB : Int)) := hf 8
                case' r17x8 =>
                  have D6 : aq.eval (.tmp 98) = _ := hdep 6
                  have D7 : aq.eval (.tmp 99) = _ := hdep 7
                case' r17x9 =>
                  have D8 : aq.eval (.tmp 100) = _ := hdep 8
                case' r17x10 =>
                  have D9 : aq.eval (.tmp 101) = _ := hdep 9
                  have c0 := hS.cells (⟨g, iB * 4 + 1, none⟩, .int .i64 (B.1)) (by simp)
                  have c1 := hS.cells (⟨g, iB * 4 + 1 + 1, none⟩, .int .i64 (B.2.1)) (by simp)
                  have c2 := hS.cells (⟨g, iB * 4 + 1 + 2, none⟩, .int .i64 (B.2.2)) (by simp)
                case' r17x11 =>
                  have D10 : aq.eval (.tmp 102) = _ := hdep 10
                case' r17x12 =>
                  have D5 : aq.eval (.tmp 97) = _ := hdep 5
                  have D11 : aq.eval (.tmp 103) = _ := hdep 11
                all_goals (clear hf hdep; unfold Oper.wp; generalize Act.eval _ = ev at *; go_simp)
                case' r17x2 =>
                  try rw [if_pos (by omega), Oper.upon_value]
                case r17x5 =>
                  refine ((foDisc_a A.1 A.2.1 A.2.2 _ hfa)).mono ?_
                  rintro e w2 ⟨rfl, hb⟩
                  refine hK _ _ (hS.call hb) ?_ (fun j u _ h => Kd.ok_below hb h)
                  rw [if_pos (by rfl)]
                  show (_ : Value) = _
                  first | rfl | (refine congrArg (Value.int .i64) ?_; first | rfl | exact int_in (by omega) | exact quo_in (by omega) (by omega) (by omega) | exact rem_in (by omega) (by omega) | omega | (simp [*]; done)) | (simp; done) | (simp [*]; done)
                case' r17x8 =>
                  try rw [if_pos (by omega), Oper.upon_value]
                case r17x11 =>
                  refine ((foDisc_a B.1 B.2.1 B.2.2 _ hfb)).mono ?_
                  rintro e w2 ⟨rfl, hb⟩
                  refine hK _ _ (hS.call hb) ?_ (fun j u _ h => Kd.ok_below hb h)
                  rw [if_pos (by rfl)]
                  show (_ : Value) = _
                  first | rfl | (refine congrArg (Value.int .i64) ?_; first | rfl | exact int_in (by omega) | exact quo_in (by omega) (by omega) (by omega) | exact rem_in (by omega) (by omega) | omega | (simp [*]; done)) | (simp; done) | (simp [*]; done)
                all_goals (refine hK _ _ hS ?_ (fun j u _ h => h); rw [if_pos (by rfl)]; show (_ : Value) = _; (first | rfl | (refine congrArg (Value.int .i64) ?_; first | rfl | exact int_in (by omega) | exact quo_in (by omega) (by omega) (by omega) | exact rem_in (by omega) (by omega) | omega | (simp [*]; done)) | (simp; done) | (simp [*]; done)))
              · intro aq wx hd hw hf hS hg
                have G104 : tau aq 104 = .bool false := hg 12 (by decide)
                have haq : aq = ⟨#[tau aq 0, tau aq 1, tau aq 2, tau aq 3, tau aq 4, tau aq 5, tau aq 6, tau aq 7, tau aq 8, tau aq 9, tau aq 10, tau aq 11, tau aq 12, tau aq 13, tau aq 14, tau aq 15, tau aq 16, tau aq 17, tau aq 18, tau aq 19, tau aq 20, tau aq 21, tau aq 22, tau aq 23, tau aq 24, tau aq 25, tau aq 26, tau aq 27, tau aq 28, tau aq 29, tau aq 30, tau aq 31, tau aq 32, tau aq 33, tau aq 34, tau aq 35, tau aq 36, tau aq 37, tau aq 38, tau aq 39, tau aq 40, tau aq 41, tau aq 42, tau aq 43, tau aq 44, tau aq 45, tau aq 46, tau aq 47, tau aq 48, tau aq 49, tau aq 50, tau aq 51, tau aq 52, tau aq 53, tau aq 54, tau aq 55, tau aq 56, tau aq 57, tau aq 58, tau aq 59, tau aq 60, tau aq 61, tau aq 62, tau aq 63, tau aq 64, tau aq 65, tau aq 66, tau aq 67, tau aq 68, tau aq 69, tau aq 70, tau aq 71, tau aq 72, tau aq 73, tau aq 74, tau aq 75, tau aq 76, tau aq 77, tau aq 78, tau aq 79, tau aq 80, tau aq 81, tau aq 82, tau aq 83, tau aq 84, tau aq 85, tau aq 86, tau aq 87, tau aq 88, tau aq 89, tau aq 90, tau aq 91, tau aq 92, tau aq 93, tau aq 94, tau aq 95, tau aq 96, tau aq 97, tau aq 98, tau aq 99, tau aq 100, tau aq 101, tau aq 102, tau aq 103, tau aq 104, tau aq 105, tau aq 106, tau aq 107, tau aq 108, tau aq 109, tau aq 110, tau aq 111, tau aq 112, tau aq 113, tau aq 114, tau aq 115, tau aq 116, tau aq 117, tau aq 118, tau aq 119, tau aq 120, tau aq 121, tau aq 122, tau aq 123, tau aq 124, tau aq 125, tau aq 126, tau aq 127, tau aq 128, tau aq 129, tau aq 130, tau aq 131, tau aq 132], []⟩ := by
                  obtain ⟨tq, dq⟩ := aq
                  have h5 := arr_eq (show tq.size = 133 from hw)
                  have h6 : dq = [] := hd
                  subst h6
                  exact congrArg (fun z => Act.mk z []) h5
                show K2 aq wx
                rw [haq, hf 0, hf 1, hf 2, hf 3, hf 4, hf 5, hf 6, hf 7, hf 8, hf 9, hf 10, hf 11, hf 12, hf 13, hf 14, hf 15, hf 16, hf 17, hf 18, hf 19, hf 20, hf 21, hf 22, hf 23, hf 24, hf 25, hf 26, hf 27, hf 28, hf 29, hf 30, hf 31, hf 32, hf 33, hf 34, hf 35, hf 36, hf 37, hf 38, hf 39, hf 40, hf 41, hf 42, hf 43, hf 44, hf 45, hf 46, hf 47, hf 48, hf 49, hf 50, hf 51, hf 52, hf 53, hf 54, hf 55, hf 56, hf 57, hf 58, hf 59, hf 60, hf 61, hf 62, hf 63, hf 64, hf 65, hf 66, hf 67, hf 68, hf 69, hf 70, hf 71, hf 72, hf 73, hf 74, hf 75, hf 76, hf 77, hf 78, hf 79, hf 80, hf 81, hf 82, hf 83, hf 84, hf 85, hf 86, hf 87, hf 88, hf 89, hf 90, hf 91, hf 105, hf 106, hf 107, hf 108, hf 109, hf 110, hf 111, hf 112, hf 113, hf 114, hf 115, hf 116, hf 117, hf 118, hf 119, hf 120, hf 121, hf 122, hf 123, hf 124, hf 125, hf 126, hf 127, hf 128, hf 129, hf 130, hf 131, hf 132, G104]
                clear haq hf hd hw
                try dsimp only
                refine h3 _ _ ?_
                go_meet
                exact ⟨rfl, hS.cells (⟨w.heap.size, 0, none⟩, .int .i64 3) (by simp), hS.cells (⟨w.heap.size, 1, none⟩, .string nm) (by simp), hS.cells (⟨w.heap.size, 2, none⟩, .string a) (by simp), hS.cells (⟨w.heap.size, 3, none⟩, .string b) (by simp), hS.cells (⟨w.heap.size, 4, none⟩, .int .i64 f0) (by simp), hS.cells (⟨w.heap.size, 5, none⟩, .int .i64 f1) (by simp), hS.cells (⟨w.heap.size, 6, none⟩, .int .i64 f2) (by simp), hS.cells (⟨g, iA * 4 + 1, none⟩, .int .i64 (A.1)) (by simp), hS.cells (⟨g, iA * 4 + 1 + 1, none⟩, .int .i64 (A.2.1)) (by simp), hS.cells (⟨g, iA * 4 + 1 + 2, none⟩, .int .i64 (A.2.2)) (by simp), hS.cells (⟨g, iB * 4 + 1, none⟩, .int .i64 (B.1)) (by simp), hS.cells (⟨g, iB * 4 + 1 + 1, none⟩, .int .i64 (B.2.1)) (by simp), hS.cells (⟨g, iB * 4 + 1 + 2, none⟩, .int .i64 (B.2.2)) (by simp), hS.cells (⟨wd1.heap.size, 0, none⟩, .int .i64 f0) (by simp), (hS.free ⟨wd1.heap.size, 0, none⟩ (by simp)).2, hS.cells (⟨wd1.heap.size, 1, none⟩, .int .i64 f1) (by simp), (hS.free ⟨wd1.heap.size, 1, none⟩ (by simp)).2, hS.cells (⟨wd1.heap.size, 2, none⟩, .int .i64 f2) (by simp), (hS.free ⟨wd1.heap.size, 2, none⟩ (by simp)).2, hS.below⟩
            try clear c00
            try clear c01
            try clear c02
            try clear c03
            try clear c04
            try clear c05
            try clear c06
            try clear c10
            try clear c11
            try clear c12
            try clear c13
            try clear c14
            try clear c15
            try clear c20
            try clear c21
            try clear c22
            clear dA0 dA1' dA2' dB0 dB1' dB2'
            obtain ⟨rfl, c00, c01, c02, c03, c04, c05, c06, c10, c11, c12, c13, c14, c15, c20, f20, c21, f21, c22, f22, hR16⟩ := hcut
            have z0 := World.block_lt_of_cell? _ _ c00
            have z1 := World.block_lt_of_cell? _ _ c10
            have z2 := World.block_lt_of_cell? _ _ c20
            change w.heap.size < wc.heap.size at z0
            change g < wc.heap.size at z1
            change wd1.heap.size < wc.heap.size at z2
            obtain ⟨wd16, rfl⟩ : ∃ wd : World, wd = wc := ⟨_, rfl⟩
            go_upto_region 18 with fail
            skip
            refine region_n0 (by kernel_rfl) (fun j => #[105,106,107,108,109,110,111,112,113,114,115,10].getD j 0) (fun j => Kd.ok ((fun j => match j with | 0 => Kd.val (.slice (some ⟨g, 0, none⟩) n c') | 1 => Kd.val (.int .i64 ((iA : Int))) | 2 => Kd.val (.pointer (some ⟨g, iA * 4, none⟩)) | 3 => Kd.val (.pointer (some ⟨g, iA * 4 + 1, none⟩)) | 4 => Kd.val (.agg #[.int .i64 (A.1), .int .i64 (A.2.1), .int .i64 (A.2.2)]) | 5 => Kd.val (.slice (some ⟨g, 0, none⟩) n c') | 6 => Kd.val (.int .i64 ((iB : Int))) | 7 => Kd.val (.pointer (some ⟨g, iB * 4, none⟩)) | 8 => Kd.val (.pointer (some ⟨g, iB * 4 + 1, none⟩)) | 9 => Kd.val (.agg #[.int .i64 (B.1), .int .i64 (B.2.1), .int .i64 (B.2.2)]) | 10 => Kd.val (.agg #[.int .i64 (C.1), .int .i64 (C.2.1), .int .i64 (C.2.2)]) | 11 => Kd.old (wd16.heap.size) [(⟨wd1.heap.size, 0, none⟩, .int .i64 (C.1)), (⟨wd1.heap.size, 1, none⟩, .int .i64 (C.2.1)), (⟨wd1.heap.size, 2, none⟩, .int .i64 (C.2.2))] | _ => Kd.any : Nat → Kd) j)) (Sy w (wd16.heap.size) [(⟨w.heap.size, 0, none⟩, .int .i64 3), (⟨w.heap.size, 1, none⟩, .string nm), (⟨w.heap.size, 2, none⟩, .string a), (⟨w.heap.size, 3, none⟩, .string b), (⟨w.heap.size, 4, none⟩, .int .i64 f0), (⟨w.heap.size, 5, none⟩, .int .i64 f1), (⟨w.heap.size, 6, none⟩, .int .i64 f2), (⟨g, iA * 4 + 1, none⟩, .int .i64 (A.1)), (⟨g, iA * 4 + 1 + 1, none⟩, .int .i64 (A.2.1)), (⟨g, iA * 4 + 1 + 2, none⟩, .int .i64 (A.2.2)), (⟨g, iB * 4 + 1, none⟩, .int .i64 (B.1)), (⟨g, iB * 4 + 1 + 1, none⟩, .int .i64 (B.2.1)), (⟨g, iB * 4 + 1 + 2, none⟩, .int .i64 (B.2.2))] [⟨wd1.heap.size, 0, none⟩, ⟨wd1.heap.size, 1, none⟩, ⟨wd1.heap.size, 2, none⟩]) (by kernel_rfl) (by kernel_rfl) ?_ ?_ ?_ ?_
            · intro j hj
              have hj2 : j < 12 := hj
              have : ∀ j, j < 12 → (#[105,106,107,108,109,110,111,112,113,114,115,10] : Array Nat).getD j 0 < 133 := by decide
              exact this j hj2
            · refine Sy.drew (Sy.mk_of ?_ ?_ ?_ ?_)
              · first | rfl | (simp; done) | (simp; omega)
              · intro c hc
                simp only [List.mem_cons, List.not_mem_nil, or_false] at hc
                rcases hc with rfl | rfl | rfl | rfl | rfl | rfl | rfl | rfl | rfl | rfl | rfl | rfl | rfl <;> exact byCT
              · intro p hp
                simp only [List.mem_cons, List.not_mem_nil, or_false] at hp
                rcases hp with rfl | rfl | rfl <;> exact ⟨by first | ((repeat' with_reducible (first | refine ex_set _ ?_ | refine ex_al _ ?_ | exact ⟨_, by assumption⟩)); done) | first | exact ⟨_, by assumption⟩ | assumption | (go_simp; done) | (go_simp; exact ⟨_, rfl⟩), by first | ((repeat' first | with_reducible (first | assumption | refine frz_al _ ?_ ?_ | refine frz_set _ ?_) | omega | (simp; omega)); done) | assumption | (go_simp; done)⟩
              · (repeat' first | with_reducible (first | exact Below.refl _ _ | assumption | refine gr_alloc ?_ _ | refine below_drewN ?_ _ | refine below_drew ?_ | refine gr_call ?_ (by assumption) | refine Below.setCell ?_ ?_ _) | go_size | omega | (simp; omega))
            · skip
              try clear c00
              try clear c01
              try clear c02
              try clear c03
              try clear c04
              try clear c05
              try clear c06
              try clear c10
              try clear c11
              try clear c12
              try clear c13
              try clear c14
              try clear c15
              try clear c20
              try clear c21
              try clear c22
              try clear f20
              try clear f21
              try clear f22
              refine ⟨?r16x0, ?r16x1, ?r16x2, ?r16x3, ?r16x4, ?r16x5, ?r16x6, ?r16x7, ?r16x8, ?r16x9, ?r16x10, ?r16x11, trivial⟩
              all_goals intro _ aq wx Kq hf hS hdep ev1 ev2 hK
              case' r16x0 =>
                have F0 : aq.eval (.tmp 0) = .slice (some ⟨g, 0, none⟩) n c' := hf 0
              case' r16x1 =>
                have F7 : aq.eval (.tmp 7) = .int .i64 ((iA : Int)) := hf 7
              case' r16x2 =>
                have D0 : aq.eval (.tmp 105) = _ := hdep 0
                have D1 : aq.eval (.tmp 106) = _ := hdep 1
              case' r16x3 =>
                have D2 : aq.eval (.tmp 107) = _ := hdep 2
              case' r16x4 =>
                have D3 : aq.eval (.tmp 108) = _ := hdep 3
                have c0 := hS.cells (⟨g, iA * 4 + 1, none⟩, .int .i64 (A.1)) (by simp)
                have c1 := hS.cells (⟨g, iA * 4 + 1 + 1, none⟩, .int .i64 (A.2.1)) (by simp)
                have c2 := hS.cells (⟨g, iA * 4 + 1 + 2, none⟩, .int .i64 (A.2.2)) (by simp)
              case' r16x5 =>
                have F0 : aq.eval (.tmp 0) = .slice (some ⟨g, 0, none⟩) n c' := hf 0
              case' r16x6 =>
                have F8 : aq.eval (.tmp 8) = .int .i64 ((iB : Int)) := hf 8
              case' r16x7 =>
                have D5 : aq.eval (.tmp 110) = _ := hdep 5
                have D6 : aq.eval (.tmp 111) = _ := hdep 6
              case' r16x8 =>
                have D7 : aq.eval (.tmp 112) = _ := hdep 7
              case' r16x9 =>
                have D8 : aq.eval (.tmp 113) = _ := hdep 8
                have c0 := hS.cells (⟨g, iB * 4 + 1, none⟩, .int .i64 (B.1)) (by simp)
                have c1 := hS.cells (⟨g, iB * 4 + 1 + 1, none⟩, .int .i64 (B.2.1)) (by simp)
                have c2 := hS.cells (⟨g, iB * 4 + 1 + 2, none⟩, .int .i64 (B.2.2)) (by simp)
              case' r16x10 =>
                have D4 : aq.eval (.tmp 109) = _ := hdep 4
                have D9 : aq.eval (.tmp 114) = _ := hdep 9
              case' r16x11 =>
                have D10 : aq.eval (.tmp 115) = _ := hdep 10
                have F10 : aq.eval (.tmp 10) = .pointer (some ⟨wd1.heap.size, 0, none⟩) := hf 10
                obtain ⟨⟨vx0, cx0⟩, cf0⟩ := hS.free ⟨wd1.heap.size, 0, none⟩ (by simp)
                obtain ⟨⟨vx1, cx1⟩, cf1⟩ := hS.free ⟨wd1.heap.size, 1, none⟩ (by simp)
                obtain ⟨⟨vx2, cx2⟩, cf2⟩ := hS.free ⟨wd1.heap.size, 2, none⟩ (by simp)
              all_goals (clear hf hdep; unfold Oper.wp; generalize Act.eval _ = ev at *; go_simp)
              case' r16x2 =>
                try rw [if_pos (by omega), Oper.upon_value]
              case' r16x7 =>
                try rw [if_pos (by omega), Oper.upon_value]
              case r16x10 =>
                refine ((coMul_b A B C _ hcA hcB hdd.symm (unhide HCC))).mono ?_
                rintro e w2 ⟨rfl, hb⟩
                refine hK _ _ (hS.call hb) ?_ (fun j u _ h => Kd.ok_below hb h)
                rw [if_pos (by rfl)]
                show (_ : Value) = _
                first | rfl | (refine congrArg (Value.int .i64) ?_; first | rfl | exact int_in (by omega) | exact quo_in (by omega) (by omega) (by omega) | exact rem_in (by omega) (by omega) | omega | rfl | (simp [*]; done)) | (simp; done) | (simp [*]; done)
              case r16x11 =>
                refine hK undef (setAll wd1.heap.size 0 [.int .i64 (C.1), .int .i64 (C.2.1), .int .i64 (C.2.2)] wx) (Sy.setAll (by first | omega | (simp; omega) | (simp; done)) (fa (far_blk (by first | (with_reducible assumption) | omega)) (fa (far_blk (by first | (with_reducible assumption) | omega)) (fa (far_blk (by first | (with_reducible assumption) | omega)) (fa (far_blk (by first | (with_reducible assumption) | omega)) (fa (far_blk (by first | (with_reducible assumption) | omega)) (fa (far_blk (by first | (with_reducible assumption) | omega)) (fa (far_blk (by first | (with_reducible assumption) | omega)) (fa (far_blk (by first | (with_reducible assumption) | omega)) (fa (far_blk (by first | (with_reducible assumption) | omega)) (fa (far_blk (by first | (with_reducible assumption) | omega)) (fa (far_blk (by first | (with_reducible assumption) | omega)) (fa (far_blk (by first | (with_reducible assumption) | omega)) (fa (far_blk (by first | (with_reducible assumption) | omega)) (fa0)))))))))))))) hS) ?_ (fun j u hj h => ?_)
                · rw [if_neg (by decide)]
                  exact fa ⟨setAll_at wd1.heap.size [.int .i64 (C.1), .int .i64 (C.2.1), .int .i64 (C.2.2)] 0 wx 0 (show 0 < 3 by decide) ⟨vx0, cx0⟩, (by first | omega | (simp; omega) | (simp; done))⟩ (fa ⟨setAll_at wd1.heap.size [.int .i64 (C.1), .int .i64 (C.2.1), .int .i64 (C.2.2)] 0 wx 1 (show 1 < 3 by decide) ⟨vx1, cx1⟩, (by first | omega | (simp; omega) | (simp; done))⟩ (fa ⟨setAll_at wd1.heap.size [.int .i64 (C.1), .int .i64 (C.2.1), .int .i64 (C.2.2)] 0 wx 2 (show 2 < 3 by decide) ⟨vx2, cx2⟩, (by first | omega | (simp; omega) | (simp; done))⟩ (fa0)))
                · match j, hj with
                  | 0, hj => exact (show (u : Value) = _ from h)
                  | 1, hj => exact (show (u : Value) = _ from h)
                  | 2, hj => exact (show (u : Value) = _ from h)
                  | 3, hj => exact (show (u : Value) = _ from h)
                  | 4, hj => exact (show (u : Value) = _ from h)
                  | 5, hj => exact (show (u : Value) = _ from h)
                  | 6, hj => exact (show (u : Value) = _ from h)
                  | 7, hj => exact (show (u : Value) = _ from h)
                  | 8, hj => exact (show (u : Value) = _ from h)
                  | 9, hj => exact (show (u : Value) = _ from h)
                  | 10, hj => exact (show (u : Value) = _ from h)
                  | 11, hj => exact absurd rfl hj
                  | j + 12, _ => trivial
              all_goals (refine hK _ _ hS ?_ (fun j u _ h => h); rw [if_pos (by rfl)]; show (_ : Value) = _; (first | rfl | (refine congrArg (Value.int .i64) ?_; first | rfl | exact int_in (by omega) | exact quo_in (by omega) (by omega) (by omega) | exact rem_in (by omega) (by omega) | omega | rfl | (simp [*]; done)) | (simp; done) | (simp [*]; done)))
            · intro aq wx hd hw hf hS hg
              try clear c00
              try clear c01
              try clear c02
              try clear c03
              try clear c04
              try clear c05
              try clear c06
              try clear c10
              try clear c11
              try clear c12
              try clear c13
              try clear c14
              try clear c15
              try clear c20
              try clear c21
              try clear c22
              try clear f20
              try clear f21
              try clear f22
              have haq : aq = ⟨#[tau aq 0, tau aq 1, tau aq 2, tau aq 3, tau aq 4, tau aq 5, tau aq 6, tau aq 7, tau aq 8, tau aq 9, tau aq 10, tau aq 11, tau aq 12, tau aq 13, tau aq 14, tau aq 15, tau aq 16, tau aq 17, tau aq 18, tau aq 19, tau aq 20, tau aq 21, tau aq 22, tau aq 23, tau aq 24, tau aq 25, tau aq 26, tau aq 27, tau aq 28, tau aq 29, tau aq 30, tau aq 31, tau aq 32, tau aq 33, tau aq 34, tau aq 35, tau aq 36, tau aq 37, tau aq 38, tau aq 39, tau aq 40, tau aq 41, tau aq 42, tau aq 43, tau aq 44, tau aq 45, tau aq 46, tau aq 47, tau aq 48, tau aq 49, tau aq 50, tau aq 51, tau aq 52, tau aq 53, tau aq 54, tau aq 55, tau aq 56, tau aq 57, tau aq 58, tau aq 59, tau aq 60, tau aq 61, tau aq 62, tau aq 63, tau aq 64, tau aq 65, tau aq 66, tau aq 67, tau aq 68, tau aq 69, tau aq 70, tau aq 71, tau aq 72, tau aq 73, tau aq 74, tau aq 75, tau aq 76, tau aq 77, tau aq 78, tau aq 79, tau aq 80, tau aq 81, tau aq 82, tau aq 83, tau aq 84, tau aq 85, tau aq 86, tau aq 87, tau aq 88, tau aq 89, tau aq 90, tau aq 91, tau aq 92, tau aq 93, tau aq 94, tau aq 95, tau aq 96, tau aq 97, tau aq 98, tau aq 99, tau aq 100, tau aq 101, tau aq 102, tau aq 103, tau aq 104, tau aq 105, tau aq 106, tau aq 107, tau aq 108, tau aq 109, tau aq 110, tau aq 111, tau aq 112, tau aq 113, tau aq 114, tau aq 115, tau aq 116, tau aq 117, tau aq 118, tau aq 119, tau aq 120, tau aq 121, tau aq 122, tau aq 123, tau aq 124, tau aq 125, tau aq 126, tau aq 127, tau aq 128, tau aq 129, tau aq 130, tau aq 131, tau aq 132], []⟩ := by
                obtain ⟨tq, dq⟩ := aq
                have h5 := arr_eq (show tq.size = 133 from hw)
                have h6 : dq = [] := hd
                subst h6
                exact congrArg (fun z => Act.mk z []) h5
              rw [haq, hf 0, hf 1, hf 2, hf 3, hf 4, hf 5, hf 6, hf 7, hf 8, hf 9, hf 10, hf 11, hf 12, hf 13, hf 14, hf 15, hf 16, hf 17, hf 18, hf 19, hf 20, hf 21, hf 22, hf 23, hf 24, hf 25, hf 26, hf 27, hf 28, hf 29, hf 30, hf 31, hf 32, hf 33, hf 34, hf 35, hf 36, hf 37, hf 38, hf 39, hf 40, hf 41, hf 42, hf 43, hf 44, hf 45, hf 46, hf 47, hf 48, hf 49, hf 50, hf 51, hf 52, hf 53, hf 54, hf 55, hf 56, hf 57, hf 58, hf 59, hf 60, hf 61, hf 62, hf 63, hf 64, hf 65, hf 66, hf 67, hf 68, hf 69, hf 70, hf 71, hf 72, hf 73, hf 74, hf 75, hf 76, hf 77, hf 78, hf 79, hf 80, hf 81, hf 82, hf 83, hf 84, hf 85, hf 86, hf 87, hf 88, hf 89, hf 90, hf 91, hf 92, hf 93, hf 94, hf 95, hf 96, hf 97, hf 98, hf 99, hf 100, hf 101, hf 102, hf 103, hf 104, hf 116, hf 117, hf 118, hf 119, hf 120, hf 121, hf 122, hf 123, hf 124, hf 125, hf 126, hf 127, hf 128, hf 129, hf 130, hf 131, hf 132]
              clear haq hf hd hw
              try dsimp only
              have c00 : wx.cell? ⟨w.heap.size, 0, none⟩ = some (.int .i64 3) := hS.cells (⟨w.heap.size, 0, none⟩, .int .i64 3) (by simp)
              have c01 : wx.cell? ⟨w.heap.size, 1, none⟩ = some (.string nm) := hS.cells (⟨w.heap.size, 1, none⟩, .string nm) (by simp)
              have c02 : wx.cell? ⟨w.heap.size, 2, none⟩ = some (.string a) := hS.cells (⟨w.heap.size, 2, none⟩, .string a) (by simp)
              have c03 : wx.cell? ⟨w.heap.size, 3, none⟩ = some (.string b) := hS.cells (⟨w.heap.size, 3, none⟩, .string b) (by simp)
              have c04 : wx.cell? ⟨w.heap.size, 4, none⟩ = some (.int .i64 f0) := hS.cells (⟨w.heap.size, 4, none⟩, .int .i64 f0) (by simp)
              have c05 : wx.cell? ⟨w.heap.size, 5, none⟩ = some (.int .i64 f1) := hS.cells (⟨w.heap.size, 5, none⟩, .int .i64 f1) (by simp)
              have c06 : wx.cell? ⟨w.heap.size, 6, none⟩ = some (.int .i64 f2) := hS.cells (⟨w.heap.size, 6, none⟩, .int .i64 f2) (by simp)
              have c10 : wx.cell? ⟨g, iA * 4 + 1, none⟩ = some (.int .i64 (A.1)) := hS.cells (⟨g, iA * 4 + 1, none⟩, .int .i64 (A.1)) (by simp)
              have c11 : wx.cell? ⟨g, iA * 4 + 1 + 1, none⟩ = some (.int .i64 (A.2.1)) := hS.cells (⟨g, iA * 4 + 1 + 1, none⟩, .int .i64 (A.2.1)) (by simp)
              have c12 : wx.cell? ⟨g, iA * 4 + 1 + 2, none⟩ = some (.int .i64 (A.2.2)) := hS.cells (⟨g, iA * 4 + 1 + 2, none⟩, .int .i64 (A.2.2)) (by simp)
              have c13 : wx.cell? ⟨g, iB * 4 + 1, none⟩ = some (.int .i64 (B.1)) := hS.cells (⟨g, iB * 4 + 1, none⟩, .int .i64 (B.1)) (by simp)
              have c14 : wx.cell? ⟨g, iB * 4 + 1 + 1, none⟩ = some (.int .i64 (B.2.1)) := hS.cells (⟨g, iB * 4 + 1 + 1, none⟩, .int .i64 (B.2.1)) (by simp)
              have c15 : wx.cell? ⟨g, iB * 4 + 1 + 2, none⟩ = some (.int .i64 (B.2.2)) := hS.cells (⟨g, iB * 4 + 1 + 2, none⟩, .int .i64 (B.2.2)) (by simp)
              have c20 : wx.cell? ⟨wd1.heap.size, 0, none⟩ = some (.int .i64 (C.1)) := (hg 11 (by decide) (⟨wd1.heap.size, 0, none⟩, .int .i64 (C.1)) (by simp)).1
              have f20 : wx.frozen? ⟨wd1.heap.size, 0, none⟩ = false := (hS.free ⟨wd1.heap.size, 0, none⟩ (by simp)).2
              have c21 : wx.cell? ⟨wd1.heap.size, 1, none⟩ = some (.int .i64 (C.2.1)) := (hg 11 (by decide) (⟨wd1.heap.size, 1, none⟩, .int .i64 (C.2.1)) (by simp)).1
              have f21 : wx.frozen? ⟨wd1.heap.size, 1, none⟩ = false := (hS.free ⟨wd1.heap.size, 1, none⟩ (by simp)).2
              have c22 : wx.cell? ⟨wd1.heap.size, 2, none⟩ = some (.int .i64 (C.2.2)) := (hg 11 (by decide) (⟨wd1.heap.size, 2, none⟩, .int .i64 (C.2.2)) (by simp)).1
              have f22 : wx.frozen? ⟨wd1.heap.size, 2, none⟩ = false := (hS.free ⟨wd1.heap.size, 2, none⟩ (by simp)).2
              have hb0 : Below w.heap.size w wx := hS.below
              have z0 := World.block_lt_of_cell? _ _ c00
              change w.heap.size < wx.heap.size at z0
              have z1 := World.block_lt_of_cell? _ _ c10
              change g < wx.heap.size at z1
              have z2 := World.block_lt_of_cell? _ _ c20
              change wd1.heap.size < wx.heap.size at z2
              clear hS hg
              unfold tau
              by_cases hl : n < 20
              · have HL : Hid (rnL E n ⟨3, nm, a, b, f0, f1, f2⟩ = W) := hide (by unfold rnL; rw [unhide HV, if_pos rfl, if_neg (by simp), unhide HWW, if_pos (by rw [unhide HWl]; omega)])
                have HC : Hid (rnC E n ⟨3, nm, a, b, f0, f1, f2⟩ = 0) := hide (by unfold rnC; rw [unhide HV, if_pos rfl, if_neg (by simp), unhide HWW, if_pos (by rw [unhide HWl]; omega)])
                have hl2 : ¬ (20 ≤ (n : Int)) := by omega
                clear hl
                go_wp2_with fail
                refine (lgPut_row g n c' E nm C.1 C.2.1 C.2.2 W _ (fun i hi => (unhide HR i hi).below byGG) hn hcc (unhide HFN) (unhide HW)).mono ?_
                rintro e8 w8 ⟨v8, rfl, hW, hb8⟩
                have hB8 : Below w.heap.size w w8 := byGG
                have hW2 := hW.low (lo' := w.heap.size) byGE
                clear hb8
                go_wp2
                refine bodyPost_ret (v := .tuple #[v8, .int .i64 0]) (by simp [results, Try.results49, go_sem, *]) rfl ?_
                exact ⟨_, by rw [unhide HC], by rw [unhide HL]; exact hW2, byGG⟩
              · have HL : Hid (rnL E n ⟨3, nm, a, b, f0, f1, f2⟩ = []) := hide (by unfold rnL; rw [unhide HV, if_pos rfl, if_neg (by simp), unhide HWW, if_neg (by rw [unhide HWl]; omega)])
                have HC : Hid (rnC E n ⟨3, nm, a, b, f0, f1, f2⟩ = 5) := hide (by unfold rnC; rw [unhide HV, if_pos rfl, if_neg (by simp), unhide HWW, if_neg (by rw [unhide HWl]; omega)])
                have hl2 : (20 ≤ (n : Int)) := by omega
                clear hl
                go_wp2
                refine bodyPost_ret (v := .tuple #[.slice none 0 0, .int .i64 5]) (by simp [results, Try.results49, go_sem, *]) rfl ?_
                exact ⟨_, by rw [unhide HC], by rw [unhide HL]; exact EL.nil _ _, byGG⟩
          · have HV : Hid (rcC E n ⟨3, nm, a, b, f0, f1, f2⟩ = 4) := hide (by rw [unhide HRC]; simp [rcD, ea, eb, hdd])
            have HL : Hid (rnL E n ⟨3, nm, a, b, f0, f1, f2⟩ = []) := hide (by unfold rnL; rw [unhide HV]; rfl)
            have HC : Hid (rnC E n ⟨3, nm, a, b, f0, f1, f2⟩ = 4) := hide (by unfold rnC; rw [unhide HV]; rfl)
            go_upto_region 16 with fail
            go_cut [104] (fun s104 wx => s104 = .bool true ∧ wx.cell? ⟨w.heap.size, 0, none⟩ = some (.int .i64 3) ∧ wx.cell? ⟨w.heap.size, 1, none⟩ = some (.string nm) ∧ wx.cell? ⟨w.heap.size, 2, none⟩ = some (.string a) ∧ wx.cell? ⟨w.heap.size, 3, none⟩ = some (.string b) ∧ wx.cell? ⟨w.heap.size, 4, none⟩ = some (.int .i64 f0) ∧ wx.cell? ⟨w.heap.size, 5, none⟩ = some (.int .i64 f1) ∧ wx.cell? ⟨w.heap.size, 6, none⟩ = some (.int .i64 f2) ∧ wx.cell? ⟨g, iA * 4 + 1, none⟩ = some (.int .i64 (A.1)) ∧ wx.cell? ⟨g, iA * 4 + 1 + 1, none⟩ = some (.int .i64 (A.2.1)) ∧ wx.cell? ⟨g, iA * 4 + 1 + 2, none⟩ = some (.int .i64 (A.2.2)) ∧ wx.cell? ⟨g, iB * 4 + 1, none⟩ = some (.int .i64 (B.1)) ∧ wx.cell? ⟨g, iB * 4 + 1 + 1, none⟩ = some (.int .i64 (B.2.1)) ∧ wx.cell? ⟨g, iB * 4 + 1 + 2, none⟩ = some (.int .i64 (B.2.2)) ∧ wx.cell? ⟨wd1.heap.size, 0, none⟩ = some (.int .i64 f0) ∧ wx.frozen? ⟨wd1.heap.size, 0, none⟩ = false ∧ wx.cell? ⟨wd1.heap.size, 1, none⟩ = some (.int .i64 f1) ∧ wx.frozen? ⟨wd1.heap.size, 1, none⟩ = false ∧ wx.cell? ⟨wd1.heap.size, 2, none⟩ = some (.int .i64 f2) ∧ wx.frozen? ⟨wd1.heap.size, 2, none⟩ = false ∧ Below w.heap.size w wx)
            case first =>
              have h1 := trivial
              rename_i K2 h2 h3
              refine region_n0 (by kernel_rfl) (fun j => #[92,93,94,95,96,97,98,99,100,101,102,103,104].getD j 0) (fun j => Kd.ok ((fun j => match j with | 0 => Kd.val (.slice (some ⟨g, 0, none⟩) n c') | 1 => Kd.val (.int .i64 ((iA : Int))) | 2 => Kd.val (.pointer (some ⟨g, iA * 4, none⟩)) | 3 => Kd.val (.pointer (some ⟨g, iA * 4 + 1, none⟩)) | 4 => Kd.val (.agg #[.int .i64 (A.1), .int .i64 (A.2.1), .int .i64 (A.2.2)]) | 5 => Kd.val (.int .i64 ((discI A.1 A.2.1 A.2.2))) | 6 => Kd.val (.slice (some ⟨g, 0, none⟩) n c') | 7 => Kd.val (.int .i64 ((iB : Int))) | 8 => Kd.val (.pointer (some ⟨g, iB * 4, none⟩)) | 9 => Kd.val (.pointer (some ⟨g, iB * 4 + 1, none⟩)) | 10 => Kd.val (.agg #[.int .i64 (B.1), .int .i64 (B.2.1), .int .i64 (B.2.2)]) | 11 => Kd.val (.int .i64 ((discI B.1 B.2.1 B.2.2))) | 12 => Kd.val (.bool true) | _ => Kd.any : Nat → Kd) j)) (Sy w (wd1.heap.size + 1) [(⟨w.heap.size, 0, none⟩, .int .i64 3), (⟨w.heap.size, 1, none⟩, .string nm), (⟨w.heap.size, 2, none⟩, .string a), (⟨w.heap.size, 3, none⟩, .string b), (⟨w.heap.size, 4, none⟩, .int .i64 f0), (⟨w.heap.size, 5, none⟩, .int .i64 f1), (⟨w.heap.size, 6, none⟩, .int .i64 f2), (⟨g, iA * 4 + 1, none⟩, .int .i64 (A.1)), (⟨g, iA * 4 + 1 + 1, none⟩, .int .i64 (A.2.1)), (⟨g, iA * 4 + 1 + 2, none⟩, .int .i64 (A.2.2)), (⟨g, iB * 4 + 1, none⟩, .int .i64 (B.1)), (⟨g, iB * 4 + 1 + 1, none⟩, .int .i64 (B.2.1)), (⟨g, iB * 4 + 1 + 2, none⟩, .int .i64 (B.2.2)), (⟨wd1.heap.size, 0, none⟩, .int .i64 f0), (⟨wd1.heap.size, 1, none⟩, .int .i64 f1), (⟨wd1.heap.size, 2, none⟩, .int .i64 f2)] [⟨wd1.heap.size, 0, none⟩, ⟨wd1.heap.size, 1, none⟩, ⟨wd1.heap.size, 2, none⟩]) (by kernel_rfl) (by kernel_rfl) ?_ ?_ ?_ ?_
              · intro j hj
                have hj2 : j < 13 := hj
                have : ∀ j, j < 13 → (#[92,93,94,95,96,97,98,99,100,101,102,103,104] : Array Nat).getD j 0 < 133 := by decide
                exact this j hj2
              · refine Sy.drew (Sy.mk_of ?_ ?_ ?_ ?_)
                · first | rfl | (simp; done) | (simp; omega)
                · intro c hc
                  simp only [List.mem_cons, List.not_mem_nil, or_false] at hc
                  rcases hc with rfl | rfl | rfl | rfl | rfl | rfl | rfl | rfl | rfl | rfl | rfl | rfl | rfl | rfl | rfl | rfl <;> exact byCT
                · intro p hp
                  simp only [List.mem_cons, List.not_mem_nil, or_false] at hp
                  rcases hp with rfl | rfl | rfl <;> exact ⟨by first | ((repeat' with_reducible (first | refine ex_set _ ?_ | refine ex_al _ ?_ | exact ⟨_, by assumption⟩)); done) | first | exact ⟨_, by assumption⟩ | assumption | (go_simp; done) | (go_simp; exact ⟨_, rfl⟩), by first | ((repeat' first | with_reducible (first | assumption | refine frz_al _ ?_ ?_ | refine frz_set _ ?_) | omega | (simp; omega)); done) | assumption | (go_simp; done)⟩
                · (repeat' first | with_reducible (first | exact Below.refl _ _ | assumption | refine gr_alloc ?_ _ | refine below_drewN ?_ _ | refine below_drew ?_ | refine gr_call ?_ (by assumption) | refine Below.setCell ?_ ?_ _) | go_size | omega | (simp; omega))
              · clear h1 h2 h3
                refine ⟨?r18x0, ?r18x1, ?r18x2, ?r18x3, ?r18x4, ?r18x5, ?r18x6, ?r18x7, ?r18x8, ?r18x9, ?r18x10, ?r18x11, ?r18x12, trivial⟩
                all_goals intro _ aq wx Kq hf hS hdep ev1 ev2 hK
                case' r18x0 =>
                  have F0 : aq.eval (.tmp 0) = .slice (some ⟨g, 0, none⟩) n c' := hf 0
                case' r18x1 =>
                  have F7 : aq.eval (.tmp 7) = .int .i64 ((iA : Int)) := hf 7
                case' r18x2 =>
                  have D0 : aq.eval (.tmp 92) = _ := hdep 0
                  have D1 : aq.eval (.tmp 93) = _ := hdep 1
                case' r18x3 =>
                  have D2 : aq.eval (.tmp 94) = _ := hdep 2
                case' r18x4 =>
                  have D3 : aq.eval (.tmp 95) = _ := hdep 3
                  have c0 := hS.cells (⟨g, iA * 4 + 1, none⟩, .int .i64 (A.1)) (by simp)
                  have c1 := hS.cells (⟨g, iA * 4 + 1 + 1, none⟩, .int .i64 (A.2.1)) (by simp)
                  have c2 := hS.cells (⟨g, iA * 4 + 1 + 2, none⟩, .int .i64 (A.2.2)) (by simp)
                case' r18x5 =>
                  have D4 : aq.eval (.tmp 96) = _ := hdep 4
                case' r18x6 =>
                  have F0 : aq.eval (.tmp 0) = .slice (some ⟨g, 0, none⟩) n c' := hf 0
                case' r18x7 =>
                  have F8 : aq.eval (.tmp 8) = .int .i64 ((iB : Int)) := hf 8
                case' r18x8 =>
                  have D6 : aq.eval (.tmp 98) = _ := hdep 6
                  have D7 : aq.eval (.tmp 99) = _ := hdep 7
                case' r18x9 =>
                  have D8 : aq.eval (.tmp 100) = _ := hdep 8
                case' r18x10 =>
                  have D9 : aq.eval (.tmp 101) = _ := hdep 9
                  have c0 := hS.cells (⟨g, iB * 4 + 1, none⟩, .int .i64 (B.1)) (by simp)
                  have c1 := hS.cells (⟨g, iB * 4 + 1 + 1, none⟩, .int .i64 (B.2.1)) (by simp)
                  have c2 := hS.cells (⟨g, iB * 4 + 1 + 2, none⟩, .int .i64 (B.2.2)) (by simp)
                case' r18x11 =>
                  have D10 : aq.eval (.tmp 102) = _ := hdep 10
                case' r18x12 =>
                  have D5 : aq.eval (.tmp 97) = _ := hdep 5
                  have D11 : aq.eval (.tmp 103) = _ := hdep 11
                all_goals (clear hf hdep; unfold Oper.wp; generalize Act.eval _ = ev at *; go_simp)
                case' r18x2 =>
                  try rw [if_pos (by omega), Oper.upon_value]
                case r18x5 =>
                  refine ((foDisc_a A.1 A.2.1 A.2.2 _ hfa)).mono ?_
                  rintro e w2 ⟨rfl, hb⟩
                  refine hK _ _ (hS.call hb) ?_ (fun j u _ h => Kd.ok_below hb h)
                  rw [if_pos (by rfl)]
                  show (_ : Value) = _
                  first | rfl | (refine congrArg (Value.int .i64) ?_; first | rfl | exact int_in (by omega) | exact quo_in (by omega) (by omega) (by omega) | exact rem_in (by omega) (by omega) | omega | (simp [*]; done)) | (simp; done) | (simp [*]; done)
                case' r18x8 =>
                  try rw [if_pos (by omega), Oper.upon_value]
                case r18x11 =>
                  refine ((foDisc_a B.1 B.2.1 B.2.2 _ hfb)).mono ?_
                  rintro e w2 ⟨rfl, hb⟩
                  refine hK _ _ (hS.call hb) ?_ (fun j u _ h => Kd.ok_below hb h)
                  rw [if_pos (by rfl)]
                  show (_ : Value) = _
                  first | rfl | (refine congrArg (Value.int .i64) ?_; first | rfl | exact int_in (by omega) | exact quo_in (by omega) (by omega) (by omega) | exact rem_in (by omega) (by omega) | omega | (simp [*]; done)) | (simp; done) | (simp [*]; done)
                all_goals (refine hK _ _ hS ?_ (fun j u _ h => h); rw [if_pos (by rfl)]; show (_ : Value) = _; (first | rfl | (refine congrArg (Value.int .i64) ?_; first | rfl | exact int_in (by omega) | exact quo_in (by omega) (by omega) (by omega) | exact rem_in (by omega) (by omega) | omega | (simp [*]; done)) | (simp; done) | (simp [*]; done)))
              · intro aq wx hd hw hf hS hg
                have G104 : tau aq 104 = .bool true := hg 12 (by decide)
                have haq : aq = ⟨#[tau aq 0, tau aq 1, tau aq 2, tau aq 3, tau aq 4, tau aq 5, tau aq 6, tau aq 7, tau aq 8, tau aq 9, tau aq 10, tau aq 11, tau aq 12, tau aq 13, tau aq 14, tau aq 15, tau aq 16, tau aq 17, tau aq 18, tau aq 19, tau aq 20, tau aq 21, tau aq 22, tau aq 23, tau aq 24, tau aq 25, tau aq 26, tau aq 27, tau aq 28, tau aq 29, tau aq 30, tau aq 31, tau aq 32, tau aq 33, tau aq 34, tau aq 35, tau aq 36, tau aq 37, tau aq 38, tau aq 39, tau aq 40, tau aq 41, tau aq 42, tau aq 43, tau aq 44, tau aq 45, tau aq 46, tau aq 47, tau aq 48, tau aq 49, tau aq 50, tau aq 51, tau aq 52, tau aq 53, tau aq 54, tau aq 55, tau aq 56, tau aq 57, tau aq 58, tau aq 59, tau aq 60, tau aq 61, tau aq 62, tau aq 63, tau aq 64, tau aq 65, tau aq 66, tau aq 67, tau aq 68, tau aq 69, tau aq 70, tau aq 71, tau aq 72, tau aq 73, tau aq 74, tau aq 75, tau aq 76, tau aq 77, tau aq 78, tau aq 79, tau aq 80, tau aq 81, tau aq 82, tau aq 83, tau aq 84, tau aq 85, tau aq 86, tau aq 87, tau aq 88, tau aq 89, tau aq 90, tau aq 91, tau aq 92, tau aq 93, tau aq 94, tau aq 95, tau aq 96, tau aq 97, tau aq 98, tau aq 99, tau aq 100, tau aq 101, tau aq 102, tau aq 103, tau aq 104, tau aq 105, tau aq 106, tau aq 107, tau aq 108, tau aq 109, tau aq 110, tau aq 111, tau aq 112, tau aq 113, tau aq 114, tau aq 115, tau aq 116, tau aq 117, tau aq 118, tau aq 119, tau aq 120, tau aq 121, tau aq 122, tau aq 123, tau aq 124, tau aq 125, tau aq 126, tau aq 127, tau aq 128, tau aq 129, tau aq 130, tau aq 131, tau aq 132], []⟩ := by
                  obtain ⟨tq, dq⟩ := aq
                  have h5 := arr_eq (show tq.size = 133 from hw)
                  have h6 : dq = [] := hd
                  subst h6
                  exact congrArg (fun z => Act.mk z []) h5
                show K2 aq wx
                rw [haq, hf 0, hf 1, hf 2, hf 3, hf 4, hf 5, hf 6, hf 7, hf 8, hf 9, hf 10, hf 11, hf 12, hf 13, hf 14, hf 15, hf 16, hf 17, hf 18, hf 19, hf 20, hf 21, hf 22, hf 23, hf 24, hf 25, hf 26, hf 27, hf 28, hf 29, hf 30, hf 31, hf 32, hf 33, hf 34, hf 35, hf 36, hf 37, hf 38, hf 39, hf 40, hf 41, hf 42, hf 43, hf 44, hf 45, hf 46, hf 47, hf 48, hf 49, hf 50, hf 51, hf 52, hf 53, hf 54, hf 55, hf 56, hf 57, hf 58, hf 59, hf 60, hf 61, hf 62, hf 63, hf 64, hf 65, hf 66, hf 67, hf 68, hf 69, hf 70, hf 71, hf 72, hf 73, hf 74, hf 75, hf 76, hf 77, hf 78, hf 79, hf 80, hf 81, hf 82, hf 83, hf 84, hf 85, hf 86, hf 87, hf 88, hf 89, hf 90, hf 91, hf 105, hf 106, hf 107, hf 108, hf 109, hf 110, hf 111, hf 112, hf 113, hf 114, hf 115, hf 116, hf 117, hf 118, hf 119, hf 120, hf 121, hf 122, hf 123, hf 124, hf 125, hf 126, hf 127, hf 128, hf 129, hf 130, hf 131, hf 132, G104]
                clear haq hf hd hw
                try dsimp only
                refine h3 _ _ ?_
                go_meet
                exact ⟨rfl, hS.cells (⟨w.heap.size, 0, none⟩, .int .i64 3) (by simp), hS.cells (⟨w.heap.size, 1, none⟩, .string nm) (by simp), hS.cells (⟨w.heap.size, 2, none⟩, .string a) (by simp), hS.cells (⟨w.heap.size, 3, none⟩, .string b) (by simp), hS.cells (⟨w.heap.size, 4, none⟩, .int .i64 f0) (by simp), hS.cells (⟨w.heap.size, 5, none⟩, .int .i64 f1) (by simp), hS.cells (⟨w.heap.size, 6, none⟩, .int .i64 f2) (by simp), hS.cells (⟨g, iA * 4 + 1, none⟩, .int .i64 (A.1)) (by simp), hS.cells (⟨g, iA * 4 + 1 + 1, none⟩, .int .i64 (A.2.1)) (by simp), hS.cells (⟨g, iA * 4 + 1 + 2, none⟩, .int .i64 (A.2.2)) (by simp), hS.cells (⟨g, iB * 4 + 1, none⟩, .int .i64 (B.1)) (by simp), hS.cells (⟨g, iB * 4 + 1 + 1, none⟩, .int .i64 (B.2.1)) (by simp), hS.cells (⟨g, iB * 4 + 1 + 2, none⟩, .int .i64 (B.2.2)) (by simp), hS.cells (⟨wd1.heap.size, 0, none⟩, .int .i64 f0) (by simp), (hS.free ⟨wd1.heap.size, 0, none⟩ (by simp)).2, hS.cells (⟨wd1.heap.size, 1, none⟩, .int .i64 f1) (by simp), (hS.free ⟨wd1.heap.size, 1, none⟩ (by simp)).2, hS.cells (⟨wd1.heap.size, 2, none⟩, .int .i64 f2) (by simp), (hS.free ⟨wd1.heap.size, 2, none⟩ (by simp)).2, hS.below⟩
            try clear c00
            try clear c01
            try clear c02
            try clear c03
            try clear c04
            try clear c05
            try clear c06
            try clear c10
            try clear c11
            try clear c12
            try clear c13
            try clear c14
            try clear c15
            try clear c20
            try clear c21
            try clear c22
            clear dA0 dA1' dA2' dB0 dB1' dB2'
            obtain ⟨rfl, c00, c01, c02, c03, c04, c05, c06, c10, c11, c12, c13, c14, c15, c20, f20, c21, f21, c22, f22, hR16⟩ := hcut
            have z0 := World.block_lt_of_cell? _ _ c00
            have z1 := World.block_lt_of_cell? _ _ c10
            have z2 := World.block_lt_of_cell? _ _ c20
            change w.heap.size < wc.heap.size at z0
            change g < wc.heap.size at z1
            change wd1.heap.size < wc.heap.size at z2
            obtain ⟨wd16, rfl⟩ : ∃ wd : World, wd = wc := ⟨_, rfl⟩
            go_wp2
            refine bodyPost_ret (v := .tuple #[.slice none 0 0, .int .i64 4]) (by simp [results, Try.results49, go_sem, *]) rfl ?_
            exact ⟨_, by rw [unhide HC], by rw [unhide HL]; exact EL.nil _ _, byGG⟩
    · have HFN := hide hfN
      clear hfN
      have HV : Hid (rcC E n ⟨3, nm, a, b, f0, f1, f2⟩ = 2) := hide (by rw [unhide HRC]; simp [rcD, ea, eb])
      have HL : Hid (rnL E n ⟨3, nm, a, b, f0, f1, f2⟩ = []) := hide (by unfold rnL; rw [unhide HV]; rfl)
      have HC : Hid (rnC E n ⟨3, nm, a, b, f0, f1, f2⟩ = 2) := hide (by unfold rnC; rw [unhide HV]; rfl)
      go_wp2
      refine bodyPost_ret (v := .tuple #[.slice none 0 0, .int .i64 2]) (by simp [results, Try.results49, go_sem, *]) rfl ?_
      exact ⟨_, by rw [unhide HC], by rw [unhide HL]; exact EL.nil _ _, byGG⟩
  · replace ea := nm_em ea
    have ea1 : ¬ a.toList = [] := by simpa [emB] using ea
    have ea2 : a.toList.isEmpty = false := by simpa using ea1
    have eb1 : b.toList = [] := by simpa [emB] using eb
    rcases unhide TN with ⟨rfl, rfl, hfN⟩ | ⟨iN, rfl, rfl, hfN, hlN, heN⟩
    · have HFN := hide hfN
      clear hfN
      rcases unhide TA with ⟨rfl, rfl, hfA⟩ | ⟨iA, rfl, rfl, hfA, hlA, heA⟩
      · have HFA := hide hfA
        clear hfA
        have HV : Hid (rcC E n ⟨4, nm, a, b, f0, f1, f2⟩ = 3) := hide (by rw [unhide HRC]; simp [rcD, ea, eb])
        have HL : Hid (rnL E n ⟨4, nm, a, b, f0, f1, f2⟩ = []) := hide (by unfold rnL; rw [unhide HV]; rfl)
        have HC : Hid (rnC E n ⟨4, nm, a, b, f0, f1, f2⟩ = 3) := hide (by unfold rnC; rw [unhide HV]; rfl)
        go_wp2
        refine bodyPost_ret (v := .tuple #[.slice none 0 0, .int .i64 3]) (by simp [results, Try.results49, go_sem, *]) rfl ?_
        exact ⟨_, by rw [unhide HC], by rw [unhide HL]; exact EL.nil _ _, byGG⟩
      · have HFA := hide hfA
        clear hfA
        have dA := ((unhide HR iA hlA).below (show Below w.heap.size w wd1 from hR1)).2
        obtain ⟨dA0, dA1, dA2⟩ := dA
        rw [← heA] at dA0 dA1 dA2
        have dA1' : wd1.cell? ⟨g, iA * 4 + 1 + 1, none⟩ = some (.int .i64 A.2.1) := dA1
        have dA2' : wd1.cell? ⟨g, iA * 4 + 1 + 2, none⟩ = some (.int .i64 A.2.2) := dA2
        have hciA : (iA : Int) < (n : Int) := by omega
        have hglA : g < wd1.heap.size := World.block_lt_of_cell? _ _ dA0
        clear dA1 dA2
        have HEA := hide heA
        clear heA
        have hcA := unhide CA rfl
        have hfA := (form_true (class_form hcA)).2.1
        have hoA := okF_opp (okF_of hcA) hfA
        have HV : Hid (rcC E n ⟨4, nm, a, b, f0, f1, f2⟩ = 0) := hide (by rw [unhide HRC]; simp [rcD, ea, eb])

        obtain ⟨C, hC⟩ : ∃ C, C = rfN (A.1, -A.2.1, A.2.2) := ⟨_, rfl⟩
        have HCC := hide hC
        obtain ⟨W, hW0⟩ : ∃ W, W = weL (atE (woL E nm n)) ⟨nm, (C.1, C.2.1, C.2.2)⟩ (woL E nm n).length := ⟨_, rfl⟩
        have HW := hide hW0
        have HWW : Hid (rnW E n ⟨4, nm, a, b, f0, f1, f2⟩ = W) := hide (by rw [hW0]; unfold rnW rnF; rw [if_neg (by simp), if_pos rfl, ← unhide HA, hC]; rfl)
        have HWl : Hid (W.length = n + 1) := hide (by rw [hW0, weL_size, wo_size_none (unhide HFN)])
        clear hW0
        clear hC
        go_wp2_with fail
        refine (coInverse_b A.1 A.2.1 A.2.2 C _ hfA hoA (unhide HCC)).mono ?_
        rintro e4 w4 ⟨rfl, hb4⟩
        have hcs9 := cells_calls hb4 [⟨w.heap.size, 0, none⟩, ⟨w.heap.size, 1, none⟩, ⟨w.heap.size, 2, none⟩, ⟨w.heap.size, 3, none⟩, ⟨w.heap.size, 4, none⟩, ⟨w.heap.size, 5, none⟩, ⟨w.heap.size, 6, none⟩, ⟨wd1.heap.size, 0, none⟩, ⟨wd1.heap.size, 1, none⟩, ⟨wd1.heap.size, 2, none⟩] [.int .i64 4, .string nm, .string a, .string b, .int .i64 f0, .int .i64 f1, .int .i64 f2, .int .i64 f0, .int .i64 f1, .int .i64 f2] (by refine ⟨?_, ?_, ?_, ?_, ?_, ?_, ?_, ?_, ?_, ?_, trivial⟩ <;> exact byCT)
        have hfs9 := frees_calls hb4 [⟨wd1.heap.size, 0, none⟩, ⟨wd1.heap.size, 1, none⟩, ⟨wd1.heap.size, 2, none⟩] (by refine ⟨?_, ?_, ?_, trivial⟩ <;> first | with_reducible assumption | omega | (simp; omega) | (simp; done)) (by refine ⟨?_, ?_, ?_, trivial⟩ <;> exact byFT)
        have hzs9 := blocks_calls hb4 [w.heap.size, wd1.heap.size] (by refine ⟨?_, ?_, trivial⟩ <;> first | with_reducible assumption | omega | (simp; omega) | (simp; done))
        try clear c00 c01 c02 c03 c04 c05 c06
        try clear c10 c11 c12 f10 f11 f12
        obtain ⟨c00, c01, c02, c03, c04, c05, c06, c10, c11, c12, -⟩ := hcs9
        obtain ⟨f10, f11, f12, -⟩ := hfs9
        obtain ⟨z0, z1, -⟩ := hzs9
        have hs4 := hb4.size
        have hB4 : Below w.heap.size w w4 := byGG
        clear hb4
        clear dA0 dA1' dA2'
        by_cases hl : n < 20
        · have HL : Hid (rnL E n ⟨4, nm, a, b, f0, f1, f2⟩ = W) := hide (by unfold rnL; rw [unhide HV, if_pos rfl, if_neg (by simp), unhide HWW, if_pos (by rw [unhide HWl]; omega)])
          have HC : Hid (rnC E n ⟨4, nm, a, b, f0, f1, f2⟩ = 0) := hide (by unfold rnC; rw [unhide HV, if_pos rfl, if_neg (by simp), unhide HWW, if_pos (by rw [unhide HWl]; omega)])
          have hl2 : ¬ (20 ≤ (n : Int)) := by omega
          clear hl
          go_wp2_with fail
          refine (lgPut_row g n c' E nm C.1 C.2.1 C.2.2 W _ (fun i hi => (unhide HR i hi).below byGG) hn hcc (unhide HFN) (unhide HW)).mono ?_
          rintro e8 w8 ⟨v8, rfl, hW, hb8⟩
          have hB8 : Below w.heap.size w w8 := byGG
          have hW2 := hW.low (lo' := w.heap.size) byGE
          clear hb8
          go_wp2
          refine bodyPost_ret (v := .tuple #[v8, .int .i64 0]) (by simp [results, Try.results49, go_sem, *]) rfl ?_
          exact ⟨_, by rw [unhide HC], by rw [unhide HL]; exact hW2, byGG⟩
        · have HL : Hid (rnL E n ⟨4, nm, a, b, f0, f1, f2⟩ = []) := hide (by unfold rnL; rw [unhide HV, if_pos rfl, if_neg (by simp), unhide HWW, if_neg (by rw [unhide HWl]; omega)])
          have HC : Hid (rnC E n ⟨4, nm, a, b, f0, f1, f2⟩ = 5) := hide (by unfold rnC; rw [unhide HV, if_pos rfl, if_neg (by simp), unhide HWW, if_neg (by rw [unhide HWl]; omega)])
          have hl2 : (20 ≤ (n : Int)) := by omega
          clear hl
          go_wp2
          refine bodyPost_ret (v := .tuple #[.slice none 0 0, .int .i64 5]) (by simp [results, Try.results49, go_sem, *]) rfl ?_
          exact ⟨_, by rw [unhide HC], by rw [unhide HL]; exact EL.nil _ _, byGG⟩
    · have HFN := hide hfN
      clear hfN
      have HV : Hid (rcC E n ⟨4, nm, a, b, f0, f1, f2⟩ = 2) := hide (by rw [unhide HRC]; simp [rcD, ea, eb])
      have HL : Hid (rnL E n ⟨4, nm, a, b, f0, f1, f2⟩ = []) := hide (by unfold rnL; rw [unhide HV]; rfl)
      have HC : Hid (rnC E n ⟨4, nm, a, b, f0, f1, f2⟩ = 2) := hide (by unfold rnC; rw [unhide HV]; rfl)
      go_wp2
      refine bodyPost_ret (v := .tuple #[.slice none 0 0, .int .i64 2]) (by simp [results, Try.results49, go_sem, *]) rfl ?_
      exact ⟨_, by rw [unhide HC], by rw [unhide HL]; exact EL.nil _ _, byGG⟩
  · have ea1 : a.toList = [] := by simpa [emB] using ea
    have eb1 : b.toList = [] := by simpa [emB] using eb
    rcases unhide TN with ⟨rfl, rfl, hfN⟩ | ⟨iN, rfl, rfl, hfN, hlN, heN⟩
    · have HFN := hide hfN
      clear hfN
      have HV : Hid (rcC E n ⟨5, nm, a, b, f0, f1, f2⟩ = 3) := hide (by rw [unhide HRC]; simp [rcD, ea, eb])
      have HL : Hid (rnL E n ⟨5, nm, a, b, f0, f1, f2⟩ = []) := hide (by unfold rnL; rw [unhide HV]; rfl)
      have HC : Hid (rnC E n ⟨5, nm, a, b, f0, f1, f2⟩ = 3) := hide (by unfold rnC; rw [unhide HV]; rfl)
      go_wp2
      refine bodyPost_ret (v := .tuple #[.slice none 0 0, .int .i64 3]) (by simp [results, Try.results49, go_sem, *]) rfl ?_
      exact ⟨_, by rw [unhide HC], by rw [unhide HL]; exact EL.nil _ _, byGG⟩
    · have HFN := hide hfN
      clear hfN
      have dN := ((unhide HR iN hlN).below (show Below w.heap.size w wd1 from hR1)).2
      obtain ⟨dN0, dN1, dN2⟩ := dN
      rw [← heN] at dN0 dN1 dN2
      have dN1' : wd1.cell? ⟨g, iN * 4 + 1 + 1, none⟩ = some (.int .i64 N.2.1) := dN1
      have dN2' : wd1.cell? ⟨g, iN * 4 + 1 + 2, none⟩ = some (.int .i64 N.2.2) := dN2
      have hciN : (iN : Int) < (n : Int) := by omega
      have hglN : g < wd1.heap.size := World.block_lt_of_cell? _ _ dN0
      clear dN1 dN2
      have HEN := hide heN
      clear heN
      have hokN := okF_of (unhide CN rfl)
      have hokF : OkF f0 f1 f2 := okF_of cf
      obtain ⟨R, hR1⟩ : ∃ R, R = rfN (N.1, N.2.1, N.2.2) := ⟨_, rfl⟩
      obtain ⟨S, hS1⟩ : ∃ S, S = rfN (f0, f1, f2) := ⟨_, rfl⟩
      have HR1 := hide hR1
      have HS1 := hide hS1
      cases ke : eqN R S
      · have HV : Hid (rcC E n ⟨5, nm, a, b, f0, f1, f2⟩ = 4) := hide (by rw [unhide HRC]; rw [show N = (N.1, N.2.1, N.2.2) from rfl]; simp [rcD, ea, eb, ← hR1, ← hS1, ke])
        have HL : Hid (rnL E n ⟨5, nm, a, b, f0, f1, f2⟩ = []) := hide (by unfold rnL; rw [unhide HV]; rfl)
        have HC : Hid (rnC E n ⟨5, nm, a, b, f0, f1, f2⟩ = 4) := hide (by unfold rnC; rw [unhide HV]; rfl)
        have HK := hide ke
        clear ke hR1 hS1
        go_upto_region 12 with fail
        go_cut [80] (fun s80 wx => s80 = .bool (!eqN R S) ∧ wx.cell? ⟨w.heap.size, 0, none⟩ = some (.int .i64 5) ∧ wx.cell? ⟨w.heap.size, 1, none⟩ = some (.string nm) ∧ wx.cell? ⟨w.heap.size, 2, none⟩ = some (.string a) ∧ wx.cell? ⟨w.heap.size, 3, none⟩ = some (.string b) ∧ wx.cell? ⟨w.heap.size, 4, none⟩ = some (.int .i64 f0) ∧ wx.cell? ⟨w.heap.size, 5, none⟩ = some (.int .i64 f1) ∧ wx.cell? ⟨w.heap.size, 6, none⟩ = some (.int .i64 f2) ∧ wx.cell? ⟨g, iN * 4 + 1, none⟩ = some (.int .i64 (N.1)) ∧ wx.cell? ⟨g, iN * 4 + 1 + 1, none⟩ = some (.int .i64 (N.2.1)) ∧ wx.cell? ⟨g, iN * 4 + 1 + 2, none⟩ = some (.int .i64 (N.2.2)) ∧ wx.cell? ⟨wd1.heap.size, 0, none⟩ = some (.int .i64 f0) ∧ wx.frozen? ⟨wd1.heap.size, 0, none⟩ = false ∧ wx.cell? ⟨wd1.heap.size, 1, none⟩ = some (.int .i64 f1) ∧ wx.frozen? ⟨wd1.heap.size, 1, none⟩ = false ∧ wx.cell? ⟨wd1.heap.size, 2, none⟩ = some (.int .i64 f2) ∧ wx.frozen? ⟨wd1.heap.size, 2, none⟩ = false ∧ Below w.heap.size w wx)
        case first =>
          have h1 := trivial
          rename_i K2 h2 h3
          refine region_n0 (by kernel_rfl) (fun j => #[71,72,73,74,75,76,77,78,79,80].getD j 0) (fun j => Kd.ok ((fun j => match j with | 0 => Kd.val (.pointer (some ⟨w.heap.size, 4, none⟩)) | 1 => Kd.val (.agg #[.int .i64 f0, .int .i64 f1, .int .i64 f2]) | 2 => Kd.val (.agg #[.int .i64 (S.1), .int .i64 (S.2.1), .int .i64 (S.2.2)]) | 3 => Kd.val (.slice (some ⟨g, 0, none⟩) n c') | 4 => Kd.val (.int .i64 ((iN : Int))) | 5 => Kd.val (.pointer (some ⟨g, iN * 4, none⟩)) | 6 => Kd.val (.pointer (some ⟨g, iN * 4 + 1, none⟩)) | 7 => Kd.val (.agg #[.int .i64 (N.1), .int .i64 (N.2.1), .int .i64 (N.2.2)]) | 8 => Kd.val (.agg #[.int .i64 (R.1), .int .i64 (R.2.1), .int .i64 (R.2.2)]) | 9 => Kd.val (.bool (!eqN R S)) | _ => Kd.any : Nat → Kd) j)) (Sy w (wd1.heap.size + 1) [(⟨w.heap.size, 0, none⟩, .int .i64 5), (⟨w.heap.size, 1, none⟩, .string nm), (⟨w.heap.size, 2, none⟩, .string a), (⟨w.heap.size, 3, none⟩, .string b), (⟨w.heap.size, 4, none⟩, .int .i64 f0), (⟨w.heap.size, 5, none⟩, .int .i64 f1), (⟨w.heap.size, 6, none⟩, .int .i64 f2), (⟨g, iN * 4 + 1, none⟩, .int .i64 (N.1)), (⟨g, iN * 4 + 1 + 1, none⟩, .int .i64 (N.2.1)), (⟨g, iN * 4 + 1 + 2, none⟩, .int .i64 (N.2.2)), (⟨wd1.heap.size, 0, none⟩, .int .i64 f0), (⟨wd1.heap.size, 1, none⟩, .int .i64 f1), (⟨wd1.heap.size, 2, none⟩, .int .i64 f2)] [⟨wd1.heap.size, 0, none⟩, ⟨wd1.heap.size, 1, none⟩, ⟨wd1.heap.size, 2, none⟩]) (by kernel_rfl) (by kernel_rfl) ?_ ?_ ?_ ?_
          · intro j hj
            have hj2 : j < 10 := hj
            have : ∀ j, j < 10 → (#[71,72,73,74,75,76,77,78,79,80] : Array Nat).getD j 0 < 133 := by decide
            exact this j hj2
          · refine Sy.drew (Sy.mk_of ?_ ?_ ?_ ?_)
            · first | rfl | (simp; done) | (simp; omega)
            · intro c hc
              simp only [List.mem_cons, List.not_mem_nil, or_false] at hc
              rcases hc with rfl | rfl | rfl | rfl | rfl | rfl | rfl | rfl | rfl | rfl | rfl | rfl | rfl <;> exact byCT
            · intro p hp
              simp only [List.mem_cons, List.not_mem_nil, or_false] at hp
              rcases hp with rfl | rfl | rfl <;> exact ⟨by first | ((repeat' with_reducible (first | refine ex_set _ ?_ | refine ex_al _ ?_ | exact ⟨_, by assumption⟩)); done) | first | exact ⟨_, by assumption⟩ | assumption | (go_simp; done) | (go_simp; exact ⟨_, rfl⟩), by first | ((repeat' first | with_reducible (first | assumption | refine frz_al _ ?_ ?_ | refine frz_set _ ?_) | omega | (simp; omega)); done) | assumption | (go_simp; done)⟩
            · (repeat' first | with_reducible (first | exact Below.refl _ _ | assumption | refine gr_alloc ?_ _ | refine below_drewN ?_ _ | refine below_drew ?_ | refine gr_call ?_ (by assumption) | refine Below.setCell ?_ ?_ _) | go_size | omega | (simp; omega))
          · clear h1 h2 h3
            refine ⟨?r19x0, ?r19x1, ?r19x2, ?r19x3, ?r19x4, ?r19x5, ?r19x6, ?r19x7, ?r19x8, ?r19x9, trivial⟩
            all_goals intro _ aq wx Kq hf hS hdep ev1 ev2 hK
            case' r19x0 =>
              have F3 : aq.eval (.tmp 3) = .pointer (some ⟨w.heap.size, 0, none⟩) := hf 3
            case' r19x1 =>
              have D0 : aq.eval (.tmp 71) = _ := hdep 0
              have c0 := hS.cells (⟨w.heap.size, 4, none⟩, .int .i64 f0) (by simp)
              have c1 := hS.cells (⟨w.heap.size, 5, none⟩, .int .i64 f1) (by simp)
              have c2 := hS.cells (⟨w.heap.size, 6, none⟩, .int .i64 f2) (by simp)
            case' r19x2 =>
              have D1 : aq.eval (.tmp 72) = _ := hdep 1
            case' r19x3 =>
              have F0 : aq.eval (.tmp 0) = .slice (some ⟨g, 0, none⟩) n c' := hf 0
            case' r19x4 =>
              have F6 : aq.eval (.tmp 6) = .int .i64 ((iN : Int)) := hf 6
            case' r19x5 =>
              have D3 : aq.eval (.tmp 74) = _ := hdep 3
              have D4 : aq.eval (.tmp 75) = _ := hdep 4
            case' r19x6 =>
              have D5 : aq.eval (.tmp 76) = _ := hdep 5
            case' r19x7 =>
              have D6 : aq.eval (.tmp 77) = _ := hdep 6
              have c0 := hS.cells (⟨g, iN * 4 + 1, none⟩, .int .i64 (N.1)) (by simp)
              have c1 := hS.cells (⟨g, iN * 4 + 1 + 1, none⟩, .int .i64 (N.2.1)) (by simp)
              have c2 := hS.cells (⟨g, iN * 4 + 1 + 2, none⟩, .int .i64 (N.2.2)) (by simp)
            case' r19x8 =>
              have D7 : aq.eval (.tmp 78) = _ := hdep 7
            case' r19x9 =>
              have D2 : aq.eval (.tmp 73) = _ := hdep 2
              have D8 : aq.eval (.tmp 79) = _ := hdep 8
            all_goals (clear hf hdep; unfold Oper.wp; generalize Act.eval _ = ev at *; go_simp)
            case r19x2 =>
              refine ((rdN_s f0 f1 f2 S _ hokF (unhide HS1))).mono ?_
              rintro e w2 ⟨rfl, hb⟩
              refine hK _ _ (hS.call hb) ?_ (fun j u _ h => Kd.ok_below hb h)
              rw [if_pos (by rfl)]
              show (_ : Value) = _
              first | rfl | (refine congrArg (Value.int .i64) ?_; first | rfl | exact int_in (by omega) | exact quo_in (by omega) (by omega) (by omega) | exact rem_in (by omega) (by omega) | omega | rfl | (simp [*]; done)) | (simp; done) | (simp [*]; done)
            case' r19x5 =>
              try rw [if_pos (by omega), Oper.upon_value]
            case r19x8 =>
              refine ((rdN_s N.1 N.2.1 N.2.2 R _ hokN (unhide HR1))).mono ?_
              rintro e w2 ⟨rfl, hb⟩
              refine hK _ _ (hS.call hb) ?_ (fun j u _ h => Kd.ok_below hb h)
              rw [if_pos (by rfl)]
              show (_ : Value) = _
              first | rfl | (refine congrArg (Value.int .i64) ?_; first | rfl | exact int_in (by omega) | exact quo_in (by omega) (by omega) (by omega) | exact rem_in (by omega) (by omega) | omega | rfl | (simp [*]; done)) | (simp; done) | (simp [*]; done)
            case' r19x9 =>
              rw [neN_resB, Oper.upon_value]
            all_goals (refine hK _ _ hS ?_ (fun j u _ h => h); rw [if_pos (by rfl)]; show (_ : Value) = _; (first | rfl | (refine congrArg (Value.int .i64) ?_; first | rfl | exact int_in (by omega) | exact quo_in (by omega) (by omega) (by omega) | exact rem_in (by omega) (by omega) | omega | rfl | (simp [*]; done)) | (simp; done) | (simp [*]; done)))
          · intro aq wx hd hw hf hS hg
            have G80 : tau aq 80 = .bool (!eqN R S) := hg 9 (by decide)
            have haq : aq = ⟨#[tau aq 0, tau aq 1, tau aq 2, tau aq 3, tau aq 4, tau aq 5, tau aq 6, tau aq 7, tau aq 8, tau aq 9, tau aq 10, tau aq 11, tau aq 12, tau aq 13, tau aq 14, tau aq 15, tau aq 16, tau aq 17, tau aq 18, tau aq 19, tau aq 20, tau aq 21, tau aq 22, tau aq 23, tau aq 24, tau aq 25, tau aq 26, tau aq 27, tau aq 28, tau aq 29, tau aq 30, tau aq 31, tau aq 32, tau aq 33, tau aq 34, tau aq 35, tau aq 36, tau aq 37, tau aq 38, tau aq 39, tau aq 40, tau aq 41, tau aq 42, tau aq 43, tau aq 44, tau aq 45, tau aq 46, tau aq 47, tau aq 48, tau aq 49, tau aq 50, tau aq 51, tau aq 52, tau aq 53, tau aq 54, tau aq 55, tau aq 56, tau aq 57, tau aq 58, tau aq 59, tau aq 60, tau aq 61, tau aq 62, tau aq 63, tau aq 64, tau aq 65, tau aq 66, tau aq 67, tau aq 68, tau aq 69, tau aq 70, tau aq 71, tau aq 72, tau aq 73, tau aq 74, tau aq 75, tau aq 76, tau aq 77, tau aq 78, tau aq 79, tau aq 80, tau aq 81, tau aq 82, tau aq 83, tau aq 84, tau aq 85, tau aq 86, tau aq 87, tau aq 88, tau aq 89, tau aq 90, tau aq 91, tau aq 92, tau aq 93, tau aq 94, tau aq 95, tau aq 96, tau aq 97, tau aq 98, tau aq 99, tau aq 100, tau aq 101, tau aq 102, tau aq 103, tau aq 104, tau aq 105, tau aq 106, tau aq 107, tau aq 108, tau aq 109, tau aq 110, tau aq 111, tau aq 112, tau aq 113, tau aq 114, tau aq 115, tau aq 116, tau aq 117, tau aq 118, tau aq 119, tau aq 120, tau aq 121, tau aq 122, tau aq 123, tau aq 124, tau aq 125, tau aq 126, tau aq 127, tau aq 128, tau aq 129, tau aq 130, tau aq 131, tau aq 132], []⟩ := by
              obtain ⟨tq, dq⟩ := aq
              have h5 := arr_eq (show tq.size = 133 from hw)
              have h6 : dq = [] := hd
              subst h6
              exact congrArg (fun z => Act.mk z []) h5
            show K2 aq wx
            rw [haq, hf 0, hf 1, hf 2, hf 3, hf 4, hf 5, hf 6, hf 7, hf 8, hf 9, hf 10, hf 11, hf 12, hf 13, hf 14, hf 15, hf 16, hf 17, hf 18, hf 19, hf 20, hf 21, hf 22, hf 23, hf 24, hf 25, hf 26, hf 27, hf 28, hf 29, hf 30, hf 31, hf 32, hf 33, hf 34, hf 35, hf 36, hf 37, hf 38, hf 39, hf 40, hf 41, hf 42, hf 43, hf 44, hf 45, hf 46, hf 47, hf 48, hf 49, hf 50, hf 51, hf 52, hf 53, hf 54, hf 55, hf 56, hf 57, hf 58, hf 59, hf 60, hf 61, hf 62, hf 63, hf 64, hf 65, hf 66, hf 67, hf 68, hf 69, hf 70, hf 81, hf 82, hf 83, hf 84, hf 85, hf 86, hf 87, hf 88, hf 89, hf 90, hf 91, hf 92, hf 93, hf 94, hf 95, hf 96, hf 97, hf 98, hf 99, hf 100, hf 101, hf 102, hf 103, hf 104, hf 105, hf 106, hf 107, hf 108, hf 109, hf 110, hf 111, hf 112, hf 113, hf 114, hf 115, hf 116, hf 117, hf 118, hf 119, hf 120, hf 121, hf 122, hf 123, hf 124, hf 125, hf 126, hf 127, hf 128, hf 129, hf 130, hf 131, hf 132, G80]
            clear haq hf hd hw
            try dsimp only
            refine h3 _ _ ?_
            go_meet
            exact ⟨rfl, hS.cells (⟨w.heap.size, 0, none⟩, .int .i64 5) (by simp), hS.cells (⟨w.heap.size, 1, none⟩, .string nm) (by simp), hS.cells (⟨w.heap.size, 2, none⟩, .string a) (by simp), hS.cells (⟨w.heap.size, 3, none⟩, .string b) (by simp), hS.cells (⟨w.heap.size, 4, none⟩, .int .i64 f0) (by simp), hS.cells (⟨w.heap.size, 5, none⟩, .int .i64 f1) (by simp), hS.cells (⟨w.heap.size, 6, none⟩, .int .i64 f2) (by simp), hS.cells (⟨g, iN * 4 + 1, none⟩, .int .i64 (N.1)) (by simp), hS.cells (⟨g, iN * 4 + 1 + 1, none⟩, .int .i64 (N.2.1)) (by simp), hS.cells (⟨g, iN * 4 + 1 + 2, none⟩, .int .i64 (N.2.2)) (by simp), hS.cells (⟨wd1.heap.size, 0, none⟩, .int .i64 f0) (by simp), (hS.free ⟨wd1.heap.size, 0, none⟩ (by simp)).2, hS.cells (⟨wd1.heap.size, 1, none⟩, .int .i64 f1) (by simp), (hS.free ⟨wd1.heap.size, 1, none⟩ (by simp)).2, hS.cells (⟨wd1.heap.size, 2, none⟩, .int .i64 f2) (by simp), (hS.free ⟨wd1.heap.size, 2, none⟩ (by simp)).2, hS.below⟩
        try clear c00
        try clear c01
        try clear c02
        try clear c03
        try clear c04
        try clear c05
        try clear c06
        try clear c10
        try clear c11
        try clear c12
        try clear c20
        try clear c21
        try clear c22
        clear dN0 dN1' dN2'
        obtain ⟨rfl, c00, c01, c02, c03, c04, c05, c06, c10, c11, c12, c20, f20, c21, f21, c22, f22, hR12⟩ := hcut
        have z0 := World.block_lt_of_cell? _ _ c00
        have z1 := World.block_lt_of_cell? _ _ c10
        have z2 := World.block_lt_of_cell? _ _ c20
        change w.heap.size < wc.heap.size at z0
        change g < wc.heap.size at z1
        change wd1.heap.size < wc.heap.size at z2
        obtain ⟨wd12, rfl⟩ : ∃ wd : World, wd = wc := ⟨_, rfl⟩
        rw [unhide HK]
        go_wp2
        refine bodyPost_ret (v := .tuple #[.slice none 0 0, .int .i64 4]) (by simp [results, Try.results49, go_sem, *]) rfl ?_
        exact ⟨_, by rw [unhide HC], by rw [unhide HL]; exact EL.nil _ _, byGG⟩
      · have HV : Hid (rcC E n ⟨5, nm, a, b, f0, f1, f2⟩ = 0) := hide (by rw [unhide HRC]; rw [show N = (N.1, N.2.1, N.2.2) from rfl]; simp [rcD, ea, eb, ← hR1, ← hS1, ke])

        have HK := hide ke
        obtain ⟨L, hL0⟩ : ∃ L, L = woL E nm n := ⟨_, rfl⟩
        have HL0 := hide hL0
        have HNE : Hid (∀ i, i < L.length → (atE L i).n ≠ nm) := hide (by rw [hL0]; exact fun i hi => at_wo n hi)
        have hLs : L.length + 1 = n := by rw [hL0]; exact wo_size_some (unhide HI) (unhide HFN)
        have HLl : Hid (L.length ≤ 2000000) := hide (by omega)
        obtain ⟨W, hW0⟩ : ∃ W, W = weL (atE L) ⟨nm, (f0, f1, f2)⟩ L.length := ⟨_, rfl⟩
        have HW := hide hW0
        have HWW : Hid (rnW E n ⟨5, nm, a, b, f0, f1, f2⟩ = W) := hide (by rw [hW0, hL0]; rfl)
        have HWl : Hid (W.length = n) := hide (by rw [hW0, weL_size]; exact hLs)
        have HL : Hid (rnL E n ⟨5, nm, a, b, f0, f1, f2⟩ = W) := hide (by unfold rnL; rw [unhide HV, if_pos rfl, if_neg (by simp), unhide HWW, if_pos (by rw [unhide HWl]; omega)])
        have HC : Hid (rnC E n ⟨5, nm, a, b, f0, f1, f2⟩ = 0) := hide (by unfold rnC; rw [unhide HV, if_pos rfl, if_neg (by simp), unhide HWW, if_pos (by rw [unhide HWl]; omega)])
        clear ke hR1 hS1 hL0 hW0 hLs
        go_upto_region 12 with fail
        go_cut [80] (fun s80 wx => s80 = .bool (!eqN R S) ∧ wx.cell? ⟨w.heap.size, 0, none⟩ = some (.int .i64 5) ∧ wx.cell? ⟨w.heap.size, 1, none⟩ = some (.string nm) ∧ wx.cell? ⟨w.heap.size, 2, none⟩ = some (.string a) ∧ wx.cell? ⟨w.heap.size, 3, none⟩ = some (.string b) ∧ wx.cell? ⟨w.heap.size, 4, none⟩ = some (.int .i64 f0) ∧ wx.cell? ⟨w.heap.size, 5, none⟩ = some (.int .i64 f1) ∧ wx.cell? ⟨w.heap.size, 6, none⟩ = some (.int .i64 f2) ∧ wx.cell? ⟨g, iN * 4 + 1, none⟩ = some (.int .i64 (N.1)) ∧ wx.cell? ⟨g, iN * 4 + 1 + 1, none⟩ = some (.int .i64 (N.2.1)) ∧ wx.cell? ⟨g, iN * 4 + 1 + 2, none⟩ = some (.int .i64 (N.2.2)) ∧ wx.cell? ⟨wd1.heap.size, 0, none⟩ = some (.int .i64 f0) ∧ wx.frozen? ⟨wd1.heap.size, 0, none⟩ = false ∧ wx.cell? ⟨wd1.heap.size, 1, none⟩ = some (.int .i64 f1) ∧ wx.frozen? ⟨wd1.heap.size, 1, none⟩ = false ∧ wx.cell? ⟨wd1.heap.size, 2, none⟩ = some (.int .i64 f2) ∧ wx.frozen? ⟨wd1.heap.size, 2, none⟩ = false ∧ Below w.heap.size w wx)
        case first =>
          have h1 := trivial
          rename_i K2 h2 h3
          refine region_n0 (by kernel_rfl) (fun j => #[71,72,73,74,75,76,77,78,79,80].getD j 0) (fun j => Kd.ok ((fun j => match j with | 0 => Kd.val (.pointer (some ⟨w.heap.size, 4, none⟩)) | 1 => Kd.val (.agg #[.int .i64 f0, .int .i64 f1, .int .i64 f2]) | 2 => Kd.val (.agg #[.int .i64 (S.1), .int .i64 (S.2.1), .int .i64 (S.2.2)]) | 3 => Kd.val (.slice (some ⟨g, 0, none⟩) n c') | 4 => Kd.val (.int .i64 ((iN : Int))) | 5 => Kd.val (.pointer (some ⟨g, iN * 4, none⟩)) | 6 => Kd.val (.pointer (some ⟨g, iN * 4 + 1, none⟩)) | 7 => Kd.val (.agg #[.int .i64 (N.1), .int .i64 (N.2.1), .int .i64 (N.2.2)]) | 8 => Kd.val (.agg #[.int .i64 (R.1), .int .i64 (R.2.1), .int .i64 (R.2.2)]) | 9 => Kd.val (.bool (!eqN R S)) | _ => Kd.any : Nat → Kd) j)) (Sy w (wd1.heap.size + 1) [(⟨w.heap.size, 0, none⟩, .int .i64 5), (⟨w.heap.size, 1, none⟩, .string nm), (⟨w.heap.size, 2, none⟩, .string a), (⟨w.heap.size, 3, none⟩, .string b), (⟨w.heap.size, 4, none⟩, .int .i64 f0), (⟨w.heap.size, 5, none⟩, .int .i64 f1), (⟨w.heap.size, 6, none⟩, .int .i64 f2), (⟨g, iN * 4 + 1, none⟩, .int .i64 (N.1)), (⟨g, iN * 4 + 1 + 1, none⟩, .int .i64 (N.2.1)), (⟨g, iN * 4 + 1 + 2, none⟩, .int .i64 (N.2.2)), (⟨wd1.heap.size, 0, none⟩, .int .i64 f0), (⟨wd1.heap.size, 1, none⟩, .int .i64 f1), (⟨wd1.heap.size, 2, none⟩, .int .i64 f2)] [⟨wd1.heap.size, 0, none⟩, ⟨wd1.heap.size, 1, none⟩, ⟨wd1.heap.size, 2, none⟩]) (by kernel_rfl) (by kernel_rfl) ?_ ?_ ?_ ?_
          · intro j hj
            have hj2 : j < 10 := hj
            have : ∀ j, j < 10 → (#[71,72,73,74,75,76,77,78,79,80] : Array Nat).getD j 0 < 133 := by decide
            exact this j hj2
          · refine Sy.drew (Sy.mk_of ?_ ?_ ?_ ?_)
            · first | rfl | (simp; done) | (simp; omega)
            · intro c hc
              simp only [List.mem_cons, List.not_mem_nil, or_false] at hc
              rcases hc with rfl | rfl | rfl | rfl | rfl | rfl | rfl | rfl | rfl | rfl | rfl | rfl | rfl <;> exact byCT
            · intro p hp
              simp only [List.mem_cons, List.not_mem_nil, or_false] at hp
              rcases hp with rfl | rfl | rfl <;> exact ⟨by first | ((repeat' with_reducible (first | refine ex_set _ ?_ | refine ex_al _ ?_ | exact ⟨_, by assumption⟩)); done) | first | exact ⟨_, by assumption⟩ | assumption | (go_simp; done) | (go_simp; exact ⟨_, rfl⟩), by first | ((repeat' first | with_reducible (first | assumption | refine frz_al _ ?_ ?_ | refine frz_set _ ?_) | omega | (simp; omega)); done) | assumption | (go_simp; done)⟩
            · (repeat' first | with_reducible (first | exact Below.refl _ _ | assumption | refine gr_alloc ?_ _ | refine below_drewN ?_ _ | refine below_drew ?_ | refine gr_call ?_ (by assumption) | refine Below.setCell ?_ ?_ _) | go_size | omega | (simp; omega))
          · clear h1 h2 h3
            refine ⟨?r21x0, ?r21x1, ?r21x2, ?r21x3, ?r21x4, ?r21x5, ?r21x6, ?r21x7, ?r21x8, ?r21x9, trivial⟩
            all_goals intro _ aq wx Kq hf hS hdep ev1 ev2 hK
            case' r21x0 =>
              have F3 : aq.eval (.tmp 3) = .pointer (some ⟨w.heap.size, 0, none⟩) := hf 3
            case' r21x1 =>
              have D0 : aq.eval (.tmp 71) = _ := hdep 0
              have c0 := hS.cells (⟨w.heap.size, 4, none⟩, .int .i64 f0) (by simp)
              have c1 := hS.cells (⟨w.heap.size, 5, none⟩, .int .i64 f1) (by simp)
              have c2 := hS.cells (⟨w.heap.size, 6, none⟩, .int .i64 f2) (by simp)
            case' r21x2 =>
              have D1 : aq.eval (.tmp 72) = _ := hdep 1
            case' r21x3 =>
              have F0 : aq.eval (.tmp 0) = .slice (some ⟨g, 0, none⟩) n c' := hf 0
            case' r21x4 =>
              have F6 : aq.eval (.tmp 6) = .int .i64 ((iN : Int)) := hf 6
            case' r21x5 =>
              have D3 : aq.eval (.tmp 74) = _ := hdep 3
              have D4 : aq.eval (.tmp 75) = _ := hdep 4
            case' r21x6 =>
              have D5 : aq.eval (.tmp 76) = _ := hdep 5
            case' r21x7 =>
              have D6 : aq.eval (.tmp 77) = _ := hdep 6
              have c0 := hS.cells (⟨g, iN * 4 + 1, none⟩, .int .i64 (N.1)) (by simp)
              have c1 := hS.cells (⟨g, iN * 4 + 1 + 1, none⟩, .int .i64 (N.2.1)) (by simp)
              have c2 := hS.cells (⟨g, iN * 4 + 1 + 2, none⟩, .int .i64 (N.2.2)) (by simp)
            case' r21x8 =>
              have D7 : aq.eval (.tmp 78) = _ := hdep 7
            case' r21x9 =>
              have D2 : aq.eval (.tmp 73) = _ := hdep 2
              have D8 : aq.eval (.tmp 79) = _ := hdep 8
            all_goals (clear hf hdep; unfold Oper.wp; generalize Act.eval _ = ev at *; go_simp)
            case r21x2 =>
              refine ((rdN_s f0 f1 f2 S _ hokF (unhide HS1))).mono ?_
              rintro e w2 ⟨rfl, hb⟩
              refine hK _ _ (hS.call hb) ?_ (fun j u _ h => Kd.ok_below hb h)
              rw [if_pos (by rfl)]
              show (_ : Value) = _
              first | rfl | (refine congrArg (Value.int .i64) ?_; first | rfl | exact int_in (by omega) | exact quo_in (by omega) (by omega) (by omega) | exact rem_in (by omega) (by omega) | omega | rfl | (simp [*]; done)) | (simp; done) | (simp [*]; done)
            case' r21x5 =>
              try rw [if_pos (by omega), Oper.upon_value]
            case r21x8 =>
              refine ((rdN_s N.1 N.2.1 N.2.2 R _ hokN (unhide HR1))).mono ?_
              rintro e w2 ⟨rfl, hb⟩
              refine hK _ _ (hS.call hb) ?_ (fun j u _ h => Kd.ok_below hb h)
              rw [if_pos (by rfl)]
              show (_ : Value) = _
              first | rfl | (refine congrArg (Value.int .i64) ?_; first | rfl | exact int_in (by omega) | exact quo_in (by omega) (by omega) (by omega) | exact rem_in (by omega) (by omega) | omega | rfl | (simp [*]; done)) | (simp; done) | (simp [*]; done)
            case' r21x9 =>
              rw [neN_resB, Oper.upon_value]
            all_goals (refine hK _ _ hS ?_ (fun j u _ h => h); rw [if_pos (by rfl)]; show (_ : Value) = _; (first | rfl | (refine congrArg (Value.int .i64) ?_; first | rfl | exact int_in (by omega) | exact quo_in (by omega) (by omega) (by omega) | exact rem_in (by omega) (by omega) | omega | rfl | (simp [*]; done)) | (simp; done) | (simp [*]; done)))
          · intro aq wx hd hw hf hS hg
            have G80 : tau aq 80 = .bool (!eqN R S) := hg 9 (by decide)
            have haq : aq = ⟨#[tau aq 0, tau aq 1, tau aq 2, tau aq 3, tau aq 4, tau aq 5, tau aq 6, tau aq 7, tau aq 8, tau aq 9, tau aq 10, tau aq 11, tau aq 12, tau aq 13, tau aq 14, tau aq 15, tau aq 16, tau aq 17, tau aq 18, tau aq 19, tau aq 20, tau aq 21, tau aq 22, tau aq 23, tau aq 24, tau aq 25, tau aq 26, tau aq 27, tau aq 28, tau aq 29, tau aq 30, tau aq 31, tau aq 32, tau aq 33, tau aq 34, tau aq 35, tau aq 36, tau aq 37, tau aq 38, tau aq 39, tau aq 40, tau aq 41, tau aq 42, tau aq 43, tau aq 44, tau aq 45, tau aq 46, tau aq 47, tau aq 48, tau aq 49, tau aq 50, tau aq 51, tau aq 52, tau aq 53, tau aq 54, tau aq 55, tau aq 56, tau aq 57, tau aq 58, tau aq 59, tau aq 60, tau aq 61, tau aq 62, tau aq 63, tau aq 64, tau aq 65, tau aq 66, tau aq 67, tau aq 68, tau aq 69, tau aq 70, tau aq 71, tau aq 72, tau aq 73, tau aq 74, tau aq 75, tau aq 76, tau aq 77, tau aq 78, tau aq 79, tau aq 80, tau aq 81, tau aq 82, tau aq 83, tau aq 84, tau aq 85, tau aq 86, tau aq 87, tau aq 88, tau aq 89, tau aq 90, tau aq 91, tau aq 92, tau aq 93, tau aq 94, tau aq 95, tau aq 96, tau aq 97, tau aq 98, tau aq 99, tau aq 100, tau aq 101, tau aq 102, tau aq 103, tau aq 104, tau aq 105, tau aq 106, tau aq 107, tau aq 108, tau aq 109, tau aq 110, tau aq 111, tau aq 112, tau aq 113, tau aq 114, tau aq 115, tau aq 116, tau aq 117, tau aq 118, tau aq 119, tau aq 120, tau aq 121, tau aq 122, tau aq 123, tau aq 124, tau aq 125, tau aq 126, tau aq 127, tau aq 128, tau aq 129, tau aq 130, tau aq 131, tau aq 132], []⟩ := by
              obtain ⟨tq, dq⟩ := aq
              have h5 := arr_eq (show tq.size = 133 from hw)
              have h6 : dq = [] := hd
              subst h6
              exact congrArg (fun z => Act.mk z []) h5
            show K2 aq wx
            rw [haq, hf 0, hf 1, hf 2, hf 3, hf 4, hf 5, hf 6, hf 7, hf 8, hf 9, hf 10, hf 11, hf 12, hf 13, hf 14, hf 15, hf 16, hf 17, hf 18, hf 19, hf 20, hf 21, hf 22, hf 23, hf 24, hf 25, hf 26, hf 27, hf 28, hf 29, hf 30, hf 31, hf 32, hf 33, hf 34, hf 35, hf 36, hf 37, hf 38, hf 39, hf 40, hf 41, hf 42, hf 43, hf 44, hf 45, hf 46, hf 47, hf 48, hf 49, hf 50, hf 51, hf 52, hf 53, hf 54, hf 55, hf 56, hf 57, hf 58, hf 59, hf 60, hf 61, hf 62, hf 63, hf 64, hf 65, hf 66, hf 67, hf 68, hf 69, hf 70, hf 81, hf 82, hf 83, hf 84, hf 85, hf 86, hf 87, hf 88, hf 89, hf 90, hf 91, hf 92, hf 93, hf 94, hf 95, hf 96, hf 97, hf 98, hf 99, hf 100, hf 101, hf 102, hf 103, hf 104, hf 105, hf 106, hf 107, hf 108, hf 109, hf 110, hf 111, hf 112, hf 113, hf 114, hf 115, hf 116, hf 117, hf 118, hf 119, hf 120, hf 121, hf 122, hf 123, hf 124, hf 125, hf 126, hf 127, hf 128, hf 129, hf 130, hf 131, hf 132, G80]
            clear haq hf hd hw
            try dsimp only
            refine h3 _ _ ?_
            go_meet
            exact ⟨rfl, hS.cells (⟨w.heap.size, 0, none⟩, .int .i64 5) (by simp), hS.cells (⟨w.heap.size, 1, none⟩, .string nm) (by simp), hS.cells (⟨w.heap.size, 2, none⟩, .string a) (by simp), hS.cells (⟨w.heap.size, 3, none⟩, .string b) (by simp), hS.cells (⟨w.heap.size, 4, none⟩, .int .i64 f0) (by simp), hS.cells (⟨w.heap.size, 5, none⟩, .int .i64 f1) (by simp), hS.cells (⟨w.heap.size, 6, none⟩, .int .i64 f2) (by simp), hS.cells (⟨g, iN * 4 + 1, none⟩, .int .i64 (N.1)) (by simp), hS.cells (⟨g, iN * 4 + 1 + 1, none⟩, .int .i64 (N.2.1)) (by simp), hS.cells (⟨g, iN * 4 + 1 + 2, none⟩, .int .i64 (N.2.2)) (by simp), hS.cells (⟨wd1.heap.size, 0, none⟩, .int .i64 f0) (by simp), (hS.free ⟨wd1.heap.size, 0, none⟩ (by simp)).2, hS.cells (⟨wd1.heap.size, 1, none⟩, .int .i64 f1) (by simp), (hS.free ⟨wd1.heap.size, 1, none⟩ (by simp)).2, hS.cells (⟨wd1.heap.size, 2, none⟩, .int .i64 f2) (by simp), (hS.free ⟨wd1.heap.size, 2, none⟩ (by simp)).2, hS.below⟩
        try clear c00
        try clear c01
        try clear c02
        try clear c03
        try clear c04
        try clear c05
        try clear c06
        try clear c10
        try clear c11
        try clear c12
        try clear c20
        try clear c21
        try clear c22
        clear dN0 dN1' dN2'
        obtain ⟨rfl, c00, c01, c02, c03, c04, c05, c06, c10, c11, c12, c20, f20, c21, f21, c22, f22, hR12⟩ := hcut
        have z0 := World.block_lt_of_cell? _ _ c00
        have z1 := World.block_lt_of_cell? _ _ c10
        have z2 := World.block_lt_of_cell? _ _ c20
        change w.heap.size < wc.heap.size at z0
        change g < wc.heap.size at z1
        change wd1.heap.size < wc.heap.size at z2
        obtain ⟨wd12, rfl⟩ : ∃ wd : World, wd = wc := ⟨_, rfl⟩
        rw [unhide HK]
        go_upto_region 14 with fail
        skip
        let hgf9 : Nat → World → Value → Prop := fun j => match j with | 0 => Kd.ok (Kd.val (.slice (some ⟨g, 0, none⟩) n c')) | 1 => Kd.ok (Kd.val (.int .i64 ((iN : Int)))) | 2 => (SlE w.heap.size L) | 3 => Kd.ok (Kd.val (.pointer (some ⟨w.heap.size, 1, none⟩))) | 4 => Kd.ok (Kd.val (.string nm)) | 5 => Kd.ok (Kd.val (.pointer (some ⟨w.heap.size, 4, none⟩))) | 6 => Kd.ok (Kd.val (.agg #[.int .i64 f0, .int .i64 f1, .int .i64 f2])) | 7 => Kd.ok (Kd.val (.agg #[.string nm, .int .i64 f0, .int .i64 f1, .int .i64 f2])) | 8 => (EnE w.heap.size W) | 9 => (EnE w.heap.size W) | 10 => Kd.ok (Kd.val (.int .i64 0)) | _ => Kd.ok Kd.any
        have hst9 : ∀ j, StB (hgf9 j) := fun j => match j with | 0 => (Kd.st (Kd.val (.slice (some ⟨g, 0, none⟩) n c')) : StB (Kd.ok (Kd.val (.slice (some ⟨g, 0, none⟩) n c')))) | 1 => (Kd.st (Kd.val (.int .i64 ((iN : Int)))) : StB (Kd.ok (Kd.val (.int .i64 ((iN : Int)))))) | 2 => (SlE.st : StB (SlE w.heap.size L)) | 3 => (Kd.st (Kd.val (.pointer (some ⟨w.heap.size, 1, none⟩))) : StB (Kd.ok (Kd.val (.pointer (some ⟨w.heap.size, 1, none⟩))))) | 4 => (Kd.st (Kd.val (.string nm)) : StB (Kd.ok (Kd.val (.string nm)))) | 5 => (Kd.st (Kd.val (.pointer (some ⟨w.heap.size, 4, none⟩))) : StB (Kd.ok (Kd.val (.pointer (some ⟨w.heap.size, 4, none⟩))))) | 6 => (Kd.st (Kd.val (.agg #[.int .i64 f0, .int .i64 f1, .int .i64 f2])) : StB (Kd.ok (Kd.val (.agg #[.int .i64 f0, .int .i64 f1, .int .i64 f2])))) | 7 => (Kd.st (Kd.val (.agg #[.string nm, .int .i64 f0, .int .i64 f1, .int .i64 f2])) : StB (Kd.ok (Kd.val (.agg #[.string nm, .int .i64 f0, .int .i64 f1, .int .i64 f2])))) | 8 => (EnE.st : StB (EnE w.heap.size W)) | 9 => (EnE.st : StB (EnE w.heap.size W)) | 10 => (Kd.st (Kd.val (.int .i64 0)) : StB (Kd.ok (Kd.val (.int .i64 0)))) | j + 11 => (Kd.st Kd.any : StB (Kd.ok Kd.any))
        refine region_n0 (by kernel_rfl) (fun j => #[81,82,83,84,85,86,87,88,89,4,5].getD j 0) (hgf9) (Sy w (wd12.heap.size) [(⟨w.heap.size, 0, none⟩, .int .i64 5), (⟨w.heap.size, 1, none⟩, .string nm), (⟨w.heap.size, 2, none⟩, .string a), (⟨w.heap.size, 3, none⟩, .string b), (⟨w.heap.size, 4, none⟩, .int .i64 f0), (⟨w.heap.size, 5, none⟩, .int .i64 f1), (⟨w.heap.size, 6, none⟩, .int .i64 f2), (⟨g, iN * 4 + 1, none⟩, .int .i64 (N.1)), (⟨g, iN * 4 + 1 + 1, none⟩, .int .i64 (N.2.1)), (⟨g, iN * 4 + 1 + 2, none⟩, .int .i64 (N.2.2)), (⟨wd1.heap.size, 0, none⟩, .int .i64 f0), (⟨wd1.heap.size, 1, none⟩, .int .i64 f1), (⟨wd1.heap.size, 2, none⟩, .int .i64 f2)] [⟨wd1.heap.size, 0, none⟩, ⟨wd1.heap.size, 1, none⟩, ⟨wd1.heap.size, 2, none⟩]) (by kernel_rfl) (by kernel_rfl) ?_ ?_ ?_ ?_
        · intro j hj
          have hj2 : j < 11 := hj
          have : ∀ j, j < 11 → (#[81,82,83,84,85,86,87,88,89,4,5] : Array Nat).getD j 0 < 133 := by decide
          exact this j hj2
        · refine Sy.drew (Sy.mk_of ?_ ?_ ?_ ?_)
          · first | rfl | (simp; done) | (simp; omega)
          · intro c hc
            simp only [List.mem_cons, List.not_mem_nil, or_false] at hc
            rcases hc with rfl | rfl | rfl | rfl | rfl | rfl | rfl | rfl | rfl | rfl | rfl | rfl | rfl <;> exact byCT
          · intro p hp
            simp only [List.mem_cons, List.not_mem_nil, or_false] at hp
            rcases hp with rfl | rfl | rfl <;> exact ⟨by first | ((repeat' with_reducible (first | refine ex_set _ ?_ | refine ex_al _ ?_ | exact ⟨_, by assumption⟩)); done) | first | exact ⟨_, by assumption⟩ | assumption | (go_simp; done) | (go_simp; exact ⟨_, rfl⟩), by first | ((repeat' first | with_reducible (first | assumption | refine frz_al _ ?_ ?_ | refine frz_set _ ?_) | omega | (simp; omega)); done) | assumption | (go_simp; done)⟩
          · (repeat' first | with_reducible (first | exact Below.refl _ _ | assumption | refine gr_alloc ?_ _ | refine below_drewN ?_ _ | refine below_drew ?_ | refine gr_call ?_ (by assumption) | refine Below.setCell ?_ ?_ _) | go_size | omega | (simp; omega))
        · skip
          try clear c00
          try clear c01
          try clear c02
          try clear c03
          try clear c04
          try clear c05
          try clear c06
          try clear c10
          try clear c11
          try clear c12
          try clear c20
          try clear c21
          try clear c22
          try clear f20
          try clear f21
          try clear f22
          refine ⟨?r20x0, ?r20x1, ?r20x2, ?r20x3, ?r20x4, ?r20x5, ?r20x6, ?r20x7, ?r20x8, ?r20x9, ?r20x10, trivial⟩
          all_goals intro _ aq wx Kq hf hS hdep ev1 ev2 hK
          case' r20x0 =>
            have F0 : aq.eval (.tmp 0) = .slice (some ⟨g, 0, none⟩) n c' := hf 0
          case' r20x1 =>
            have F6 : aq.eval (.tmp 6) = .int .i64 ((iN : Int)) := hf 6
          case' r20x2 =>
            have D0 : aq.eval (.tmp 81) = _ := hdep 0
            have D1 : aq.eval (.tmp 82) = _ := hdep 1
          case' r20x3 =>
            have F3 : aq.eval (.tmp 3) = .pointer (some ⟨w.heap.size, 0, none⟩) := hf 3
          case' r20x4 =>
            have D3 : aq.eval (.tmp 84) = _ := hdep 3
            have c0 := hS.cells (⟨w.heap.size, 1, none⟩, .string nm) (by simp)
          case' r20x5 =>
            have F3 : aq.eval (.tmp 3) = .pointer (some ⟨w.heap.size, 0, none⟩) := hf 3
          case' r20x6 =>
            have D5 : aq.eval (.tmp 86) = _ := hdep 5
            have c0 := hS.cells (⟨w.heap.size, 4, none⟩, .int .i64 f0) (by simp)
            have c1 := hS.cells (⟨w.heap.size, 5, none⟩, .int .i64 f1) (by simp)
            have c2 := hS.cells (⟨w.heap.size, 6, none⟩, .int .i64 f2) (by simp)
          case' r20x7 =>
            have D4 : aq.eval (.tmp 85) = _ := hdep 4
            have D6 : aq.eval (.tmp 87) = _ := hdep 6
          case' r20x8 =>
            obtain ⟨gs83, cs83, DP83, hks83, hes83⟩ := hdep 2
            change aq.eval (.tmp 83) = _ at DP83
            have D7 : aq.eval (.tmp 88) = _ := hdep 7
          case' r20x9 =>
            obtain ⟨us89, DP89, hus89⟩ := hdep 8
            change aq.eval (.tmp 89) = _ at DP89
          all_goals (clear hf hdep; unfold Oper.wp; generalize Act.eval _ = ev at *; go_simp)
          case r20x2 =>
            refine ((lgDrop_row g n c' iN E nm L _ (fun i hi => (unhide HR i hi).below hS.below) hn hcc (unhide HI) (unhide HFN) w.heap.size hS.below.size (unhide HL0))).mono ?_
            rintro e w2 ⟨v9, rfl, hpr, hb⟩
            refine hK _ _ (hS.call hb) ?_ (fun j u _ h => hst9 j _ _ _ hb h)
            rw [if_pos (by rfl)]
            exact hpr
          case r20x8 =>
            refine ((lgPut_zs w.heap.size gs83 cs83 L nm f0 f1 f2 W _ hes83 (unhide HLl) hks83 (unhide HNE) w.heap.size hS.below.size (unhide HW))).mono ?_
            rintro e w2 ⟨v9, rfl, hpr, hb⟩
            refine hK _ _ (hS.call hb) ?_ (fun j u _ h => hst9 j _ _ _ hb h)
            rw [if_pos (by rfl)]
            exact hpr
          case r20x9 =>
            refine hK _ _ hS ?_ (fun j u _ h => h)
            rw [if_pos (by rfl)]
            exact ⟨_, rfl, hus89⟩
          all_goals (refine hK _ _ hS ?_ (fun j u _ h => h); rw [if_pos (by rfl)]; show (_ : Value) = _; (first | rfl | (refine congrArg (Value.int .i64) ?_; first | rfl | exact int_in (by omega) | exact quo_in (by omega) (by omega) (by omega) | exact rem_in (by omega) (by omega) | omega | rfl | (simp [*]; done)) | (simp; done) | (simp [*]; done)))
        · intro aq wx hd hw hf hS hg
          try clear c00
          try clear c01
          try clear c02
          try clear c03
          try clear c04
          try clear c05
          try clear c06
          try clear c10
          try clear c11
          try clear c12
          try clear c20
          try clear c21
          try clear c22
          try clear f20
          try clear f21
          try clear f22
          have G4 : (EnE w.heap.size W) wx (tau aq 4) := hg 9 (by decide)
          have G5 : tau aq 5 = .int .i64 0 := hg 10 (by decide)
          have haq : aq = ⟨#[tau aq 0, tau aq 1, tau aq 2, tau aq 3, tau aq 4, tau aq 5, tau aq 6, tau aq 7, tau aq 8, tau aq 9, tau aq 10, tau aq 11, tau aq 12, tau aq 13, tau aq 14, tau aq 15, tau aq 16, tau aq 17, tau aq 18, tau aq 19, tau aq 20, tau aq 21, tau aq 22, tau aq 23, tau aq 24, tau aq 25, tau aq 26, tau aq 27, tau aq 28, tau aq 29, tau aq 30, tau aq 31, tau aq 32, tau aq 33, tau aq 34, tau aq 35, tau aq 36, tau aq 37, tau aq 38, tau aq 39, tau aq 40, tau aq 41, tau aq 42, tau aq 43, tau aq 44, tau aq 45, tau aq 46, tau aq 47, tau aq 48, tau aq 49, tau aq 50, tau aq 51, tau aq 52, tau aq 53, tau aq 54, tau aq 55, tau aq 56, tau aq 57, tau aq 58, tau aq 59, tau aq 60, tau aq 61, tau aq 62, tau aq 63, tau aq 64, tau aq 65, tau aq 66, tau aq 67, tau aq 68, tau aq 69, tau aq 70, tau aq 71, tau aq 72, tau aq 73, tau aq 74, tau aq 75, tau aq 76, tau aq 77, tau aq 78, tau aq 79, tau aq 80, tau aq 81, tau aq 82, tau aq 83, tau aq 84, tau aq 85, tau aq 86, tau aq 87, tau aq 88, tau aq 89, tau aq 90, tau aq 91, tau aq 92, tau aq 93, tau aq 94, tau aq 95, tau aq 96, tau aq 97, tau aq 98, tau aq 99, tau aq 100, tau aq 101, tau aq 102, tau aq 103, tau aq 104, tau aq 105, tau aq 106, tau aq 107, tau aq 108, tau aq 109, tau aq 110, tau aq 111, tau aq 112, tau aq 113, tau aq 114, tau aq 115, tau aq 116, tau aq 117, tau aq 118, tau aq 119, tau aq 120, tau aq 121, tau aq 122, tau aq 123, tau aq 124, tau aq 125, tau aq 126, tau aq 127, tau aq 128, tau aq 129, tau aq 130, tau aq 131, tau aq 132], []⟩ := by
            obtain ⟨tq, dq⟩ := aq
            have h5 := arr_eq (show tq.size = 133 from hw)
            have h6 : dq = [] := hd
            subst h6
            exact congrArg (fun z => Act.mk z []) h5
          rw [haq, hf 0, hf 1, hf 2, hf 3, hf 6, hf 7, hf 8, hf 9, hf 10, hf 11, hf 12, hf 13, hf 14, hf 15, hf 16, hf 17, hf 18, hf 19, hf 20, hf 21, hf 22, hf 23, hf 24, hf 25, hf 26, hf 27, hf 28, hf 29, hf 30, hf 31, hf 32, hf 33, hf 34, hf 35, hf 36, hf 37, hf 38, hf 39, hf 40, hf 41, hf 42, hf 43, hf 44, hf 45, hf 46, hf 47, hf 48, hf 49, hf 50, hf 51, hf 52, hf 53, hf 54, hf 55, hf 56, hf 57, hf 58, hf 59, hf 60, hf 61, hf 62, hf 63, hf 64, hf 65, hf 66, hf 67, hf 68, hf 69, hf 70, hf 71, hf 72, hf 73, hf 74, hf 75, hf 76, hf 77, hf 78, hf 79, hf 80, hf 90, hf 91, hf 92, hf 93, hf 94, hf 95, hf 96, hf 97, hf 98, hf 99, hf 100, hf 101, hf 102, hf 103, hf 104, hf 105, hf 106, hf 107, hf 108, hf 109, hf 110, hf 111, hf 112, hf 113, hf 114, hf 115, hf 116, hf 117, hf 118, hf 119, hf 120, hf 121, hf 122, hf 123, hf 124, hf 125, hf 126, hf 127, hf 128, hf 129, hf 130, hf 131, hf 132, G5]
          clear haq hf hd hw
          try dsimp only
          have hp4 : (EnE w.heap.size W) wx (tau aq 4) := G4
          have c00 : wx.cell? ⟨w.heap.size, 0, none⟩ = some (.int .i64 5) := hS.cells (⟨w.heap.size, 0, none⟩, .int .i64 5) (by simp)
          have c01 : wx.cell? ⟨w.heap.size, 1, none⟩ = some (.string nm) := hS.cells (⟨w.heap.size, 1, none⟩, .string nm) (by simp)
          have c02 : wx.cell? ⟨w.heap.size, 2, none⟩ = some (.string a) := hS.cells (⟨w.heap.size, 2, none⟩, .string a) (by simp)
          have c03 : wx.cell? ⟨w.heap.size, 3, none⟩ = some (.string b) := hS.cells (⟨w.heap.size, 3, none⟩, .string b) (by simp)
          have c04 : wx.cell? ⟨w.heap.size, 4, none⟩ = some (.int .i64 f0) := hS.cells (⟨w.heap.size, 4, none⟩, .int .i64 f0) (by simp)
          have c05 : wx.cell? ⟨w.heap.size, 5, none⟩ = some (.int .i64 f1) := hS.cells (⟨w.heap.size, 5, none⟩, .int .i64 f1) (by simp)
          have c06 : wx.cell? ⟨w.heap.size, 6, none⟩ = some (.int .i64 f2) := hS.cells (⟨w.heap.size, 6, none⟩, .int .i64 f2) (by simp)
          have c10 : wx.cell? ⟨g, iN * 4 + 1, none⟩ = some (.int .i64 (N.1)) := hS.cells (⟨g, iN * 4 + 1, none⟩, .int .i64 (N.1)) (by simp)
          have c11 : wx.cell? ⟨g, iN * 4 + 1 + 1, none⟩ = some (.int .i64 (N.2.1)) := hS.cells (⟨g, iN * 4 + 1 + 1, none⟩, .int .i64 (N.2.1)) (by simp)
          have c12 : wx.cell? ⟨g, iN * 4 + 1 + 2, none⟩ = some (.int .i64 (N.2.2)) := hS.cells (⟨g, iN * 4 + 1 + 2, none⟩, .int .i64 (N.2.2)) (by simp)
          have c20 : wx.cell? ⟨wd1.heap.size, 0, none⟩ = some (.int .i64 f0) := hS.cells (⟨wd1.heap.size, 0, none⟩, .int .i64 f0) (by simp)
          have f20 : wx.frozen? ⟨wd1.heap.size, 0, none⟩ = false := (hS.free ⟨wd1.heap.size, 0, none⟩ (by simp)).2
          have c21 : wx.cell? ⟨wd1.heap.size, 1, none⟩ = some (.int .i64 f1) := hS.cells (⟨wd1.heap.size, 1, none⟩, .int .i64 f1) (by simp)
          have f21 : wx.frozen? ⟨wd1.heap.size, 1, none⟩ = false := (hS.free ⟨wd1.heap.size, 1, none⟩ (by simp)).2
          have c22 : wx.cell? ⟨wd1.heap.size, 2, none⟩ = some (.int .i64 f2) := hS.cells (⟨wd1.heap.size, 2, none⟩, .int .i64 f2) (by simp)
          have f22 : wx.frozen? ⟨wd1.heap.size, 2, none⟩ = false := (hS.free ⟨wd1.heap.size, 2, none⟩ (by simp)).2
          have hb0 : Below w.heap.size w wx := hS.below
          have z0 := World.block_lt_of_cell? _ _ c00
          change w.heap.size < wx.heap.size at z0
          have z1 := World.block_lt_of_cell? _ _ c10
          change g < wx.heap.size at z1
          have z2 := World.block_lt_of_cell? _ _ c20
          change wd1.heap.size < wx.heap.size at z2
          clear hS hg
          obtain ⟨us9, hq9, hus9⟩ := hp4
          rw [hq9]
          clear hq9
          unfold tau
          try clear c00
          try clear c01
          try clear c02
          try clear c03
          try clear c04
          try clear c05
          try clear c06
          try clear c10
          try clear c11
          try clear c12
          try clear c20
          try clear c21
          try clear c22
          try clear f20
          try clear f21
          try clear f22
          go_wp2
          refine bodyPost_ret (v := .tuple #[us9, .int .i64 0]) (by simp [results, Try.results49, go_sem]) rfl ?_
          exact ⟨_, by rw [unhide HC], by rw [unhide HL]; exact hus9, hb0⟩
end Go.Proofs.Ytligbfegafkpjaa
