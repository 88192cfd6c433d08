/- The class group in memory: times. -/
import Derived.Test.YtaeabefbohlcpaaGrq
namespace Go.Proofs.Ytaeabefbohlcpaa
open Go.RowKit
set_option linter.unusedVariables false
set_option linter.unusedSimpArgs false
attribute [local go_sem] q2 q3 q4 q5 q6 q7 q8 q9 q10 q11 q12

set_option maxRecDepth 100000 in
set_option maxHeartbeats 4000000 in
theorem grTimes_a {D : Int} (HI gb : Nat) (fs : List (Int × Int × Int)) (i k r : Nat) (w : World) (hG : grpS HI gb fs w) (hHI : HI ≤ w.heap.size) (hi : i < fs.length) (hk : k < fs.length) (hr : r < fs.length) (hIn : ∀ j, j < fs.length → InD D (fs.getD j (0, 0, 0)))
  (hs : SmF (fs.getD r (0, 0, 0))) (he : cmp (fs.getD i (0, 0, 0)) (fs.getD k (0, 0, 0)) = fs.getD r (0, 0, 0)) (hn : fs.length ≤ 100000) :
  Calls Try.prog 69 #[.pointer (some ⟨gb, 0, none⟩), .int .i64 (i : Int), .int .i64 (k : Int)] w fun e w' => e = .returned (.int .i64 (r : Int)) ∧ Below w.heap.size w w' := by
 obtain ⟨h0, a, c, mb, lo, c00, c01, hFA, hmb, hmf⟩ := hG
 obtain ⟨gf, hgf, hgf2, x0, x1, x2⟩ := FAt.cells hFA hi
 obtain ⟨gf', hgf', -, y0, y1, y2⟩ := FAt.cells hFA hk
 subst hgf
 simp only [Option.some.injEq, Addr.mk.injEq] at hgf'
 obtain ⟨rfl, -⟩ := hgf'
 have HLK : Hid (∀ W, Below w.heap.size w W → (Instr.lookup 55 (.map (some mb)) (fV (fs.getD r (0, 0, 0))) false).run Try.prog W = .ok (.int .i64 (r : Int)) W) := hide fun W hb => mf_look (mf_below hmf hb) hr hs
 have hX := hIn i hi
 have hZ := hIn k hk
 unfold fV at HLK
 clear hIn hs hFA hmf
 obtain ⟨X, hXX⟩ : ∃ X, fs.getD i (0, 0, 0) = X := ⟨_, rfl⟩
 obtain ⟨Z, hZZ⟩ : ∃ Z, fs.getD k (0, 0, 0) = Z := ⟨_, rfl⟩
 obtain ⟨Y, hY⟩ : ∃ Y, fs.getD r (0, 0, 0) = Y := ⟨_, rfl⟩
 rw [hXX] at x0 x1 x2 hX he
 rw [hZZ] at y0 y1 y2 hZ he
 rw [hY] at HLK he
 clear hXX hZZ hY
 have hY := he
 clear he
 have hi2 : (i : Int) < (fs.length : Int) := by omega
 have hk2 : (k : Int) < (fs.length : Int) := by omega
 have hgb : gb < w.heap.size := by omega
 go_enter Try.func69, Try.ntmps69
 go_upto_region 1 with fail
 go_cut [6] (fun s6 wx => s6 = .int .i64 ((r : Int)) ∧ Rv2 wx gb (.slice (some ⟨gf, 0, none⟩) fs.length c) (.map (some mb)) ∧ wx.cell? ⟨gf, i * 3, none⟩ = some (.int .i64 (X.1)) ∧ wx.cell? ⟨gf, i * 3 + 1, none⟩ = some (.int .i64 (X.2.1)) ∧ wx.cell? ⟨gf, i * 3 + 2, none⟩ = some (.int .i64 (X.2.2)) ∧ wx.cell? ⟨gf, k * 3, none⟩ = some (.int .i64 (Z.1)) ∧ wx.cell? ⟨gf, k * 3 + 1, none⟩ = some (.int .i64 (Z.2.1)) ∧ wx.cell? ⟨gf, k * 3 + 2, none⟩ = some (.int .i64 (Z.2.2)) ∧ Below w.heap.size w wx)
 case first =>
  have h1 := trivial
  rename_i K2 h2 h3
  refine region_n0 (by kernel_rfl) (fun j => #[7,8,9,10,11,12,13,14,15,16,17,18,19,20,21,22,23,24,25,26,6].getD j 0) (fun j => Kd.ok ((fun j => match j with | 0 => Kd.val (.pointer (some ⟨gb, 0, none⟩)) | 1 => Kd.val (.pointer (some ⟨gb, 0, none⟩)) | 2 => Kd.val (.pointer (some ⟨gb, 1, none⟩)) | 3 => Kd.val (.map (some mb)) | 4 => Kd.val (.pointer (some ⟨gb, 0, none⟩)) | 5 => Kd.val (.pointer (some ⟨gb, 0, none⟩)) | 6 => Kd.val (.pointer (some ⟨gb, 0, none⟩)) | 7 => Kd.val (.slice (some ⟨gf, 0, none⟩) fs.length c) | 8 => Kd.val (.int .i64 ((i : Int))) | 9 => Kd.val (.pointer (some ⟨gf, i * 3, none⟩)) | 10 => Kd.val (.agg #[.int .i64 (X.1), .int .i64 (X.2.1), .int .i64 (X.2.2)]) | 11 => Kd.val (.pointer (some ⟨gb, 0, none⟩)) | 12 => Kd.val (.pointer (some ⟨gb, 0, none⟩)) | 13 => Kd.val (.pointer (some ⟨gb, 0, none⟩)) | 14 => Kd.val (.slice (some ⟨gf, 0, none⟩) fs.length c) | 15 => Kd.val (.int .i64 ((k : Int))) | 16 => Kd.val (.pointer (some ⟨gf, k * 3, none⟩)) | 17 => Kd.val (.agg #[.int .i64 (Z.1), .int .i64 (Z.2.1), .int .i64 (Z.2.2)]) | 18 => Kd.val (.agg #[.int .i64 (Y.1), .int .i64 (Y.2.1), .int .i64 (Y.2.2)]) | 19 => Kd.val (.int .i64 ((r : Int))) | 20 => Kd.val (.int .i64 ((r : Int))) | _ => Kd.any : Nat → Kd) j)) (Sy w (w.heap.size) [(⟨gb, 0, none⟩, .slice (some ⟨gf, 0, none⟩) fs.length c), (⟨gb, 1, none⟩, .map (some mb)), (⟨gf, i * 3, none⟩, .int .i64 (X.1)), (⟨gf, i * 3 + 1, none⟩, .int .i64 (X.2.1)), (⟨gf, i * 3 + 2, none⟩, .int .i64 (X.2.2)), (⟨gf, k * 3, none⟩, .int .i64 (Z.1)), (⟨gf, k * 3 + 1, none⟩, .int .i64 (Z.2.1)), (⟨gf, k * 3 + 2, none⟩, .int .i64 (Z.2.2))] []) (by kernel_rfl) (by kernel_rfl) ?_ ?_ ?_ ?_
  ·intro j hj
   have hj2 : j < 21 := hj
   have : ∀ j, j < 21 → (#[7,8,9,10,11,12,13,14,15,16,17,18,19,20,21,22,23,24,25,26,6] : Array Nat).getD j 0 < 27 := by decide
   exact this j hj2
  ·refine Sy.drew (Sy.mk_of ?_ ?_ ?_ ?_)
   ·first | rfl | (simp; done) | (simp; omega)
   ·intro c hc
    simp only [List.mem_cons, List.not_mem_nil, or_false] at hc
    rcases hc with rfl | rfl | rfl | rfl | rfl | rfl | rfl | rfl <;> exact byCT
   ·intro p hp; cases hp
   ·(repeat' first | with_reducible (first | exact Below.refl _ _ | assumption | refine gr_alloc ?_ _ | refine below_drewN ?_ _ | refine below_drew ?_ | refine gr_call ?_ (by assumption) | refine Below.setCell ?_ ?_ _) | go_size | omega | (simp; omega))
  ·clear h1 h2 h3
   refine ⟨?r1x0, ?r1x1, ?r1x2, ?r1x3, ?r1x4, ?r1x5, ?r1x6, ?r1x7, ?r1x8, ?r1x9, ?r1x10, ?r1x11, ?r1x12, ?r1x13, ?r1x14, ?r1x15, ?r1x16, ?r1x17, ?r1x18, ?r1x19, ?r1x20, trivial⟩
   all_goals intro _ aq wx Kq hf hS hdep ev1 ev2 hK
   case' r1x0 =>
    have F0 : aq.eval (.tmp 0) = .pointer (some ⟨gb, 0, none⟩) := hf 0
   case' r1x1 =>
    have D0 : aq.eval (.tmp 7) = _ := hdep 0
   case' r1x2 =>
    have D1 : aq.eval (.tmp 8) = _ := hdep 1
   case' r1x3 =>
    have D2 : aq.eval (.tmp 9) = _ := hdep 2
    have c0 := hS.cells (⟨gb, 1, none⟩, .map (some mb)) (by simp)
   case' r1x4 =>
    have F0 : aq.eval (.tmp 0) = .pointer (some ⟨gb, 0, none⟩) := hf 0
   case' r1x5 =>
    have D4 : aq.eval (.tmp 11) = _ := hdep 4
   case' r1x6 =>
    have D5 : aq.eval (.tmp 12) = _ := hdep 5
   case' r1x7 =>
    have D6 : aq.eval (.tmp 13) = _ := hdep 6
    have c0 := hS.cells (⟨gb, 0, none⟩, .slice (some ⟨gf, 0, none⟩) fs.length c) (by simp)
   case' r1x8 =>
    have F1 : aq.eval (.tmp 1) = .int .i64 ((i : Int)) := hf 1
   case' r1x9 =>
    have D7 : aq.eval (.tmp 14) = _ := hdep 7
    have D8 : aq.eval (.tmp 15) = _ := hdep 8
   case' r1x10 =>
    have D9 : aq.eval (.tmp 16) = _ := hdep 9
    have c0 := hS.cells (⟨gf, i * 3, none⟩, .int .i64 (X.1)) (by simp)
    have c1 := hS.cells (⟨gf, i * 3 + 1, none⟩, .int .i64 (X.2.1)) (by simp)
    have c2 := hS.cells (⟨gf, i * 3 + 2, none⟩, .int .i64 (X.2.2)) (by simp)
   case' r1x11 =>
    have F0 : aq.eval (.tmp 0) = .pointer (some ⟨gb, 0, none⟩) := hf 0
   case' r1x12 =>
    have D11 : aq.eval (.tmp 18) = _ := hdep 11
   case' r1x13 =>
    have D12 : aq.eval (.tmp 19) = _ := hdep 12
   case' r1x14 =>
    have D13 : aq.eval (.tmp 20) = _ := hdep 13
    have c0 := hS.cells (⟨gb, 0, none⟩, .slice (some ⟨gf, 0, none⟩) fs.length c) (by simp)
   case' r1x15 =>
    have F2 : aq.eval (.tmp 2) = .int .i64 ((k : Int)) := hf 2
   case' r1x16 =>
    have D14 : aq.eval (.tmp 21) = _ := hdep 14
    have D15 : aq.eval (.tmp 22) = _ := hdep 15
   case' r1x17 =>
    have D16 : aq.eval (.tmp 23) = _ := hdep 16
    have c0 := hS.cells (⟨gf, k * 3, none⟩, .int .i64 (Z.1)) (by simp)
    have c1 := hS.cells (⟨gf, k * 3 + 1, none⟩, .int .i64 (Z.2.1)) (by simp)
    have c2 := hS.cells (⟨gf, k * 3 + 2, none⟩, .int .i64 (Z.2.2)) (by simp)
   case' r1x18 =>
    have D10 : aq.eval (.tmp 17) = _ := hdep 10
    have D17 : aq.eval (.tmp 24) = _ := hdep 17
   case' r1x19 =>
    have D3 : aq.eval (.tmp 10) = _ := hdep 3
    have D18 : aq.eval (.tmp 25) = _ := hdep 18
    have hlk := unhide HLK _ hS.below
   case' r1x20 =>
    have D19 : aq.eval (.tmp 26) = _ := hdep 19
   all_goals (clear hf hdep; unfold Oper.wp; generalize Act.eval _ = ev at *; go_simp)
   case' r1x9 =>
    try rw [if_pos (by omega), Oper.upon_value]
   case' r1x16 =>
    try rw [if_pos (by omega), Oper.upon_value]
   case r1x18 =>
    refine ((cmp_rwY X Z Y _ hX hZ hY)).mono ?_
    rintro e w2 ⟨rfl, hb⟩
    refine hK _ _ (hS.call hb) ?_ (fun j u _ h => Kd.ok_below hb h)
    rw [if_pos (by rfl)]
    show (_ : Value) = _
    first | rfl | (refine congrArg (Value.int .i64) ?_; first | rfl | exact int_in (by omega) | exact quo_in (by omega) (by omega) (by omega) | exact rem_in (by omega) (by omega) | omega) | (simp; done) | (simp [*]; done)
   all_goals (refine hK _ _ hS ?_ (fun j u _ h => h); rw [if_pos (by rfl)]; show (_ : Value) = _; (first | rfl | (refine congrArg (Value.int .i64) ?_; first | rfl | exact int_in (by omega) | exact quo_in (by omega) (by omega) (by omega) | exact rem_in (by omega) (by omega) | omega) | (simp; done) | (simp [*]; done)))
  ·intro aq wx hd hw hf hS hg
   have G6 : tau aq 6 = .int .i64 ((r : Int)) := hg 20 (by decide)
   have haq : aq = ⟨#[tau aq 0, tau aq 1, tau aq 2, tau aq 3, tau aq 4, tau aq 5, tau aq 6, tau aq 7, tau aq 8, tau aq 9, tau aq 10, tau aq 11, tau aq 12, tau aq 13, tau aq 14, tau aq 15, tau aq 16, tau aq 17, tau aq 18, tau aq 19, tau aq 20, tau aq 21, tau aq 22, tau aq 23, tau aq 24, tau aq 25, tau aq 26], []⟩ := by
    obtain ⟨tq, dq⟩ := aq
    have h5 := arr_eq (show tq.size = 27 from hw)
    have h6 : dq = [] := hd
    subst h6
    exact congrArg (fun z => Act.mk z []) h5
   show K2 aq wx
   rw [haq, hf 0, hf 1, hf 2, hf 3, hf 4, hf 5, G6]
   clear haq hf hd hw
   try dsimp only
   refine h3 _ _ ?_
   go_meet
   refine ⟨rfl, Rv2.m ?_ ?_, ?_, ?_, ?_, ?_, ?_, ?_, hS.below⟩
   all_goals first | exact hS.cells (_, _) (by simp) | exact (hS.free _ (by simp)).2
 obtain ⟨rfl, ⟨c00, c01, z0⟩, c10, c11, c12, c13, c14, c15, hb0⟩ := hcut
 have z1 := World.block_lt_of_cell? _ _ c10
 change gf < wc.heap.size at z1
 skip
 go_wp2
 go_ret
 exact ⟨rfl, hb0⟩
end Go.Proofs.Ytaeabefbohlcpaa
