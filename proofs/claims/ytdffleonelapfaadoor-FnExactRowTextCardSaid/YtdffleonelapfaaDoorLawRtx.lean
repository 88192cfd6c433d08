/-
  The law of RowText.
-/
import Derived.Test.YtdffleonelapfaaDoorRte
namespace Go.Proofs.YtdffleonelapfaaDoor
open Go.RowKit
set_option linter.unusedVariables false
set_option linter.unusedSimpArgs false
attribute [local go_sem] q2 q3 q4 q5 q6 q7 q8 q9 q10 q11 q12

set_option maxRecDepth 100000 in
set_option maxHeartbeats 4000000 in
theorem lawRowText (r : RowV) (v : Value) (n : Nat) (z : Nat → Int) (w : World) (h : ArgI w v n z) (hm : n ≤ 9223372036854775807) (hr : RowOk r) (ht : Tab w) :
    Calls Tryd.prog 3 #[rwv r v] w fun e w' => e = .returned (.bool true) ∧ Below w.heap.size w w' := by
  obtain ⟨va, vc, rfl⟩ := h.len
  have HA := hide h
  have HT := hide ht
  clear h ht
  have HR := hide hr
  clear hr
  obtain ⟨x, hx⟩ : ∃ x, (if (1048576 : Int) < (n : Int) then (-1 : Int) else 1048576 - n) = x := ⟨_, rfl⟩
  have hxx : (x < 0 ∧ 1048576 < n) ∨ (0 ≤ x ∧ n ≤ 1048576) := by rw [← hx]; split <;> omega
  have HX := hide hx
  clear hx
  obtain ⟨X, hX⟩ : ∃ l, rtL r n z = l := ⟨_, rfl⟩
  obtain ⟨K, hK⟩ : ∃ l, rwB r n z = l := ⟨_, rfl⟩
  have HSX : ∀ W, ArgI W (.slice va n vc) n z → True := fun _ _ => trivial
  clear HSX
  have HI : ∀ (v : Value) (w : World), ArgI w v n z → n ≤ 2000000 → Tab w → Calls Tryd.prog 10 #[rwv r v] w fun e w' => e = .returned (.tuple #[.string (tx X), .bool K]) ∧ Below w.heap.size w w' := by
    subst hX hK; exact fun v w h1 h2 h3 => implRowText r v n z w h1 h2 (unhide HR) h3
  have HS : ∀ (v : Value) (w : World), ArgI w v n z → n ≤ 2000000 → Calls Tryd.prog 8 #[rwv r v] w fun e w' => e = .returned (.tuple #[.string (tx X), .bool K]) ∧ Below w.heap.size w w' := by
    subst hX hK; exact fun v w h1 h2 => specRowText r v n z w h1 h2 (unhide HR)
  have HI := hide HI
  have HS := hide HS
  clear hX hK
  go_enter Tryd.func3, Tryd.ntmps3
  go_wp2_with fail
  refine (szRow_a r (.slice va n vc) n 1048576 z _ ((unhide HA).below byGG) hm (by omega)).mono ?_
  rintro en w1 ⟨rfl, hb1⟩
  have hcs9 := cells_calls hb1 [⟨w.heap.size, 0, none⟩, ⟨w.heap.size, 1, none⟩, ⟨w.heap.size, 2, none⟩, ⟨w.heap.size, 3, none⟩, ⟨w.heap.size, 4, none⟩] [.int .i64 r.d, .int .i64 r.num, .slice va n vc, .int .i64 r.ge, .int .i64 r.ex] (by refine ⟨?_, ?_, ?_, ?_, ?_, trivial⟩ <;> exact byCT)
  have hzs9 := blocks_calls hb1 [w.heap.size] (by refine ⟨?_, trivial⟩ <;> first | with_reducible assumption | omega | (simp; omega) | (simp; done))
  try clear c00 c01 c02 c03 c04
  obtain ⟨c00, c01, c02, c03, c04, -⟩ := hcs9
  obtain ⟨z0, -⟩ := hzs9
  have hs1 := hb1.size
  rw [unhide HX]
  have g1 : Below w.heap.size w w1 := byGG
  rcases hxx with ⟨hq, _⟩ | ⟨hq, hn⟩
  · go_wp2
    go_ret
    exact ⟨rfl, byGG⟩
  · go_wp2_with fail
    refine (toRow_a r (.slice va n vc) n z _ ((unhide HA).below g1) (by omega)).mono ?_
    rintro en w2 ⟨v2, rfl, ⟨g2, rfl, hr2, hg2⟩, hb2⟩
    have hcs9 := cells_calls hb2 [⟨w.heap.size, 0, none⟩, ⟨w.heap.size, 1, none⟩, ⟨w.heap.size, 2, none⟩, ⟨w.heap.size, 3, none⟩, ⟨w.heap.size, 4, none⟩] [.int .i64 r.d, .int .i64 r.num, .slice va n vc, .int .i64 r.ge, .int .i64 r.ex] (by refine ⟨?_, ?_, ?_, ?_, ?_, trivial⟩ <;> exact byCT)
    have hzs9 := blocks_calls hb2 [w.heap.size] (by refine ⟨?_, trivial⟩ <;> first | with_reducible assumption | omega | (simp; omega) | (simp; done))
    try clear c00 c01 c02 c03 c04
    obtain ⟨c00, c01, c02, c03, c04, -⟩ := hcs9
    obtain ⟨z0, -⟩ := hzs9
    have hs2 := hb2.size
    have g2' : Below w.heap.size w w2 := g1.trans (hb2.mono g1.size)
    have HR2 := hide hr2
    clear hr2
    go_wp2_with fail
    refine ((unhide HS) _ _ (unhide HR2).arg (by omega)).mono ?_
    rintro en w3 ⟨rfl, hb3⟩
    have hcs9 := cells_calls hb3 [⟨w.heap.size, 0, none⟩, ⟨w.heap.size, 1, none⟩, ⟨w.heap.size, 2, none⟩, ⟨w.heap.size, 3, none⟩, ⟨w.heap.size, 4, none⟩] [.int .i64 r.d, .int .i64 r.num, .slice va n vc, .int .i64 r.ge, .int .i64 r.ex] (by refine ⟨?_, ?_, ?_, ?_, ?_, trivial⟩ <;> exact byCT)
    have hzs9 := blocks_calls hb3 [w.heap.size] (by refine ⟨?_, trivial⟩ <;> first | with_reducible assumption | omega | (simp; omega) | (simp; done))
    try clear c00 c01 c02 c03 c04
    obtain ⟨c00, c01, c02, c03, c04, -⟩ := hcs9
    obtain ⟨z0, -⟩ := hzs9
    have hs3 := hb3.size
    have g3 : Below w.heap.size w w3 := g2'.trans (hb3.mono g2'.size)
    clear HR2
    go_wp2_with fail
    refine (toRow_a r (.slice va n vc) n z _ ((unhide HA).below g3) (by omega)).mono ?_
    rintro en wq ⟨v4, rfl, ⟨g5, rfl, hr5, hg5⟩, hb4⟩
    have hcs9 := cells_calls hb4 [⟨w.heap.size, 0, none⟩, ⟨w.heap.size, 1, none⟩, ⟨w.heap.size, 2, none⟩, ⟨w.heap.size, 3, none⟩, ⟨w.heap.size, 4, none⟩] [.int .i64 r.d, .int .i64 r.num, .slice va n vc, .int .i64 r.ge, .int .i64 r.ex] (by refine ⟨?_, ?_, ?_, ?_, ?_, trivial⟩ <;> exact byCT)
    have hzs9 := blocks_calls hb4 [w.heap.size] (by refine ⟨?_, trivial⟩ <;> first | with_reducible assumption | omega | (simp; omega) | (simp; done))
    try clear c00 c01 c02 c03 c04
    obtain ⟨c00, c01, c02, c03, c04, -⟩ := hcs9
    obtain ⟨z0, -⟩ := hzs9
    have hs4 := hb4.size
    have g4 : Below w.heap.size w wq := g3.trans (hb4.mono g3.size)
    have HR4 := hide hr5
    clear hr5
    go_wp2_with fail
    refine ((unhide HI) _ _ ((unhide HR4).below byGG).arg (by omega) ((unhide HT).below byGG)).mono ?_
    rintro en wz ⟨rfl, hb5⟩
    have hcs9 := cells_calls hb5 [⟨w.heap.size, 0, none⟩, ⟨w.heap.size, 1, none⟩, ⟨w.heap.size, 2, none⟩, ⟨w.heap.size, 3, none⟩, ⟨w.heap.size, 4, none⟩, ⟨wq.heap.size, 0, none⟩, ⟨wq.heap.size, 1, none⟩, ⟨wq.heap.size, 2, none⟩, ⟨wq.heap.size, 3, none⟩, ⟨wq.heap.size, 4, none⟩] [.int .i64 r.d, .int .i64 r.num, .slice va n vc, .int .i64 r.ge, .int .i64 r.ex, .int .i64 r.d, .int .i64 r.num, .slice (some ⟨g5, 0, none⟩) n n, .int .i64 r.ge, .int .i64 r.ex] (by refine ⟨?_, ?_, ?_, ?_, ?_, ?_, ?_, ?_, ?_, ?_, trivial⟩ <;> exact byCT)
    have hzs9 := blocks_calls hb5 [w.heap.size, wq.heap.size] (by refine ⟨?_, ?_, trivial⟩ <;> first | with_reducible assumption | omega | (simp; omega) | (simp; done))
    try clear c00 c01 c02 c03 c04
    try clear c10 c11 c12 c13 c14
    obtain ⟨c00, c01, c02, c03, c04, c10, c11, c12, c13, c14, -⟩ := hcs9
    obtain ⟨z0, z1, -⟩ := hzs9
    have hs5 := hb5.size
    have g5' : Below wq.heap.size wq wz := byGG
    have g5z : Below w.heap.size w wz := g4.trans (g5'.mono g4.size)
    have HR5 : Hid (RowI wz g5 n z) := hide ((unhide HR4).below g5')
    have HA9 : Hid (ArgI wz (.slice va n vc) n z) := hide ((unhide HA).below g5z)
    go_upto_region 10 with fail
    go_cut [39] (fun s39 wx => s39 = .bool false ∧ wx.cell? ⟨w.heap.size, 0, none⟩ = some (.int .i64 r.d) ∧ wx.cell? ⟨w.heap.size, 1, none⟩ = some (.int .i64 r.num) ∧ wx.cell? ⟨w.heap.size, 2, none⟩ = some (.slice va n vc) ∧ wx.cell? ⟨w.heap.size, 3, none⟩ = some (.int .i64 r.ge) ∧ wx.cell? ⟨w.heap.size, 4, none⟩ = some (.int .i64 r.ex) ∧ wx.cell? ⟨wq.heap.size, 0, none⟩ = some (.int .i64 r.d) ∧ wx.cell? ⟨wq.heap.size, 1, none⟩ = some (.int .i64 r.num) ∧ wx.cell? ⟨wq.heap.size, 2, none⟩ = some (.slice (some ⟨g5, 0, none⟩) n n) ∧ wx.cell? ⟨wq.heap.size, 3, none⟩ = some (.int .i64 r.ge) ∧ wx.cell? ⟨wq.heap.size, 4, none⟩ = some (.int .i64 r.ex) ∧ Below wz.heap.size wz wx)
    case first =>
      have h1 := trivial
      rename_i K2 h2 h3
      let hgf9 : Nat → World → Value → Prop := fun j => match j with | 0 => Kd.ok (Kd.val (.agg #[.int .i64 r.d, .int .i64 r.num, .slice (some ⟨g5, 0, none⟩) n n, .int .i64 r.ge, .int .i64 r.ex])) | 1 => Kd.ok (Kd.val (.agg #[.int .i64 r.d, .int .i64 r.num, .slice va n vc, .int .i64 r.ge, .int .i64 r.ex])) | 2 => (RowP r n z) | 3 => Kd.ok (Kd.val (.bool true)) | 4 => Kd.ok (Kd.val (.bool false)) | _ => Kd.ok Kd.any
      have hst9 : ∀ j, StB (hgf9 j) := fun j => match j with | 0 => (Kd.st (Kd.val (.agg #[.int .i64 r.d, .int .i64 r.num, .slice (some ⟨g5, 0, none⟩) n n, .int .i64 r.ge, .int .i64 r.ex])) : StB (Kd.ok (Kd.val (.agg #[.int .i64 r.d, .int .i64 r.num, .slice (some ⟨g5, 0, none⟩) n n, .int .i64 r.ge, .int .i64 r.ex])))) | 1 => (Kd.st (Kd.val (.agg #[.int .i64 r.d, .int .i64 r.num, .slice va n vc, .int .i64 r.ge, .int .i64 r.ex])) : StB (Kd.ok (Kd.val (.agg #[.int .i64 r.d, .int .i64 r.num, .slice va n vc, .int .i64 r.ge, .int .i64 r.ex])))) | 2 => (RowP.st : StB (RowP r n z)) | 3 => (Kd.st (Kd.val (.bool true)) : StB (Kd.ok (Kd.val (.bool true)))) | 4 => (Kd.st (Kd.val (.bool false)) : StB (Kd.ok (Kd.val (.bool false)))) | j + 5 => (Kd.st Kd.any : StB (Kd.ok Kd.any))
      refine region_n0 (by kernel_rfl) (fun j => #[35,36,37,38,39].getD j 0) (hgf9) (Sy wz (wz.heap.size) [(⟨w.heap.size, 0, none⟩, .int .i64 r.d), (⟨w.heap.size, 1, none⟩, .int .i64 r.num), (⟨w.heap.size, 2, none⟩, .slice va n vc), (⟨w.heap.size, 3, none⟩, .int .i64 r.ge), (⟨w.heap.size, 4, none⟩, .int .i64 r.ex), (⟨wq.heap.size, 0, none⟩, .int .i64 r.d), (⟨wq.heap.size, 1, none⟩, .int .i64 r.num), (⟨wq.heap.size, 2, none⟩, .slice (some ⟨g5, 0, none⟩) n n), (⟨wq.heap.size, 3, none⟩, .int .i64 r.ge), (⟨wq.heap.size, 4, none⟩, .int .i64 r.ex)] []) (by kernel_rfl) (by kernel_rfl) ?_ ?_ ?_ ?_
      · intro j hj
        have hj2 : j < 5 := hj
        have : ∀ j, j < 5 → (#[35,36,37,38,39] : Array Nat).getD j 0 < 40 := by decide
        exact this j hj2
      · refine Sy.drew (Sy.mk_of ?_ ?_ ?_ ?_)
        · first | rfl | (simp; done) | (simp; omega)
        · intro c hc
          simp only [List.mem_cons, List.not_mem_nil, or_false] at hc
          rcases hc with rfl | rfl | rfl | rfl | rfl | rfl | rfl | rfl | rfl | rfl <;> exact byCT
        · intro p hp; cases hp
        · (repeat' first | with_reducible (first | exact Below.refl _ _ | assumption | refine gr_alloc ?_ _ | refine below_drewN ?_ _ | refine below_drew ?_ | refine gr_call ?_ (by assumption) | refine Below.setCell ?_ ?_ _) | go_size | omega | (simp; omega))
      · clear h1 h2 h3
        refine ⟨?r7x0, ?r7x1, ?r7x2, ?r7x3, ?r7x4, trivial⟩
        all_goals intro _ aq wx Kq hf hS hdep ev1 ev2 hK
        case' r7x0 =>
          have F6 : aq.eval (.tmp 6) = .pointer (some ⟨wq.heap.size, 0, none⟩) := hf 6
          have c0 := hS.cells (⟨wq.heap.size, 0, none⟩, .int .i64 r.d) (by simp)
          have c1 := hS.cells (⟨wq.heap.size, 1, none⟩, .int .i64 r.num) (by simp)
          have c2 := hS.cells (⟨wq.heap.size, 2, none⟩, .slice (some ⟨g5, 0, none⟩) n n) (by simp)
          have c3 := hS.cells (⟨wq.heap.size, 3, none⟩, .int .i64 r.ge) (by simp)
          have c4 := hS.cells (⟨wq.heap.size, 4, none⟩, .int .i64 r.ex) (by simp)
        case' r7x1 =>
          have F1 : aq.eval (.tmp 1) = .pointer (some ⟨w.heap.size, 0, none⟩) := hf 1
          have c0 := hS.cells (⟨w.heap.size, 0, none⟩, .int .i64 r.d) (by simp)
          have c1 := hS.cells (⟨w.heap.size, 1, none⟩, .int .i64 r.num) (by simp)
          have c2 := hS.cells (⟨w.heap.size, 2, none⟩, .slice va n vc) (by simp)
          have c3 := hS.cells (⟨w.heap.size, 3, none⟩, .int .i64 r.ge) (by simp)
          have c4 := hS.cells (⟨w.heap.size, 4, none⟩, .int .i64 r.ex) (by simp)
        case' r7x2 =>
          have D1 : aq.eval (.tmp 36) = _ := hdep 1
        case' r7x3 =>
          have D0 : aq.eval (.tmp 35) = _ := hdep 0
          obtain ⟨gq37, DP37, hrw37, hlt37⟩ := hdep 2
          change aq.eval (.tmp 37) = _ at DP37
        case' r7x4 =>
          have D3 : aq.eval (.tmp 38) = _ := hdep 3
        all_goals (clear hf hdep; unfold Oper.wp; generalize Act.eval _ = ev at *; go_simp)
        case r7x2 =>
          refine ((toRow_a r (.slice va n vc) n z _ ((unhide HA9).below hS.below) (by omega))).mono ?_
          rintro e w2 ⟨v9, rfl, hpr, hb⟩
          refine hK _ _ (hS.call hb) ?_ (fun j u _ h => hst9 j _ _ _ hb h)
          rw [if_pos (by rfl)]
          exact hpr
        case r7x3 =>
          refine ((eqRow_a r g5 gq37 n n n z _ (by omega) ((unhide HR5).below hS.below) hrw37)).mono ?_
          rintro e w2 ⟨rfl, hb⟩
          refine hK _ _ (hS.call hb) ?_ (fun j u _ h => hst9 j _ _ _ hb h)
          rw [if_pos (by rfl)]
          show (_ : Value) = _
          first | rfl | (refine congrArg (Value.int .i64) ?_; first | rfl | exact int_in (by omega) | exact quo_in (by omega) (by omega) (by omega) | exact rem_in (by omega) (by omega) | omega) | (simp; done) | (simp [*]; done)
        all_goals (refine hK _ _ hS ?_ (fun j u _ h => h); rw [if_pos (by rfl)]; show (_ : Value) = _; (first | rfl | (refine congrArg (Value.int .i64) ?_; first | rfl | exact int_in (by omega) | exact quo_in (by omega) (by omega) (by omega) | exact rem_in (by omega) (by omega) | omega) | (simp; done) | (simp [*]; done)))
      · intro aq wx hd hw hf hS hg
        have G39 : tau aq 39 = .bool false := hg 4 (by decide)
        have haq : aq = ⟨#[tau aq 0, tau aq 1, tau aq 2, tau aq 3, tau aq 4, tau aq 5, tau aq 6, tau aq 7, tau aq 8, tau aq 9, tau aq 10, tau aq 11, tau aq 12, tau aq 13, tau aq 14, tau aq 15, tau aq 16, tau aq 17, tau aq 18, tau aq 19, tau aq 20, tau aq 21, tau aq 22, tau aq 23, tau aq 24, tau aq 25, tau aq 26, tau aq 27, tau aq 28, tau aq 29, tau aq 30, tau aq 31, tau aq 32, tau aq 33, tau aq 34, tau aq 35, tau aq 36, tau aq 37, tau aq 38, tau aq 39], []⟩ := by
          obtain ⟨tq, dq⟩ := aq
          have h5 := arr_eq (show tq.size = 40 from hw)
          have h6 : dq = [] := hd
          subst h6
          exact congrArg (fun z => Act.mk z []) h5
        show K2 aq wx
        rw [haq, hf 0, hf 1, hf 2, hf 3, hf 4, hf 5, hf 6, hf 7, hf 8, hf 9, hf 10, hf 11, hf 12, hf 13, hf 14, hf 15, hf 16, hf 17, hf 18, hf 19, hf 20, hf 21, hf 22, hf 23, hf 24, hf 25, hf 26, hf 27, hf 28, hf 29, hf 30, hf 31, hf 32, hf 33, hf 34, G39]
        clear haq hf hd hw
        try dsimp only
        refine h3 _ _ ?_
        go_meet
        refine ⟨rfl, ?_, ?_, ?_, ?_, ?_, ?_, ?_, ?_, ?_, ?_, hS.below⟩
        all_goals first | exact hS.cells (_, _) (by simp) | exact (hS.free _ (by simp)).2
    try clear c00
    try clear c01
    try clear c02
    try clear c03
    try clear c04
    try clear z0
    try clear c10
    try clear c11
    try clear c12
    try clear c13
    try clear c14
    try clear z1
    obtain ⟨rfl, c00, c01, c02, c03, c04, c10, c11, c12, c13, c14, hb0⟩ := hcut
    have z0 := World.block_lt_of_cell? _ _ c00
    change w.heap.size < wc.heap.size at z0
    have z1 := World.block_lt_of_cell? _ _ c10
    change wq.heap.size < wc.heap.size at z1
    go_wp2
    go_ret
    exact ⟨rfl, g5z.trans (hb0.mono g5z.size)⟩
end Go.Proofs.YtdffleonelapfaaDoor
