/-
  RowText on both sides.
-/
import Derived.Test.YtdffleonelapfaaDoorRtx
namespace Go.Proofs.YtdffleonelapfaaDoor
open Go.RowKit
set_option linter.unusedVariables false
set_option linter.unusedSimpArgs false
attribute [local go_sem] q2 q3 q4 q5 q6 q7 q8 q9 q10 q11 q12

def rtL (r : RowV) (n : Nat) (z : Nat → Int) : List UInt8 := if rwB r n z then rwT r n z else []
theorem rw_all {r : RowV} {n : Nat} {z : Nat → Int} (h : rwB r n z = true) : (∀ i, i < n → 0 ≤ z i ∧ z i ≤ 9223372036854775807) ∧ 0 ≤ r.num ∧ 0 ≤ r.ge ∧ 0 ≤ r.ex ∧ -9223372036854775807 ≤ r.d := by
  unfold rwB at h
  rw [Bool.and_eq_true, Bool.and_eq_true, Bool.and_eq_true, Bool.and_eq_true, decide_eq_true_eq] at h
  obtain ⟨h1, h2, h3, h4, h5⟩ := h
  have := inB_true h4
  have := inB_true h5
  have := neg_true h2
  have := ch_val h1
  exact ⟨fun i hi => by have := ch_each h1 i hi; omega, by omega, by omega, by omega, by omega⟩

set_option maxRecDepth 100000 in
set_option maxHeartbeats 2000000 in
theorem implRowText (r : RowV) (v : Value) (n : Nat) (z : Nat → Int) (w : World) (h : ArgI w v n z) (hn : n ≤ 2000000) (hr : RowOk r) (ht : Tab w) :
    Calls Tryd.prog 10 #[rwv r v] w fun e w' => e = .returned (.tuple #[.string (tx (rtL r n z)), .bool (rwB r n z)]) ∧ Below w.heap.size w w' := by
  have HA : Hid (ArgI (w.alloc (.cells #[.int .i64 r.d, .int .i64 r.num, v, .int .i64 r.ge, .int .i64 r.ex] 28)) v n z) := hide (h.below (below_alloc_self _ _))
  have HR := hide hr
  have HT := hide ht
  clear h hr ht
  cases k : rwB r n z
  · have HL : Hid (rtL r n z = []) := hide (by simp [rtL, k])
    have HK := hide k
    clear k
    go_enter Tryd.func10, Tryd.ntmps10
    go_wp2_with fail
    refine (isRow_a r v n z _ (unhide HA) hn (unhide HR)).mono ?_
    rintro e w1 ⟨rfl, hb⟩
    have hcs9 := cells_calls hb [⟨w.heap.size, 0, none⟩, ⟨w.heap.size, 1, none⟩, ⟨w.heap.size, 2, none⟩, ⟨w.heap.size, 3, none⟩, ⟨w.heap.size, 4, none⟩] [.int .i64 r.d, .int .i64 r.num, v, .int .i64 r.ge, .int .i64 r.ex] (by refine ⟨?_, ?_, ?_, ?_, ?_, trivial⟩ <;> exact byCT)
    have hzs9 := blocks_calls hb [w.heap.size] (by refine ⟨?_, trivial⟩ <;> first | with_reducible assumption | omega | (simp; omega) | (simp; done))
    try clear c00 c01 c02 c03 c04
    obtain ⟨c00, c01, c02, c03, c04, -⟩ := hcs9
    obtain ⟨z0, -⟩ := hzs9
    rw [unhide HK]
    go_wp2
    go_ret2
    exact ⟨by rw [unhide HL]; rfl, byGG⟩
  · have HW := hide (rw_all k)
    have HL : Hid (rtL r n z = rwT r n z) := hide (by simp [rtL, k])
    have HK := hide k
    clear k
    go_enter Tryd.func10, Tryd.ntmps10
    go_wp2_with fail
    refine (isRow_a r v n z _ (unhide HA) hn (unhide HR)).mono ?_
    rintro e w1 ⟨rfl, hb⟩
    have hcs9 := cells_calls hb [⟨w.heap.size, 0, none⟩, ⟨w.heap.size, 1, none⟩, ⟨w.heap.size, 2, none⟩, ⟨w.heap.size, 3, none⟩, ⟨w.heap.size, 4, none⟩] [.int .i64 r.d, .int .i64 r.num, v, .int .i64 r.ge, .int .i64 r.ex] (by refine ⟨?_, ?_, ?_, ?_, ?_, trivial⟩ <;> exact byCT)
    have hzs9 := blocks_calls hb [w.heap.size] (by refine ⟨?_, trivial⟩ <;> first | with_reducible assumption | omega | (simp; omega) | (simp; done))
    try clear c00 c01 c02 c03 c04
    obtain ⟨c00, c01, c02, c03, c04, -⟩ := hcs9
    obtain ⟨z0, -⟩ := hzs9
    rw [unhide HK]
    have hg1 : Below w.heap.size w w1 := byGG
    go_wp2_with fail
    refine (rowText_a r v n z _ ((unhide HA).below hb) hn (unhide HR) (unhide HW).1 ((unhide HT).below byGG)).mono ?_
    rintro e w2 ⟨rfl, hb2⟩
    go_wp2
    go_ret2
    exact ⟨by rw [unhide HL]; rfl, hg1.trans (hb2.mono hg1.size)⟩

set_option maxRecDepth 100000 in
set_option maxHeartbeats 2000000 in
theorem specRowText (r : RowV) (v : Value) (n : Nat) (z : Nat → Int) (w : World) (h : ArgI w v n z) (hn : n ≤ 2000000) (hr : RowOk r) :
    Calls Tryd.prog 8 #[rwv r v] w fun e w' => e = .returned (.tuple #[.string (tx (rtL r n z)), .bool (rwB r n z)]) ∧ Below w.heap.size w w' := by
  have HA : Hid (ArgI (w.alloc (.cells #[.int .i64 r.d, .int .i64 r.num, v, .int .i64 r.ge, .int .i64 r.ex] 28)) v n z) := hide (h.below (below_alloc_self _ _))
  have HR := hide hr
  skip
  clear h hr 
  cases k : rwB r n z
  · have HL : Hid (rtL r n z = []) := hide (by simp [rtL, k])
    have HK := hide k
    clear k
    go_enter Tryd.func8, Tryd.ntmps8
    go_wp2_with fail
    refine (tbGood_a r v n z _ (unhide HA) hn (unhide HR)).mono ?_
    rintro e w1 ⟨rfl, hb⟩
    have hcs9 := cells_calls hb [⟨w.heap.size, 0, none⟩, ⟨w.heap.size, 1, none⟩, ⟨w.heap.size, 2, none⟩, ⟨w.heap.size, 3, none⟩, ⟨w.heap.size, 4, none⟩] [.int .i64 r.d, .int .i64 r.num, v, .int .i64 r.ge, .int .i64 r.ex] (by refine ⟨?_, ?_, ?_, ?_, ?_, trivial⟩ <;> exact byCT)
    have hzs9 := blocks_calls hb [w.heap.size] (by refine ⟨?_, trivial⟩ <;> first | with_reducible assumption | omega | (simp; omega) | (simp; done))
    try clear c00 c01 c02 c03 c04
    obtain ⟨c00, c01, c02, c03, c04, -⟩ := hcs9
    obtain ⟨z0, -⟩ := hzs9
    rw [unhide HK]
    go_wp2
    go_ret2
    exact ⟨by rw [unhide HL]; rfl, byGG⟩
  · have HW := hide (rw_all k)
    have HL : Hid (rtL r n z = rwT r n z) := hide (by simp [rtL, k])
    have HK := hide k
    clear k
    go_enter Tryd.func8, Tryd.ntmps8
    go_wp2_with fail
    refine (tbGood_a r v n z _ (unhide HA) hn (unhide HR)).mono ?_
    rintro e w1 ⟨rfl, hb⟩
    have hcs9 := cells_calls hb [⟨w.heap.size, 0, none⟩, ⟨w.heap.size, 1, none⟩, ⟨w.heap.size, 2, none⟩, ⟨w.heap.size, 3, none⟩, ⟨w.heap.size, 4, none⟩] [.int .i64 r.d, .int .i64 r.num, v, .int .i64 r.ge, .int .i64 r.ex] (by refine ⟨?_, ?_, ?_, ?_, ?_, trivial⟩ <;> exact byCT)
    have hzs9 := blocks_calls hb [w.heap.size] (by refine ⟨?_, trivial⟩ <;> first | with_reducible assumption | omega | (simp; omega) | (simp; done))
    try clear c00 c01 c02 c03 c04
    obtain ⟨c00, c01, c02, c03, c04, -⟩ := hcs9
    obtain ⟨z0, -⟩ := hzs9
    rw [unhide HK]
    have hg1 : Below w.heap.size w w1 := byGG
    go_wp2_with fail
    refine (tbText_a r v n z _ ((unhide HA).below hb) hn (unhide HR) (unhide HW).1 (unhide HW).2.1 (unhide HW).2.2.1 (unhide HW).2.2.2.1 (unhide HW).2.2.2.2).mono ?_
    rintro e w2 ⟨rfl, hb2⟩
    go_wp2
    go_ret2
    exact ⟨by rw [unhide HL]; rfl, hg1.trans (hb2.mono hg1.size)⟩
end Go.Proofs.YtdffleonelapfaaDoor
