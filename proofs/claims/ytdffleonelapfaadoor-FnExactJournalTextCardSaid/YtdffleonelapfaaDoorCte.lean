/-
  CommandText on both sides.
-/
import Derived.Test.YtdffleonelapfaaDoorCti
import Derived.Test.YtdffleonelapfaaDoorCts
namespace Go.Proofs.YtdffleonelapfaaDoor
open Go.RowKit
set_option linter.unusedVariables false
set_option linter.unusedSimpArgs false
attribute [local go_sem] q2 q3 q4 q5 q6 q7 q8 q9 q10 q11 q12

theorem commandText_a (c : Cmd) (w : World) (hv : cmB c = true) (ht : Tab w) : Calls Tryd.prog 34 #[cmv c] w fun e w' => e = .returned (.string (tx (cmT c))) ∧ Below w.heap.size w w' := by
  obtain ⟨k, n, a, b, x, y, z⟩ := c
  have h := commandText_l k n.data.toList a.data.toList b.data.toList x y z w (by simp only [tx_of]; exact hv) ht
  simp only [tx_of] at h
  exact h
theorem lgText_a (c : Cmd) (w : World) (hv : cmB c = true) : Calls Tryd.prog 31 #[cmv c] w fun e w' => e = .returned (.string (tx (cmT c))) ∧ Below w.heap.size w w' := by
  have hk := (cm_valid hv).1
  obtain ⟨k, n, a, b, x, y, z⟩ := c
  obtain ⟨m, rfl⟩ := Int.eq_ofNat_of_zero_le (show 0 ≤ k by simp only [] at hk; omega)
  have h := lgText_l m n.data.toList a.data.toList b.data.toList x y z w (by simp only [tx_of]; exact hv)
  simp only [tx_of] at h
  exact h
theorem cmT_len {c : Cmd} (hv : cmB c = true) : (cmT c).length ≤ 100 := by
  obtain ⟨k1, k5, ln, la, lb, hff⟩ := cm_valid hv
  have lk := kw_len c.k
  have e : ∀ s : ByteArray, s.data.toList.length = s.size := fun s => Array.length_toList
  have o1 : (optL c.a.data.toList).length ≤ c.a.size + 1 := by rw [← e]; unfold optL; split <;> simp
  have o2 : (optL c.b.data.toList).length ≤ c.b.size + 1 := by rw [← e]; unfold optL; split <;> simp
  have en := e c.n
  unfold cmT
  simp only [List.length_append, List.length_cons, List.length_nil]
  rcases hff with ⟨hf, hci⟩ | ⟨hf, _⟩
  · obtain ⟨x0, x1, y1, z1⟩ := ci_of hci
    have lf := fmT_len (a := c.f.1) (b := c.f.2.1) (c := c.f.2.2) ⟨by omega, by omega⟩ ⟨by omega, by omega⟩ ⟨by omega, by omega⟩
    rw [if_pos hf]
    simp only [List.length_append, List.length_cons, List.length_nil]
    omega
  · rw [if_neg (by rw [hf]; decide)]
    simp only [List.length_nil]
    omega
def ctL (c : Cmd) : List UInt8 := if cmB c then cmT c else []

set_option maxRecDepth 100000 in
set_option maxHeartbeats 2000000 in
theorem implCommandText (c : Cmd) (w : World) (hc : CmdOk c) (ht : Tab w) : Calls Tryd.prog 15 #[cmv c] w fun e w' => e = .returned (.tuple #[.string (tx (ctL c)), .bool (cmB c)]) ∧ Below w.heap.size w w' := by
  have HC := hide hc
  have HT := hide ht
  clear hc ht
  cases k : cmB c
  · have HL : Hid (ctL c = []) := hide (by simp [ctL, k])
    have HK := hide k
    clear k
    go_enter Tryd.func15, Tryd.ntmps15
    go_wp2_with fail
    refine (isCommand_a c _ (unhide HC)).mono ?_
    rintro en w1 ⟨rfl, hb1⟩
    have hcs9 := cells_calls hb1 [⟨w.heap.size, 0, none⟩, ⟨w.heap.size, 1, none⟩, ⟨w.heap.size, 2, none⟩, ⟨w.heap.size, 3, none⟩, ⟨w.heap.size, 4, none⟩, ⟨w.heap.size, 5, none⟩, ⟨w.heap.size, 6, none⟩] [.int .i64 (c.k), .string c.n, .string c.a, .string c.b, .int .i64 c.f.1, .int .i64 c.f.2.1, .int .i64 c.f.2.2] (by refine ⟨?_, ?_, ?_, ?_, ?_, ?_, ?_, trivial⟩ <;> exact byCT)
    have hzs9 := blocks_calls hb1 [w.heap.size] (by refine ⟨?_, trivial⟩ <;> first | with_reducible assumption | omega | (simp; omega) | (simp; done))
    try clear c00 c01 c02 c03 c04 c05 c06
    obtain ⟨c00, c01, c02, c03, c04, c05, c06, -⟩ := hcs9
    obtain ⟨z0, -⟩ := hzs9
    have hs1 := hb1.size
    rw [unhide HK]
    go_wp2
    go_ret2
    exact ⟨by rw [unhide HL]; rfl, byGG⟩
  · have HL : Hid (ctL c = cmT c) := hide (by simp [ctL, k])
    have HK := hide k
    clear k
    go_enter Tryd.func15, Tryd.ntmps15
    go_wp2_with fail
    refine (isCommand_a c _ (unhide HC)).mono ?_
    rintro en w1 ⟨rfl, hb1⟩
    have hcs9 := cells_calls hb1 [⟨w.heap.size, 0, none⟩, ⟨w.heap.size, 1, none⟩, ⟨w.heap.size, 2, none⟩, ⟨w.heap.size, 3, none⟩, ⟨w.heap.size, 4, none⟩, ⟨w.heap.size, 5, none⟩, ⟨w.heap.size, 6, none⟩] [.int .i64 (c.k), .string c.n, .string c.a, .string c.b, .int .i64 c.f.1, .int .i64 c.f.2.1, .int .i64 c.f.2.2] (by refine ⟨?_, ?_, ?_, ?_, ?_, ?_, ?_, trivial⟩ <;> exact byCT)
    have hzs9 := blocks_calls hb1 [w.heap.size] (by refine ⟨?_, trivial⟩ <;> first | with_reducible assumption | omega | (simp; omega) | (simp; done))
    try clear c00 c01 c02 c03 c04 c05 c06
    obtain ⟨c00, c01, c02, c03, c04, c05, c06, -⟩ := hcs9
    obtain ⟨z0, -⟩ := hzs9
    have hs1 := hb1.size
    rw [unhide HK]
    have hg1 : Below w.heap.size w w1 := byGG
    go_wp2_with fail
    refine (commandText_a c _ (unhide HK) ((unhide HT).below hg1)).mono ?_
    rintro en w2 ⟨rfl, hb2⟩
    go_wp2
    go_ret2
    exact ⟨by rw [unhide HL]; rfl, hg1.trans (hb2.mono hg1.size)⟩

set_option maxRecDepth 100000 in
set_option maxHeartbeats 2000000 in
theorem specCommandText (c : Cmd) (w : World) (hc : CmdOk c) : Calls Tryd.prog 13 #[cmv c] w fun e w' => e = .returned (.tuple #[.string (tx (ctL c)), .bool (cmB c)]) ∧ Below w.heap.size w w' := by
  have HC := hide hc
  skip
  clear hc 
  cases k : cmB c
  · have HL : Hid (ctL c = []) := hide (by simp [ctL, k])
    have HK := hide k
    clear k
    go_enter Tryd.func13, Tryd.ntmps13
    go_wp2_with fail
    refine (lgCommand_a c _ (unhide HC)).mono ?_
    rintro en w1 ⟨rfl, hb1⟩
    have hcs9 := cells_calls hb1 [⟨w.heap.size, 0, none⟩, ⟨w.heap.size, 1, none⟩, ⟨w.heap.size, 2, none⟩, ⟨w.heap.size, 3, none⟩, ⟨w.heap.size, 4, none⟩, ⟨w.heap.size, 5, none⟩, ⟨w.heap.size, 6, none⟩] [.int .i64 (c.k), .string c.n, .string c.a, .string c.b, .int .i64 c.f.1, .int .i64 c.f.2.1, .int .i64 c.f.2.2] (by refine ⟨?_, ?_, ?_, ?_, ?_, ?_, ?_, trivial⟩ <;> exact byCT)
    have hzs9 := blocks_calls hb1 [w.heap.size] (by refine ⟨?_, trivial⟩ <;> first | with_reducible assumption | omega | (simp; omega) | (simp; done))
    try clear c00 c01 c02 c03 c04 c05 c06
    obtain ⟨c00, c01, c02, c03, c04, c05, c06, -⟩ := hcs9
    obtain ⟨z0, -⟩ := hzs9
    have hs1 := hb1.size
    rw [unhide HK]
    go_wp2
    go_ret2
    exact ⟨by rw [unhide HL]; rfl, byGG⟩
  · have HL : Hid (ctL c = cmT c) := hide (by simp [ctL, k])
    have HK := hide k
    clear k
    go_enter Tryd.func13, Tryd.ntmps13
    go_wp2_with fail
    refine (lgCommand_a c _ (unhide HC)).mono ?_
    rintro en w1 ⟨rfl, hb1⟩
    have hcs9 := cells_calls hb1 [⟨w.heap.size, 0, none⟩, ⟨w.heap.size, 1, none⟩, ⟨w.heap.size, 2, none⟩, ⟨w.heap.size, 3, none⟩, ⟨w.heap.size, 4, none⟩, ⟨w.heap.size, 5, none⟩, ⟨w.heap.size, 6, none⟩] [.int .i64 (c.k), .string c.n, .string c.a, .string c.b, .int .i64 c.f.1, .int .i64 c.f.2.1, .int .i64 c.f.2.2] (by refine ⟨?_, ?_, ?_, ?_, ?_, ?_, ?_, trivial⟩ <;> exact byCT)
    have hzs9 := blocks_calls hb1 [w.heap.size] (by refine ⟨?_, trivial⟩ <;> first | with_reducible assumption | omega | (simp; omega) | (simp; done))
    try clear c00 c01 c02 c03 c04 c05 c06
    obtain ⟨c00, c01, c02, c03, c04, c05, c06, -⟩ := hcs9
    obtain ⟨z0, -⟩ := hzs9
    have hs1 := hb1.size
    rw [unhide HK]
    have hg1 : Below w.heap.size w w1 := byGG
    go_wp2_with fail
    refine (lgText_a c _ (unhide HK)).mono ?_
    rintro en w2 ⟨rfl, hb2⟩
    go_wp2
    go_ret2
    exact ⟨by rw [unhide HL]; rfl, hg1.trans (hb2.mono hg1.size)⟩
end Go.Proofs.YtdffleonelapfaaDoor
