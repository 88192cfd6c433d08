/- foRead. -/
import Derived.Test.YtfoofbcmaljmoaaGreatDoorPcg
namespace Go.Proofs.YtfoofbcmaljmoaaGreatDoor
open Go.RowKit
set_option linter.unusedVariables false
set_option linter.unusedSimpArgs false
attribute [local go_sem] q2 q3 q4 q5 q6 q7 q8 q9 q10 q11 q12

set_option maxRecDepth 100000 in
set_option maxHeartbeats 4000000 in
theorem fr_no (s : ByteArray) (m : ByteArray) (ok : Bool) (n : Nat) (w : World) (hno : ok = false ∨ ((n : Int) != 3) = true)
  (HN : Hid (∀ W, Calls Tryz.prog 27 #[.string s, .int .u8 40, .int .u8 41] W fun e w' => e = .returned (.tuple #[.string m, .bool ok]) ∧ W = w'))
  (HS : Hid (∀ W, Calls Tryz.prog 28 #[.string m, .int .u8 44, .int .i64 3] W fun e w' => ∃ a c, e = .returned (.slice a n c) ∧ Below W.heap.size W w')) :
  Calls Tryz.prog 17 #[.string s] w (RetPF w (0, 0, 0) false) := by
 cases ok
 ·go_enter Tryz.func17, Tryz.ntmps17
  go_wp2_with (go_at_call 27; refine ((unhide HN) _).mono ?_; rintro e w1 ⟨rfl, rfl⟩)
  refine ((unhide HS) _).mono ?_
  rintro e w2 ⟨a2, c2, rfl, hb2⟩
  have tq0 := Wi3.c hb2 w.heap.size 0 0 0
  try clear c00 c01 c02 f00 f01 f02
  obtain ⟨c00, c01, c02, f00, f01, f02, z0⟩ := tq0
  have s2 := hb2.size
  go_wp2
  refine bodyPost_ret (v := .tuple #[.agg #[.int .i64 0, .int .i64 0, .int .i64 0], .bool false]) (by simp [results, Tryz.results17, go_sem, *]) rfl ?_
  exact ⟨rfl, byGG⟩
 ·have hn : ((n : Int) != 3) = true := by
   rcases hno with h | h
   ·cases h
   ·exact h
  clear hno
  go_enter Tryz.func17, Tryz.ntmps17
  go_wp2_with (go_at_call 27; refine ((unhide HN) _).mono ?_; rintro e w1 ⟨rfl, rfl⟩)
  refine ((unhide HS) _).mono ?_
  rintro e w2 ⟨a2, c2, rfl, hb2⟩
  have tq0 := Wi3.c hb2 w.heap.size 0 0 0
  try clear c00 c01 c02 f00 f01 f02
  obtain ⟨c00, c01, c02, f00, f01, f02, z0⟩ := tq0
  have s2 := hb2.size
  go_wp2
  refine bodyPost_ret (v := .tuple #[.agg #[.int .i64 0, .int .i64 0, .int .i64 0], .bool false]) (by simp [results, Tryz.results17, go_sem, *]) rfl ?_
  exact ⟨rfl, byGG⟩
set_option maxRecDepth 100000 in
set_option maxHeartbeats 4000000 in
theorem fr_yes (s : ByteArray) (m : ByteArray) (x y z : Int) (w : World)
  (HN : Hid (∀ W, Calls Tryz.prog 27 #[.string s, .int .u8 40, .int .u8 41] W fun e w' => e = .returned (.tuple #[.string m, .bool true]) ∧ W = w'))
  (HS : Hid (∀ W, Calls Tryz.prog 28 #[.string m, .int .u8 44, .int .i64 3] W (RetIL W [x, y, z]))) :
  Calls Tryz.prog 17 #[.string s] w (RetPF w (x, y, z) true) := by
 go_enter Tryz.func17, Tryz.ntmps17
 go_wp2_with (go_at_call 27; refine ((unhide HN) _).mono ?_; rintro e w1 ⟨rfl, rfl⟩)
 refine ((unhide HS) _).mono ?_
 rintro e w2 ⟨a2, c2, rfl, hl2, hb2⟩
 have tq0 := Wi3.c hb2 w.heap.size 0 0 0
 try clear c00 c01 c02 f00 f01 f02
 obtain ⟨c00, c01, c02, f00, f01, f02, z0⟩ := tq0
 have s2 := hb2.size
 obtain ⟨gE, hgE, hgl⟩ := hl2.some9 (by simp)
 have hgE2 := hl2.lt gE (by rw [hgE]; rfl)
 subst hgE
 have u0 : w2.cell? ⟨gE, 0, none⟩ = some (.int .i64 x) := hl2.cell9 (j := 0) (by simp)
 have u1 : w2.cell? ⟨gE, 1, none⟩ = some (.int .i64 y) := hl2.cell9 (j := 1) (by simp)
 have u2 : w2.cell? ⟨gE, 2, none⟩ = some (.int .i64 z) := hl2.cell9 (j := 2) (by simp)
 have hgE3 : gE < w2.heap.size := hgE2.2
 have hgE4 : w.heap.size < gE := by have := hgE2.1; simp at this; omega
 have hgE5 : gE ≠ w.heap.size := by omega
 have hgE6 : w.heap.size ≠ gE := by omega
 have gB : Below w.heap.size w w2 := byGG
 clear hl2 hgl hgE2 hb2
 go_wp2_with fail
 go_region_held3 (fun W => W.cell? ⟨gE, 0, none⟩ = some (.int .i64 x) ∧ W.cell? ⟨gE, 1, none⟩ = some (.int .i64 y) ∧ W.cell? ⟨gE, 2, none⟩ = some (.int .i64 z)) (first | exact ⟨u0, u1, u2⟩ | go_keep) (fail)
 all_goals
  go_wp2
  have k09 : (((w2.setCell ⟨w.heap.size, 0, none⟩ (.int .i64 x)).setCell ⟨w.heap.size, 1, none⟩ (.int .i64 y)).setCell ⟨w.heap.size, 2, none⟩ (.int .i64 z)).cell? ⟨w.heap.size, 0, none⟩ = some (.int .i64 x) := byCT
  have k19 : (((w2.setCell ⟨w.heap.size, 0, none⟩ (.int .i64 x)).setCell ⟨w.heap.size, 1, none⟩ (.int .i64 y)).setCell ⟨w.heap.size, 2, none⟩ (.int .i64 z)).cell? ⟨w.heap.size, 1, none⟩ = some (.int .i64 y) := byCT
  have k29 : (((w2.setCell ⟨w.heap.size, 0, none⟩ (.int .i64 x)).setCell ⟨w.heap.size, 1, none⟩ (.int .i64 y)).setCell ⟨w.heap.size, 2, none⟩ (.int .i64 z)).cell? ⟨w.heap.size, 2, none⟩ = some (.int .i64 z) := byCT
  refine bodyPost_ret (v := .tuple #[.agg #[.int .i64 x, .int .i64 y, .int .i64 z], .bool true]) (by first | (simp [results, Tryz.results17, go_sem, k09, k19, k29]; done) | (simp [results, Tryz.results17, go_sem, k09, k19, k29]; rfl)) rfl ?_
  exact ⟨rfl, byGG⟩
theorem foRead_a (s : ByteArray) (hs : s.size ≤ 2000000) (w : World) : Calls Tryz.prog 17 #[.string s] w (RetPF w (frV s.data.toList) (frB s.data.toList)) := by
 obtain ⟨l, hl⟩ : ∃ l, s.data.toList = l := ⟨_, rfl⟩
 have hls : l.length = s.size := by rw [← hl]; exact Array.length_toList
 have HN := hide (fun W => foInside_a s (by omega) W)
 have hml : (fiM l).length ≤ s.size := by
  unfold fiM
  split
  ·rw [List.length_take, List.length_drop]; omega
  ·simp
 have HS : Hid (∀ W, Calls Tryz.prog 28 #[.string (tx (fiM l)), .int .u8 44, .int .i64 3] W (RetIL W (fsL (fiM l)))) := hide fun W => by
  have := foInts_a (tx (fiM l)) (by rw [tx_size]; omega) W
  rw [tx_list] at this
  exact this
 rw [hl] at HN ⊢
 by_cases q : frB l = true
 ·have h := q
  unfold frB at h
  rw [Bool.and_eq_true] at h
  have h3 : (fsL (fiM l)).length = 3 := by
   have h2 := h.2
   unfold fsL
   rw [if_pos h2, List.length_map]
   unfold fsOk at h2
   rw [Bool.and_eq_true, decide_eq_true_eq] at h2
   exact h2.1
  obtain ⟨x, y, z, hx⟩ := list3 h3
  have hv : frV l = (x, y, z) := by unfold frV; rw [if_pos q, hx]; rfl
  rw [hx] at HS
  rw [h.1] at HN
  rw [hv, q]
  exact fr_yes s _ x y z w HN HS
 ·have hv : frV l = (0, 0, 0) := by unfold frV; rw [if_neg q]
  rw [Bool.not_eq_true] at q
  rw [hv, q]
  refine fr_no s _ (fiOk l) (fsL (fiM l)).length w ?_ HN (hide fun W => ((unhide HS) W).mono fun e w' ⟨a, c, h1, _, h3⟩ => ⟨a, c, h1, h3⟩)
  unfold frB at q
  rw [Bool.and_eq_false_iff] at q
  rcases q with q | q
  ·exact .inl q
  ·refine .inr ?_
   unfold fsL
   rw [if_neg (by rw [q]; decide)]
   rfl
end Go.Proofs.YtfoofbcmaljmoaaGreatDoor
