/- The law FnExactParseCommand. -/
import Derived.Test.YtfoofbcmaljmoaaGreatDoorPcd
import Derived.Test.YtfoofbcmaljmoaaGreatDoorPcz
namespace Go.Proofs.YtfoofbcmaljmoaaGreatDoor
open Go.RowKit
set_option linter.unusedVariables false
set_option linter.unusedSimpArgs false
attribute [local go_sem] q2 q3 q4 q5 q6 q7 q8 q9 q10 q11 q12

theorem eqForm_q (x y z : Int) (w : World) :
  Calls Tryz.prog 12 #[.agg #[.int .i64 x, .int .i64 y, .int .i64 z], .agg #[.int .i64 x, .int .i64 y, .int .i64 z]] w fun e w' => e = .returned (.bool true) ∧ Below w.heap.size w w' := by
 go_enter Tryz.func12, Tryz.ntmps12
 go_wp2
 go_ret
 exact ⟨rfl, byGG⟩
set_option maxRecDepth 100000 in
set_option maxHeartbeats 4000000 in
theorem eqCommand_a (k : Int) (nm a b : ByteArray) (x y z : Int) (w : World) :
  Calls Tryz.prog 6 #[.agg #[.int .i64 k, .string nm, .string a, .string b, .int .i64 x, .int .i64 y, .int .i64 z], .agg #[.int .i64 k, .string nm, .string a, .string b, .int .i64 x, .int .i64 y, .int .i64 z]] w fun e w' => e = .returned (.bool true) ∧ Below w.heap.size w w' := by
 go_enter Tryz.func6, Tryz.ntmps6
 go_wp2_with (go_at_call 12; refine (eqForm_q _ _ _ _).mono ?_; rintro e w1 ⟨rfl, hb⟩)
 go_ret
 exact ⟨rfl, byGG⟩
set_option maxRecDepth 100000 in
set_option maxHeartbeats 4000000 in
theorem lawPc_w (s : ByteArray) (k : Int) (n a b : ByteArray) (f0 f1 f2 : Int) (ok : Bool) (w : World) (hq : ¬ (1048576 : Int) < (s.size : Int))
  (HA : Hid (∀ W, Calls Tryz.prog 4 #[.string s] W (RetCm W ⟨k, n, a, b, (f0, f1, f2)⟩ ok)))
  (HB : Hid (∀ W, Below w.heap.size w W → Calls Tryz.prog 5 #[.string s] W (RetCm W ⟨k, n, a, b, (f0, f1, f2)⟩ ok))) :
  Calls Tryz.prog 3 #[.string s] w fun e w' => e = .returned (.bool true) ∧ Below w.heap.size w w' := by
 go_enter Tryz.func3, Tryz.ntmps3
 go_wp2_with fail
 refine ((unhide HA) _).mono ?_
 rintro e w1 ⟨rfl, hb1⟩
 have s1 := hb1.size
 have g1 : Below w.heap.size w w1 := byGG
 clear hb1
 go_wp2_with fail
 refine ((unhide HB) _ byGG).mono ?_
 rintro e w2 ⟨rfl, hb2⟩
 have hcs9 := cells_calls hb2 [⟨w1.heap.size, 0, none⟩, ⟨w1.heap.size, 1, none⟩, ⟨w1.heap.size, 2, none⟩, ⟨w1.heap.size, 3, none⟩, ⟨w1.heap.size, 4, none⟩, ⟨w1.heap.size, 5, none⟩, ⟨w1.heap.size, 6, none⟩] [.int .i64 k, .string n, .string a, .string b, .int .i64 f0, .int .i64 f1, .int .i64 f2] (by refine ⟨?_, ?_, ?_, ?_, ?_, ?_, ?_, trivial⟩ <;> exact byCT)
 have hzs9 := blocks_calls hb2 [w1.heap.size] (by refine ⟨?_, trivial⟩ <;> first | with_reducible assumption | omega | (simp; omega) | (simp; done))
 try clear c00 c01 c02 c03 c04 c05 c06
 obtain ⟨c00, c01, c02, c03, c04, c05, c06, -⟩ := hcs9
 obtain ⟨z0, -⟩ := hzs9
 have s2 := hb2.size
 have g2 : Below w.heap.size w w2 := byGG
 clear hb2
 go_wp2_with fail
 refine (eqCommand_a _ _ _ _ _ _ _ _).mono ?_
 rintro e w3 ⟨rfl, hb3⟩
 go_wp2
 go_ret
 exact ⟨rfl, byGG⟩
set_option maxRecDepth 100000 in
set_option maxHeartbeats 4000000 in
theorem lawParseCommand (s : ByteArray) (w : World) (hE : Env w) :
  Calls Tryz.prog 3 #[.string s] w fun e w' => e = .returned (.bool true) ∧ Below w.heap.size w w' := by
 by_cases q : s.size ≤ 1048576
 ·obtain ⟨c, ok, hP⟩ := cm_ex s
  have h1 := fun W => specPc_a s (by omega) hP W
  have h2 := fun W (hb : Below w.heap.size w W) => implPc_a s (by omega) hP W (hE.below hb)
  obtain ⟨k, n, a, b, f0, f1, f2⟩ := c
  exact lawPc_w s k n a b f0 f1 f2 ok w (by omega) (hide h1) (hide h2)
 ·have hq : (1048576 : Int) < (s.size : Int) := by omega
  clear hE
  go_enter Tryz.func3, Tryz.ntmps3
  go_wp2
  go_ret
  exact ⟨rfl, byGG⟩
end Go.Proofs.YtfoofbcmaljmoaaGreatDoor
