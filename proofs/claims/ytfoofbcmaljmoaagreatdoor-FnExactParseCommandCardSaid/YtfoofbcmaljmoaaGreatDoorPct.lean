/- ParseCommand, impl.: fewer than two words. lgRead: not two to four words. -/
import Derived.Test.YtfoofbcmaljmoaaGreatDoorPci
import Derived.Test.YtfoofbcmaljmoaaGreatDoorPcf
import Derived.Test.YtfoofbcmaljmoaaGreatDoorCte
import Derived.Test.YtfoofbcmaljmoaaGreatDoorMps
import Derived.Test.YtfoofbcmaljmoaaGreatDoorPcs
namespace Go.Proofs.YtfoofbcmaljmoaaGreatDoor
open Go.RowKit
set_option linter.unusedVariables false
set_option linter.unusedSimpArgs false
attribute [local go_sem] q2 q3 q4 q5 q6 q7 q8 q9 q10 q11 q12

def RetCm (w : World) (c : Cmd) (ok : Bool) (e : Ending) (w' : World) : Prop := e = .returned (.tuple #[cmv c, .bool ok]) ∧ Below w.heap.size w w'
set_option maxRecDepth 100000 in
set_option maxHeartbeats 4000000 in
theorem pc_1 (s : ByteArray) (n : Nat) (w : World) (h2 : (n : Int) < 2) (HS : Hid (∀ W, Below w.heap.size w W → Calls Tryz.prog 8 #[.string s, .string (tx [32])] W fun e w' => ∃ a c, e = .returned (.slice a n c) ∧ Below W.heap.size W w')) :
  Calls Tryz.prog 5 #[.string s] w (RetCm w cm0 false) := by
 have hmm := @run_makeMap Tryz.prog
 go_enter Tryz.func5, Tryz.ntmps5
 go_wp2_with fail
 refine ((unhide HS) _ byGG).mono ?_
 rintro e w1 ⟨a1, c1, rfl, hb1⟩
 have hcs9 := cells_calls hb1 [⟨w.heap.size, 0, none⟩, ⟨w.heap.size, 1, none⟩, ⟨w.heap.size, 2, none⟩, ⟨w.heap.size, 3, none⟩, ⟨w.heap.size, 4, none⟩, ⟨w.heap.size, 5, none⟩, ⟨w.heap.size, 6, none⟩] [.int .i64 0, .string ⟨#[]⟩, .string ⟨#[]⟩, .string ⟨#[]⟩, .int .i64 0, .int .i64 0, .int .i64 0] (by refine ⟨?_, ?_, ?_, ?_, ?_, ?_, ?_, trivial⟩ <;> exact byCT)
 have hfs9 := frees_calls hb1 [⟨w.heap.size, 0, none⟩, ⟨w.heap.size, 1, none⟩, ⟨w.heap.size, 2, none⟩, ⟨w.heap.size, 3, none⟩, ⟨w.heap.size, 4, none⟩, ⟨w.heap.size, 5, none⟩, ⟨w.heap.size, 6, none⟩] (by refine ⟨?_, ?_, ?_, ?_, ?_, ?_, ?_, trivial⟩ <;> first | with_reducible assumption | omega | (simp; omega) | (simp; done)) (by refine ⟨?_, ?_, ?_, ?_, ?_, ?_, ?_, trivial⟩ <;> exact byFT)
 have hzs9 := blocks_calls hb1 [w.heap.size] (by refine ⟨?_, trivial⟩ <;> first | with_reducible assumption | omega | (simp; omega) | (simp; done))
 try clear c00 c01 c02 c03 c04 c05 c06 f00 f01 f02 f03 f04 f05 f06
 obtain ⟨c00, c01, c02, c03, c04, c05, c06, -⟩ := hcs9
 obtain ⟨f00, f01, f02, f03, f04, f05, f06, -⟩ := hfs9
 obtain ⟨z0, -⟩ := hzs9
 have s1 := hb1.size
 obtain ⟨m1, m2, m3, m4, m5, r1, r2, r3, r4, r5, hms, hbm⟩ := ms_all w1
 have HMS := hide hms
 have hcs9 := cells_calls hbm [⟨w.heap.size, 0, none⟩, ⟨w.heap.size, 1, none⟩, ⟨w.heap.size, 2, none⟩, ⟨w.heap.size, 3, none⟩, ⟨w.heap.size, 4, none⟩, ⟨w.heap.size, 5, none⟩, ⟨w.heap.size, 6, none⟩] [.int .i64 0, .string ⟨#[]⟩, .string ⟨#[]⟩, .string ⟨#[]⟩, .int .i64 0, .int .i64 0, .int .i64 0] (by refine ⟨?_, ?_, ?_, ?_, ?_, ?_, ?_, trivial⟩ <;> exact byCT)
 have hfs9 := frees_calls hbm [⟨w.heap.size, 0, none⟩, ⟨w.heap.size, 1, none⟩, ⟨w.heap.size, 2, none⟩, ⟨w.heap.size, 3, none⟩, ⟨w.heap.size, 4, none⟩, ⟨w.heap.size, 5, none⟩, ⟨w.heap.size, 6, none⟩] (by refine ⟨?_, ?_, ?_, ?_, ?_, ?_, ?_, trivial⟩ <;> first | with_reducible assumption | omega | (simp; omega) | (simp; done)) (by refine ⟨?_, ?_, ?_, ?_, ?_, ?_, ?_, trivial⟩ <;> exact byFT)
 have hzs9 := blocks_calls hbm [w.heap.size] (by refine ⟨?_, trivial⟩ <;> first | with_reducible assumption | omega | (simp; omega) | (simp; done))
 try clear c00 c01 c02 c03 c04 c05 c06 f00 f01 f02 f03 f04 f05 f06
 obtain ⟨c00, c01, c02, c03, c04, c05, c06, -⟩ := hcs9
 obtain ⟨f00, f01, f02, f03, f04, f05, f06, -⟩ := hfs9
 obtain ⟨z0, -⟩ := hzs9
 have sm := hbm.size
 have gB : Below w.heap.size w w1 := byGG
 have gM : Below w.heap.size w m5 := gB.trans (hbm.mono gB.size)
 clear hms hbm hb1
 go_wp2
 refine bodyPost_ret (v := .tuple #[cmv cm0, .bool false]) (by simp [results, Tryz.results5, go_sem, cm0, tx, *]) rfl ?_
 exact ⟨rfl, byGG⟩
end Go.Proofs.YtfoofbcmaljmoaaGreatDoor
namespace Go.Proofs.YtfoofbcmaljmoaaGreatDoor
open Go.RowKit
set_option linter.unusedVariables false
set_option linter.unusedSimpArgs false
attribute [local go_sem] q2 q3 q4 q5 q6 q7 q8 q9 q10 q11 q12

set_option maxRecDepth 100000 in
set_option maxHeartbeats 4000000 in
theorem sr_1 (s : ByteArray) (n : Nat) (w : World) (h2 : ¬ (2 ≤ (n : Int) ∧ (n : Int) ≤ 4)) (hmb : n ≤ 8000000) (HS : Hid (∀ W, Below w.heap.size w W → Calls Tryz.prog 13 #[.string s, .int .u8 32] W fun e w' => ∃ a c, e = .returned (.slice a n c) ∧ Below W.heap.size W w')) :
  Calls Tryz.prog 7 #[.string s] w (RetCm w cm0 false) := by
 go_enter Tryz.func7, Tryz.ntmps7
 go_wp2_with fail
 refine ((unhide HS) _ byGG).mono ?_
 rintro e w1 ⟨a1, c1, rfl, hb1⟩
 have hcs9 := cells_calls hb1 [⟨w.heap.size, 0, none⟩, ⟨w.heap.size, 1, none⟩, ⟨w.heap.size, 2, none⟩, ⟨w.heap.size, 3, none⟩, ⟨w.heap.size, 4, none⟩, ⟨w.heap.size, 5, none⟩, ⟨w.heap.size, 6, none⟩] [.int .i64 0, .string ⟨#[]⟩, .string ⟨#[]⟩, .string ⟨#[]⟩, .int .i64 0, .int .i64 0, .int .i64 0] (by refine ⟨?_, ?_, ?_, ?_, ?_, ?_, ?_, trivial⟩ <;> exact byCT)
 have hfs9 := frees_calls hb1 [⟨w.heap.size, 0, none⟩, ⟨w.heap.size, 1, none⟩, ⟨w.heap.size, 2, none⟩, ⟨w.heap.size, 3, none⟩, ⟨w.heap.size, 4, none⟩, ⟨w.heap.size, 5, none⟩, ⟨w.heap.size, 6, none⟩] (by refine ⟨?_, ?_, ?_, ?_, ?_, ?_, ?_, trivial⟩ <;> first | with_reducible assumption | omega | (simp; omega) | (simp; done)) (by refine ⟨?_, ?_, ?_, ?_, ?_, ?_, ?_, trivial⟩ <;> exact byFT)
 have hzs9 := blocks_calls hb1 [w.heap.size] (by refine ⟨?_, trivial⟩ <;> first | with_reducible assumption | omega | (simp; omega) | (simp; done))
 try clear c00 c01 c02 c03 c04 c05 c06 f00 f01 f02 f03 f04 f05 f06
 obtain ⟨c00, c01, c02, c03, c04, c05, c06, -⟩ := hcs9
 obtain ⟨f00, f01, f02, f03, f04, f05, f06, -⟩ := hfs9
 obtain ⟨z0, -⟩ := hzs9
 have s1 := hb1.size
 go_wp2_with fail
 refine (l1In_any _ _ _ _).mono ?_
 rintro e w2 ⟨rfl, rfl⟩
 have hb : inB (n : Int) 2 4 = false := by simp [inB]; omega
 go_wp2_with fail
 refine bodyPost_ret (v := .tuple #[cmv cm0, .bool false]) (by simp [results, Tryz.results7, go_sem, cm0, tx, *]) rfl ?_
 exact ⟨rfl, byGG⟩
end Go.Proofs.YtfoofbcmaljmoaaGreatDoor
