/- ParseForm, impl. -/
import Derived.Test.YtfoofbcmaljmoaaGreatDoorPcp
import Derived.Test.YtfoofbcmaljmoaaGreatDoorIiT
import Derived.Test.YtfoofbcmaljmoaaGreatDoorFmt
import Derived.Deep.RegionHeld3
namespace Go.Proofs.YtfoofbcmaljmoaaGreatDoor
open Go.RowKit
set_option linter.unusedVariables false
set_option linter.unusedSimpArgs false
attribute [local go_sem] q2 q3 q4 q5 q6 q7 q8 q9 q10 q11 q12

def RetPF (w : World) (F : Int × Int × Int) (ok : Bool) (e : Ending) (w' : World) : Prop := e = .returned (.tuple #[.agg #[.int .i64 F.1, .int .i64 F.2.1, .int .i64 F.2.2], .bool ok]) ∧ Below w.heap.size w w'
set_option maxRecDepth 100000 in
set_option maxHeartbeats 4000000 in
theorem pf_1 (s : ByteArray) (n : Nat) (w : World) (h3 : ((n : Int) != 3) = true) (HS : Hid (∀ W, Below w.heap.size w W → Calls Tryz.prog 21 #[.string s] W fun e w' => ∃ a c, e = .returned (.slice a n c) ∧ Below W.heap.size W w')) :
  Calls Tryz.prog 9 #[.string s] w (RetPF w (0, 0, 0) false) := by
 go_enter Tryz.func9, Tryz.ntmps9
 go_wp2_with fail
 refine ((unhide HS) _ byGG).mono ?_
 rintro e w1 ⟨a1, c1, rfl, hb1⟩
 have tq0 := Wi3.c hb1 w.heap.size 0 0 0
 try clear c00 c01 c02 f00 f01 f02
 obtain ⟨c00, c01, c02, f00, f01, f02, z0⟩ := tq0
 have s1 := hb1.size
 go_wp2
 refine bodyPost_ret (v := .tuple #[.agg #[.int .i64 0, .int .i64 0, .int .i64 0], .bool false]) (by simp [results, Tryz.results9, go_sem, *]) rfl ?_
 exact ⟨rfl, byGG⟩
set_option maxRecDepth 100000 in
set_option maxHeartbeats 4000000 in
theorem pf_3 (s : ByteArray) (x y z : Int) (gd te : Bool) (T : ByteArray) (w : World)
  (HE : Hid (∀ W, Below w.heap.size w W → Calls Tryz.prog 21 #[.string s] W (RetIL W [x, y, z])))
  (HI : Hid (∀ W, Calls Tryz.prog 22 #[.agg #[.int .i64 x, .int .i64 y, .int .i64 z]] W fun e w' => e = .returned (.bool gd) ∧ Below W.heap.size W w'))
  (HT : Hid (gd = true → ∀ W, Below w.heap.size w W → Calls Tryz.prog 23 #[.agg #[.int .i64 x, .int .i64 y, .int .i64 z]] W fun e w' => e = .returned (.string T) ∧ Below W.heap.size W w'))
  (hte : (T.toList == s.toList) = te) :
  Calls Tryz.prog 9 #[.string s] w (if gd && te then RetPF w (x, y, z) true else RetPF w (0, 0, 0) false) := by
 obtain ⟨RET, hRET⟩ : ∃ P : Ending → World → Prop, P = (if gd && te then RetPF w (x, y, z) true else RetPF w (0, 0, 0) false) := ⟨_, rfl⟩
 rw [← hRET]
 have HRET := hide hRET
 clear hRET
 go_enter Tryz.func9, Tryz.ntmps9
 go_wp2_with fail
 refine ((unhide HE) _ byGG).mono ?_
 rintro e w2 ⟨a2, c2, rfl, hl2, hb2⟩
 have tq0 := Wi3.c hb2 w.heap.size 0 0 0
 try clear c00 c01 c02 f00 f01 f02
 obtain ⟨c00, c01, c02, f00, f01, f02, z0⟩ := tq0
 have s2 := hb2.size
 obtain ⟨gE, hgE, hgl⟩ := hl2.some9 (by simp)
 have hgE2 := hl2.lt gE (by rw [hgE]; rfl)
 subst hgE
 have u0 : w2.cell? ⟨gE, 0, none⟩ = some (.int .i64 x) := hl2.cell9 (j := 0) (by simp)
 have u1 : w2.cell? ⟨gE, 1, none⟩ = some (.int .i64 y) := hl2.cell9 (j := 1) (by simp)
 have u2 : w2.cell? ⟨gE, 2, none⟩ = some (.int .i64 z) := hl2.cell9 (j := 2) (by simp)
 have hgE3 : gE < w2.heap.size := hgE2.2
 have gB : Below w.heap.size w w2 := byGG
 clear hl2 hgl hgE2 hb2 HE
 go_wp2_with fail
 go_region_held3 (fun W => W.cell? ⟨gE, 0, none⟩ = some (.int .i64 x) ∧ W.cell? ⟨gE, 1, none⟩ = some (.int .i64 y) ∧ W.cell? ⟨gE, 2, none⟩ = some (.int .i64 z)) (first | exact ⟨u0, u1, u2⟩ | go_keep) (fail)
 all_goals
  clear u0 u1 u2
  cases gd
  ·go_wp2_with (go_at_call 22; refine ((unhide HI) _).mono ?_; rintro e w6 ⟨rfl, hb6⟩; have tq0 := Wi3.c hb6 w.heap.size 0 0 0; have tq1 := Ri3.c hb6 w2.heap.size x y z; (try clear c00 c01 c02 f00 f01 f02); (try clear c10 c11 c12); obtain ⟨c00, c01, c02, f00, f01, f02, z0⟩ := tq0; obtain ⟨c10, c11, c12, z1⟩ := tq1; have s6 := hb6.size)
   refine bodyPost_ret (v := .tuple #[.agg #[.int .i64 0, .int .i64 0, .int .i64 0], .bool false]) (by simp [results, Tryz.results9, go_sem, *]) rfl ?_
   rw [unhide HRET]
   exact ⟨rfl, byGG⟩
  ·cases te
   ·have ht9 : (!(T.toList == s.toList)) = true := by rw [hte]; rfl
    go_wp2_with (first | (go_at_call 22; refine ((unhide HI) _).mono ?_; rintro e w6 ⟨rfl, hb6⟩; have tq0 := Wi3.c hb6 w.heap.size 0 0 0; have tq1 := Ri3.c hb6 w2.heap.size x y z; (try clear c00 c01 c02 f00 f01 f02); (try clear c10 c11 c12); obtain ⟨c00, c01, c02, f00, f01, f02, z0⟩ := tq0; obtain ⟨c10, c11, c12, z1⟩ := tq1; have s6 := hb6.size) | (go_at_call 23; refine ((unhide HT) (by first | rfl | trivial) _ byGG).mono ?_; rintro e w7 ⟨rfl, hb7⟩; have tq0 := Wi3.c hb7 w.heap.size 0 0 0; have tq1 := Ri3.c hb7 w2.heap.size x y z; (try clear c00 c01 c02 f00 f01 f02); (try clear c10 c11 c12); obtain ⟨c00, c01, c02, f00, f01, f02, z0⟩ := tq0; obtain ⟨c10, c11, c12, z1⟩ := tq1; have s7 := hb7.size))
    refine bodyPost_ret (v := .tuple #[.agg #[.int .i64 0, .int .i64 0, .int .i64 0], .bool false]) (by simp [results, Tryz.results9, go_sem, *]) rfl ?_
    rw [unhide HRET]
    exact ⟨rfl, byGG⟩
   ·have ht9 : (!(T.toList == s.toList)) = false := by rw [hte]; rfl
    go_wp2_with (first | (go_at_call 22; refine ((unhide HI) _).mono ?_; rintro e w6 ⟨rfl, hb6⟩; have tq0 := Wi3.c hb6 w.heap.size 0 0 0; have tq1 := Ri3.c hb6 w2.heap.size x y z; (try clear c00 c01 c02 f00 f01 f02); (try clear c10 c11 c12); obtain ⟨c00, c01, c02, f00, f01, f02, z0⟩ := tq0; obtain ⟨c10, c11, c12, z1⟩ := tq1; have s6 := hb6.size) | (go_at_call 23; refine ((unhide HT) (by first | rfl | trivial) _ byGG).mono ?_; rintro e w7 ⟨rfl, hb7⟩; have tq0 := Wi3.c hb7 w.heap.size 0 0 0; have tq1 := Ri3.c hb7 w2.heap.size x y z; (try clear c00 c01 c02 f00 f01 f02); (try clear c10 c11 c12); obtain ⟨c00, c01, c02, f00, f01, f02, z0⟩ := tq0; obtain ⟨c10, c11, c12, z1⟩ := tq1; have s7 := hb7.size))
    have k09 : (((w7.setCell ⟨w.heap.size, 0, none⟩ (.int .i64 x)).setCell ⟨w.heap.size, 1, none⟩ (.int .i64 y)).setCell ⟨w.heap.size, 2, none⟩ (.int .i64 z)).cell? ⟨w.heap.size, 0, none⟩ = some (.int .i64 x) := byCT
    have k19 : (((w7.setCell ⟨w.heap.size, 0, none⟩ (.int .i64 x)).setCell ⟨w.heap.size, 1, none⟩ (.int .i64 y)).setCell ⟨w.heap.size, 2, none⟩ (.int .i64 z)).cell? ⟨w.heap.size, 1, none⟩ = some (.int .i64 y) := byCT
    have k29 : (((w7.setCell ⟨w.heap.size, 0, none⟩ (.int .i64 x)).setCell ⟨w.heap.size, 1, none⟩ (.int .i64 y)).setCell ⟨w.heap.size, 2, none⟩ (.int .i64 z)).cell? ⟨w.heap.size, 2, none⟩ = some (.int .i64 z) := byCT
    refine bodyPost_ret (v := .tuple #[.agg #[.int .i64 x, .int .i64 y, .int .i64 z], .bool true]) (by first | (simp [results, Tryz.results9, go_sem, k09, k19, k29]; done) | (simp [results, Tryz.results9, go_sem, k09, k19, k29]; rfl)) rfl ?_
    rw [unhide HRET]
    exact ⟨rfl, byGG⟩
theorem list3 {α : Type} {l : List α} (h : l.length = 3) : ∃ a b c, l = [a, b, c] := by
 match l, h with
 | [a, b, c], _ => exact ⟨a, b, c, rfl⟩
theorem ParseForm_a (s : ByteArray) (hs : s.size ≤ 9000000) (w : World) (hE : Env w) : Calls Tryz.prog 9 #[.string s] w (RetPF w (pfV s) (pfB s)) := by
 have hii : ∀ W, Below w.heap.size w W → Calls Tryz.prog 21 #[.string s] W (RetIL W (iiL s)) := fun W hb => integersIn_a s hs W (hE.below hb)
 by_cases h3 : (iiL s).length = 3
 ·obtain ⟨x, y, z, hx⟩ := list3 h3
  have hb := iiL_b s
  rw [hx] at hii hb
  have i0 := hb x (by simp)
  have i1 := hb y (by simp)
  have i2 := hb z (by simp)
  have hpf : pfB s = (formB x y z && ((tx (fmT x y z)).toList == s.toList)) := by
   unfold pfB
   rw [hx]
   have : ((tx (fmT x y z)).toList == s.toList) = decide (tx (fmT x y z) = s) := by
    rw [Lib.toList_data, Lib.toList_data]
    by_cases q : tx (fmT x y z) = s
    ·rw [q]; simp
    ·have : ¬ (tx (fmT x y z)).data.toList = s.data.toList := fun e => q (by rw [← tx_of s, ← e, tx_list])
     rw [decide_eq_false q]
     exact beq_eq_false_iff_ne.2 this
   rw [this]
   rfl
  have hpv : pfV s = if pfB s then (x, y, z) else (0, 0, 0) := by
   unfold pfV
   rw [hx]; rfl
  have := pf_3 s x y z (formB x y z) ((tx (fmT x y z)).toList == s.toList) (tx (fmT x y z)) w (hide hii) (hide fun W => IsForm_a x y z W i0 i1 i2) (hide fun _ W hb => formText_a x y z W i0 i1 i2 (hE.below hb).tab) rfl
  rw [hpv, hpf]
  split
  ·rename_i q
   rw [if_pos q] at this
   rw [q]; exact this
  ·rename_i q
   rw [if_neg q] at this
   rw [Bool.not_eq_true] at q
   rw [q]; exact this
 ·have hpf : pfB s = false := by unfold pfB; simp [h3]
  have hpv : pfV s = (0, 0, 0) := by unfold pfV; rw [hpf]; rfl
  rw [hpv, hpf]
  exact pf_1 s _ w (by simp; omega) (hide fun W hb => (hii W hb).mono fun e w' ⟨a, c, h1, _, h3⟩ => ⟨a, c, h1, h3⟩)
end Go.Proofs.YtfoofbcmaljmoaaGreatDoor
