/- Delays and forms near a form drawn. The walk of impl.squareCounts: the table of the numbers of representations. What the laws of squares draw. What the laws of delays draw from bytes. big, sameInts. The law's comparison of two lists of forms. -/
import Derived.Test.YtihfacmlfelliaaGreatDrr
import Derived.Test.YtihfacmlfelliaaGreatNum
import Derived.Test.YtihfacmlfelliaaGreatConv
import Derived.Deep.OwnRows
import Derived.Test.YtihfacmlfelliaaGreatLevel
import Derived.Test.YtihfacmlfelliaaGreatSt
namespace Go.Proofs.YtihfacmlfelliaaGreat
open Go.RowKit
set_option linter.unusedVariables false
set_option linter.unusedSimpArgs false
attribute [local go_sem] q2 q3 q4 q5 q6 q7 q8 q9 q10 q11 q12

variable {B : Nat}

set_option maxRecDepth 100000 in
set_option maxHeartbeats 8000000 in
theorem delay_d (b : Nat) (K : Int) (w : World) (h0 : Cur B w b K) (hK : K ≤ 7000000000) : Calls Tryz.prog 25 #[.pointer (some ⟨b, 0, none⟩)] w (Drew B w b (K + 4) (fun x => -1 ≤ x ∧ x ≤ 201)) := by
 have hs0 := h0.lt
 go_enter Tryz.func25, Tryz.ntmps25
 go_wp2_with fail
 refine (pick_a (B := B) b K 60 _ (by repeat' with_reducible first | assumption | refine Cur.alc ?_ _ | refine Cur.drw ?_ | refine Cur.setN ?_ (by first | with_reducible assumption | omega)) (by omega) (by omega)).mono ?_
 rintro e1 w1 ⟨v1, rfl, p1, h1, g1⟩
 have hs1 := h1.lt
 have hz1 : w.heap.size ≤ w1.heap.size := Nat.le_trans (by first | exact Nat.le_refl _ | with_reducible assumption | (simp; done) | (simp; omega)) g1.size
 go_wp2_with fail
 refine (among_a (B := B) b (K + 2) _ 0 11 11 (fun x => -1 ≤ x ∧ x ≤ 201) _ (by repeat' with_reducible first | assumption | refine Cur.alc ?_ _ | refine Cur.drw ?_ | refine Cur.setN ?_ (by first | with_reducible assumption | omega)) (by omega) (by omega) ⟨by omega, fun i hi => by rcases (show i = 0 ∨ i = 1 ∨ i = 2 ∨ i = 3 ∨ i = 4 ∨ i = 5 ∨ i = 6 ∨ i = 7 ∨ i = 8 ∨ i = 9 ∨ i = 10 by omega) with rfl | rfl | rfl | rfl | rfl | rfl | rfl | rfl | rfl | rfl | rfl <;> exact ⟨_, by go_simp; rfl, by first | trivial | (constructor <;> omega)⟩⟩).mono ?_
 rintro e2 w2 ⟨v2, rfl, p2, h2, g2⟩
 have hs2 := h2.lt
 have hz2 : w.heap.size ≤ w2.heap.size := Nat.le_trans (by first | exact Nat.le_refl _ | with_reducible assumption | (simp; done) | (simp; omega)) g2.size
 go_wp2
 go_ret
 exact ⟨_, rfl, p2, Cur.le (K := ((K + 2) + 2)) (by repeat' with_reducible first | assumption | refine Cur.alc ?_ _ | refine Cur.drw ?_ | refine Cur.setN ?_ (by first | with_reducible assumption | omega)) (by omega), (by repeat' first | exact World.grownBy.refl' _ _ | refine World.grownBy.setNew ?_ (by first | omega | (simp; omega)) _ _ | refine World.grownBy.alloc' ?_ _ | refine World.grownBy.drewN' ?_ _ | refine World.grownBy.drew' ?_ | refine World.grownBy.trans' ?_ (by assumption) | refine World.grownBy.below' ?_ (by assumption))⟩

end Go.Proofs.YtihfacmlfelliaaGreat
namespace Go.Proofs.YtihfacmlfelliaaGreat
open Go.RowKit
set_option linter.unusedVariables false
set_option linter.unusedSimpArgs false

end Go.Proofs.YtihfacmlfelliaaGreat
namespace Go.Proofs.YtihfacmlfelliaaGreat
open Go.RowKit
set_option linter.unusedVariables false
set_option linter.unusedSimpArgs false
attribute [local go_sem] q2 q3 q4 q5 q6 q7 q8 q9 q10 q11 q12

variable {B : Nat}
def ArgB (w : World) (v : Value) (n : Nat) : Prop := (∃ a c, v = .slice a n c ∧ n = 0) ∨ ∃ g off c, v = .slice (some ⟨g, off, none⟩) n c ∧ g < w.heap.size ∧ ∀ i, i < n → ∃ x : Int, w.cell? ⟨g, off + i, none⟩ = some (.int .u8 x) ∧ 0 ≤ x ∧ x ≤ 255
theorem ArgB.below {w w' : World} {v : Value} {n : Nat} (h : ArgB w v n) (hb : Below w.heap.size w w') : ArgB w' v n := by
 rcases h with h | ⟨g, off, c, h1, h2, h3⟩
 ·exact .inl h
 ·exact .inr ⟨g, off, c, h1, Nat.lt_of_lt_of_le h2 hb.size, fun i hi => by obtain ⟨x, hx, h4⟩ := h3 i hi; exact ⟨x, cell_call hb hx, h4⟩⟩
theorem ArgB.len {w : World} {v : Value} {n : Nat} (h : ArgB w v n) : ∃ a c, v = .slice a n c := by
 rcases h with ⟨a, c, h, _⟩ | ⟨g, off, c, h, _⟩
 ·exact ⟨a, c, h⟩
 ·exact ⟨_, c, h⟩
theorem ArgB.bytes {w w' : World} {a : Option Addr} {n c : Nat} (h : ArgB w (.slice a n c) n) (b : Nat) (hb : Below w.heap.size w w') (hlt : w.heap.size ≤ b) : BytesAt w.heap.size w' b a n := by
 rcases h with ⟨_, _, _, h⟩ | ⟨g, off, c', h1, h2, h3⟩
 ·exact .inl h
 ·cases h1
  exact .inr ⟨g, off, rfl, ⟨h2, hlt⟩, fun i hi => by obtain ⟨x, hx, h4⟩ := h3 i hi; exact ⟨x, cell_call hb hx, h4⟩⟩
theorem cur_new {w : World} {a : Option Addr} {n c : Nat} (h : ArgB w (.slice a n c) n) (W : World) (hW : Below w.heap.size w W) : Cur w.heap.size (W.alloc (.cells #[.slice a n c, .int .i64 0, .int .u64 0] 50)) W.heap.size 0 :=
 have hB := hW.size
 ⟨a, n, c, 0, 0, byCT, byCT, byCT, byFT, byFT, by omega, by omega, h.bytes _ (gr_alloc hW _) (by omega)⟩
def RowQ (W : World) (g : Nat) : Prop := ∀ i, i < 4 → ∃ x : Int, W.cell? ⟨g, i, none⟩ = some (.int .i64 x) ∧ (-2000 ≤ x ∧ x ≤ 2000) ∧ W.frozen? ⟨g, i, none⟩ = false
theorem RowQ.grown {w W : World} {b g : Nat} (h : RowQ w g) (hg : w.grownBy W (some b)) (hne : g ≠ b) : RowQ W g := fun i hi => by
 obtain ⟨x, h1, h2, h3⟩ := h i hi
 have hlt : g < w.heap.size := World.block_lt_of_cell? _ _ h1
 exact ⟨x, (hg.cell_far ⟨g, i, none⟩ hlt (fun e => hne (Option.some.inj e))).trans h1, h2, (hg.frozen_far ⟨g, i, none⟩ hlt (fun e => hne (Option.some.inj e))).trans h3⟩
theorem RowQ.made (w : World) : RowQ (w.alloc (.cells #[.int .i64 0, .int .i64 0, .int .i64 0, .int .i64 0] 3)) w.heap.size := fun i hi => by
 rcases (show i = 0 ∨ i = 1 ∨ i = 2 ∨ i = 3 by omega) with rfl | rfl | rfl | rfl <;> exact ⟨0, byCT, by omega, byFT⟩
def ResQ (W : World) (r : Nat) : Prop := ∀ i, i < 4 → W.cell? ⟨r, i, none⟩ = some (.int .i64 0) ∧ W.frozen? ⟨r, i, none⟩ = false
theorem ResQ.grown {w W : World} {b g : Nat} (h : ResQ w g) (hg : w.grownBy W (some b)) (hne : g ≠ b) : ResQ W g := fun i hi => by
 obtain ⟨h1, h3⟩ := h i hi
 have hlt : g < w.heap.size := World.block_lt_of_cell? _ _ h1
 exact ⟨(hg.cell_far ⟨g, i, none⟩ hlt (fun e => hne (Option.some.inj e))).trans h1, (hg.frozen_far ⟨g, i, none⟩ hlt (fun e => hne (Option.some.inj e))).trans h3⟩
end Go.Proofs.YtihfacmlfelliaaGreat
namespace Go.Proofs.YtihfacmlfelliaaGreat
open Go.RowKit
set_option linter.unusedVariables false
set_option linter.unusedSimpArgs false
attribute [local go_sem] q2 q3 q4 q5 q6 q7 q8 q9 q10 q11 q12

def DrawnFI (w : World) (e : Ending) (w' : World) : Prop := ∃ x y z t : Int, e = .returned (.tuple #[.agg #[.int .i64 x, .int .i64 y, .int .i64 z], .int .i64 t]) ∧ (R64 x ∧ R64 y ∧ R64 z) ∧ (-1 ≤ t ∧ t ≤ 201) ∧ Below w.heap.size w w'
set_option maxRecDepth 100000 in
set_option maxHeartbeats 8000000 in
theorem drawSR_a (v : Value) (n : Nat) (w : World) (h : ArgB w v n) : Calls Tryz.prog 57 #[v] w (DrawnFI w) := by
 obtain ⟨a, c, rfl⟩ := h.len
 have h00 := cur_new h (w.alloc (.cells #[.int .i64 0, .int .i64 0, .int .i64 0] 25)) byGG
 have hsz : (w.alloc (.cells #[.int .i64 0, .int .i64 0, .int .i64 0] 25)).heap.size = w.heap.size + 1 := by simp
 rw [hsz] at h00
 clear hsz
 have nb0 : w.heap.size ≠ w.heap.size + 1 := by omega
 go_enter Tryz.func57, Tryz.ntmps57
 go_wp2_with fail
 refine (classForm_d (B := w.heap.size) (w.heap.size + 1) 0 _ h00 (by omega)).mono ?_
 rintro e1 w1 ⟨x, y, z, rfl, p1, h1, g1⟩
 have hs1 := h1.lt
 have tq0 := Wi3.d g1 w.heap.size 0 0 0 nb0
 (try clear c00 c01 c02 f00 f01 f02 z0)
 obtain ⟨c00, c01, c02, f00, f01, f02, z0⟩ := tq0
 have gw1 : Below w.heap.size w w1 := Below.trans byGG (g1.to_below (by omega) (by first | omega | (simp; done) | (simp; omega)))
 clear g1
 go_wp2_with fail
 refine (delay_d (B := w.heap.size) (w.heap.size + 1) (0 + 50)  _ h1 (by omega)).mono ?_
 rintro e2 w2 ⟨t, rfl, p2, h2, g2⟩
 have hs2 := h2.lt
 have tq0 := Wi3.d g2 w.heap.size 0 0 0 nb0
 (try clear c00 c01 c02 f00 f01 f02 z0)
 obtain ⟨c00, c01, c02, f00, f01, f02, z0⟩ := tq0
 have gw2 : Below w.heap.size w w2 := Below.trans gw1 (g2.to_below (by omega) (by omega))
 clear g2 h1 h2 gw1
 go_wp2
 refine bodyPost_ret (v := .tuple #[.agg #[.int .i64 x, .int .i64 y, .int .i64 z], .int .i64 t]) (by simp [results, Tryz.results57, go_sem, *]) rfl ?_
 exact ⟨x, y, z, t, rfl, p1, by omega, byGG⟩

set_option maxRecDepth 100000 in
set_option maxHeartbeats 8000000 in
theorem drawHP_a (v : Value) (n : Nat) (w : World) (h : ArgB w v n) : Calls Tryz.prog 19 #[v] w (DrawnFI w) := by
 obtain ⟨a, c, rfl⟩ := h.len
 have h00 := cur_new h (w.alloc (.cells #[.int .i64 0, .int .i64 0, .int .i64 0] 25)) byGG
 have hsz : (w.alloc (.cells #[.int .i64 0, .int .i64 0, .int .i64 0] 25)).heap.size = w.heap.size + 1 := by simp
 rw [hsz] at h00
 clear hsz
 have nb0 : w.heap.size ≠ w.heap.size + 1 := by omega
 go_enter Tryz.func19, Tryz.ntmps19
 go_wp2_with fail
 refine (classForm_d (B := w.heap.size) (w.heap.size + 1) 0 _ h00 (by omega)).mono ?_
 rintro e1 w1 ⟨x, y, z, rfl, p1, h1, g1⟩
 have hs1 := h1.lt
 have tq0 := Wi3.d g1 w.heap.size 0 0 0 nb0
 (try clear c00 c01 c02 f00 f01 f02 z0)
 obtain ⟨c00, c01, c02, f00, f01, f02, z0⟩ := tq0
 have gw1 : Below w.heap.size w w1 := Below.trans byGG (g1.to_below (by omega) (by first | omega | (simp; done) | (simp; omega)))
 clear g1
 go_wp2_with fail
 refine (pick_a (B := w.heap.size) (w.heap.size + 1) (0 + 50) 9 _ h1 (by omega) (by omega)).mono ?_
 rintro e2 w2 ⟨t, rfl, p2, h2, g2⟩
 have hs2 := h2.lt
 have tq0 := Wi3.d g2 w.heap.size 0 0 0 nb0
 (try clear c00 c01 c02 f00 f01 f02 z0)
 obtain ⟨c00, c01, c02, f00, f01, f02, z0⟩ := tq0
 have gw2 : Below w.heap.size w w2 := Below.trans gw1 (g2.to_below (by omega) (by omega))
 clear g2 h1 h2 gw1
 go_wp2
 refine bodyPost_ret (v := .tuple #[.agg #[.int .i64 x, .int .i64 y, .int .i64 z], .int .i64 (t - 1)]) (by simp [results, Tryz.results19, go_sem, *]) rfl ?_
 exact ⟨x, y, z, t - 1, rfl, p1, by omega, byGG⟩

set_option maxRecDepth 100000 in
set_option maxHeartbeats 8000000 in
theorem drawDP_a (v : Value) (n : Nat) (w : World) (h : ArgB w v n) : Calls Tryz.prog 13 #[v] w (DrawnFI w) := by
 go_enter Tryz.func13, Tryz.ntmps13
 go_wp2_with fail
 refine (drawSR_a v n _ (h.below byGG)).mono ?_
 rintro e1 w1 ⟨x, y, z, t, rfl, p1, p2, hb1⟩
 have tq0 := Wi3.c hb1 w.heap.size 0 0 0
 try clear c00 c01 c02 f00 f01 f02
 obtain ⟨c00, c01, c02, f00, f01, f02, z0⟩ := tq0
 go_wp2
 refine bodyPost_ret (v := .tuple #[.agg #[.int .i64 x, .int .i64 y, .int .i64 z], .int .i64 t]) (by simp [results, Tryz.results13, go_sem, *]) rfl ?_
 exact ⟨x, y, z, t, rfl, p1, p2, byGG⟩
end Go.Proofs.YtihfacmlfelliaaGreat
namespace Go.Proofs.YtihfacmlfelliaaGreat
open Go.RowKit
set_option linter.unusedVariables false
set_option linter.unusedSimpArgs false
attribute [local go_sem] q2 q3 q4 q5 q6 q7 q8 q9 q10 q11 q12

theorem big_a (v1 v2 : Value) (n1 n2 : Nat) (w : World) (h1 : ArgB w v1 n1) (h2 : ArgB w v2 n2) (m1 : n1 ≤ 9223372036854775807) (m2 : n2 ≤ 9223372036854775807) :
  Calls Tryz.prog 5 #[v1, v2] w fun e w' => ∃ t : Bool, e = .returned (.bool t) ∧ w = w' := by
 obtain ⟨a1, c1, rfl⟩ := h1.len
 obtain ⟨a2, c2, rfl⟩ := h2.len
 by_cases q : 1048576 < (n1 : Int)
 ·go_enter Tryz.func5, Tryz.ntmps5
  go_wp2
  go_ret
  first | exact ⟨_, rfl, rfl⟩ | exact rfl | simp
 ·by_cases q2 : 1048576 - (n1 : Int) < (n2 : Int)
  ·go_enter Tryz.func5, Tryz.ntmps5
   go_wp2
   go_ret
   first | exact ⟨_, rfl, rfl⟩ | exact rfl | simp
  ·go_enter Tryz.func5, Tryz.ntmps5
   go_wp2
   go_ret
   first | exact ⟨_, rfl, rfl⟩ | exact rfl | simp
end Go.Proofs.YtihfacmlfelliaaGreat
namespace Go.Proofs.YtihfacmlfelliaaGreat
open Go.RowKit
set_option linter.unusedVariables false
set_option linter.unusedSimpArgs false
attribute [local go_sem] q2 q3 q4 q5 q6 q7 q8 q9 q10 q11 q12

set_option maxHeartbeats 1000000 in
theorem qForms_nil (a1 a2 : Option Addr) (c1 c2 : Nat) (w : World) :
  Calls Tryz.prog 22 #[.slice a1 0 c1, .slice a2 0 c2] w fun e w' => e = .returned (.bool true) ∧ Below w.heap.size w w' := by
 go_enter Tryz.func22, Tryz.ntmps22
 go_wp2
 refine wp_loop_rounds 1 ?_
 rw [rounds_succ]
 go_wp2
 go_ret
 exact ⟨rfl, Below.refl _ _⟩
set_option maxRecDepth 100000 in
set_option maxHeartbeats 4000000 in
theorem qForms_row (g1 g2 n c1 c2 cap1 cap2 : Nat) (F1 F2 : Nat → Value) (f : Nat → Int) (w : World) (hn : n ≤ 100000000) (h1 : n ≤ cap1) (h2 : n ≤ cap2)
  (q1 : w.rowIs g1 25 (cap1 * 3) F1) (q2 : w.rowIs g2 25 (cap2 * 3) F2) (e1 : ∀ i, i < n * 3 → F1 i = .int .i64 (f i)) (e2 : ∀ i, i < n * 3 → F2 i = .int .i64 (f i)) :
  Calls Tryz.prog 22 #[.slice (some ⟨g1, 0, none⟩) n c1, .slice (some ⟨g2, 0, none⟩) n c2] w fun e w' => e = .returned (.bool true) ∧ Below w.heap.size w w' := by
 have E1 := hide e1
 have E2 := hide e2
 clear e1 e2
 go_enter Tryz.func22, Tryz.ntmps22
 go_wp2
 go_loopw [13] (fun is wr => ∃ i : Nat, i ≤ n ∧ is = .int .i64 (i : Int) ∧ Below w.heap.size w wr) (fun is _ => n - (intOf is).toNat)
 case atStart => exact ⟨0, by omega, rfl, Below.refl _ _⟩
 case round =>
  obtain ⟨i, hi, rfl, hb⟩ := hrel
  have r1 := q1.of_block (hb.block g1 q1.lt)
  have r2 := q2.of_block (hb.block g2 q2.lt)
  have hz := hb.size
  by_cases c : i < n
  ·have hci : (i : Int) < (n : Int) := by omega
   have hi0 : (0 : Int) ≤ (i : Int) := by omega
   have c10 := r1.cell (i := i * 3) (by omega)
   rw [unhide E1 (i * 3) (by omega)] at c10
   have c20 := r2.cell (i := i * 3) (by omega)
   rw [unhide E2 (i * 3) (by omega)] at c20
   have c11 := r1.cell (i := i * 3 + 1) (by omega)
   rw [unhide E1 (i * 3 + 1) (by omega)] at c11
   have c21 := r2.cell (i := i * 3 + 1) (by omega)
   rw [unhide E2 (i * 3 + 1) (by omega)] at c21
   have c12 := r1.cell (i := i * 3 + 2) (by omega)
   rw [unhide E1 (i * 3 + 2) (by omega)] at c12
   have c22 := r2.cell (i := i * 3 + 2) (by omega)
   rw [unhide E2 (i * 3 + 2) (by omega)] at c22
   generalize hx0 : f (i * 3) = x0 at *
   have X0 := hide hx0
   clear hx0
   generalize hx1 : f (i * 3 + 1) = x1 at *
   have X1 := hide hx1
   clear hx1
   generalize hx2 : f (i * 3 + 2) = x2 at *
   have X2 := hide hx2
   clear hx2
   go_wp2
   go_region
   go_wp2
   go_roundw
   case rel => exact ⟨i + 1, by omega, by go_num, hb.drew⟩
   case measure => simp [intOf]; omega
  ·go_wp2
   go_ret
   exact ⟨rfl, hb⟩
theorem qForms_any (a1 a2 : Option Addr) (l1 u1 l2 u2 n c1 c2 : Nat) (f : Nat → Int) (w : World) (hn : n ≤ 100000000) (h1 : FormsAt w l1 u1 a1 n f) (h2 : FormsAt w l2 u2 a2 n f) :
  Calls Tryz.prog 22 #[.slice a1 n c1, .slice a2 n c2] w fun e w' => e = .returned (.bool true) ∧ Below w.heap.size w w' := by
 rcases h1 with rfl | ⟨g1, k1, F1, rfl, _, _, q1, r1, e1⟩
 ·exact qForms_nil _ _ _ _ _
 ·rcases h2 with rfl | ⟨g2, k2, F2, rfl, _, _, q2, r2, e2⟩
  ·exact qForms_nil _ _ _ _ _
  ·exact qForms_row g1 g2 n c1 c2 k1 k2 F1 F2 f w hn q1 q2 r1 r2 e1 e2
end Go.Proofs.YtihfacmlfelliaaGreat
