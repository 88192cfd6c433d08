/- The walk of impl.squareCounts: the table of the numbers of representations. What the laws of squares draw. What the laws of delays draw from bytes. What the law of forgeries draws from bytes. big, sameInts. -/
import Derived.Test.YtihfacmlfelliaaGreatNum
import Derived.Test.YtihfacmlfelliaaGreatConv
import Derived.Deep.OwnRows
import Derived.Test.YtihfacmlfelliaaGreatLevel
import Derived.Test.YtihfacmlfelliaaGreatDrd
namespace Go.Proofs.YtihfacmlfelliaaGreat
open Go.RowKit
set_option linter.unusedVariables false
set_option linter.unusedSimpArgs false

end Go.Proofs.YtihfacmlfelliaaGreat
namespace Go.Proofs.YtihfacmlfelliaaGreat
open Go.RowKit
set_option linter.unusedVariables false
set_option linter.unusedSimpArgs false
attribute [local go_sem] q2 q3 q4 q5 q6 q7 q8 q9 q10 q11 q12

variable {B : Nat}
def ArgB (w : World) (v : Value) (n : Nat) : Prop := (∃ a c, v = .slice a n c ∧ n = 0) ∨ ∃ g off c, v = .slice (some ⟨g, off, none⟩) n c ∧ g < w.heap.size ∧ ∀ i, i < n → ∃ x : Int, w.cell? ⟨g, off + i, none⟩ = some (.int .u8 x) ∧ 0 ≤ x ∧ x ≤ 255
theorem ArgB.below {w w' : World} {v : Value} {n : Nat} (h : ArgB w v n) (hb : Below w.heap.size w w') : ArgB w' v n := by
 rcases h with h | ⟨g, off, c, h1, h2, h3⟩
 ·exact .inl h
 ·exact .inr ⟨g, off, c, h1, Nat.lt_of_lt_of_le h2 hb.size, fun i hi => by obtain ⟨x, hx, h4⟩ := h3 i hi; exact ⟨x, cell_call hb hx, h4⟩⟩
theorem ArgB.len {w : World} {v : Value} {n : Nat} (h : ArgB w v n) : ∃ a c, v = .slice a n c := by
 rcases h with ⟨a, c, h, _⟩ | ⟨g, off, c, h, _⟩
 ·exact ⟨a, c, h⟩
 ·exact ⟨_, c, h⟩
theorem ArgB.bytes {w w' : World} {a : Option Addr} {n c : Nat} (h : ArgB w (.slice a n c) n) (b : Nat) (hb : Below w.heap.size w w') (hlt : w.heap.size ≤ b) : BytesAt w.heap.size w' b a n := by
 rcases h with ⟨_, _, _, h⟩ | ⟨g, off, c', h1, h2, h3⟩
 ·exact .inl h
 ·cases h1
  exact .inr ⟨g, off, rfl, ⟨h2, hlt⟩, fun i hi => by obtain ⟨x, hx, h4⟩ := h3 i hi; exact ⟨x, cell_call hb hx, h4⟩⟩
theorem cur_new {w : World} {a : Option Addr} {n c : Nat} (h : ArgB w (.slice a n c) n) (W : World) (hW : Below w.heap.size w W) : Cur w.heap.size (W.alloc (.cells #[.slice a n c, .int .i64 0, .int .u64 0] 50)) W.heap.size 0 :=
 have hB := hW.size
 ⟨a, n, c, 0, 0, byCT, byCT, byCT, byFT, byFT, by omega, by omega, h.bytes _ (gr_alloc hW _) (by omega)⟩
def RowQ (W : World) (g : Nat) : Prop := ∀ i, i < 4 → ∃ x : Int, W.cell? ⟨g, i, none⟩ = some (.int .i64 x) ∧ (-2000 ≤ x ∧ x ≤ 2000) ∧ W.frozen? ⟨g, i, none⟩ = false
theorem RowQ.grown {w W : World} {b g : Nat} (h : RowQ w g) (hg : w.grownBy W (some b)) (hne : g ≠ b) : RowQ W g := fun i hi => by
 obtain ⟨x, h1, h2, h3⟩ := h i hi
 have hlt : g < w.heap.size := World.block_lt_of_cell? _ _ h1
 exact ⟨x, (hg.cell_far ⟨g, i, none⟩ hlt (fun e => hne (Option.some.inj e))).trans h1, h2, (hg.frozen_far ⟨g, i, none⟩ hlt (fun e => hne (Option.some.inj e))).trans h3⟩
def ResQ (W : World) (r : Nat) : Prop := ∀ i, i < 4 → W.cell? ⟨r, i, none⟩ = some (.int .i64 0) ∧ W.frozen? ⟨r, i, none⟩ = false
theorem ResQ.grown {w W : World} {b g : Nat} (h : ResQ w g) (hg : w.grownBy W (some b)) (hne : g ≠ b) : ResQ W g := fun i hi => by
 obtain ⟨h1, h3⟩ := h i hi
 have hlt : g < w.heap.size := World.block_lt_of_cell? _ _ h1
 exact ⟨(hg.cell_far ⟨g, i, none⟩ hlt (fun e => hne (Option.some.inj e))).trans h1, (hg.frozen_far ⟨g, i, none⟩ hlt (fun e => hne (Option.some.inj e))).trans h3⟩
end Go.Proofs.YtihfacmlfelliaaGreat
namespace Go.Proofs.YtihfacmlfelliaaGreat
open Go.RowKit
set_option linter.unusedVariables false
set_option linter.unusedSimpArgs false
attribute [local go_sem] q2 q3 q4 q5 q6 q7 q8 q9 q10 q11 q12

def DrawnFIF (w : World) (e : Ending) (w' : World) : Prop := ∃ x y z t x' y' z' : Int, e = .returned (.tuple #[.agg #[.int .i64 x, .int .i64 y, .int .i64 z], .int .i64 t, .agg #[.int .i64 x', .int .i64 y', .int .i64 z']]) ∧ (R64 x ∧ R64 y ∧ R64 z) ∧ (-1 ≤ t ∧ t ≤ 201) ∧ (R64 x' ∧ R64 y' ∧ R64 z') ∧ Below w.heap.size w w'

end Go.Proofs.YtihfacmlfelliaaGreat
namespace Go.Proofs.YtihfacmlfelliaaGreat
open Go.RowKit
set_option linter.unusedVariables false
set_option linter.unusedSimpArgs false
attribute [local go_sem] q2 q3 q4 q5 q6 q7 q8 q9 q10 q11 q12

set_option maxRecDepth 100000 in
set_option maxHeartbeats 8000000 in
theorem drawSO_a (v : Value) (n : Nat) (w : World) (h : ArgB w v n) : Calls Tryz.prog 6 #[v] w (DrawnFIF w) := by
 obtain ⟨a, c, rfl⟩ := h.len
 have h00 := cur_new h ((w.alloc (.cells #[.int .i64 0, .int .i64 0, .int .i64 0] 25)).alloc (.cells #[.int .i64 0, .int .i64 0, .int .i64 0] 25)) byGG
 have hsz : (((w.alloc (.cells #[.int .i64 0, .int .i64 0, .int .i64 0] 25)).alloc (.cells #[.int .i64 0, .int .i64 0, .int .i64 0] 25))).heap.size = w.heap.size + 1 + 1 := by simp
 rw [hsz] at h00
 clear hsz
 have nb0 : w.heap.size ≠ (w.heap.size + 1 + 1) := by omega
 have nb1 : w.heap.size + 1 ≠ (w.heap.size + 1 + 1) := by omega
 go_enter Tryz.func6, Tryz.ntmps6
 go_wp2_with fail
 refine (classForm_d (B := w.heap.size) (w.heap.size + 1 + 1) 0 _ h00 (by omega)).mono ?_
 rintro e1 w1 ⟨x, y, z, rfl, p1, h1, g1⟩
 have hs1 := h1.lt
 have tq0 := Wi3.d g1 w.heap.size 0 0 0 nb0
 have tq1 := Wi3.d g1 (w.heap.size + 1) 0 0 0 nb1
 (try clear c00 c01 c02 f00 f01 f02 z0)
 (try clear c10 c11 c12 f10 f11 f12 z1)
 obtain ⟨c00, c01, c02, f00, f01, f02, z0⟩ := tq0
 obtain ⟨c10, c11, c12, f10, f11, f12, z1⟩ := tq1
 have gw1 : Below w.heap.size w w1 := Below.trans byGG (g1.to_below (by omega) (by first | omega | (simp; done) | (simp; omega)))
 clear g1
 have nb2 : w1.heap.size ≠ (w.heap.size + 1 + 1) := by omega
 go_upto_region 3 with fail
 go_region_with (first | (go_at_call 25; refine (delay_d (B := w.heap.size) (w.heap.size + 1 + 1) (0 + 50) _ (by repeat' with_reducible first | assumption | refine Cur.alc ?_ _ | refine Cur.drw ?_ | refine Cur.setN ?_ (by first | with_reducible assumption | omega)) (by omega)).mono ?_; rintro e2 w2 ⟨t, rfl, p2, h2, g2⟩; have tq0 := Wi3.d g2 w.heap.size 0 0 0 nb0; have tq1 := Wi3.d g2 (w.heap.size + 1) 0 0 0 nb1; have tq2 := Ri3.d g2 w1.heap.size x y z nb2; (try clear c00 c01 c02 f00 f01 f02 z0); (try clear c10 c11 c12 f10 f11 f12 z1); (try clear c20 c21 c22 z2); obtain ⟨c00, c01, c02, f00, f01, f02, z0⟩ := tq0; obtain ⟨c10, c11, c12, f10, f11, f12, z1⟩ := tq1; obtain ⟨c20, c21, c22, z2⟩ := tq2; have hs2 := h2.lt) | (go_at_call 26; refine (near_d (B := w.heap.size) (w.heap.size + 1 + 1) (0 + 50 + 4) x y z _ (by repeat' with_reducible first | assumption | refine Cur.alc ?_ _ | refine Cur.drw ?_ | refine Cur.setN ?_ (by first | with_reducible assumption | omega)) (by omega)).mono ?_; rintro e3 w3 ⟨x', y', z', rfl, p3, h3, g3⟩; have tq0 := Wi3.d g3 w.heap.size 0 0 0 nb0; have tq1 := Wi3.d g3 (w.heap.size + 1) 0 0 0 nb1; have tq2 := Ri3.d g3 w1.heap.size x y z nb2; (try clear c00 c01 c02 f00 f01 f02 z0); (try clear c10 c11 c12 f10 f11 f12 z1); (try clear c20 c21 c22 z2); obtain ⟨c00, c01, c02, f00, f01, f02, z0⟩ := tq0; obtain ⟨c10, c11, c12, f10, f11, f12, z1⟩ := tq1; obtain ⟨c20, c21, c22, z2⟩ := tq2; have hs3 := h3.lt))
 all_goals
  have gw2 : Below w.heap.size w w2 := Below.trans (by repeat' first | exact gw1 | refine gr_alloc ?_ _ | refine below_drew ?_) (g2.to_below (by omega) (by first | omega | (simp; done) | (simp; omega)))
  have gw3 : Below w.heap.size w w3 := Below.trans (by repeat' first | exact gw2 | refine below_drew ?_) (g3.to_below (by omega) (by first | omega | (simp; done) | (simp; omega)))
  clear g2 g3
  go_wp2
  refine bodyPost_ret (v := .tuple #[.agg #[.int .i64 x, .int .i64 y, .int .i64 z], .int .i64 t, .agg #[.int .i64 x', .int .i64 y', .int .i64 z']]) (by simp [results, Tryz.results6, go_sem, *]) rfl ?_
  exact ⟨x, y, z, t, x', y', z', rfl, p1, p2, p3, byGG⟩
end Go.Proofs.YtihfacmlfelliaaGreat
namespace Go.Proofs.YtihfacmlfelliaaGreat
open Go.RowKit
set_option linter.unusedVariables false
set_option linter.unusedSimpArgs false
attribute [local go_sem] q2 q3 q4 q5 q6 q7 q8 q9 q10 q11 q12

theorem big_a (v1 v2 : Value) (n1 n2 : Nat) (w : World) (h1 : ArgB w v1 n1) (h2 : ArgB w v2 n2) (m1 : n1 ≤ 9223372036854775807) (m2 : n2 ≤ 9223372036854775807) :
  Calls Tryz.prog 5 #[v1, v2] w fun e w' => ∃ t : Bool, e = .returned (.bool t) ∧ w = w' := by
 obtain ⟨a1, c1, rfl⟩ := h1.len
 obtain ⟨a2, c2, rfl⟩ := h2.len
 by_cases q : 1048576 < (n1 : Int)
 ·go_enter Tryz.func5, Tryz.ntmps5
  go_wp2
  go_ret
  first | exact ⟨_, rfl, rfl⟩ | exact rfl | simp
 ·by_cases q2 : 1048576 - (n1 : Int) < (n2 : Int)
  ·go_enter Tryz.func5, Tryz.ntmps5
   go_wp2
   go_ret
   first | exact ⟨_, rfl, rfl⟩ | exact rfl | simp
  ·go_enter Tryz.func5, Tryz.ntmps5
   go_wp2
   go_ret
   first | exact ⟨_, rfl, rfl⟩ | exact rfl | simp
end Go.Proofs.YtihfacmlfelliaaGreat
