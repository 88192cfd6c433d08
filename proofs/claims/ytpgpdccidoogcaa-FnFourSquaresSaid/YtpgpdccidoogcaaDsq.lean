/-
  What the laws of squares draw.
-/
import Derived.Test.YtpgpdccidoogcaaDrw
import Derived.Test.YtpgpdccidoogcaaCount
namespace Go.Proofs.Ytpgpdccidoogcaa
open Go.RowKit
set_option linter.unusedVariables false
set_option linter.unusedSimpArgs false
attribute [local go_sem] q2 q3 q4 q5 q6 q7 q8 q9 q10 q11 q12

variable {B : Nat}
/-- A slice of bytes that came in. -/
def ArgB (w : World) (v : Value) (n : Nat) : Prop := (∃ a c, v = .slice a n c ∧ n = 0) ∨ ∃ g off c, v = .slice (some ⟨g, off, none⟩) n c ∧ g < w.heap.size ∧ ∀ i, i < n → ∃ x : Int, w.cell? ⟨g, off + i, none⟩ = some (.int .u8 x) ∧ 0 ≤ x ∧ x ≤ 255
theorem ArgB.below {w w' : World} {v : Value} {n : Nat} (h : ArgB w v n) (hb : Below w.heap.size w w') : ArgB w' v n := by
  rcases h with h | ⟨g, off, c, h1, h2, h3⟩
  · exact .inl h
  · exact .inr ⟨g, off, c, h1, Nat.lt_of_lt_of_le h2 hb.size, fun i hi => by obtain ⟨x, hx, h4⟩ := h3 i hi; exact ⟨x, cell_call hb hx, h4⟩⟩
theorem ArgB.len {w : World} {v : Value} {n : Nat} (h : ArgB w v n) : ∃ a c, v = .slice a n c := by
  rcases h with ⟨a, c, h, _⟩ | ⟨g, off, c, h, _⟩
  · exact ⟨a, c, h⟩
  · exact ⟨_, c, h⟩
theorem ArgB.bytes {w w' : World} {a : Option Addr} {n c : Nat} (h : ArgB w (.slice a n c) n) (b : Nat) (hb : Below w.heap.size w w') (hlt : w.heap.size ≤ b) : BytesAt w.heap.size w' b a n := by
  rcases h with ⟨_, _, _, h⟩ | ⟨g, off, c', h1, h2, h3⟩
  · exact .inl h
  · cases h1
    exact .inr ⟨g, off, rfl, ⟨h2, hlt⟩, fun i hi => by obtain ⟨x, hx, h4⟩ := h3 i hi; exact ⟨x, cell_call hb hx, h4⟩⟩
/-- A cursor of its own. -/
theorem cur_new {w : World} {a : Option Addr} {n c : Nat} (h : ArgB w (.slice a n c) n) (W : World) (hW : Below w.heap.size w W) : Cur w.heap.size (W.alloc (.cells #[.slice a n c, .int .i64 0, .int .u64 0] 55)) W.heap.size 0 :=
  have hB := hW.size
  ⟨a, n, c, 0, 0, byCT, byCT, byCT, byFT, byFT, by omega, by omega, h.bytes _ (gr_alloc hW _) (by omega)⟩
set_option maxRecDepth 100000 in
set_option maxHeartbeats 4000000 in
theorem total_a (b : Nat) (K : Int) (w : World) (h : Cur B w b K) (hK : K ≤ 10000000000) :
    Calls Try.prog 49 #[.pointer (some ⟨b, 0, none⟩)] w (Drew B w b (K + 4) (fun _ => True)) := by
  have hlt := h.lt
  go_enter Try.func49, Try.ntmps49
  go_wp2_with fail
  refine (pick_a b K 10 _ h (by omega) (by omega)).mono ?_
  rintro e1 w1 ⟨v1, rfl, p1, h1, g1⟩
  have hlt1 := h1.lt
  by_cases q0 : v1 = 0
  · subst q0
    go_wp2_with fail
    refine (among_a b (K + 2) _ 0 7 7 (fun _ => True) _ (h1.below (below_alloc_self _ _)) (by omega) (by omega) ⟨by omega, fun i hi => by rcases (show i = 0 ∨ i = 1 ∨ i = 2 ∨ i = 3 ∨ i = 4 ∨ i = 5 ∨ i = 6 by omega) with rfl | rfl | rfl | rfl | rfl | rfl | rfl <;> exact ⟨_, by go_simp; rfl, by first | trivial | (constructor <;> omega)⟩⟩).mono ?_
    rintro e2 w2 ⟨v2, rfl, p2, h2, g2⟩
    go_wp2
    go_ret
    exact ⟨_, rfl, trivial, h2.le (by omega), (g1.alloc' _).trans' g2⟩
  · by_cases q1 : v1 = 1
    · subst q1
      go_wp2_with fail
      refine (pick_a b (K + 2) 10000 _ h1 (by omega) (by omega)).mono ?_
      rintro e2 w2 ⟨v2, rfl, p2, h2, g2⟩
      go_wp2
      go_ret
      exact ⟨_, rfl, trivial, h2.le (by omega), g1.trans' g2⟩
    · by_cases q2 : v1 = 2
      · subst q2
        go_wp2_with fail
        refine (among_a b (K + 2) _ 0 11 11 (fun _ => True) _ (h1.below (below_alloc_self _ _)) (by omega) (by omega) ⟨by omega, fun i hi => by rcases (show i = 0 ∨ i = 1 ∨ i = 2 ∨ i = 3 ∨ i = 4 ∨ i = 5 ∨ i = 6 ∨ i = 7 ∨ i = 8 ∨ i = 9 ∨ i = 10 by omega) with rfl | rfl | rfl | rfl | rfl | rfl | rfl | rfl | rfl | rfl | rfl <;> exact ⟨_, by go_simp; rfl, by first | trivial | (constructor <;> omega)⟩⟩).mono ?_
        rintro e2 w2 ⟨v2, rfl, p2, h2, g2⟩
        go_wp2
        go_ret
        exact ⟨_, rfl, trivial, h2.le (by omega), (g1.alloc' _).trans' g2⟩
      · skip
        go_wp2_with fail
        refine (pick_a b (K + 2) 300 _ h1 (by omega) (by omega)).mono ?_
        rintro e2 w2 ⟨v2, rfl, p2, h2, g2⟩
        go_wp2
        go_ret
        exact ⟨_, rfl, trivial, h2.le (by omega), g1.trans' g2⟩

/-- A call that draws an integer from bytes. -/
def DrawnI (w : World) (e : Ending) (w' : World) : Prop := ∃ v : Int, e = .returned (.int .i64 v) ∧ Below w.heap.size w w'
set_option maxRecDepth 100000 in
set_option maxHeartbeats 4000000 in
theorem drawTwoSquares_a (v : Value) (n : Nat) (w : World) (h : ArgB w v n) : Calls Try.prog 28 #[v] w (DrawnI w) := by
  obtain ⟨a, c, rfl⟩ := h.len
  have hc := cur_new h w (Below.refl _ _)
  go_enter Try.func28, Try.ntmps28
  go_wp2_with fail
  refine (total_a _ 0 _ hc (by omega)).mono ?_
  rintro e1 w1 ⟨v1, rfl, p1, h1, g1⟩
  go_wp2
  go_ret
  exact ⟨_, rfl, (gr_alloc (Below.refl _ _) _).trans (g1.to_below (by omega) (by simp))⟩
theorem drawCountFour_a (v : Value) (n : Nat) (w : World) (h : ArgB w v n) : Calls Try.prog 6 #[v] w (DrawnI w) := by
  go_enter Try.func6, Try.ntmps6
  go_wp2_with fail
  refine (drawTwoSquares_a v n w h).mono ?_
  rintro e w1 ⟨x, rfl, hb⟩
  go_wp2
  go_ret
  exact ⟨_, rfl, hb⟩
theorem drawCountThree_a (v : Value) (n : Nat) (w : World) (h : ArgB w v n) : Calls Try.prog 16 #[v] w (DrawnI w) := by
  go_enter Try.func16, Try.ntmps16
  go_wp2_with fail
  refine (drawTwoSquares_a v n w h).mono ?_
  rintro e w1 ⟨x, rfl, hb⟩
  go_wp2
  go_ret
  exact ⟨_, rfl, hb⟩

set_option maxRecDepth 100000 in
set_option maxHeartbeats 4000000 in
theorem drawCountTriangular_a (v : Value) (n : Nat) (w : World) (h : ArgB w v n) : Calls Try.prog 21 #[v] w (DrawnI w) := by
  obtain ⟨a, c, rfl⟩ := h.len
  have h0 := cur_new h w (Below.refl _ _)
  clear h
  go_enter Try.func21, Try.ntmps21
  go_wp2_with fail
  refine (pick_a _ 0 100 _ h0 (by omega) (by omega)).mono ?_
  rintro e1 w1 ⟨v1, rfl, p1, h1, g1⟩
  have hs1 := h1.lt
  go_wp2_with fail
  refine (pick_a _ (0 + 2) 1001 _ h1 (by omega) (by omega)).mono ?_
  rintro e2 w2 ⟨v2, rfl, p2, h2, g2⟩
  have hs2 := h2.lt
  go_wp2_with fail
  refine (among_a _ (0 + 2 + 2) _ 0 8 8 (fun _ => True) _ (h2.below (below_alloc_self _ _)) (by omega) (by omega) ⟨by omega, fun i hi => by rcases (show i = 0 ∨ i = 1 ∨ i = 2 ∨ i = 3 ∨ i = 4 ∨ i = 5 ∨ i = 6 ∨ i = 7 by omega) with rfl | rfl | rfl | rfl | rfl | rfl | rfl | rfl <;> exact ⟨_, by go_simp; rfl, by first | trivial | (constructor <;> omega)⟩⟩).mono ?_
  rintro e3 w3 ⟨v3, rfl, p3, h3, g3⟩
  have hs3 := h3.lt
  go_wp2
  go_ret
  exact ⟨_, rfl, (gr_alloc (Below.refl _ _) _).trans (((g1.trans' g2).alloc' _ |>.trans' g3).to_below (by omega) (by simp))⟩
/-- A call that draws two integers from bytes. -/
def DrawnII (w : World) (e : Ending) (w' : World) : Prop := ∃ u v : Int, e = .returned (.tuple #[.int .i64 u, .int .i64 v]) ∧ Below w.heap.size w w'
set_option maxRecDepth 100000 in
set_option maxHeartbeats 4000000 in
theorem drawSquareSeries_a (v : Value) (n : Nat) (w : World) (h : ArgB w v n) : Calls Try.prog 24 #[v] w (DrawnII w) := by
  obtain ⟨a, c, rfl⟩ := h.len
  have h0 := cur_new h w (Below.refl _ _)
  clear h
  go_enter Try.func24, Try.ntmps24
  go_wp2_with fail
  refine (pick_a _ 0 9 _ h0 (by omega) (by omega)).mono ?_
  rintro e1 w1 ⟨v1, rfl, p1, h1, g1⟩
  have hs1 := h1.lt
  go_wp2_with fail
  refine (among_a _ (0 + 2) _ 0 9 9 (fun _ => True) _ (h1.below (below_alloc_self _ _)) (by omega) (by omega) ⟨by omega, fun i hi => by rcases (show i = 0 ∨ i = 1 ∨ i = 2 ∨ i = 3 ∨ i = 4 ∨ i = 5 ∨ i = 6 ∨ i = 7 ∨ i = 8 by omega) with rfl | rfl | rfl | rfl | rfl | rfl | rfl | rfl | rfl <;> exact ⟨_, by go_simp; rfl, by first | trivial | (constructor <;> omega)⟩⟩).mono ?_
  rintro e2 w2 ⟨v2, rfl, p2, h2, g2⟩
  have hs2 := h2.lt
  go_wp2_with fail
  refine (pick_a _ (0 + 2 + 2) 100 _ h2 (by omega) (by omega)).mono ?_
  rintro e3 w3 ⟨v3, rfl, p3, h3, g3⟩
  have hs3 := h3.lt
  go_wp2_with fail
  refine (among_a _ (0 + 2 + 2 + 2) _ 0 8 8 (fun _ => True) _ (h3.below (below_alloc_self _ _)) (by omega) (by omega) ⟨by omega, fun i hi => by rcases (show i = 0 ∨ i = 1 ∨ i = 2 ∨ i = 3 ∨ i = 4 ∨ i = 5 ∨ i = 6 ∨ i = 7 by omega) with rfl | rfl | rfl | rfl | rfl | rfl | rfl | rfl <;> exact ⟨_, by go_simp; rfl, by first | trivial | (constructor <;> omega)⟩⟩).mono ?_
  rintro e4 w4 ⟨v4, rfl, p4, h4, g4⟩
  have hs4 := h4.lt
  go_wp2
  go_ret2
  exact ⟨_, _, rfl, (gr_alloc (Below.refl _ _) _).trans (((g1.alloc' _ |>.trans' g2).trans' g3 |>.alloc' _ |>.trans' g4).to_below (by omega) (by simp))⟩

/-- Four integers in a row of its own. -/
def RowQ (W : World) (g : Nat) : Prop := ∀ i, i < 4 → ∃ x : Int, W.cell? ⟨g, i, none⟩ = some (.int .i64 x) ∧ (-2000 ≤ x ∧ x ≤ 2000) ∧ W.frozen? ⟨g, i, none⟩ = false
theorem RowQ.grown {w W : World} {b g : Nat} (h : RowQ w g) (hg : w.grownBy W (some b)) (hne : g ≠ b) : RowQ W g := fun i hi => by
  obtain ⟨x, h1, h2, h3⟩ := h i hi
  have hlt : g < w.heap.size := World.block_lt_of_cell? _ _ h1
  exact ⟨x, (hg.cell_far ⟨g, i, none⟩ hlt (fun e => hne (Option.some.inj e))).trans h1, h2, (hg.frozen_far ⟨g, i, none⟩ hlt (fun e => hne (Option.some.inj e))).trans h3⟩
theorem RowQ.al {w : World} {g : Nat} (h : RowQ w g) (ob : Obj) : RowQ (w.alloc ob) g := fun i hi => by
  obtain ⟨x, h1, h2, h3⟩ := h i hi
  exact ⟨x, cell_call (below_alloc_self _ _) h1, h2, frz_call (below_alloc_self _ _) (World.block_lt_of_cell? _ _ h1) h3⟩
theorem RowQ.set {w : World} {g j : Nat} {v : Int} (h : RowQ w g) (hj : j < 4) (hv : -2000 ≤ v ∧ v ≤ 2000) : RowQ (w.setCell ⟨g, j, none⟩ (.int .i64 v)) g := fun i hi => by
  obtain ⟨x, h1, h2, h3⟩ := h i hi
  obtain ⟨y, k1, k2, k3⟩ := h j hj
  by_cases q : i = j
  · subst q; exact ⟨v, cell_eq _ ⟨_, k1⟩, hv, frz_set _ h3⟩
  · exact ⟨x, cell_ne _ (fun e => q (by injection e with e1 e2; exact e2.symm)) h1, h2, frz_set _ h3⟩

theorem make4 (w : World) : (Instr.makeSlice 27 (.int .i64 4) (.int .i64 4)).run Try.prog w = .ok (.slice (some ⟨w.heap.size, 0, none⟩) 4 4) (w.alloc (.cells #[.int .i64 0, .int .i64 0, .int .i64 0, .int .i64 0] 3)) := by
  have h := make_ints 3 (by omega) w
  have e : madeCells #[Value.int .i64 0] (3 + 1) = #[.int .i64 0, .int .i64 0, .int .i64 0, .int .i64 0] := by kernel_rfl
  rw [e] at h
  exact h
theorem RowQ.made (w : World) : RowQ (w.alloc (.cells #[.int .i64 0, .int .i64 0, .int .i64 0, .int .i64 0] 3)) w.heap.size := fun i hi => by
  rcases (show i = 0 ∨ i = 1 ∨ i = 2 ∨ i = 3 by omega) with rfl | rfl | rfl | rfl <;> exact ⟨0, byCT, by omega, byFT⟩
/-- The cells of a result that is not yet there. -/
def ResQ (W : World) (r : Nat) : Prop := ∀ i, i < 4 → W.cell? ⟨r, i, none⟩ = some (.int .i64 0) ∧ W.frozen? ⟨r, i, none⟩ = false
theorem ResQ.grown {w W : World} {b g : Nat} (h : ResQ w g) (hg : w.grownBy W (some b)) (hne : g ≠ b) : ResQ W g := fun i hi => by
  obtain ⟨h1, h3⟩ := h i hi
  have hlt : g < w.heap.size := World.block_lt_of_cell? _ _ h1
  exact ⟨(hg.cell_far ⟨g, i, none⟩ hlt (fun e => hne (Option.some.inj e))).trans h1, (hg.frozen_far ⟨g, i, none⟩ hlt (fun e => hne (Option.some.inj e))).trans h3⟩
theorem ResQ.al {w : World} {g : Nat} (h : ResQ w g) (ob : Obj) : ResQ (w.alloc ob) g := fun i hi => by
  obtain ⟨h1, h3⟩ := h i hi
  exact ⟨cell_call (below_alloc_self _ _) h1, frz_call (below_alloc_self _ _) (World.block_lt_of_cell? _ _ h1) h3⟩
theorem ResQ.set {w : World} {g k j : Nat} {v : Value} (h : ResQ w g) (hne : k ≠ g) : ResQ (w.setCell ⟨k, j, none⟩ v) g := fun i hi => by
  obtain ⟨h1, h3⟩ := h i hi
  exact ⟨cell_ne _ (fun e => hne (by injection e)) h1, frz_set _ h3⟩
theorem Cur.set {w : World} {b k j : Nat} {K : Int} {v : Value} (h : Cur B w b K) (hB : B ≤ k) (hne : k ≠ b) : Cur B (w.setCell ⟨k, j, none⟩ v) b K := by
  obtain ⟨a, n, c, t, s, h0, h1, h2, h3, h4, h5, h6, h7⟩ := h
  have nb : ∀ o, (⟨k, j, none⟩ : Addr) ≠ ⟨b, o, none⟩ := fun o e => hne (by injection e)
  refine ⟨a, n, c, t, s, cell_ne _ (nb 0) h0, cell_ne _ (nb 1) h1, cell_ne _ (nb 2) h2, frz_set _ h3, frz_set _ h4, h5, h6, ?_⟩
  rcases h7 with h | ⟨g, off, k1, k2, k3⟩
  · exact .inl h
  · exact .inr ⟨g, off, k1, k2, fun i hi => by obtain ⟨x, hx, k4⟩ := k3 i hi; exact ⟨x, cell_ne _ (fun e => by injection e with e1 e2; omega) hx, k4⟩⟩
/-- A world that has just the older blocks of another one. -/
theorem low_world (w : World) (B : Nat) (hB : B ≤ w.heap.size) : ∃ wz : World, wz.heap.size = B ∧ Below wz.heap.size wz w := by
  refine ⟨{ w with heap := w.heap.extract 0 B }, by simp; omega, ⟨rfl, rfl, rfl, by simp; omega, fun k hk => ?_⟩⟩
  simp only [Array.size_extract] at hk
  simp only [Array.getElem?_extract]
  rw [if_pos (by omega), Nat.zero_add]
theorem cur_last {w W W' : World} {b : Nat} {K : Int} (h : Cur B W b K) (hg : w.grownBy W (some b)) (hb : b < w.heap.size) (wz : World) (hz : wz.heap.size = w.heap.size) (h1 : Below wz.heap.size wz W) (h2 : Below wz.heap.size wz W') : Cur B W' b K ∧ w.grownBy W' (some b) := by
  have hk : ∀ k, k < w.heap.size → W'.heap[k]? = W.heap[k]? := fun k hk => (h2.block k (by omega)).trans (h1.block k (by omega)).symm
  exact ⟨h.blocks fun k hk2 => hk k (by omega), ⟨h2.os.trans (h1.os.symm.trans hg.os), h2.tape.trans (h1.tape.symm.trans hg.tape), h2.output.trans (h1.output.symm.trans hg.output), by have := h2.size; omega, fun k hk2 hne => (hk k hk2).trans (hg.block k hk2 hne)⟩⟩
set_option maxRecDepth 100000 in
set_option maxHeartbeats 8000000 in
theorem quad_a (b : Nat) (K : Int) (w : World) (h : Cur B w b K) (hK : K ≤ 1000000000) (hBw : B ≤ w.heap.size) :
    Calls Try.prog 38 #[.pointer (some ⟨b, 0, none⟩)] w fun e w' => ∃ x y z u : Int, e = .returned (.agg #[.int .i64 x, .int .i64 y, .int .i64 z, .int .i64 u]) ∧ (-2000 ≤ x ∧ x ≤ 2000) ∧ (-2000 ≤ y ∧ y ≤ 2000) ∧ (-2000 ≤ z ∧ z ≤ 2000) ∧ (-2000 ≤ u ∧ u ≤ 2000) ∧ Cur B w' b (K + 100) ∧ w.grownBy w' (some b) := by
  have hlt := h.lt
  have hm4 := make4
  have h0 := (h.below (below_alloc_self w (.cells #[.int .i64 0, .int .i64 0, .int .i64 0, .int .i64 0] 32))).below (below_alloc_self _ (.cells #[.int .i64 0, .int .i64 0, .int .i64 0, .int .i64 0] 3))
  clear h
  go_enter Try.func38, Try.ntmps38
  go_wp2
  clear hm4
  go_loopw [8] (fun is wr => ∃ jx : Nat, jx ≤ 4 ∧ is = .int .i64 (jx : Int) ∧ Cur B wr b (K + 10 * jx) ∧ RowQ wr (w.heap.size + 1) ∧ ResQ wr w.heap.size ∧ w.grownBy wr (some b)) (fun is _ => 4 - (intOf is).toNat)
  case atStart =>
    refine ⟨0, by omega, rfl, h0.le (by omega), (by have := RowQ.made (w.alloc (.cells #[.int .i64 0, .int .i64 0, .int .i64 0, .int .i64 0] 32)); simp only [World.size_alloc] at this; exact this), ?_, ((World.grownBy.refl' w (some b)).alloc' _).alloc' _⟩
    intro i hi
    rcases (show i = 0 ∨ i = 1 ∨ i = 2 ∨ i = 3 by omega) with rfl | rfl | rfl | rfl <;> exact ⟨byCT, byFT⟩
  case round =>
    obtain ⟨jx, hj, rfl, h0, hR, hS, hg⟩ := hrel
    obtain ⟨wl, rfl⟩ : ∃ wl : World, wl = wr := ⟨_, rfl⟩
    have hgs := hg.size
    have hBk : B ≤ w.heap.size + 1 := by omega
    have n1 : w.heap.size + 1 ≠ b := by omega
    have n2 : w.heap.size ≠ b := by omega
    by_cases q : jx < 4
    · have hci : (jx : Int) < 4 := by omega
      have HR := hide hR
      have HS := hide hS
      have HG := hide hg
      clear hR hS hg
      go_wp2_with fail
      refine (pick_a b (K + 10 * jx) 41 _ h0 (by omega) (by omega)).mono ?_
      rintro e1 w1 ⟨v1, rfl, ⟨p1, q1⟩, h1, g1⟩
      have hs1 := h1.lt
      go_wp2_with fail
      refine (pick_a b (K + 10 * jx + 2) 9 _ h1 (by omega) (by omega)).mono ?_
      rintro e2 w2 ⟨v2, rfl, ⟨p2, q2⟩, h2, g2⟩
      have hs2 := h2.lt
      go_wp2_with fail
      refine (pick_a b (K + 10 * jx + 2 + 2) 2001 _ h2 (by omega) (by omega)).mono ?_
      rintro e3 w3 ⟨v3, rfl, ⟨p3, q3⟩, h3, g3⟩
      have hs3 := h3.lt
      go_wp2_with fail
      refine (pick_a b (K + 10 * jx + 2 + 2 + 2) 3 _ h3 (by omega) (by omega)).mono ?_
      rintro e4 w4 ⟨v4, rfl, ⟨p4, q4⟩, h4, g4⟩
      have hs4 := h4.lt
      go_wp2_with fail
      refine (among_a b (K + 10 * jx + 2 + 2 + 2 + 2) _ 0 4 4 (fun x => -2000 ≤ x ∧ x ≤ 2000) _ (h4.below (below_alloc_self _ _)) (by omega) (by omega) ⟨by omega, fun i hi => by rcases (show i = 0 ∨ i = 1 ∨ i = 2 ∨ i = 3 by omega) with rfl | rfl | rfl | rfl <;> exact ⟨_, by go_simp; rfl, by constructor <;> omega⟩⟩).mono ?_
      rintro e5 w5 ⟨v5, rfl, p5, h5, g5⟩
      have hgx : wl.grownBy w5 (some b) := ((((g1.trans' g2).trans' g3).trans' g4).alloc' _).trans' g5
      have hR5 := (unhide HR).grown hgx n1
      have hS5 := (unhide HS).grown hgx n2
      obtain ⟨x5, cx5, -, fx5⟩ := hR5 jx q
      have HR5 := hide hR5
      have HS5 := hide hS5
      clear hR5 hS5 HR HS
      go_wp2
      go_roundw
      case rel =>
        refine ⟨jx + 1, by omega, by first | rfl | go_num, (h5.set hBk n1).le (by omega), (unhide HR5).set q p5, (unhide HS5).set (by omega), ?_⟩
        have hh := (unhide HG).trans' hgx
        exact ⟨hh.os, hh.tape, hh.output, by simpa [World.setCell] using hh.size, fun j hj hne => (Below.heap_setCell _ _ _ _ (by intro e; have e9 : j = w.heap.size + 1 := (by first | exact e | exact e.symm); omega)).trans (hh.block j hj hne)⟩
      case measure => simp [intOf]; omega
    · obtain rfl : jx = 4 := by omega
      go_wp2_with fail
      refine (one_a b (K + 40) 8 _ (h0.le (by omega)) (by omega) (by omega)).mono ?_
      rintro e1 w1 ⟨t1, rfl, h1, g1⟩
      have hR1 := hR.grown g1 n1
      have hS1 := hS.grown g1 n2
      have hg1 := hg.trans' g1
      have hs1 := h1.lt
      cases t1
      · obtain ⟨x0, c0, p0, -⟩ := hR1 0 (by omega)
        obtain ⟨x1, c1, p1, -⟩ := hR1 1 (by omega)
        obtain ⟨x2, c2, p2, -⟩ := hR1 2 (by omega)
        obtain ⟨x3, c3, p3, -⟩ := hR1 3 (by omega)
        obtain ⟨d0, f0⟩ := hS1 0 (by omega)
        obtain ⟨d1, f1⟩ := hS1 1 (by omega)
        obtain ⟨d2, f2⟩ := hS1 2 (by omega)
        obtain ⟨d3, f3⟩ := hS1 3 (by omega)
        have hlw : w.heap.size < w1.heap.size := World.block_lt_of_cell? _ _ d0
        obtain ⟨wz, hz1, hz2⟩ := low_world w1 w.heap.size (by omega)
        go_upto_region 9 with fail
        skip
        refine region_n0 (by kernel_rfl) (fun j => #[38,39,40,41,42,43,44,45,46,47,48,49,50,2].getD j 0) (fun j => Kd.ok ((fun j => match j with | 0 => Kd.val (.slice (some ⟨w.heap.size + 1, 0, none⟩) 4 4) | 1 => Kd.val (.pointer (some ⟨(w.heap.size + 1), 0, none⟩)) | 2 => Kd.val (.int .i64 x0) | 3 => Kd.val (.slice (some ⟨w.heap.size + 1, 0, none⟩) 4 4) | 4 => Kd.val (.pointer (some ⟨(w.heap.size + 1), 1, none⟩)) | 5 => Kd.val (.int .i64 x1) | 6 => Kd.val (.slice (some ⟨w.heap.size + 1, 0, none⟩) 4 4) | 7 => Kd.val (.pointer (some ⟨(w.heap.size + 1), 2, none⟩)) | 8 => Kd.val (.int .i64 x2) | 9 => Kd.val (.slice (some ⟨w.heap.size + 1, 0, none⟩) 4 4) | 10 => Kd.val (.pointer (some ⟨(w.heap.size + 1), 3, none⟩)) | 11 => Kd.val (.int .i64 x3) | 12 => Kd.val (.agg #[.int .i64 x0, .int .i64 x1, .int .i64 x2, .int .i64 x3]) | 13 => Kd.old (w1.heap.size) [(⟨w.heap.size, 0, none⟩, .int .i64 x0), (⟨w.heap.size, 1, none⟩, .int .i64 x1), (⟨w.heap.size, 2, none⟩, .int .i64 x2), (⟨w.heap.size, 3, none⟩, .int .i64 x3)] | _ => Kd.any : Nat → Kd) j)) (Sy wz (w1.heap.size) [(⟨(w.heap.size + 1), 0, none⟩, .int .i64 x0), (⟨(w.heap.size + 1), 1, none⟩, .int .i64 x1), (⟨(w.heap.size + 1), 2, none⟩, .int .i64 x2), (⟨(w.heap.size + 1), 3, none⟩, .int .i64 x3)] [⟨w.heap.size, 0, none⟩, ⟨w.heap.size, 1, none⟩, ⟨w.heap.size, 2, none⟩, ⟨w.heap.size, 3, none⟩]) (by kernel_rfl) (by kernel_rfl) ?_ ?_ ?_ ?_
        · intro j hj
          have hj2 : j < 14 := hj
          have : ∀ j, j < 14 → (#[38,39,40,41,42,43,44,45,46,47,48,49,50,2] : Array Nat).getD j 0 < 51 := by decide
          exact this j hj2
        · refine Sy.drew (Sy.mk_of ?_ ?_ ?_ ?_)
          · first | rfl | (simp; done) | (simp; omega)
          · intro c hc
            simp only [List.mem_cons, List.not_mem_nil, or_false] at hc
            rcases hc with rfl | rfl | rfl | rfl <;> exact byCT
          · intro p hp
            simp only [List.mem_cons, List.not_mem_nil, or_false] at hp
            rcases hp with rfl | rfl | rfl | rfl <;> exact ⟨by first | ((repeat' with_reducible (first | refine ex_set _ ?_ | refine ex_al _ ?_ | exact ⟨_, by assumption⟩)); done) | first | exact ⟨_, by assumption⟩ | assumption | (go_simp; done) | (go_simp; exact ⟨_, rfl⟩), by first | ((repeat' first | with_reducible (first | assumption | refine frz_al _ ?_ ?_ | refine frz_set _ ?_) | omega | (simp; omega)); done) | assumption | (go_simp; done)⟩
          · (repeat' first | with_reducible (first | exact Below.refl _ _ | assumption | refine gr_alloc ?_ _ | refine below_drewN ?_ _ | refine below_drew ?_ | refine gr_call ?_ (by assumption) | refine Below.setCell ?_ ?_ _) | go_size | omega | (simp; omega))
        · skip
          refine ⟨?r1x0, ?r1x1, ?r1x2, ?r1x3, ?r1x4, ?r1x5, ?r1x6, ?r1x7, ?r1x8, ?r1x9, ?r1x10, ?r1x11, ?r1x12, ?r1x13, trivial⟩
          all_goals intro _ aq wx Kq hf hS hdep ev1 ev2 hK
          case' r1x0 =>
            have F3 : aq.eval (.tmp 3) = .slice (some ⟨w.heap.size + 1, 0, none⟩) 4 4 := hf 3
          case' r1x1 =>
            have D0 : aq.eval (.tmp 38) = _ := hdep 0
          case' r1x2 =>
            have D1 : aq.eval (.tmp 39) = _ := hdep 1
            have c0 := hS.cells (⟨(w.heap.size + 1), 0, none⟩, .int .i64 x0) (by simp)
          case' r1x3 =>
            have F3 : aq.eval (.tmp 3) = .slice (some ⟨w.heap.size + 1, 0, none⟩) 4 4 := hf 3
          case' r1x4 =>
            have D3 : aq.eval (.tmp 41) = _ := hdep 3
          case' r1x5 =>
            have D4 : aq.eval (.tmp 42) = _ := hdep 4
            have c0 := hS.cells (⟨(w.heap.size + 1), 1, none⟩, .int .i64 x1) (by simp)
          case' r1x6 =>
            have F3 : aq.eval (.tmp 3) = .slice (some ⟨w.heap.size + 1, 0, none⟩) 4 4 := hf 3
          case' r1x7 =>
            have D6 : aq.eval (.tmp 44) = _ := hdep 6
          case' r1x8 =>
            have D7 : aq.eval (.tmp 45) = _ := hdep 7
            have c0 := hS.cells (⟨(w.heap.size + 1), 2, none⟩, .int .i64 x2) (by simp)
          case' r1x9 =>
            have F3 : aq.eval (.tmp 3) = .slice (some ⟨w.heap.size + 1, 0, none⟩) 4 4 := hf 3
          case' r1x10 =>
            have D9 : aq.eval (.tmp 47) = _ := hdep 9
          case' r1x11 =>
            have D10 : aq.eval (.tmp 48) = _ := hdep 10
            have c0 := hS.cells (⟨(w.heap.size + 1), 3, none⟩, .int .i64 x3) (by simp)
          case' r1x12 =>
            have D2 : aq.eval (.tmp 40) = _ := hdep 2
            have D5 : aq.eval (.tmp 43) = _ := hdep 5
            have D8 : aq.eval (.tmp 46) = _ := hdep 8
            have D11 : aq.eval (.tmp 49) = _ := hdep 11
          case' r1x13 =>
            have D12 : aq.eval (.tmp 50) = _ := hdep 12
            have F2 : aq.eval (.tmp 2) = .pointer (some ⟨w.heap.size, 0, none⟩) := hf 2
            obtain ⟨⟨vx0, cx0⟩, cf0⟩ := hS.free ⟨w.heap.size, 0, none⟩ (by simp)
            obtain ⟨⟨vx1, cx1⟩, cf1⟩ := hS.free ⟨w.heap.size, 1, none⟩ (by simp)
            obtain ⟨⟨vx2, cx2⟩, cf2⟩ := hS.free ⟨w.heap.size, 2, none⟩ (by simp)
            obtain ⟨⟨vx3, cx3⟩, cf3⟩ := hS.free ⟨w.heap.size, 3, none⟩ (by simp)
          all_goals (clear hf hdep; unfold Oper.wp; generalize Act.eval _ = ev at *; go_simp)
          case' r1x1 =>
            try rw [if_pos (by omega), Oper.upon_value]
          case' r1x4 =>
            try rw [if_pos (by omega), Oper.upon_value]
          case' r1x7 =>
            try rw [if_pos (by omega), Oper.upon_value]
          case' r1x10 =>
            try rw [if_pos (by omega), Oper.upon_value]
          case r1x13 =>
            refine hK undef (setAll w.heap.size 0 [.int .i64 x0, .int .i64 x1, .int .i64 x2, .int .i64 x3] wx) (Sy.setAll (by first | omega | (simp; omega) | (simp; done)) (fa (far_blk (by first | (with_reducible assumption) | omega)) (fa (far_blk (by first | (with_reducible assumption) | omega)) (fa (far_blk (by first | (with_reducible assumption) | omega)) (fa (far_blk (by first | (with_reducible assumption) | omega)) (fa0))))) hS) ?_ (fun j u hj h => ?_)
            · rw [if_neg (by decide)]
              exact fa ⟨setAll_at w.heap.size [.int .i64 x0, .int .i64 x1, .int .i64 x2, .int .i64 x3] 0 wx 0 (show 0 < 4 by decide) ⟨vx0, cx0⟩, (by first | omega | (simp; omega) | (simp; done))⟩ (fa ⟨setAll_at w.heap.size [.int .i64 x0, .int .i64 x1, .int .i64 x2, .int .i64 x3] 0 wx 1 (show 1 < 4 by decide) ⟨vx1, cx1⟩, (by first | omega | (simp; omega) | (simp; done))⟩ (fa ⟨setAll_at w.heap.size [.int .i64 x0, .int .i64 x1, .int .i64 x2, .int .i64 x3] 0 wx 2 (show 2 < 4 by decide) ⟨vx2, cx2⟩, (by first | omega | (simp; omega) | (simp; done))⟩ (fa ⟨setAll_at w.heap.size [.int .i64 x0, .int .i64 x1, .int .i64 x2, .int .i64 x3] 0 wx 3 (show 3 < 4 by decide) ⟨vx3, cx3⟩, (by first | omega | (simp; omega) | (simp; done))⟩ (fa0))))
            · match j, hj with
              | 0, hj => exact (show (u : Value) = _ from h)
              | 1, hj => exact (show (u : Value) = _ from h)
              | 2, hj => exact (show (u : Value) = _ from h)
              | 3, hj => exact (show (u : Value) = _ from h)
              | 4, hj => exact (show (u : Value) = _ from h)
              | 5, hj => exact (show (u : Value) = _ from h)
              | 6, hj => exact (show (u : Value) = _ from h)
              | 7, hj => exact (show (u : Value) = _ from h)
              | 8, hj => exact (show (u : Value) = _ from h)
              | 9, hj => exact (show (u : Value) = _ from h)
              | 10, hj => exact (show (u : Value) = _ from h)
              | 11, hj => exact (show (u : Value) = _ from h)
              | 12, hj => exact (show (u : Value) = _ from h)
              | 13, hj => exact absurd rfl hj
              | j + 14, _ => trivial
          all_goals (refine hK _ _ hS ?_ (fun j u _ h => h); rw [if_pos (by rfl)]; show (_ : Value) = _; (first | rfl | (refine congrArg (Value.int .i64) ?_; first | rfl | exact int_in (by omega) | exact quo_in (by omega) (by omega) (by omega) | exact rem_in (by omega) (by omega) | omega) | (simp; done) | (simp [*]; done)))
        · intro aq wx hd hw hf hS hg
          have haq : aq = ⟨#[tau aq 0, tau aq 1, tau aq 2, tau aq 3, tau aq 4, tau aq 5, tau aq 6, tau aq 7, tau aq 8, tau aq 9, tau aq 10, tau aq 11, tau aq 12, tau aq 13, tau aq 14, tau aq 15, tau aq 16, tau aq 17, tau aq 18, tau aq 19, tau aq 20, tau aq 21, tau aq 22, tau aq 23, tau aq 24, tau aq 25, tau aq 26, tau aq 27, tau aq 28, tau aq 29, tau aq 30, tau aq 31, tau aq 32, tau aq 33, tau aq 34, tau aq 35, tau aq 36, tau aq 37, tau aq 38, tau aq 39, tau aq 40, tau aq 41, tau aq 42, tau aq 43, tau aq 44, tau aq 45, tau aq 46, tau aq 47, tau aq 48, tau aq 49, tau aq 50], []⟩ := by
            obtain ⟨tq, dq⟩ := aq
            have h5 := arr_eq (show tq.size = 51 from hw)
            have h6 : dq = [] := hd
            subst h6
            exact congrArg (fun z => Act.mk z []) h5
          rw [haq, hf 0, hf 1, hf 2, hf 3, hf 4, hf 5, hf 6, hf 7, hf 8, hf 9, hf 10, hf 11, hf 12, hf 13, hf 14, hf 15, hf 16, hf 17, hf 18, hf 19, hf 20, hf 21, hf 22, hf 23, hf 24, hf 25, hf 26, hf 27, hf 28, hf 29, hf 30, hf 31, hf 32, hf 33, hf 34, hf 35, hf 36, hf 37]
          clear haq hf hd hw
          try dsimp only
          have c00 : wx.cell? ⟨(w.heap.size + 1), 0, none⟩ = some (.int .i64 x0) := hS.cells (⟨(w.heap.size + 1), 0, none⟩, .int .i64 x0) (by simp)
          have c01 : wx.cell? ⟨(w.heap.size + 1), 1, none⟩ = some (.int .i64 x1) := hS.cells (⟨(w.heap.size + 1), 1, none⟩, .int .i64 x1) (by simp)
          have c02 : wx.cell? ⟨(w.heap.size + 1), 2, none⟩ = some (.int .i64 x2) := hS.cells (⟨(w.heap.size + 1), 2, none⟩, .int .i64 x2) (by simp)
          have c03 : wx.cell? ⟨(w.heap.size + 1), 3, none⟩ = some (.int .i64 x3) := hS.cells (⟨(w.heap.size + 1), 3, none⟩, .int .i64 x3) (by simp)
          have c10 : wx.cell? ⟨w.heap.size, 0, none⟩ = some (.int .i64 x0) := (hg 13 (by decide) (⟨w.heap.size, 0, none⟩, .int .i64 x0) (by simp)).1
          have f10 : wx.frozen? ⟨w.heap.size, 0, none⟩ = false := (hS.free ⟨w.heap.size, 0, none⟩ (by simp)).2
          have c11 : wx.cell? ⟨w.heap.size, 1, none⟩ = some (.int .i64 x1) := (hg 13 (by decide) (⟨w.heap.size, 1, none⟩, .int .i64 x1) (by simp)).1
          have f11 : wx.frozen? ⟨w.heap.size, 1, none⟩ = false := (hS.free ⟨w.heap.size, 1, none⟩ (by simp)).2
          have c12 : wx.cell? ⟨w.heap.size, 2, none⟩ = some (.int .i64 x2) := (hg 13 (by decide) (⟨w.heap.size, 2, none⟩, .int .i64 x2) (by simp)).1
          have f12 : wx.frozen? ⟨w.heap.size, 2, none⟩ = false := (hS.free ⟨w.heap.size, 2, none⟩ (by simp)).2
          have c13 : wx.cell? ⟨w.heap.size, 3, none⟩ = some (.int .i64 x3) := (hg 13 (by decide) (⟨w.heap.size, 3, none⟩, .int .i64 x3) (by simp)).1
          have f13 : wx.frozen? ⟨w.heap.size, 3, none⟩ = false := (hS.free ⟨w.heap.size, 3, none⟩ (by simp)).2
          have hb0 : Below wz.heap.size wz wx := hS.below
          have z0 := World.block_lt_of_cell? _ _ c00
          change (w.heap.size + 1) < wx.heap.size at z0
          have z1 := World.block_lt_of_cell? _ _ c10
          change w.heap.size < wx.heap.size at z1
          clear hS hg
          unfold tau
          go_wp2
          refine bodyPost_ret (v := .agg #[.int .i64 x0, .int .i64 x1, .int .i64 x2, .int .i64 x3]) (by simp [results, Try.results38, go_sem, *]) rfl ?_
          have hcl := cur_last h1 hg1 hlt wz hz1 hz2 hb0
          exact ⟨x0, x1, x2, x3, rfl, p0, p1, p2, p3, hcl.1.le (by omega), hcl.2⟩
      · skip
        go_wp2_with fail
        refine (pick_a b (K + 40 + 2) 4 _ h1 (by omega) (by omega)).mono ?_
        rintro e2 w2 ⟨v2, rfl, ⟨p2, q2⟩, h2, g2⟩
        have hs2 := h2.lt
        obtain ⟨k, rfl⟩ := Int.eq_ofNat_of_zero_le p2
        have hk : k < 4 := by omega
        go_wp2_with fail
        refine (among_a b (K + 40 + 2 + 2) _ 0 4 4 (fun x => -2000 ≤ x ∧ x ≤ 2000) _ (h2.below (below_alloc_self _ _)) (by omega) (by omega) ⟨by omega, fun i hi => by rcases (show i = 0 ∨ i = 1 ∨ i = 2 ∨ i = 3 by omega) with rfl | rfl | rfl | rfl <;> exact ⟨_, by go_simp; rfl, by constructor <;> omega⟩⟩).mono ?_
        rintro e3 w3 ⟨v3, rfl, p3, h3, g3⟩
        have hgx : w1.grownBy w3 (some b) := (g2.alloc' _).trans' g3
        have hR3 := hR1.grown hgx n1
        have hS3 := hS1.grown hgx n2
        obtain ⟨x5, cx5, -, fx5⟩ := hR3 k hk
        obtain ⟨wy, hwy⟩ : ∃ wy, wy = w3.setCell ⟨w.heap.size + 1, k, none⟩ (.int .i64 v3) := ⟨_, rfl⟩
        have hRy : RowQ wy (w.heap.size + 1) := by rw [hwy]; exact hR3.set hk p3
        have hSy : ResQ wy w.heap.size := by rw [hwy]; exact hS3.set (by omega)
        have hCy : Cur B wy b (K + 40 + 2 + 2 + 2) := by rw [hwy]; exact h3.set hBk n1
        have hgy : w.grownBy wy (some b) := by
          have hh := hg1.trans' hgx
          rw [hwy]
          exact ⟨hh.os, hh.tape, hh.output, by simpa [World.setCell] using hh.size, fun j hj hne => (Below.heap_setCell _ _ _ _ (by intro e; have e9 : j = w.heap.size + 1 := (by first | exact e | exact e.symm); omega)).trans (hh.block j hj hne)⟩
        clear hR1 hS1 hR hS hR3 hS3 h0 h1 h2 h3
        go_wp2
        rw [← hwy]
        clear hwy cx5 fx5
        obtain ⟨x0, c0, p0, -⟩ := hRy 0 (by omega)
        obtain ⟨x1, c1, p1, -⟩ := hRy 1 (by omega)
        obtain ⟨x2, c2, p2, -⟩ := hRy 2 (by omega)
        obtain ⟨x3, c3, p3, -⟩ := hRy 3 (by omega)
        obtain ⟨d0, f0⟩ := hSy 0 (by omega)
        obtain ⟨d1, f1⟩ := hSy 1 (by omega)
        obtain ⟨d2, f2⟩ := hSy 2 (by omega)
        obtain ⟨d3, f3⟩ := hSy 3 (by omega)
        have hlw : w.heap.size < wy.heap.size := World.block_lt_of_cell? _ _ d0
        obtain ⟨wz, hz1, hz2⟩ := low_world wy w.heap.size (by omega)
        skip
        skip
        refine region_n0 (by kernel_rfl) (fun j => #[38,39,40,41,42,43,44,45,46,47,48,49,50,2].getD j 0) (fun j => Kd.ok ((fun j => match j with | 0 => Kd.val (.slice (some ⟨w.heap.size + 1, 0, none⟩) 4 4) | 1 => Kd.val (.pointer (some ⟨(w.heap.size + 1), 0, none⟩)) | 2 => Kd.val (.int .i64 x0) | 3 => Kd.val (.slice (some ⟨w.heap.size + 1, 0, none⟩) 4 4) | 4 => Kd.val (.pointer (some ⟨(w.heap.size + 1), 1, none⟩)) | 5 => Kd.val (.int .i64 x1) | 6 => Kd.val (.slice (some ⟨w.heap.size + 1, 0, none⟩) 4 4) | 7 => Kd.val (.pointer (some ⟨(w.heap.size + 1), 2, none⟩)) | 8 => Kd.val (.int .i64 x2) | 9 => Kd.val (.slice (some ⟨w.heap.size + 1, 0, none⟩) 4 4) | 10 => Kd.val (.pointer (some ⟨(w.heap.size + 1), 3, none⟩)) | 11 => Kd.val (.int .i64 x3) | 12 => Kd.val (.agg #[.int .i64 x0, .int .i64 x1, .int .i64 x2, .int .i64 x3]) | 13 => Kd.old (wy.heap.size) [(⟨w.heap.size, 0, none⟩, .int .i64 x0), (⟨w.heap.size, 1, none⟩, .int .i64 x1), (⟨w.heap.size, 2, none⟩, .int .i64 x2), (⟨w.heap.size, 3, none⟩, .int .i64 x3)] | _ => Kd.any : Nat → Kd) j)) (Sy wz (wy.heap.size) [(⟨(w.heap.size + 1), 0, none⟩, .int .i64 x0), (⟨(w.heap.size + 1), 1, none⟩, .int .i64 x1), (⟨(w.heap.size + 1), 2, none⟩, .int .i64 x2), (⟨(w.heap.size + 1), 3, none⟩, .int .i64 x3)] [⟨w.heap.size, 0, none⟩, ⟨w.heap.size, 1, none⟩, ⟨w.heap.size, 2, none⟩, ⟨w.heap.size, 3, none⟩]) (by kernel_rfl) (by kernel_rfl) ?_ ?_ ?_ ?_
        · intro j hj
          have hj2 : j < 14 := hj
          have : ∀ j, j < 14 → (#[38,39,40,41,42,43,44,45,46,47,48,49,50,2] : Array Nat).getD j 0 < 51 := by decide
          exact this j hj2
        · refine Sy.drew (Sy.mk_of ?_ ?_ ?_ ?_)
          · first | rfl | (simp; done) | (simp; omega)
          · intro c hc
            simp only [List.mem_cons, List.not_mem_nil, or_false] at hc
            rcases hc with rfl | rfl | rfl | rfl <;> exact byCT
          · intro p hp
            simp only [List.mem_cons, List.not_mem_nil, or_false] at hp
            rcases hp with rfl | rfl | rfl | rfl <;> exact ⟨by first | ((repeat' with_reducible (first | refine ex_set _ ?_ | refine ex_al _ ?_ | exact ⟨_, by assumption⟩)); done) | first | exact ⟨_, by assumption⟩ | assumption | (go_simp; done) | (go_simp; exact ⟨_, rfl⟩), by first | ((repeat' first | with_reducible (first | assumption | refine frz_al _ ?_ ?_ | refine frz_set _ ?_) | omega | (simp; omega)); done) | assumption | (go_simp; done)⟩
          · (repeat' first | with_reducible (first | exact Below.refl _ _ | assumption | refine gr_alloc ?_ _ | refine below_drewN ?_ _ | refine below_drew ?_ | refine gr_call ?_ (by assumption) | refine Below.setCell ?_ ?_ _) | go_size | omega | (simp; omega))
        · skip
          refine ⟨?r2x0, ?r2x1, ?r2x2, ?r2x3, ?r2x4, ?r2x5, ?r2x6, ?r2x7, ?r2x8, ?r2x9, ?r2x10, ?r2x11, ?r2x12, ?r2x13, trivial⟩
          all_goals intro _ aq wx Kq hf hS hdep ev1 ev2 hK
          case' r2x0 =>
            have F3 : aq.eval (.tmp 3) = .slice (some ⟨w.heap.size + 1, 0, none⟩) 4 4 := hf 3
          case' r2x1 =>
            have D0 : aq.eval (.tmp 38) = _ := hdep 0
          case' r2x2 =>
            have D1 : aq.eval (.tmp 39) = _ := hdep 1
            have c0 := hS.cells (⟨(w.heap.size + 1), 0, none⟩, .int .i64 x0) (by simp)
          case' r2x3 =>
            have F3 : aq.eval (.tmp 3) = .slice (some ⟨w.heap.size + 1, 0, none⟩) 4 4 := hf 3
          case' r2x4 =>
            have D3 : aq.eval (.tmp 41) = _ := hdep 3
          case' r2x5 =>
            have D4 : aq.eval (.tmp 42) = _ := hdep 4
            have c0 := hS.cells (⟨(w.heap.size + 1), 1, none⟩, .int .i64 x1) (by simp)
          case' r2x6 =>
            have F3 : aq.eval (.tmp 3) = .slice (some ⟨w.heap.size + 1, 0, none⟩) 4 4 := hf 3
          case' r2x7 =>
            have D6 : aq.eval (.tmp 44) = _ := hdep 6
          case' r2x8 =>
            have D7 : aq.eval (.tmp 45) = _ := hdep 7
            have c0 := hS.cells (⟨(w.heap.size + 1), 2, none⟩, .int .i64 x2) (by simp)
          case' r2x9 =>
            have F3 : aq.eval (.tmp 3) = .slice (some ⟨w.heap.size + 1, 0, none⟩) 4 4 := hf 3
          case' r2x10 =>
            have D9 : aq.eval (.tmp 47) = _ := hdep 9
          case' r2x11 =>
            have D10 : aq.eval (.tmp 48) = _ := hdep 10
            have c0 := hS.cells (⟨(w.heap.size + 1), 3, none⟩, .int .i64 x3) (by simp)
          case' r2x12 =>
            have D2 : aq.eval (.tmp 40) = _ := hdep 2
            have D5 : aq.eval (.tmp 43) = _ := hdep 5
            have D8 : aq.eval (.tmp 46) = _ := hdep 8
            have D11 : aq.eval (.tmp 49) = _ := hdep 11
          case' r2x13 =>
            have D12 : aq.eval (.tmp 50) = _ := hdep 12
            have F2 : aq.eval (.tmp 2) = .pointer (some ⟨w.heap.size, 0, none⟩) := hf 2
            obtain ⟨⟨vx0, cx0⟩, cf0⟩ := hS.free ⟨w.heap.size, 0, none⟩ (by simp)
            obtain ⟨⟨vx1, cx1⟩, cf1⟩ := hS.free ⟨w.heap.size, 1, none⟩ (by simp)
            obtain ⟨⟨vx2, cx2⟩, cf2⟩ := hS.free ⟨w.heap.size, 2, none⟩ (by simp)
            obtain ⟨⟨vx3, cx3⟩, cf3⟩ := hS.free ⟨w.heap.size, 3, none⟩ (by simp)
          all_goals (clear hf hdep; unfold Oper.wp; generalize Act.eval _ = ev at *; go_simp)
          case' r2x1 =>
            try rw [if_pos (by omega), Oper.upon_value]
          case' r2x4 =>
            try rw [if_pos (by omega), Oper.upon_value]
          case' r2x7 =>
            try rw [if_pos (by omega), Oper.upon_value]
          case' r2x10 =>
            try rw [if_pos (by omega), Oper.upon_value]
          case r2x13 =>
            refine hK undef (setAll w.heap.size 0 [.int .i64 x0, .int .i64 x1, .int .i64 x2, .int .i64 x3] wx) (Sy.setAll (by first | omega | (simp; omega) | (simp; done)) (fa (far_blk (by first | (with_reducible assumption) | omega)) (fa (far_blk (by first | (with_reducible assumption) | omega)) (fa (far_blk (by first | (with_reducible assumption) | omega)) (fa (far_blk (by first | (with_reducible assumption) | omega)) (fa0))))) hS) ?_ (fun j u hj h => ?_)
            · rw [if_neg (by decide)]
              exact fa ⟨setAll_at w.heap.size [.int .i64 x0, .int .i64 x1, .int .i64 x2, .int .i64 x3] 0 wx 0 (show 0 < 4 by decide) ⟨vx0, cx0⟩, (by first | omega | (simp; omega) | (simp; done))⟩ (fa ⟨setAll_at w.heap.size [.int .i64 x0, .int .i64 x1, .int .i64 x2, .int .i64 x3] 0 wx 1 (show 1 < 4 by decide) ⟨vx1, cx1⟩, (by first | omega | (simp; omega) | (simp; done))⟩ (fa ⟨setAll_at w.heap.size [.int .i64 x0, .int .i64 x1, .int .i64 x2, .int .i64 x3] 0 wx 2 (show 2 < 4 by decide) ⟨vx2, cx2⟩, (by first | omega | (simp; omega) | (simp; done))⟩ (fa ⟨setAll_at w.heap.size [.int .i64 x0, .int .i64 x1, .int .i64 x2, .int .i64 x3] 0 wx 3 (show 3 < 4 by decide) ⟨vx3, cx3⟩, (by first | omega | (simp; omega) | (simp; done))⟩ (fa0))))
            · match j, hj with
              | 0, hj => exact (show (u : Value) = _ from h)
              | 1, hj => exact (show (u : Value) = _ from h)
              | 2, hj => exact (show (u : Value) = _ from h)
              | 3, hj => exact (show (u : Value) = _ from h)
              | 4, hj => exact (show (u : Value) = _ from h)
              | 5, hj => exact (show (u : Value) = _ from h)
              | 6, hj => exact (show (u : Value) = _ from h)
              | 7, hj => exact (show (u : Value) = _ from h)
              | 8, hj => exact (show (u : Value) = _ from h)
              | 9, hj => exact (show (u : Value) = _ from h)
              | 10, hj => exact (show (u : Value) = _ from h)
              | 11, hj => exact (show (u : Value) = _ from h)
              | 12, hj => exact (show (u : Value) = _ from h)
              | 13, hj => exact absurd rfl hj
              | j + 14, _ => trivial
          all_goals (refine hK _ _ hS ?_ (fun j u _ h => h); rw [if_pos (by rfl)]; show (_ : Value) = _; (first | rfl | (refine congrArg (Value.int .i64) ?_; first | rfl | exact int_in (by omega) | exact quo_in (by omega) (by omega) (by omega) | exact rem_in (by omega) (by omega) | omega) | (simp; done) | (simp [*]; done)))
        · intro aq wx hd hw hf hS hg
          have haq : aq = ⟨#[tau aq 0, tau aq 1, tau aq 2, tau aq 3, tau aq 4, tau aq 5, tau aq 6, tau aq 7, tau aq 8, tau aq 9, tau aq 10, tau aq 11, tau aq 12, tau aq 13, tau aq 14, tau aq 15, tau aq 16, tau aq 17, tau aq 18, tau aq 19, tau aq 20, tau aq 21, tau aq 22, tau aq 23, tau aq 24, tau aq 25, tau aq 26, tau aq 27, tau aq 28, tau aq 29, tau aq 30, tau aq 31, tau aq 32, tau aq 33, tau aq 34, tau aq 35, tau aq 36, tau aq 37, tau aq 38, tau aq 39, tau aq 40, tau aq 41, tau aq 42, tau aq 43, tau aq 44, tau aq 45, tau aq 46, tau aq 47, tau aq 48, tau aq 49, tau aq 50], []⟩ := by
            obtain ⟨tq, dq⟩ := aq
            have h5 := arr_eq (show tq.size = 51 from hw)
            have h6 : dq = [] := hd
            subst h6
            exact congrArg (fun z => Act.mk z []) h5
          rw [haq, hf 0, hf 1, hf 2, hf 3, hf 4, hf 5, hf 6, hf 7, hf 8, hf 9, hf 10, hf 11, hf 12, hf 13, hf 14, hf 15, hf 16, hf 17, hf 18, hf 19, hf 20, hf 21, hf 22, hf 23, hf 24, hf 25, hf 26, hf 27, hf 28, hf 29, hf 30, hf 31, hf 32, hf 33, hf 34, hf 35, hf 36, hf 37]
          clear haq hf hd hw
          try dsimp only
          have c00 : wx.cell? ⟨(w.heap.size + 1), 0, none⟩ = some (.int .i64 x0) := hS.cells (⟨(w.heap.size + 1), 0, none⟩, .int .i64 x0) (by simp)
          have c01 : wx.cell? ⟨(w.heap.size + 1), 1, none⟩ = some (.int .i64 x1) := hS.cells (⟨(w.heap.size + 1), 1, none⟩, .int .i64 x1) (by simp)
          have c02 : wx.cell? ⟨(w.heap.size + 1), 2, none⟩ = some (.int .i64 x2) := hS.cells (⟨(w.heap.size + 1), 2, none⟩, .int .i64 x2) (by simp)
          have c03 : wx.cell? ⟨(w.heap.size + 1), 3, none⟩ = some (.int .i64 x3) := hS.cells (⟨(w.heap.size + 1), 3, none⟩, .int .i64 x3) (by simp)
          have c10 : wx.cell? ⟨w.heap.size, 0, none⟩ = some (.int .i64 x0) := (hg 13 (by decide) (⟨w.heap.size, 0, none⟩, .int .i64 x0) (by simp)).1
          have f10 : wx.frozen? ⟨w.heap.size, 0, none⟩ = false := (hS.free ⟨w.heap.size, 0, none⟩ (by simp)).2
          have c11 : wx.cell? ⟨w.heap.size, 1, none⟩ = some (.int .i64 x1) := (hg 13 (by decide) (⟨w.heap.size, 1, none⟩, .int .i64 x1) (by simp)).1
          have f11 : wx.frozen? ⟨w.heap.size, 1, none⟩ = false := (hS.free ⟨w.heap.size, 1, none⟩ (by simp)).2
          have c12 : wx.cell? ⟨w.heap.size, 2, none⟩ = some (.int .i64 x2) := (hg 13 (by decide) (⟨w.heap.size, 2, none⟩, .int .i64 x2) (by simp)).1
          have f12 : wx.frozen? ⟨w.heap.size, 2, none⟩ = false := (hS.free ⟨w.heap.size, 2, none⟩ (by simp)).2
          have c13 : wx.cell? ⟨w.heap.size, 3, none⟩ = some (.int .i64 x3) := (hg 13 (by decide) (⟨w.heap.size, 3, none⟩, .int .i64 x3) (by simp)).1
          have f13 : wx.frozen? ⟨w.heap.size, 3, none⟩ = false := (hS.free ⟨w.heap.size, 3, none⟩ (by simp)).2
          have hb0 : Below wz.heap.size wz wx := hS.below
          have z0 := World.block_lt_of_cell? _ _ c00
          change (w.heap.size + 1) < wx.heap.size at z0
          have z1 := World.block_lt_of_cell? _ _ c10
          change w.heap.size < wx.heap.size at z1
          clear hS hg
          unfold tau
          go_wp2
          refine bodyPost_ret (v := .agg #[.int .i64 x0, .int .i64 x1, .int .i64 x2, .int .i64 x3]) (by simp [results, Try.results38, go_sem, *]) rfl ?_
          have hcl := cur_last hCy hgy hlt wz hz1 hz2 hb0
          exact ⟨x0, x1, x2, x3, rfl, p0, p1, p2, p3, hcl.1.le (by omega), hcl.2⟩
end Go.Proofs.Ytpgpdccidoogcaa
