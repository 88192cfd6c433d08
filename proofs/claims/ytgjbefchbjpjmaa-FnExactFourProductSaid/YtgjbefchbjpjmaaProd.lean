/-
  TwoProduct and FourProduct on both sides, and the laws' walks.
-/
import Derived.Test.YtgjbefchbjpjmaaAbs
import Derived.Handy
import Derived.Deep.RegionHeld3
import Derived.Deep.DeepCutAuto
namespace Go.Proofs.Ytgjbefchbjpjmaa
open Go.RowKit
set_option linter.unusedVariables false
set_option linter.unusedSimpArgs false

theorem cells_new (W : World) (cs : Array Value) (t : TypeId) (zs : List Int) (B : Nat) (h : cs.toList = zs.map (Value.int .i64)) (hB : B = W.heap.size) : Cells (W.alloc (.cells cs t)) B zs := by
  intro i hi
  subst hB
  have hn := heap_alloc_new W (.cells cs t)
  rw [cell_of_row _ _ i cs t (0, 0) hn]
  have : cs[i]? = cs.toList[i]? := by simp
  rw [this, h, List.getElem?_map, List.getElem?_eq_getElem hi, List.getD_eq_getElem?_getD, List.getElem?_eq_getElem hi]
  rfl
theorem i64_list {zs : List Int} (h : ∀ z ∈ zs, I64 z) : ∀ i, i < zs.length → I64 (zs.getD i 0) := fun i hi => by
  rw [List.getD_eq_getElem?_getD, List.getElem?_eq_getElem hi]; exact h _ (List.getElem_mem hi)
theorem pbd {a b : Int} (ha : -1000 ≤ a ∧ a ≤ 1000) (hb : -1000 ≤ b ∧ b ≤ 1000) : -1000000 ≤ a * b ∧ a * b ≤ 1000000 := by
  have h1 : a.natAbs ≤ 1000 := by omega
  have h2 : b.natAbs ≤ 1000 := by omega
  have h3 := Nat.mul_le_mul h1 h2
  rw [← Int.natAbs_mul] at h3
  omega
theorem allB_mem {zs : List Int} {lo hi : Int} (h : allB zs lo hi = true) : ∀ z ∈ zs, lo ≤ z ∧ z ≤ hi := by
  intro z hz
  unfold allB at h
  rw [List.all_eq_true] at h
  exact inB_true (h z hz)
theorem lt_keep {W w' : World} (hb : Below W.heap.size W w') : ∀ k, k < W.heap.size → k < w'.heap.size := fun k h => Nat.lt_of_lt_of_le h hb.size
theorem keep_call {B : Nat} {W0 W w' : World} (hz : W0.heap.size = B) (hb : Below W.heap.size W w') (h : Below B W0 W) : Below B W0 w' := h.trans (hb.mono (by rw [← hz]; exact h.size))
theorem keep_alloc {B : Nat} {W0 W : World} (hz : W0.heap.size = B) (o : Obj) (h : Below B W0 W) : Below B W0 (W.alloc o) := h.alloc (by rw [← hz]; exact h.size) o
theorem keep_set {B : Nat} {W0 W : World} {p : Addr} (hp : B ≤ p.block) (v : Value) (h : Below B W0 W) : Below B W0 (W.setCell p v) := h.setCell hp v
theorem q2 (n : Nat) : n < n + 1 + 1 := by omega
theorem q3 (n : Nat) : n < n + 1 + 1 + 1 := by omega
theorem q4 (n : Nat) : n < n + 1 + 1 + 1 + 1 := by omega
theorem q5 (n : Nat) : n < n + 1 + 1 + 1 + 1 + 1 := by omega
theorem q6 (n : Nat) : n < n + 1 + 1 + 1 + 1 + 1 + 1 := by omega
theorem q7 (n : Nat) : n < n + 1 + 1 + 1 + 1 + 1 + 1 + 1 := by omega
theorem q8 (n : Nat) : n < n + 1 + 1 + 1 + 1 + 1 + 1 + 1 + 1 := by omega
theorem q9 (n : Nat) : n < n + 1 + 1 + 1 + 1 + 1 + 1 + 1 + 1 + 1 := by omega
theorem q10 (n : Nat) : n < n + 1 + 1 + 1 + 1 + 1 + 1 + 1 + 1 + 1 + 1 := by omega
theorem q11 (n : Nat) : n < n + 1 + 1 + 1 + 1 + 1 + 1 + 1 + 1 + 1 + 1 + 1 := by omega
theorem q12 (n : Nat) : n < n + 1 + 1 + 1 + 1 + 1 + 1 + 1 + 1 + 1 + 1 + 1 + 1 := by omega
theorem q13 (n : Nat) : n < n + 1 + 1 + 1 + 1 + 1 + 1 + 1 + 1 + 1 + 1 + 1 + 1 + 1 := by omega
theorem q14 (n : Nat) : n < n + 1 + 1 + 1 + 1 + 1 + 1 + 1 + 1 + 1 + 1 + 1 + 1 + 1 + 1 := by omega
theorem q15 (n : Nat) : n < n + 1 + 1 + 1 + 1 + 1 + 1 + 1 + 1 + 1 + 1 + 1 + 1 + 1 + 1 + 1 := by omega
theorem q16 (n : Nat) : n < n + 1 + 1 + 1 + 1 + 1 + 1 + 1 + 1 + 1 + 1 + 1 + 1 + 1 + 1 + 1 + 1 := by omega
theorem q17 (n : Nat) : n < n + 1 + 1 + 1 + 1 + 1 + 1 + 1 + 1 + 1 + 1 + 1 + 1 + 1 + 1 + 1 + 1 + 1 := by omega
theorem q18 (n : Nat) : n < n + 1 + 1 + 1 + 1 + 1 + 1 + 1 + 1 + 1 + 1 + 1 + 1 + 1 + 1 + 1 + 1 + 1 + 1 := by omega
theorem q19 (n : Nat) : n < n + 1 + 1 + 1 + 1 + 1 + 1 + 1 + 1 + 1 + 1 + 1 + 1 + 1 + 1 + 1 + 1 + 1 + 1 + 1 := by omega
attribute [local go_sem] q2 q3 q4 q5 q6 q7 q8 q9 q10 q11 q12 q13 q14 q15 q16 q17 q18 q19
theorem cell_alloc {w : World} {a : Addr} {v : Value} (o : Obj) (h : w.cell? a = some v) : (w.alloc o).cell? a = some v := by
  rw [World.cell?_alloc_lt _ _ _ (World.block_lt_of_cell? w a h)]; exact h
theorem cell_drew {w : World} {a : Addr} {v : Value} (h : w.cell? a = some v) : w.drew.cell? a = some v := h
theorem cell_call {W w' : World} {a : Addr} {v : Value} (hb : Below W.heap.size W w') (h : W.cell? a = some v) : w'.cell? a = some v := by
  rw [hb.cell (World.block_lt_of_cell? W a h)]; exact h
theorem cell_set {w : World} {p a : Addr} {v : Value} (u : Value) (hp : p.block ≠ a.block) (h : w.cell? a = some v) : (w.setCell p u).cell? a = some v := by
  rw [World.cell?_setCell_far _ _ _ _ hp]; exact h
theorem below_drew {B : Nat} {a w : World} (h : Below B a w) : Below B a w.drew := ⟨h.os, h.tape, h.output, h.size, h.block⟩

def TwoProductOk (x1 y1 x2 y2 : Int) : Bool := allB [x1, y1, x2, y2] (-1000) 1000
theorem TwoProduct_bds {x1 y1 x2 y2 : Int} (h : TwoProductOk x1 y1 x2 y2 = true) : (-1000 ≤ x1 ∧ x1 ≤ 1000) ∧ (-1000 ≤ y1 ∧ y1 ≤ 1000) ∧ (-1000 ≤ x2 ∧ x2 ≤ 1000) ∧ (-1000 ≤ y2 ∧ y2 ≤ 1000) := by
  have := allB_mem h
  simpa only [List.mem_cons, List.not_mem_nil, or_false, forall_eq_or_imp, forall_eq] using this

set_option maxRecDepth 100000 in
set_option maxHeartbeats 2000000 in
theorem implTwoProduct_false (x1 y1 x2 y2 : Int) (w : World) (hx1 : I64 x1) (hy1 : I64 y1) (hx2 : I64 x2) (hy2 : I64 y2) (h : TwoProductOk x1 y1 x2 y2 = false) :
    Calls Try.prog 19 #[.agg #[.int .i64 x1, .int .i64 y1], .agg #[.int .i64 x2, .int .i64 y2]] w fun e w' => e = .returned (.tuple #[.agg #[.int .i64 0, .int .i64 0], .bool false]) ∧ Below w.heap.size w w' := by
    have hok : allB [x1, y1, x2, y2] (-1000) 1000 = false := h
    clear h
    go_enter Try.func19, Try.ntmps19
    go_wp2_with (go_at_call 54; refine (areShort_any [x1, y1, x2, y2] _ _ _ (i64_list (by simp only [List.mem_cons, List.not_mem_nil, or_false, forall_eq_or_imp, forall_eq]; exact ⟨hx1, hy1, hx2, hy2⟩)) (by simp) (cells_new _ _ _ _ _ rfl (by simp))).mono ?_; rintro e w1 ⟨rfl, rfl⟩)
    go_returns
    exact ⟨rfl, by go_grown⟩

set_option maxRecDepth 100000 in
set_option maxHeartbeats 2000000 in
theorem implTwoProduct_true (x1 y1 x2 y2 : Int) (w : World) (hx1 : I64 x1) (hy1 : I64 y1) (hx2 : I64 x2) (hy2 : I64 y2) (h : TwoProductOk x1 y1 x2 y2 = true) :
    Calls Try.prog 19 #[.agg #[.int .i64 x1, .int .i64 y1], .agg #[.int .i64 x2, .int .i64 y2]] w fun e w' => e = .returned (.tuple #[.agg #[.int .i64 (x1 * x2 - y1 * y2), .int .i64 (x1 * y2 + y1 * x2)], .bool true]) ∧ Below w.heap.size w w' := by
    obtain ⟨bx1, by1, bx2, by2⟩ := TwoProduct_bds h
    have p0 := pbd bx1 bx2
    have p1 := pbd by1 by2
    have p2 := pbd bx1 by2
    have p3 := pbd by1 bx2
    have hok : allB [x1, y1, x2, y2] (-1000) 1000 = true := h
    clear h
    go_enter Try.func19, Try.ntmps19
    go_wp2_with (go_at_call 54; refine (areShort_any [x1, y1, x2, y2] _ _ _ (i64_list (by simp only [List.mem_cons, List.not_mem_nil, or_false, forall_eq_or_imp, forall_eq]; exact ⟨hx1, hy1, hx2, hy2⟩)) (by simp) (cells_new _ _ _ _ _ rfl (by simp))).mono ?_; rintro e w1 ⟨rfl, rfl⟩)
    go_returns
    exact ⟨rfl, by go_grown⟩

set_option maxRecDepth 100000 in
set_option maxHeartbeats 2000000 in
theorem specTwoProduct_false (x1 y1 x2 y2 : Int) (w : World) (hx1 : I64 x1) (hy1 : I64 y1) (hx2 : I64 x2) (hy2 : I64 y2) (h : TwoProductOk x1 y1 x2 y2 = false) :
    Calls Try.prog 17 #[.agg #[.int .i64 x1, .int .i64 y1], .agg #[.int .i64 x2, .int .i64 y2]] w fun e w' => e = .returned (.tuple #[.agg #[.int .i64 0, .int .i64 0], .bool false]) ∧ Below w.heap.size w w' := by
    have hok : allB [x1, y1, x2, y2] (-1000) 1000 = false := h
    clear h
    go_enter Try.func17, Try.ntmps17
    go_wp2_with (go_at_call 53; refine (l1All_any [x1, y1, x2, y2] (-1000) 1000 _ _ _ (i64_list (by simp only [List.mem_cons, List.not_mem_nil, or_false, forall_eq_or_imp, forall_eq]; exact ⟨hx1, hy1, hx2, hy2⟩)) (by simp) (cells_new _ _ _ _ _ rfl (by simp))).mono ?_; rintro e w1 ⟨rfl, rfl⟩)
    go_returns
    exact ⟨rfl, by go_grown⟩

set_option maxRecDepth 100000 in
set_option maxHeartbeats 2000000 in
theorem specTwoProduct_true (x1 y1 x2 y2 : Int) (w : World) (hx1 : I64 x1) (hy1 : I64 y1) (hx2 : I64 x2) (hy2 : I64 y2) (h : TwoProductOk x1 y1 x2 y2 = true) :
    Calls Try.prog 17 #[.agg #[.int .i64 x1, .int .i64 y1], .agg #[.int .i64 x2, .int .i64 y2]] w fun e w' => e = .returned (.tuple #[.agg #[.int .i64 (x1 * x2 - y1 * y2), .int .i64 (x1 * y2 + y1 * x2)], .bool true]) ∧ Below w.heap.size w w' := by
    obtain ⟨bx1, by1, bx2, by2⟩ := TwoProduct_bds h
    have p0 := pbd bx1 bx2
    have p1 := pbd by1 by2
    have p2 := pbd bx1 by2
    have p3 := pbd by1 bx2
    have hok : allB [x1, y1, x2, y2] (-1000) 1000 = true := h
    clear h
    go_enter Try.func17, Try.ntmps17
    go_wp2_with (go_at_call 53; refine (l1All_any [x1, y1, x2, y2] (-1000) 1000 _ _ _ (i64_list (by simp only [List.mem_cons, List.not_mem_nil, or_false, forall_eq_or_imp, forall_eq]; exact ⟨hx1, hy1, hx2, hy2⟩)) (by simp) (cells_new _ _ _ _ _ rfl (by simp))).mono ?_; rintro e w1 ⟨rfl, rfl⟩)
    go_returns
    exact ⟨rfl, by go_grown⟩

def TwoProductR (x1 y1 x2 y2 : Int) : Value := if TwoProductOk x1 y1 x2 y2 then .agg #[.int .i64 (x1 * x2 - y1 * y2), .int .i64 (x1 * y2 + y1 * x2)] else .agg #[.int .i64 0, .int .i64 0]
def TwoProductR0 (x1 y1 x2 y2 : Int) : Int := if TwoProductOk x1 y1 x2 y2 then x1 * x2 - y1 * y2 else 0
def TwoProductR1 (x1 y1 x2 y2 : Int) : Int := if TwoProductOk x1 y1 x2 y2 then x1 * y2 + y1 * x2 else 0

theorem implTwoProduct_any (x1 y1 x2 y2 : Int) (w : World) (hx1 : I64 x1) (hy1 : I64 y1) (hx2 : I64 x2) (hy2 : I64 y2) :
    Calls Try.prog 19 #[.agg #[.int .i64 x1, .int .i64 y1], .agg #[.int .i64 x2, .int .i64 y2]] w fun e w' => e = .returned (.tuple #[.agg #[.int .i64 (TwoProductR0 x1 y1 x2 y2), .int .i64 (TwoProductR1 x1 y1 x2 y2)], .bool (TwoProductOk x1 y1 x2 y2)]) ∧ Below w.heap.size w w' := by
  cases h : TwoProductOk x1 y1 x2 y2
  · have := implTwoProduct_false x1 y1 x2 y2 w hx1 hy1 hx2 hy2 h
    simpa [TwoProductR0, TwoProductR1, h] using this
  · have := implTwoProduct_true x1 y1 x2 y2 w hx1 hy1 hx2 hy2 h
    simpa [TwoProductR0, TwoProductR1, h] using this

theorem specTwoProduct_any (x1 y1 x2 y2 : Int) (w : World) (hx1 : I64 x1) (hy1 : I64 y1) (hx2 : I64 x2) (hy2 : I64 y2) :
    Calls Try.prog 17 #[.agg #[.int .i64 x1, .int .i64 y1], .agg #[.int .i64 x2, .int .i64 y2]] w fun e w' => e = .returned (.tuple #[.agg #[.int .i64 (TwoProductR0 x1 y1 x2 y2), .int .i64 (TwoProductR1 x1 y1 x2 y2)], .bool (TwoProductOk x1 y1 x2 y2)]) ∧ Below w.heap.size w w' := by
  cases h : TwoProductOk x1 y1 x2 y2
  · have := specTwoProduct_false x1 y1 x2 y2 w hx1 hy1 hx2 hy2 h
    simpa [TwoProductR0, TwoProductR1, h] using this
  · have := specTwoProduct_true x1 y1 x2 y2 w hx1 hy1 hx2 hy2 h
    simpa [TwoProductR0, TwoProductR1, h] using this

set_option maxHeartbeats 1000000 in
theorem toPoint_any (x1 y1 : Int) (w : World) :
    Calls Try.prog 18 #[.agg #[.int .i64 x1, .int .i64 y1]] w fun e w' => e = .returned (.agg #[.int .i64 x1, .int .i64 y1]) ∧ w' = ((w.alloc (.cells #[.int .i64 x1, .int .i64 y1] 26)).alloc (.cells #[.int .i64 x1, .int .i64 y1] 27)).alloc (.cells #[.int .i64 x1, .int .i64 y1] 27) := by
  go_enter Try.func18, Try.ntmps18
  go_wp2
  go_returns
  exact ⟨rfl, rfl⟩
set_option maxHeartbeats 1000000 in
theorem eqPoint_any (x1 y1 : Int) (w : World) :
    Calls Try.prog 20 #[.agg #[.int .i64 x1, .int .i64 y1], .agg #[.int .i64 x1, .int .i64 y1]] w fun e w' => e = .returned (.bool true) ∧ Below w.heap.size w w' := by
  go_enter Try.func20, Try.ntmps20
  go_wp2
  go_ret
  exact ⟨rfl, by go_grown⟩
end Go.Proofs.Ytgjbefchbjpjmaa
