/-
  TwoProduct and FourProduct on both sides, and the laws' walks.
-/
import Derived.Test.YtpgpdccidoogcaaWorld
import Derived.Deep.RegionHeld3
import Derived.Deep.DeepCutAuto
namespace Go.Proofs.Ytpgpdccidoogcaa
open Go.RowKit
set_option linter.unusedVariables false
set_option linter.unusedSimpArgs false

theorem pbd {a b : Int} (ha : -1000 ≤ a ∧ a ≤ 1000) (hb : -1000 ≤ b ∧ b ≤ 1000) : -1000000 ≤ a * b ∧ a * b ≤ 1000000 := by
  have h1 : a.natAbs ≤ 1000 := by omega
  have h2 : b.natAbs ≤ 1000 := by omega
  have h3 := Nat.mul_le_mul h1 h2
  rw [← Int.natAbs_mul] at h3
  omega
theorem keep_call {B : Nat} {W0 W w' : World} (hz : W0.heap.size = B) (hb : Below W.heap.size W w') (h : Below B W0 W) : Below B W0 w' := h.trans (hb.mono (by rw [← hz]; exact h.size))
theorem keep_alloc {B : Nat} {W0 W : World} (hz : W0.heap.size = B) (o : Obj) (h : Below B W0 W) : Below B W0 (W.alloc o) := h.alloc (by rw [← hz]; exact h.size) o
theorem keep_set {B : Nat} {W0 W : World} {p : Addr} (hp : B ≤ p.block) (v : Value) (h : Below B W0 W) : Below B W0 (W.setCell p v) := h.setCell hp v
attribute [local go_sem] q2 q3 q4 q5 q6 q7 q8 q9 q10 q11 q12 q13 q14 q15 q16 q17 q18 q19
theorem cell_alloc {w : World} {a : Addr} {v : Value} (o : Obj) (h : w.cell? a = some v) : (w.alloc o).cell? a = some v := by
  rw [World.cell?_alloc_lt _ _ _ (World.block_lt_of_cell? w a h)]; exact h
theorem cell_drew {w : World} {a : Addr} {v : Value} (h : w.cell? a = some v) : w.drew.cell? a = some v := h
theorem cell_set {w : World} {p a : Addr} {v : Value} (u : Value) (hp : p.block ≠ a.block) (h : w.cell? a = some v) : (w.setCell p u).cell? a = some v := by
  rw [World.cell?_setCell_far _ _ _ _ hp]; exact h

def TwoProductOk (x1 y1 x2 y2 : Int) : Bool := allB [x1, y1, x2, y2] (-1000) 1000
theorem TwoProduct_bds {x1 y1 x2 y2 : Int} (h : TwoProductOk x1 y1 x2 y2 = true) : (-1000 ≤ x1 ∧ x1 ≤ 1000) ∧ (-1000 ≤ y1 ∧ y1 ≤ 1000) ∧ (-1000 ≤ x2 ∧ x2 ≤ 1000) ∧ (-1000 ≤ y2 ∧ y2 ≤ 1000) := by
  have := allB_mem h
  simpa only [List.mem_cons, List.not_mem_nil, or_false, forall_eq_or_imp, forall_eq] using this

def TwoProductR (x1 y1 x2 y2 : Int) : Value := if TwoProductOk x1 y1 x2 y2 then .agg #[.int .i64 (x1 * x2 - y1 * y2), .int .i64 (x1 * y2 + y1 * x2)] else .agg #[.int .i64 0, .int .i64 0]
def TwoProductR0 (x1 y1 x2 y2 : Int) : Int := if TwoProductOk x1 y1 x2 y2 then x1 * x2 - y1 * y2 else 0
def TwoProductR1 (x1 y1 x2 y2 : Int) : Int := if TwoProductOk x1 y1 x2 y2 then x1 * y2 + y1 * x2 else 0

end Go.Proofs.Ytpgpdccidoogcaa
