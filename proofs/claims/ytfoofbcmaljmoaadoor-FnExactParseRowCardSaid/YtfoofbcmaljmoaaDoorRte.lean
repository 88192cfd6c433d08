/-
  RowText on both sides.
-/
import Derived.Test.YtfoofbcmaljmoaaDoorRtx
namespace Go.Proofs.YtfoofbcmaljmoaaDoor
open Go.RowKit
set_option linter.unusedVariables false
set_option linter.unusedSimpArgs false
attribute [local go_sem] q2 q3 q4 q5 q6 q7 q8 q9 q10 q11 q12

def rtL (r : RowV) (n : Nat) (z : Nat → Int) : List UInt8 := if rwB r n z then rwT r n z else []
theorem rw_all {r : RowV} {n : Nat} {z : Nat → Int} (h : rwB r n z = true) : (∀ i, i < n → 0 ≤ z i ∧ z i ≤ 9223372036854775807) ∧ 0 ≤ r.num ∧ 0 ≤ r.ge ∧ 0 ≤ r.ex ∧ -9223372036854775807 ≤ r.d := by
  unfold rwB at h
  rw [Bool.and_eq_true, Bool.and_eq_true, Bool.and_eq_true, Bool.and_eq_true, decide_eq_true_eq] at h
  obtain ⟨h1, h2, h3, h4, h5⟩ := h
  have := inB_true h4
  have := inB_true h5
  have := neg_true h2
  have := ch_val h1
  exact ⟨fun i hi => by have := ch_each h1 i hi; omega, by omega, by omega, by omega, by omega⟩

end Go.Proofs.YtfoofbcmaljmoaaDoor
