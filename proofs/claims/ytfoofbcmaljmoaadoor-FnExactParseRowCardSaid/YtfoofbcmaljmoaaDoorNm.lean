/-
  Names on both sides.
-/
import Derived.Test.YtfoofbcmaljmoaaDoorForm
namespace Go.Proofs.YtfoofbcmaljmoaaDoor
open Go.RowKit
set_option linter.unusedVariables false
set_option linter.unusedSimpArgs false
attribute [local go_sem] q2 q3 q4 q5 q6 q7 q8 q9 q10 q11 q12

def lowB (c : UInt8) : Bool := decide (97 ≤ (c.toNat : Int)) && decide ((c.toNat : Int) ≤ 122)
def lowsB (s : ByteArray) (k : Nat) : Bool := (s.data.toList.take k).all lowB
def nmB (s : ByteArray) : Bool := s.data.toList.all lowB && (decide (1 ≤ s.size) && decide (s.size ≤ 8))
theorem low_snoc (s : ByteArray) (k : Nat) (h : k < s.size) : s.data.toList.take (k + 1) = s.data.toList.take k ++ [s[k]] := by
  rw [List.take_succ_eq_append_getElem (by simpa using h)]; rfl
theorem lows_next {s : ByteArray} {k : Nat} (h : k < s.size) (h1 : lowsB s k = true) (h2 : lowB s[k] = true) : lowsB s (k + 1) = true := by
  unfold lowsB at *
  rw [low_snoc s k h, List.all_append, h1]
  simp [h2]
theorem nm_bad {s : ByteArray} {k : Nat} (h : k < s.size) (h2 : lowB s[k] = false) : nmB s = false := by
  unfold nmB
  rw [Bool.and_eq_false_iff]; left
  rw [List.all_eq_false]
  exact ⟨s[k], List.getElem_mem (l := s.data.toList) (n := k) (by rw [Array.length_toList]; exact h), by simp [h2]⟩
theorem nm_end {s : ByteArray} (h : lowsB s s.size = true) : nmB s = (decide (1 ≤ s.size) && decide (s.size ≤ 8)) := by
  unfold nmB
  have e : s.data.toList.take s.size = s.data.toList := List.take_of_length_le (Nat.le_of_eq (Array.length_toList))
  unfold lowsB at h
  rw [e] at h
  rw [h, Bool.true_and]

end Go.Proofs.YtfoofbcmaljmoaaDoor
