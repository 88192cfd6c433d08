/- Plain: a candidate and what ParseRow answers. -/
import Derived.Test.YtfoofbcmaljmoaaGreatDoorPrs
namespace Go.Proofs.YtfoofbcmaljmoaaGreatDoor
open Go.RowKit
set_option linter.unusedVariables false
set_option linter.unusedSimpArgs false

theorem PrIs.yes {s : ByteArray} {r R : RowV} {n : Nat} {z : Nat → Int} {ok : Bool} {F : List Int} (hP : PrIs s r n z ok) (h1 : rwB R F.length (fun i => F.getD i 0) = true) (h2 : tx (rwT R F.length (fun i => F.getD i 0)) = s) :
  R = r ∧ F.length = n ∧ ok = true ∧ ∀ i, i < n → F.getD i 0 = z i := by
 have hQ : PrIs s R F.length (fun i => F.getD i 0) true := by unfold PrIs; rw [if_pos rfl]; exact ⟨h1, h2⟩
 obtain ⟨a, b, c, d⟩ := hQ.same hP
 exact ⟨a, b, c.symm, fun i hi => d i (by omega)⟩
theorem PrIs.no {s : ByteArray} {r : RowV} {n : Nat} {z : Nat → Int} {ok : Bool} (hP : PrIs s r n z ok) (h : ∀ (r' : RowV) (n' : Nat) (z' : Nat → Int), rwB r' n' z' = true → tx (rwT r' n' z') = s → False) : r = ⟨0, 0, 0, 0⟩ ∧ n = 0 ∧ ok = false := by
 cases ok <;> simp only [PrIs, Bool.false_eq_true, if_true, if_false] at hP
 ·exact ⟨hP.1, hP.2.1, rfl⟩
 ·exact (h _ _ _ hP.1 hP.2).elim
theorem split_sz (sep : ByteArray) : ∀ (k : Nat) (s : ByteArray), ∀ x ∈ Lib.splitB sep 0 k s, x.size ≤ s.size
 | 0, s, x, h => by simp [Lib.splitB] at h; subst h; exact Nat.le_refl _
 | k + 1, s, x, h => by
  unfold Lib.splitB at h
  split at h
  ·simp at h; subst h; exact Nat.le_refl _
  ·rcases List.mem_cons.1 h with h | h
   ·subst h; rw [ByteArray.size_extract]; omega
   ·have := split_sz sep k _ x h
    rw [ByteArray.size_extract] at this
    omega
theorem spW_sz (s : ByteArray) : ∀ x ∈ spW s, x.size ≤ s.size := split_sz _ _ _
end Go.Proofs.YtfoofbcmaljmoaaGreatDoor
