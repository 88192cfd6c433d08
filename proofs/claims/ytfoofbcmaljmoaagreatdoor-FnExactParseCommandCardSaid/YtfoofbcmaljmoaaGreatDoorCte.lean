/- CommandText on both sides. -/
import Derived.Test.YtfoofbcmaljmoaaGreatDoorCti
import Derived.Test.YtfoofbcmaljmoaaGreatDoorCts
namespace Go.Proofs.YtfoofbcmaljmoaaGreatDoor
open Go.RowKit
set_option linter.unusedVariables false
set_option linter.unusedSimpArgs false
attribute [local go_sem] q2 q3 q4 q5 q6 q7 q8 q9 q10 q11 q12

theorem commandText_a (c : Cmd) (w : World) (hv : cmB c = true) (ht : Tab w) : Calls Tryz.prog 11 #[cmv c] w fun e w' => e = .returned (.string (tx (cmT c))) ∧ Below w.heap.size w w' := by
 obtain ⟨k, n, a, b, x, y, z⟩ := c
 have h := commandText_l k n.data.toList a.data.toList b.data.toList x y z w (by simp only [tx_of]; exact hv) ht
 simp only [tx_of] at h
 exact h
theorem lgText_a (c : Cmd) (w : World) (hv : cmB c = true) : Calls Tryz.prog 19 #[cmv c] w fun e w' => e = .returned (.string (tx (cmT c))) ∧ Below w.heap.size w w' := by
 have hk := (cm_valid hv).1
 obtain ⟨k, n, a, b, x, y, z⟩ := c
 obtain ⟨m, rfl⟩ := Int.eq_ofNat_of_zero_le (show 0 ≤ k by simp only [] at hk; omega)
 have h := lgText_l m n.data.toList a.data.toList b.data.toList x y z w (by simp only [tx_of]; exact hv)
 simp only [tx_of] at h
 exact h
end Go.Proofs.YtfoofbcmaljmoaaGreatDoor
