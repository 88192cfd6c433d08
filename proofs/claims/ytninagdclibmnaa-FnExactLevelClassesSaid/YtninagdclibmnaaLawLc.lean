/-
  The law of LevelClasses.
-/
import Derived.Test.YtninagdclibmnaaLc
namespace Go.Proofs.Ytninagdclibmnaa
open Go.RowKit
set_option linter.unusedVariables false
set_option linter.unusedSimpArgs false
attribute [local go_sem] q2 q3 q4 q5 q6 q7 q8 q9 q10 q11 q12

set_option maxHeartbeats 2000000 in
theorem lawLevelClasses (d n : Int) (w : World) :
    Calls Try.prog 13 #[.int .i64 d, .int .i64 n] w fun e w' => e = .returned (.bool true) ∧ Below w.heap.size w w' := by
  have hn : lcN d n ≤ 100000000 := lcN_le d n
  generalize hN : lcN d n = N at *
  generalize hF : lcF d n = f at *
  generalize hO : lcB d n = ok at *
  go_enter Try.func13, Try.ntmps13
  have HN := hide hN
  have HF := hide hF
  have HO := hide hO
  clear hN hF hO
  go_wp2_with fail
  have c1 := specLevelClasses d n w
  rw [unhide HN, unhide HF, unhide HO] at c1
  refine c1.mono ?_
  clear c1
  rintro e w1 ⟨a1, d1, rfl, i1, b1⟩
  go_wp2_with fail
  have c2 := implLevelClasses d n w1
  rw [unhide HN, unhide HF, unhide HO] at c2
  refine c2.mono ?_
  clear c2
  rintro e w2 ⟨a2, d2, rfl, i2, b2⟩
  have s1 := b1.size
  have s2 := b2.size
  have j1 := i1.below b2 (Nat.le_refl _)
  go_wp2_with fail
  refine (eqFormS_any a2 a1 _ _ _ _ N d2 d1 f w2 hn i2 j1).mono ?_
  rintro e w3 ⟨rfl, b3⟩
  have s3 := b3.size
  have k2 := i2.below b3 (Nat.le_refl _)
  have l1 := j1.below b3 s2
  go_wp2_with fail
  refine (markFormS_any a2 w1.heap.size w2.heap.size N d2 1 f w3 hn (by omega) k2).mono ?_
  rintro e w4 ⟨rfl, i4, h4, s4, b4⟩
  have S4 := hide s4
  clear s4
  go_wp2_with fail
  refine (heldFormS_any a2 w1.heap.size w2.heap.size N d2 1 w4 hn (by omega) i4).mono ?_
  rintro e w5 ⟨rfl, rfl⟩
  go_wp2_with fail
  have c3 := implLevelClasses d n w4
  rw [unhide HN, unhide HF, unhide HO] at c3
  refine c3.mono ?_
  clear c3
  rintro e w6 ⟨a6, d6, rfl, i6, b6⟩
  have s6 := b6.size
  have hs : w1.heap.size ≤ w4.heap.size := by have := unhide S4; omega
  have hs2 : w2.heap.size ≤ w4.heap.size := by have := unhide S4; omega
  have m1 : FormsAt w6 w.heap.size w1.heap.size a1 N f := (l1.keep (w' := w4) (fun k _ h2 => h4 k h2)).below b6 hs
  have m2 : FormsAt w6 w1.heap.size w2.heap.size a2 N (fun i => ((1 : Nat) : Int) + i) := i4.below b6 hs2
  go_wp2_with fail
  refine (eqFormS_any a6 a1 _ _ _ _ N d6 d1 f w6 hn i6 m1).mono ?_
  rintro e w7 ⟨rfl, b7⟩
  have m3 := m2.below b7 (by omega)
  go_wp2_with fail
  refine (heldFormS_any a2 w1.heap.size w2.heap.size N d2 1 w7 hn (by omega) m3).mono ?_
  rintro e w8 ⟨rfl, rfl⟩
  go_wp2
  go_ret
  exact ⟨rfl, ((((b1.trans (b2.mono s1)).trans (b3.mono (by omega))).trans (b4.mono s1)).trans (b6.mono (by omega))).trans (b7.mono (by omega))⟩
end Go.Proofs.Ytninagdclibmnaa
