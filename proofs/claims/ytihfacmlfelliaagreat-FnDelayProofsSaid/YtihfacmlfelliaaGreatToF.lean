/- A form, taken over. Slices of forms that come in: szFormS, toFormS. -/
import Derived.Test.YtihfacmlfelliaaGreatGp
import Derived.Test.YtihfacmlfelliaaGreatOwn
import Derived.Test.YtihfacmlfelliaaGreatSt
import Derived.Test.YtihfacmlfelliaaGreatRw
namespace Go.Proofs.YtihfacmlfelliaaGreat
open Go.RowKit
set_option linter.unusedVariables false
set_option linter.unusedSimpArgs false
attribute [local go_sem] q2 q3 q4 q5 q6 q7 q8 q9 q10 q11 q12

end Go.Proofs.YtihfacmlfelliaaGreat
namespace Go.Proofs.YtihfacmlfelliaaGreat
open Go.RowKit
set_option linter.unusedVariables false
set_option linter.unusedSimpArgs false
attribute [local go_sem] q2 q3 q4 q5 q6 q7 q8 q9 q10 q11 q12

def ArgF (w : World) (v : Value) (n : Nat) (P : Nat → T3) : Prop :=
 (n = 0 ∧ ∃ a c, v = .slice a 0 c) ∨ ∃ b off c : Nat, v = .slice (some ⟨b, off, none⟩) n c ∧ b < w.heap.size ∧
  ∀ i, i < n → w.cell? ⟨b, off + i * 3, none⟩ = some (.int .i64 (P i).1) ∧ w.cell? ⟨b, off + i * 3 + 1, none⟩ = some (.int .i64 (P i).2.1) ∧ w.cell? ⟨b, off + i * 3 + 2, none⟩ = some (.int .i64 (P i).2.2)
theorem ArgF.below {w w' : World} {v : Value} {n : Nat} {P : Nat → T3} (h : ArgF w v n P) (hb : Below w.heap.size w w') : ArgF w' v n P := by
 rcases h with h | ⟨b, off, c, h1, h2, h3⟩
 ·exact .inl h
 ·exact .inr ⟨b, off, c, h1, Nat.lt_of_lt_of_le h2 hb.size, fun i hi => ⟨cell_call hb (h3 i hi).1, cell_call hb (h3 i hi).2.1, cell_call hb (h3 i hi).2.2⟩⟩
theorem ArgF.len {w : World} {v : Value} {n : Nat} {P : Nat → T3} (h : ArgF w v n P) : ∃ a c, v = .slice a n c := by
 rcases h with ⟨h, a, c, h2⟩ | ⟨b, off, c, h1, _⟩
 ·exact ⟨a, c, by rw [h]; exact h2⟩
 ·exact ⟨_, _, h1⟩
def flP (P : Nat → T3) (i : Nat) : Int := if i % 3 = 0 then (P (i / 3)).1 else if i % 3 = 1 then (P (i / 3)).2.1 else (P (i / 3)).2.2
theorem flP_at (P : Nat → T3) (i : Nat) : flP P (i * 3) = (P i).1 ∧ flP P (i * 3 + 1) = (P i).2.1 ∧ flP P (i * 3 + 2) = (P i).2.2 := by
 have e0 : i * 3 / 3 = i := by omega
 have e1 : (i * 3 + 1) / 3 = i := by omega
 have e2 : (i * 3 + 2) / 3 = i := by omega
 have m0 : i * 3 % 3 = 0 := by omega
 have m1 : (i * 3 + 1) % 3 = 1 := by omega
 have m2 : (i * 3 + 2) % 3 = 2 := by omega
 unfold flP
 rw [e0, e1, e2, m0, m1, m2]
 simp
def RowF (w : World) (g n : Nat) (P : Nat → T3) : Prop := w.rowIs g 25 (n * 3) (fun i => .int .i64 (flP P i))
theorem RowF.below {w w' : World} {g n : Nat} {P : Nat → T3} (h : RowF w g n P) (hb : Below w.heap.size w w') : RowF w' g n P := World.rowIs.of_block h (hb.block g (World.rowIs.lt h))
theorem RowF.at {w : World} {g n lo : Nat} {P : Nat → T3} (h : RowF w g n P) (hl : lo ≤ g) : FormsAt w lo w.heap.size (some ⟨g, 0, none⟩) n (flP P) :=
 .inr ⟨g, n, _, rfl, hl, World.rowIs.lt h, Nat.le_refl _, h, fun i hi => rfl⟩
end Go.Proofs.YtihfacmlfelliaaGreat
