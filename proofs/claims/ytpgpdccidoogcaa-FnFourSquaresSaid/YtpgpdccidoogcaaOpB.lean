/-
  An argument that is a slice of bytes, opened: its length, its bytes.
-/
import Derived.Test.YtpgpdccidoogcaaDsq
import Derived.Deep.Slices
import Derived.Carry
import Derived.ProofKit
namespace Go.Proofs.Ytpgpdccidoogcaa
open Go.RowKit Go.WideShapes Go.ChangeShapes Go.Deep
set_option linter.unusedVariables false
set_option linter.unusedSimpArgs false

theorem Try.cellsU8 : Try.prog.cellsOf 5 = 1 := by kernel_rfl
theorem addr_addB {b off k : Nat} : (⟨b, off, none⟩ : Addr).add k = ⟨b, off + k, none⟩ := by unfold Addr.add; split <;> simp_all
theorem cell_spotB {w : World} {a : Addr} {v : Value} (h : w.cell? a = some v) : a.spot = none := by
  unfold World.cell? at h
  split at h
  · split at h
    · cases h
    · rename_i hs; cases hx : a.spot with
      | none => rfl
      | some _ => rw [hx] at hs; simp at hs
  · cases h
section
variable {H : Type} {enc : TypeId × Value → H} {w : World} {base : Nat} {spare : Nat → Bool} {held : Bool}
set_option maxRecDepth 100000 in
theorem open_bytes {fuel : Nat} {cs : List Value} {x : DataW H × List MemPlace} (h : DataW.trod enc Try.prog w base spare held fuel 22 cs = some x) :
    ∃ (v : Value) (n : Nat), cs = [v] ∧ ArgB w v n ∧ n ≤ maxLen := by
  rcases open_slice Try.underlying22 h with ⟨hcs, _⟩ | ⟨a, len, cap, m, n, D, Pl, hcs, hb, hl, hm, hmm, hx, hi⟩
  · exact ⟨_, 0, hcs, .inl ⟨none, 0, rfl, rfl⟩, Nat.zero_le _⟩
  · have hlm : len ≤ m := by rw [hmm]; split <;> omega
    have one : ∀ i, i < len → ∃ X : Int, w.cell? (a.add i) = some (.int .u8 X) ∧ 0 ≤ X ∧ X ≤ 255 := by
      intro i q
      obtain ⟨cs', hc, ht⟩ := hi i (by omega)
      rw [Try.cellsU8, Nat.mul_one] at hc
      obtain ⟨hl1, _, hat⟩ := World.cells?_some hc
      match cs', hl1 with
      | [c0], _ =>
        obtain ⟨n0, e0, _, w0⟩ := DataW.trod_int Try.underlying5 ht
        cases e0
        have a0 := hat 0 (by omega)
        rw [Go.Deep.add_add] at a0
        refine ⟨n0, a0, ?_⟩
        simp only [Lit.wf, Bool.and_eq_true, decide_eq_true_eq] at w0
        exact ⟨w0.1, w0.2⟩
    refine ⟨_, len, hcs, ?_, Nat.le_trans hl hm⟩
    by_cases q : len = 0
    · exact .inl ⟨some a, cap, rfl, q⟩
    · obtain ⟨X0, h0, _⟩ := one 0 (by omega)
      have hs : a.spot = none := cell_spotB (a := a) (by simpa [Addr.add] using h0)
      obtain ⟨b, off, sp⟩ := a
      have hs2 : sp = none := hs
      subst hs2
      refine .inr ⟨b, off, cap, rfl, World.block_lt_of_cell? _ _ h0, fun i hi => ?_⟩
      obtain ⟨X, h1, h2⟩ := one i hi
      rw [addr_addB] at h1
      exact ⟨X, h1, h2⟩
end
end Go.Proofs.Ytpgpdccidoogcaa
