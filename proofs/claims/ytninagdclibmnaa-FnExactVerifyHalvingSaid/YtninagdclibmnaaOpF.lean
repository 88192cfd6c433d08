/-
  An argument that is a slice of forms, opened: its length, its numbers, their cells.
-/
import Derived.Test.YtninagdclibmnaaToF
import Derived.Deep.Slices
import Derived.Carry
import Derived.ProofKit
namespace Go.Proofs.Ytninagdclibmnaa
open Go.RowKit Go.WideShapes Go.ChangeShapes Go.Deep
set_option linter.unusedVariables false
set_option linter.unusedSimpArgs false

theorem Try.cellsLF : Try.prog.cellsOf 23 = 3 := by kernel_rfl
theorem Try.cellsI : Try.prog.cellsOf 3 = 1 := by kernel_rfl
theorem addr_add {b off k : Nat} : (⟨b, off, none⟩ : Addr).add k = ⟨b, off + k, none⟩ := by unfold Addr.add; split <;> simp_all
theorem cell_spot {w : World} {a : Addr} {v : Value} (h : w.cell? a = some v) : a.spot = none := by
  unfold World.cell? at h
  split at h
  · split at h
    · cases h
    · rename_i hs; cases hx : a.spot with
      | none => rfl
      | some _ => rw [hx] at hs; simp at hs
  · cases h
section
variable {H : Type} {enc : TypeId × Value → H} {w : World} {base : Nat} {spare : Nat → Bool} {held : Bool}
set_option maxRecDepth 100000 in
theorem open_one_form {fuel : Nat} {cs : List Value} {x : DataW H × List MemPlace} (h : DataW.trod enc Try.prog w base spare held fuel 23 cs = some x) :
    ∃ X : T3, cs = [.int .i64 X.1, .int .i64 X.2.1, .int .i64 X.2.2] ∧ I64T X := by
  obtain ⟨ys, n, _, _, hlen, hyl, hf⟩ := DataW.trod_struct Try.underlying23 h
  rw [Try.cellsLF] at hlen
  match cs, hlen with
  | [c0, c1, c2], _ =>
    match ys, hyl with
    | [y0, y1, y2], _ =>
      obtain ⟨n0, e0, _, w0⟩ := DataW.trod_int Try.underlying3 (by simpa [Try.cellsI] using hf 0 _ rfl : DataW.trod enc Try.prog w base spare held n 3 [c0] = some y0)
      obtain ⟨n1, e1, _, w1⟩ := DataW.trod_int Try.underlying3 (by simpa [Try.cellsI] using hf 1 _ rfl : DataW.trod enc Try.prog w base spare held n 3 [c1] = some y1)
      obtain ⟨n2, e2, _, w2⟩ := DataW.trod_int Try.underlying3 (by simpa [Try.cellsI] using hf 2 _ rfl : DataW.trod enc Try.prog w base spare held n 3 [c2] = some y2)
      cases e0; cases e1; cases e2
      exact ⟨(n0, n1, n2), rfl, i64_wf w0, i64_wf w1, i64_wf w2⟩
theorem open_forms {fuel : Nat} {cs : List Value} {x : DataW H × List MemPlace} (h : DataW.trod enc Try.prog w base spare held fuel 47 cs = some x) :
    ∃ (v : Value) (n : Nat) (P : Nat → T3), cs = [v] ∧ ArgF w v n P ∧ (∀ i, i < n → I64T (P i)) ∧ n ≤ maxLen := by
  rcases open_slice Try.underlying47 h with ⟨hcs, _⟩ | ⟨a, len, cap, m, n, D, Pl, hcs, hb, hl, hm, hmm, hx, hi⟩
  · exact ⟨_, 0, fun _ => (0, 0, 0), hcs, .inl ⟨rfl, none, 0, rfl⟩, fun i hi => absurd hi (by omega), Nat.zero_le _⟩
  · have hlm : len ≤ m := by rw [hmm]; split <;> omega
    have one : ∀ i, ∃ X : T3, i < len → (w.cell? (a.add (i * 3)) = some (.int .i64 X.1) ∧ w.cell? (a.add (i * 3 + 1)) = some (.int .i64 X.2.1) ∧ w.cell? (a.add (i * 3 + 2)) = some (.int .i64 X.2.2)) ∧ I64T X := by
      intro i
      by_cases q : i < len
      · obtain ⟨cs', hc, ht⟩ := hi i (by omega)
        rw [Try.cellsLF] at hc
        obtain ⟨_, _, hat⟩ := World.cells?_some hc
        obtain ⟨X, rfl, hX⟩ := open_one_form ht
        have a0 := hat 0 (by omega)
        have a1 := hat 1 (by omega)
        have a2 := hat 2 (by omega)
        rw [Go.Deep.add_add] at a0 a1 a2
        exact ⟨X, fun _ => ⟨⟨a0, a1, a2⟩, hX⟩⟩
      · exact ⟨(0, 0, 0), fun h => absurd h q⟩
    obtain ⟨P, hP⟩ : ∃ P : Nat → T3, ∀ i, i < len → (w.cell? (a.add (i * 3)) = some (.int .i64 (P i).1) ∧ w.cell? (a.add (i * 3 + 1)) = some (.int .i64 (P i).2.1) ∧ w.cell? (a.add (i * 3 + 2)) = some (.int .i64 (P i).2.2)) ∧ I64T (P i) := ⟨fun i => (one i).choose, fun i => (one i).choose_spec⟩
    refine ⟨_, len, P, hcs, ?_, fun i hi => (hP i hi).2, Nat.le_trans hl hm⟩
    by_cases q : len = 0
    · exact .inl ⟨q, some a, cap, by rw [q]⟩
    · have h0 := (hP 0 (by omega)).1.1
      have hs : a.spot = none := cell_spot (a := a) (by simpa [Addr.add] using h0)
      obtain ⟨b, off, sp⟩ := a
      have hs2 : sp = none := hs
      subst hs2
      refine .inr ⟨b, off, cap, rfl, World.block_lt_of_cell? _ _ h0, fun i hi => ?_⟩
      obtain ⟨⟨h1, h2, h3⟩, _⟩ := hP i hi
      rw [addr_add] at h1 h2 h3
      exact ⟨h1, h2, h3⟩
end
end Go.Proofs.Ytninagdclibmnaa
