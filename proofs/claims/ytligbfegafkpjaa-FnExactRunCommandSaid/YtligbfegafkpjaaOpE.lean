/-
  An argument that is a slice of entries, opened: its length, its texts and forms, their cells.
-/
import Derived.Test.YtligbfegafkpjaaToE
import Derived.Lib.SmallJoins
import Derived.Deep.Slices
import Derived.Carry
import Derived.ProofKit
namespace Go.Proofs.Ytligbfegafkpjaa
open Go.RowKit Go.WideShapes Go.ChangeShapes Go.Deep Go.Joins
set_option linter.unusedVariables false
set_option linter.unusedSimpArgs false

theorem Try.cellsLFe : Try.prog.cellsOf 32 = 3 := by kernel_rfl
theorem Try.cellsLEe : Try.prog.cellsOf 65 = 4 := by kernel_rfl
theorem Try.cellsIe : Try.prog.cellsOf 3 = 1 := by kernel_rfl
theorem Try.cellsSe : Try.prog.cellsOf 9 = 1 := by kernel_rfl
theorem addr_addE {b off k : Nat} : (⟨b, off, none⟩ : Addr).add k = ⟨b, off + k, none⟩ := by unfold Addr.add; split <;> simp_all
theorem cell_spotE {w : World} {a : Addr} {v : Value} (h : w.cell? a = some v) : a.spot = none := by
  unfold World.cell? at h
  split at h
  · split at h
    · cases h
    · rename_i hs; cases hx : a.spot with
      | none => rfl
      | some _ => rw [hx] at hs; simp at hs
  · cases h
section
variable {H : Type} {enc : TypeId × Value → H} {w : World} {base : Nat} {spare : Nat → Bool} {held : Bool}
set_option maxRecDepth 100000 in
theorem open_formE {fuel : Nat} {cs : List Value} {x : DataW H × List MemPlace} (h : DataW.trod enc Try.prog w base spare held fuel 32 cs = some x) :
    ∃ X : Int × Int × Int, cs = [.int .i64 X.1, .int .i64 X.2.1, .int .i64 X.2.2] ∧ I64 X.1 ∧ I64 X.2.1 ∧ I64 X.2.2 := by
  obtain ⟨ys, n, _, _, hlen, hyl, hf⟩ := DataW.trod_struct Try.underlying32 h
  rw [Try.cellsLFe] at hlen
  match cs, hlen with
  | [c0, c1, c2], _ =>
    match ys, hyl with
    | [y0, y1, y2], _ =>
      obtain ⟨n0, e0, _, w0⟩ := DataW.trod_int Try.underlying3 (by simpa [Try.cellsIe] using hf 0 _ rfl : DataW.trod enc Try.prog w base spare held n 3 [c0] = some y0)
      obtain ⟨n1, e1, _, w1⟩ := DataW.trod_int Try.underlying3 (by simpa [Try.cellsIe] using hf 1 _ rfl : DataW.trod enc Try.prog w base spare held n 3 [c1] = some y1)
      obtain ⟨n2, e2, _, w2⟩ := DataW.trod_int Try.underlying3 (by simpa [Try.cellsIe] using hf 2 _ rfl : DataW.trod enc Try.prog w base spare held n 3 [c2] = some y2)
      cases e0; cases e1; cases e2
      exact ⟨(n0, n1, n2), rfl, i64_wf w0, i64_wf w1, i64_wf w2⟩
set_option maxRecDepth 100000 in
theorem open_entry {fuel : Nat} {cs : List Value} {x : DataW H × List MemPlace} (h : DataW.trod enc Try.prog w base spare held fuel 65 cs = some x) :
    ∃ e : Ent, cs = [.string e.n, .int .i64 e.f.1, .int .i64 e.f.2.1, .int .i64 e.f.2.2] ∧ EntOk e := by
  obtain ⟨ys, n, _, _, hlen, hyl, hf⟩ := DataW.trod_struct Try.underlying65 h
  rw [Try.cellsLEe] at hlen
  match cs, hlen with
  | [c0, c1, c2, c3], _ =>
    match ys, hyl with
    | [y0, y1], _ =>
      obtain ⟨s, e0, _, w0⟩ := DataW.trod_string Try.underlying9 (by simpa [Try.cellsSe] using hf 0 _ rfl : DataW.trod enc Try.prog w base spare held n 9 [c0] = some y0)
      obtain ⟨X, e1, i0, i1, i2⟩ := open_formE (by simpa [Try.cellsLFe] using hf 1 _ rfl : DataW.trod enc Try.prog w base spare held n 32 [c1, c2, c3] = some y1)
      unfold maxLen at w0
      cases e0; cases e1
      exact ⟨⟨s, X⟩, rfl, w0, i0, i1, i2⟩
theorem open_entries {fuel : Nat} {cs : List Value} {x : DataW H × List MemPlace} (h : DataW.trod enc Try.prog w base spare held fuel 42 cs = some x) :
    ∃ (v : Value) (n : Nat) (E : Nat → Ent), cs = [v] ∧ ArgE w v n E ∧ (∀ i, i < n → EntOk (E i)) ∧ n ≤ 9223372036854775807 := by
  rcases open_slice Try.underlying42 h with ⟨hcs, _⟩ | ⟨a, len, cap, m, n, D, Pl, hcs, hb, hl, hm, hmm, hx, hi⟩
  · exact ⟨_, 0, fun _ => ⟨⟨#[]⟩, (0, 0, 0)⟩, hcs, .inl ⟨rfl, none, 0, rfl⟩, fun i hi => absurd hi (by omega), by omega⟩
  · have hlm : len ≤ m := by rw [hmm]; split <;> omega
    have one : ∀ i, ∃ e : Ent, i < len → (w.cell? (a.add (i * 4)) = some (.string e.n) ∧ w.cell? (a.add (i * 4 + 1)) = some (.int .i64 e.f.1) ∧ w.cell? (a.add (i * 4 + 2)) = some (.int .i64 e.f.2.1) ∧ w.cell? (a.add (i * 4 + 3)) = some (.int .i64 e.f.2.2)) ∧ EntOk e := by
      intro i
      by_cases q : i < len
      · obtain ⟨cs', hc, ht⟩ := hi i (by omega)
        rw [Try.cellsLEe] at hc
        obtain ⟨_, _, hat⟩ := World.cells?_some hc
        obtain ⟨e, rfl, he⟩ := open_entry ht
        have a0 := hat 0 (by omega)
        have a1 := hat 1 (by omega)
        have a2 := hat 2 (by omega)
        have a3 := hat 3 (by omega)
        rw [Go.Deep.add_add] at a0 a1 a2 a3
        exact ⟨e, fun _ => ⟨⟨a0, a1, a2, a3⟩, he⟩⟩
      · exact ⟨⟨⟨#[]⟩, (0, 0, 0)⟩, fun h => absurd h q⟩
    obtain ⟨E, hE⟩ : ∃ E : Nat → Ent, ∀ i, i < len → (w.cell? (a.add (i * 4)) = some (.string (E i).n) ∧ w.cell? (a.add (i * 4 + 1)) = some (.int .i64 (E i).f.1) ∧ w.cell? (a.add (i * 4 + 2)) = some (.int .i64 (E i).f.2.1) ∧ w.cell? (a.add (i * 4 + 3)) = some (.int .i64 (E i).f.2.2)) ∧ EntOk (E i) := ⟨fun i => (one i).choose, fun i => (one i).choose_spec⟩
    have hlc := Nat.le_trans hl hm
    unfold maxLen at hlc
    refine ⟨_, len, E, hcs, ?_, fun i hi => (hE i hi).2, hlc⟩
    by_cases q : len = 0
    · exact .inl ⟨q, some a, cap, by rw [q]⟩
    · have h0 := (hE 0 (by omega)).1.1
      have hs : a.spot = none := cell_spotE (a := a) (by simpa [Addr.add] using h0)
      obtain ⟨b, off, sp⟩ := a
      have hs2 : sp = none := hs
      subst hs2
      refine .inr ⟨b, off, cap, rfl, World.block_lt_of_cell? _ _ h0, fun i hi => ?_⟩
      obtain ⟨⟨h1, h2, h3, h4⟩, _⟩ := hE i hi
      rw [addr_addE] at h1 h2 h3 h4
      exact ⟨h1, h2, h3, h4⟩
end
end Go.Proofs.Ytligbfegafkpjaa
