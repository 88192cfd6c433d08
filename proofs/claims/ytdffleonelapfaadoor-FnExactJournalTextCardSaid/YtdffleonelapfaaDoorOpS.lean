/-
  A list of commands that comes in, opened.
-/
import Derived.Lib.SmallJoins
import Derived.Deep.Slices
import Derived.Carry
import Derived.ProofKit
import Derived.Test.YtdffleonelapfaaDoorOpC
import Derived.Test.YtdffleonelapfaaDoorCms
namespace Go.Proofs.YtdffleonelapfaaDoor
open Go.RowKit
set_option linter.unusedVariables false
set_option linter.unusedSimpArgs false

open Go.RowKit Go.WideShapes Go.ChangeShapes Go.Deep Go.Joins
theorem addr_addS {b off k : Nat} : (⟨b, off, none⟩ : Addr).add k = ⟨b, off + k, none⟩ := by unfold Addr.add; split <;> simp_all
theorem cell_spotS {w : World} {a : Addr} {v : Value} (h : w.cell? a = some v) : a.spot = none := by
  unfold World.cell? at h
  split at h
  · split at h
    · cases h
    · rename_i hs; cases hx : a.spot with
      | none => rfl
      | some _ => rw [hx] at hs; simp at hs
  · cases h
section
variable {H : Type} {enc : TypeId × Value → H} {w : World} {base : Nat} {spare : Nat → Bool} {held : Bool}
theorem open_cmdL {fuel : Nat} {cs : List Value} {x : DataW H × List MemPlace} (h : DataW.trod enc Tryd.prog w base spare held fuel 45 cs = some x) :
    ∃ (v : Value) (n : Nat) (E : Nat → Cmd), cs = [v] ∧ ArgC w v n E ∧ (∀ i, i < n → CmdOk (E i)) ∧ n ≤ 9223372036854775807 := by
  have z0 : Cmd := ⟨0, ⟨#[]⟩, ⟨#[]⟩, ⟨#[]⟩, (0, 0, 0)⟩
  rcases open_slice Tryd.underlying45 h with ⟨hcs, _⟩ | ⟨a, len, cap, m, n, D, Pl, hcs, hb, hl, hm, hmm, hx, hi⟩
  · exact ⟨_, 0, fun _ => z0, hcs, .inl ⟨rfl, none, 0, rfl⟩, fun i hi => absurd hi (by omega), by omega⟩
  · have hlm : len ≤ m := by rw [hmm]; split <;> omega
    have one : ∀ i, ∃ e : Cmd, i < len → (w.cell? (a.add (i * 7)) = some (.int .i64 e.k) ∧ w.cell? (a.add (i * 7 + 1)) = some (.string e.n) ∧ w.cell? (a.add (i * 7 + 2)) = some (.string e.a) ∧ w.cell? (a.add (i * 7 + 3)) = some (.string e.b) ∧ w.cell? (a.add (i * 7 + 4)) = some (.int .i64 e.f.1) ∧ w.cell? (a.add (i * 7 + 5)) = some (.int .i64 e.f.2.1) ∧ w.cell? (a.add (i * 7 + 6)) = some (.int .i64 e.f.2.2)) ∧ CmdOk e := by
      intro i
      by_cases q : i < len
      · obtain ⟨cs', hc, ht⟩ := hi i (by omega)
        rw [Tryd.cellsLCc] at hc
        obtain ⟨_, _, hat⟩ := World.cells?_some hc
        obtain ⟨e, rfl, he⟩ := open_cmds ht
        have a0 := hat 0 (by omega)
        have a1 := hat 1 (by omega)
        have a2 := hat 2 (by omega)
        have a3 := hat 3 (by omega)
        have a4 := hat 4 (by omega)
        have a5 := hat 5 (by omega)
        have a6 := hat 6 (by omega)
        rw [Go.Deep.add_add] at a0 a1 a2 a3 a4 a5 a6
        exact ⟨e, fun _ => ⟨⟨a0, a1, a2, a3, a4, a5, a6⟩, he⟩⟩
      · exact ⟨z0, fun h => absurd h q⟩
    obtain ⟨E, hE⟩ : ∃ E : Nat → Cmd, ∀ i, i < len → (w.cell? (a.add (i * 7)) = some (.int .i64 (E i).k) ∧ w.cell? (a.add (i * 7 + 1)) = some (.string (E i).n) ∧ w.cell? (a.add (i * 7 + 2)) = some (.string (E i).a) ∧ w.cell? (a.add (i * 7 + 3)) = some (.string (E i).b) ∧ w.cell? (a.add (i * 7 + 4)) = some (.int .i64 (E i).f.1) ∧ w.cell? (a.add (i * 7 + 5)) = some (.int .i64 (E i).f.2.1) ∧ w.cell? (a.add (i * 7 + 6)) = some (.int .i64 (E i).f.2.2)) ∧ CmdOk (E i) := ⟨fun i => (one i).choose, fun i => (one i).choose_spec⟩
    have hlc := Nat.le_trans hl hm
    unfold maxLen at hlc
    refine ⟨_, len, E, hcs, ?_, fun i hi => (hE i hi).2, hlc⟩
    by_cases q : len = 0
    · exact .inl ⟨q, some a, cap, by rw [q]⟩
    · have h0 := (hE 0 (by omega)).1.1
      have hs : a.spot = none := cell_spotS (a := a) (by simpa [Addr.add] using h0)
      obtain ⟨b, off, sp⟩ := a
      have hs2 : sp = none := hs
      subst hs2
      refine .inr ⟨b, off, cap, rfl, World.block_lt_of_cell? _ _ h0, fun i hi => ?_⟩
      obtain ⟨⟨h0, h1, h2, h3, h4, h5, h6⟩, _⟩ := hE i hi
      rw [addr_addS] at h0 h1 h2 h3 h4 h5 h6
      exact ⟨h0, h1, h2, h3, h4, h5, h6⟩
end
end Go.Proofs.YtdffleonelapfaaDoor
