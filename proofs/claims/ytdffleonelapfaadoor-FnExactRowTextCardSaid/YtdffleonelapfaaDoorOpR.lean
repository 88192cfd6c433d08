/-
  An argument that is a row, opened: its numbers, its factors.
-/
import Derived.Test.YtdffleonelapfaaDoorToR
import Derived.Lib.SmallJoins
import Derived.Deep.Slices
import Derived.Carry
import Derived.ProofKit
namespace Go.Proofs.YtdffleonelapfaaDoor
open Go.RowKit Go.WideShapes Go.ChangeShapes Go.Deep Go.Joins
set_option linter.unusedVariables false
set_option linter.unusedSimpArgs false

theorem Tryd.cellsLRr : Tryd.prog.cellsOf 24 = 5 := by kernel_rfl
theorem Tryd.cellsIr : Tryd.prog.cellsOf 3 = 1 := by kernel_rfl
theorem Tryd.cellsSr : Tryd.prog.cellsOf 22 = 1 := by kernel_rfl
theorem addr_addI {b off k : Nat} : (⟨b, off, none⟩ : Addr).add k = ⟨b, off + k, none⟩ := by unfold Addr.add; split <;> simp_all
theorem cell_spotI {w : World} {a : Addr} {v : Value} (h : w.cell? a = some v) : a.spot = none := by
  unfold World.cell? at h
  split at h
  · split at h
    · cases h
    · rename_i hs; cases hx : a.spot with
      | none => rfl
      | some _ => rw [hx] at hs; simp at hs
  · cases h
section
variable {H : Type} {enc : TypeId × Value → H} {w : World} {base : Nat} {spare : Nat → Bool} {held : Bool}
theorem open_intsA {fuel : Nat} {cs : List Value} {x : DataW H × List MemPlace} (h : DataW.trod enc Tryd.prog w base spare held fuel 22 cs = some x) :
    ∃ (v : Value) (n : Nat) (z : Nat → Int), cs = [v] ∧ ArgI w v n z ∧ n ≤ maxLen := by
  rcases open_slice Tryd.underlying22 h with ⟨hcs, _⟩ | ⟨a, len, cap, m, n, D, Pl, hcs, hb, hl, hm, hmm, hx, hi⟩
  · exact ⟨_, 0, fun _ => 0, hcs, .inl ⟨rfl, none, 0, rfl⟩, Nat.zero_le _⟩
  · have hlm : len ≤ m := by rw [hmm]; split <;> omega
    have one : ∀ i, ∃ x : Int, i < len → w.cell? (a.add i) = some (.int .i64 x) := by
      intro i
      by_cases q : i < len
      · obtain ⟨cs', hc, ht⟩ := hi i (by omega)
        rw [Tryd.cellsIr, Nat.mul_one] at hc
        obtain ⟨_, _, hat⟩ := World.cells?_some hc
        obtain ⟨x, rfl, _, _⟩ := DataW.trod_int Tryd.underlying3 ht
        have a0 := hat 0 (by omega)
        rw [Go.Deep.add_add] at a0
        exact ⟨x, fun _ => a0⟩
      · exact ⟨0, fun h => absurd h q⟩
    obtain ⟨z, hz⟩ : ∃ z : Nat → Int, ∀ i, i < len → w.cell? (a.add i) = some (.int .i64 (z i)) := ⟨fun i => (one i).choose, fun i => (one i).choose_spec⟩
    refine ⟨_, len, z, hcs, ?_, Nat.le_trans hl hm⟩
    by_cases q : len = 0
    · exact .inl ⟨q, some a, cap, by rw [q]⟩
    · have h0 := hz 0 (by omega)
      have hs : a.spot = none := cell_spotI (a := a) (by simpa [Addr.add] using h0)
      obtain ⟨b, off, sp⟩ := a
      have hs2 : sp = none := hs
      subst hs2
      exact .inr ⟨b, off, cap, rfl, World.block_lt_of_cell? _ _ h0, fun i hi => by have := hz i hi; rwa [addr_addI] at this⟩
set_option maxRecDepth 100000 in
theorem open_row {r : Reach} {b0 : Nat} {v : Value} {d : DataW H} {p : List MemPlace} (hv : Value.okWide Tryd.prog w r b0 24 v) (h : DataW.Trod enc Tryd.prog w base spare held 24 v d p) :
    ∃ (q : RowV) (u : Value) (n : Nat) (z : Nat → Int), v = rwv q u ∧ RowOk q ∧ ArgI w u n z ∧ n ≤ 9223372036854775807 := by
  obtain ⟨cs, rfl, hsz⟩ := okWide_struct Tryd.underlying24 hv
  obtain ⟨fuel, hf⟩ := h
  obtain ⟨l⟩ := cs
  obtain ⟨ys, n, _, _, hlen, hyl, hg⟩ := DataW.trod_struct Tryd.underlying24 hf
  simp only [Value.cells] at hlen hg
  rw [Tryd.cellsLRr] at hlen
  match l, hlen with
  | [c0, c1, c2, c3, c4], _ =>
    match ys, hyl with
    | [y0, y1, y2, y3, y4], _ =>
      obtain ⟨n0, e0, _, w0⟩ := DataW.trod_int Tryd.underlying3 (by simpa [Tryd.cellsIr] using hg 0 _ rfl : DataW.trod enc Tryd.prog w base spare held n 3 [c0] = some y0)
      obtain ⟨n1, e1, _, w1⟩ := DataW.trod_int Tryd.underlying3 (by simpa [Tryd.cellsIr] using hg 1 _ rfl : DataW.trod enc Tryd.prog w base spare held n 3 [c1] = some y1)
      obtain ⟨u, k, z, e2, ha, hk⟩ := open_intsA (by simpa [Tryd.cellsSr] using hg 2 _ rfl : DataW.trod enc Tryd.prog w base spare held n 22 [c2] = some y2)
      obtain ⟨n3, e3, _, w3⟩ := DataW.trod_int Tryd.underlying3 (by simpa [Tryd.cellsIr] using hg 3 _ rfl : DataW.trod enc Tryd.prog w base spare held n 3 [c3] = some y3)
      obtain ⟨n4, e4, _, w4⟩ := DataW.trod_int Tryd.underlying3 (by simpa [Tryd.cellsIr] using hg 4 _ rfl : DataW.trod enc Tryd.prog w base spare held n 3 [c4] = some y4)
      unfold maxLen at hk
      cases e0; cases e1; cases e2; cases e3; cases e4
      exact ⟨⟨n0, n1, n3, n4⟩, _, k, z, rfl, ⟨i64_wf w0, i64_wf w1, i64_wf w3, i64_wf w4⟩, ha, hk⟩
end
end Go.Proofs.YtdffleonelapfaaDoor
