/-
  Entries that come in.
-/
import Derived.Test.YtligbfegafkpjaaNm
import Derived.Test.YtligbfegafkpjaaRule
import Derived.Test.YtligbfegafkpjaaOwn
namespace Go.Proofs.Ytligbfegafkpjaa
open Go.RowKit
set_option linter.unusedVariables false
set_option linter.unusedSimpArgs false
attribute [local go_sem] q2 q3 q4 q5 q6 q7 q8 q9 q10 q11 q12

structure Ent where
  n : ByteArray
  f : Int × Int × Int
structure EntOk (e : Ent) : Prop where
  n : e.n.size ≤ 9223372036854775807
  f0 : I64 e.f.1
  f1 : I64 e.f.2.1
  f2 : I64 e.f.2.2
/-- The entry e at the place o of the block b. -/
def EntAt (w : World) (b o : Nat) (e : Ent) : Prop := w.cell? ⟨b, o, none⟩ = some (.string e.n) ∧ w.cell? ⟨b, o + 1, none⟩ = some (.int .i64 e.f.1) ∧ w.cell? ⟨b, o + 2, none⟩ = some (.int .i64 e.f.2.1) ∧ w.cell? ⟨b, o + 3, none⟩ = some (.int .i64 e.f.2.2)
theorem EntAt.below {w w' : World} {b o : Nat} {e : Ent} (h : EntAt w b o e) (hb : Below w.heap.size w w') : EntAt w' b o e := ⟨cell_call hb h.1, cell_call hb h.2.1, cell_call hb h.2.2.1, cell_call hb h.2.2.2⟩
def ArgE (w : World) (v : Value) (n : Nat) (E : Nat → Ent) : Prop :=
  (n = 0 ∧ ∃ a c, v = .slice a 0 c) ∨ ∃ b off c : Nat, v = .slice (some ⟨b, off, none⟩) n c ∧ b < w.heap.size ∧ ∀ i, i < n → EntAt w b (off + i * 4) (E i)
theorem ArgE.below {w w' : World} {v : Value} {n : Nat} {E : Nat → Ent} (h : ArgE w v n E) (hb : Below w.heap.size w w') : ArgE w' v n E := by
  rcases h with h | ⟨b, off, c, h1, h2, h3⟩
  · exact .inl h
  · exact .inr ⟨b, off, c, h1, Nat.lt_of_lt_of_le h2 hb.size, fun i hi => (h3 i hi).below hb⟩
theorem ArgE.len {w : World} {v : Value} {n : Nat} {E : Nat → Ent} (h : ArgE w v n E) : ∃ a c, v = .slice a n c := by
  rcases h with ⟨h, a, c, h2⟩ | ⟨b, off, c, h1, _⟩
  · exact ⟨a, c, by rw [h]; exact h2⟩
  · exact ⟨_, _, h1⟩
theorem ArgE.cells {w : World} {a : Option Addr} {n c : Nat} {E : Nat → Ent} (h : ArgE w (.slice a n c) n E) (hn : 0 < n) : ∃ b off, a = some ⟨b, off, none⟩ ∧ ∀ i, i < n → EntAt w b (off + i * 4) (E i) := by
  rcases h with ⟨h, _⟩ | ⟨b, off, c', h1, _, h3⟩
  · omega
  · simp only [Value.slice.injEq] at h1
    exact ⟨b, off, h1.1, h3⟩
def lessB (a b : ByteArray) : Bool := Go.Op.bytesLess a.toList b.toList
def goE (E : Nat → Ent) (j : Nat) : Bool := nmB (E j).n && (classB (E j).f.1 (E j).f.2.1 (E j).f.2.2 && (decide (j = 0) || lessB (E (j - 1)).n (E j).n))
def ctG (E : Nat → Ent) : Nat → Bool
  | 0 => true
  | j + 1 => ctG E j && goE E j
def ctB (E : Nat → Ent) (n : Nat) : Bool := ctG E n && decide (n ≤ 20)
theorem ct_no {E : Nat → Ent} {j : Nat} (h : goE E j = false) : ∀ n, j < n → ctB E n = false := by
  intro n hn
  have : ∀ n, j < n → ctG E n = false := by
    intro n
    induction n with
    | zero => intro h; omega
    | succ n ih =>
      intro hj
      rw [ctG]
      by_cases q : j = n
      · subst q; rw [h]; simp
      · rw [ih (by omega)]; rfl
  unfold ctB; rw [this n hn]; rfl
theorem ct_next {E : Nat → Ent} {j : Nat} (h : ctG E j = true) (h2 : goE E j = true) : ctG E (j + 1) = true := by rw [ctG, h, h2]; rfl
end Go.Proofs.Ytligbfegafkpjaa
