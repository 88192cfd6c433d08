/-
  Journals, plainly.
-/
import Derived.Test.YtdffleonelapfaaDoorCkn
import Derived.Test.YtdffleonelapfaaDoorCms
import Derived.Test.YtdffleonelapfaaDoorBld
namespace Go.Proofs.YtdffleonelapfaaDoor
open Go.RowKit
set_option linter.unusedVariables false
set_option linter.unusedSimpArgs false

def jrP (E : Nat → Cmd) : Nat → List UInt8 × Int
  | 0 => ([], 0)
  | k + 1 => ((jrP E k).1 ++ rcT (E k) (jrP E k).2, ckN (cmT (E k)) (jrP E k).2)
def alC (E : Nat → Cmd) : Nat → Bool
  | 0 => true
  | k + 1 => alC E k && cmB (E k)
def jrB (E : Nat → Cmd) (n : Nat) : Bool := alC E n && decide (n ≤ 40)
def jrL (E : Nat → Cmd) (n : Nat) : List UInt8 := if jrB E n then (jrP E n).1 else []
theorem al_no {E : Nat → Cmd} {j : Nat} (h : cmB (E j) = false) : ∀ n, j < n → alC E n = false := by
  intro n
  induction n with
  | zero => intro h; omega
  | succ n ih =>
    intro hj
    rw [alC]
    by_cases q : j = n
    · subst q; rw [h]; simp
    · rw [ih (by omega)]; rfl
theorem al_at {E : Nat → Cmd} : ∀ {n : Nat}, alC E n = true → ∀ i, i < n → cmB (E i) = true
  | n + 1, h, i, hi => by
    rw [alC, Bool.and_eq_true] at h
    by_cases q : i = n
    · rw [q]; exact h.2
    · exact al_at h.1 i (by omega)
theorem rc_len {c : Cmd} {b : Int} (hv : cmB c = true) (hb : 0 ≤ b ∧ b ≤ 9972) : (rcT c b).length ≤ 123 := by
  have h1 := cmT_len hv
  have h2 := ck_bd (cmT c) b hb
  have h3 := itoa_len (x := ckN (cmT c) b) ⟨by omega, by omega⟩
  unfold rcT
  simp only [List.length_append, List.length_cons, List.length_nil]
  omega
theorem jr_bd {E : Nat → Cmd} : ∀ {n : Nat}, alC E n = true → (0 ≤ (jrP E n).2 ∧ (jrP E n).2 ≤ 9972) ∧ (jrP E n).1.length ≤ 123 * n
  | 0, _ => ⟨⟨Int.le_refl _, by show (0 : Int) ≤ 9972; omega⟩, by simp [jrP]⟩
  | n + 1, h => by
    rw [alC, Bool.and_eq_true] at h
    obtain ⟨h1, h2⟩ := jr_bd h.1
    refine ⟨ck_bd _ _ h1, ?_⟩
    have := rc_len (b := (jrP E n).2) h.2 h1
    rw [jrP, List.length_append]
    omega
theorem bld_below {B b : Nat} {bs : List Value} {w w' : World} (h : Lib.IsBuilderF 68 5 B b bs w) (hb : Below w.heap.size w w') : Lib.IsBuilderF 68 5 B b bs w' := by
  have k : ∀ p, Lib.BuilderAtF 68 5 B b p bs w → Lib.BuilderAtF 68 5 B b p bs w' := fun p h => by
    have hlt := h.lt
    obtain ⟨hB, v, h1, hown, hne⟩ := h
    exact ⟨hB, v, by rw [hb.block b hlt]; exact h1, hown.kept (row := none) ⟨hb.os, hb.tape, hb.output, hb.size, fun k hk _ => hb.block k hk⟩ (by cases v.ownBlock <;> simp), hne⟩
  rcases h with h | h
  · exact .inl (k _ h)
  · exact .inr (k _ h)
theorem bld_fresh (w : World) : Lib.IsBuilderF 68 5 w.heap.size w.heap.size (Lib.byteCells []) (w.alloc (.cells #[.pointer none, .slice none 0 0] 68)) := Lib.IsBuilderF.of (Lib.fresh_isBuilder 68 5 w)
def RetT (w : World) (l : List UInt8) (b : Bool) (e : Ending) (w' : World) : Prop := e = .returned (.tuple #[.string (tx l), .bool b]) ∧ Below w.heap.size w w'
end Go.Proofs.YtdffleonelapfaaDoor
