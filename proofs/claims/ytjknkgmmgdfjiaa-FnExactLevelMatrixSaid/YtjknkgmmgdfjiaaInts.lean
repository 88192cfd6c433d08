/-
  Slices of integers that lie in blocks of the call's own, and the laws' helpers over them: equal, mark, held.
-/
import Derived.Test.YtjknkgmmgdfjiaaProg
import Derived.Test.YtjknkgmmgdfjiaaBase
import Derived.Deep.OwnRows
import Derived.Deep.Draws
import Derived.Deep.QuietTactic
import Derived.BigQuiet
namespace Go.Proofs.Ytjknkgmmgdfjiaa
open Go.RowKit
set_option linter.unusedVariables false
set_option linter.unusedSimpArgs false

/-- A slice of n integers f 0, f 1, .. that lies at the head of an own block in lo .. hi-1 (or has no element). -/
def IntsAt (w : World) (lo hi : Nat) (a : Option Addr) (n : Nat) (f : Nat → Int) : Prop :=
  n = 0 ∨ ∃ g cap F, a = some ⟨g, 0, none⟩ ∧ lo ≤ g ∧ g < hi ∧ n ≤ cap ∧ w.rowIs g 3 cap F ∧ ∀ i, i < n → F i = .int .i64 (f i)

theorem IntsAt.keep {w w' : World} {lo hi : Nat} {a : Option Addr} {n : Nat} {f : Nat → Int} (h : IntsAt w lo hi a n f) (hk : ∀ k, lo ≤ k → k < hi → w'.heap[k]? = w.heap[k]?) : IntsAt w' lo hi a n f := by
  rcases h with h | ⟨g, cap, F, ha, h1, h2, h3, h4, h5⟩
  · exact .inl h
  · exact .inr ⟨g, cap, F, ha, h1, h2, h3, h4.of_block (hk g h1 h2), h5⟩
theorem IntsAt.below {w w' : World} {lo hi B : Nat} {a : Option Addr} {n : Nat} {f : Nat → Int} (h : IntsAt w lo hi a n f) (hb : Below B w w') (hB : hi ≤ B) : IntsAt w' lo hi a n f :=
  h.keep fun k _ h2 => hb.block k (by omega)
theorem IntsAt.weak {w : World} {lo hi lo' hi' : Nat} {a : Option Addr} {n : Nat} {f : Nat → Int} (h : IntsAt w lo hi a n f) (h1 : lo' ≤ lo) (h2 : hi ≤ hi') : IntsAt w lo' hi' a n f := by
  rcases h with h | ⟨g, cap, F, ha, g1, g2, r⟩
  · exact .inl h
  · exact .inr ⟨g, cap, F, ha, by omega, by omega, r⟩
theorem IntsAt.congr {w : World} {lo hi : Nat} {a : Option Addr} {n : Nat} {f f' : Nat → Int} (h : IntsAt w lo hi a n f) (e : ∀ i, i < n → f i = f' i) : IntsAt w lo hi a n f' := by
  rcases h with h | ⟨g, cap, F, ha, h1, h2, h3, h4, h5⟩
  · exact .inl h
  · exact .inr ⟨g, cap, F, ha, h1, h2, h3, h4, fun i hi => by rw [h5 i hi, e i hi]⟩

theorem below_drewN {B : Nat} {a w : World} (h : Below B a w) (n : Nat) : Below B a (w.drewN n) := ⟨h.os, h.tape, h.output, h.size, h.block⟩

/-- A pair of a slice of the call's own and a bool. -/
def RetInts (w : World) (n : Nat) (f : Nat → Int) (ok : Bool) (e : Ending) (w' : World) : Prop :=
  ∃ a c, e = .returned (.tuple #[.slice a n c, .bool ok]) ∧ IntsAt w' w.heap.size w'.heap.size a n f ∧ Below w.heap.size w w'
end Go.Proofs.Ytjknkgmmgdfjiaa
