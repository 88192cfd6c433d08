/- Plain arithmetic: integer square roots, with no program in sight. Small lemmas on walks that every later text uses. -/
import Derived.WalkKit
import Derived.WalkSpells
import Derived.WalkLawsBesides
namespace Go.Proofs.Ytaeabefbohlcpaa

def isqN : Nat → Nat
 | 0 => 0
 | n + 1 => if (isqN n + 1) * (isqN n + 1) ≤ n + 1 then isqN n + 1 else isqN n

theorem isqN_spec (n : Nat) : isqN n * isqN n ≤ n ∧ n < (isqN n + 1) * (isqN n + 1) := by
 induction n with
 | zero => simp [isqN]
 | succ n ih =>
  obtain ⟨h1, h2⟩ := ih
  unfold isqN
  split
  ·rename_i h
   refine ⟨h, ?_⟩
   have : (isqN n + 1 + 1) * (isqN n + 1 + 1) = (isqN n + 1) * (isqN n + 1) + 2 * (isqN n + 1) + 1 := by
    rw [Nat.add_mul, Nat.mul_add (isqN n + 1)]; omega
   omega
  ·rename_i h
   exact ⟨by omega, by omega⟩

theorem sq_mono {a b : Int} (ha : 0 ≤ a) (h : a ≤ b) : a * a ≤ b * b :=
 Int.mul_le_mul h h ha (by omega)

end Go.Proofs.Ytaeabefbohlcpaa
namespace Go.Proofs.Ytaeabefbohlcpaa
open Go.RowKit
set_option linter.unusedVariables false
set_option linter.unusedSimpArgs false

theorem hide {p : Prop} (h : p) : Hid p := h
theorem unhide {p : Prop} (h : Hid p) : p := h
theorem ret_int {k : IntKind} {a b : Int} (h : a = b) : Ending.returned (.int k a) = .returned (.int k b) := by rw [h]
theorem ret_bool {a b : Bool} (h : a = b) : Ending.returned (.bool a) = .returned (.bool b) := by rw [h]
def inB (n lo hi : Int) : Bool := decide (lo ≤ n) && decide (n ≤ hi)
theorem inB_true {n lo hi : Int} (h : inB n lo hi = true) : lo ≤ n ∧ n ≤ hi := by unfold inB at h; simpa using h
end Go.Proofs.Ytaeabefbohlcpaa
