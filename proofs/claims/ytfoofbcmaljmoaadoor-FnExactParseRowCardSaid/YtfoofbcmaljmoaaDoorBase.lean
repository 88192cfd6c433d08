/-
  Plain arithmetic: integer square roots, with no program in sight. Small lemmas on walks that every later text uses.
-/
import Derived.WalkKit
import Derived.WalkSpells
import Derived.WalkLawsBesides
namespace Go.Proofs.YtfoofbcmaljmoaaDoor

/-- The integer square root of a natural number, by counting up. -/
def isqN : Nat → Nat
  | 0 => 0
  | n + 1 => if (isqN n + 1) * (isqN n + 1) ≤ n + 1 then isqN n + 1 else isqN n

theorem isqN_spec (n : Nat) : isqN n * isqN n ≤ n ∧ n < (isqN n + 1) * (isqN n + 1) := by
  induction n with
  | zero => simp [isqN]
  | succ n ih =>
    obtain ⟨h1, h2⟩ := ih
    unfold isqN
    split
    · rename_i h
      refine ⟨h, ?_⟩
      have : (isqN n + 1 + 1) * (isqN n + 1 + 1) = (isqN n + 1) * (isqN n + 1) + 2 * (isqN n + 1) + 1 := by
        rw [Nat.add_mul, Nat.mul_add (isqN n + 1)]; omega
      omega
    · rename_i h
      exact ⟨by omega, by omega⟩

/-- The integer square root: 0 below 0. -/
def isq (n : Int) : Int := (isqN n.toNat : Nat)

theorem isq_nonneg (n : Int) : 0 ≤ isq n := by unfold isq; omega

theorem isq_le {n : Int} (h : 0 ≤ n) : isq n * isq n ≤ n := by
  have := (isqN_spec n.toNat).1
  have h2 : ((isqN n.toNat * isqN n.toNat : Nat) : Int) ≤ (n.toNat : Int) := by omega
  rw [Int.natCast_mul] at h2
  unfold isq; omega

theorem isq_lt {n : Int} (h : 0 ≤ n) : n < (isq n + 1) * (isq n + 1) := by
  have := (isqN_spec n.toNat).2
  have h2 : (n.toNat : Int) < (((isqN n.toNat + 1) * (isqN n.toNat + 1) : Nat) : Int) := by omega
  rw [Int.natCast_mul] at h2
  unfold isq; push_cast at h2; omega

theorem sq_mono {a b : Int} (ha : 0 ≤ a) (h : a ≤ b) : a * a ≤ b * b :=
  Int.mul_le_mul h h ha (by omega)

theorem le_of_sq {a b : Int} (hb : 0 ≤ b) (h : a * a ≤ b * b) : a ≤ b := by
  by_cases c : a ≤ b
  · exact c
  · have h1 : b + 1 ≤ a := by omega
    have h2 := sq_mono (by omega : 0 ≤ b + 1) h1
    have h3 : (b + 1) * (b + 1) = b * b + 2 * b + 1 := by rw [Int.add_mul, Int.mul_add]; omega
    omega

theorem isq_unique {n r : Int} (h0 : 0 ≤ r) (h1 : r * r ≤ n) (h2 : n < (r + 1) * (r + 1)) : isq n = r := by
  have hn : 0 ≤ n := by have := Int.mul_nonneg h0 h0; omega
  have a1 := isq_le hn
  have a2 := isq_lt hn
  have a0 := isq_nonneg n
  have b1 : isq n < r + 1 := by
    by_cases c : isq n < r + 1
    · exact c
    · have := sq_mono (by omega : 0 ≤ r + 1) (by omega : r + 1 ≤ isq n); omega
  have b2 : r < isq n + 1 := by
    by_cases c : r < isq n + 1
    · exact c
    · have := sq_mono (by omega : 0 ≤ isq n + 1) (by omega : isq n + 1 ≤ r); omega
  omega

theorem isq_neg {n : Int} (h : n < 0) : isq n = 0 := by
  unfold isq
  rw [Int.toNat_of_nonpos (by omega)]
  rfl

theorem isq_bound {n k : Int} (hk : 0 ≤ k) (h : n < (k + 1) * (k + 1)) : isq n ≤ k := by
  by_cases hn : 0 ≤ n
  · have a1 := isq_le hn
    have a0 := isq_nonneg n
    by_cases c : isq n ≤ k
    · exact c
    · have := sq_mono (by omega : 0 ≤ k + 1) (by omega : k + 1 ≤ isq n); omega
  · rw [isq_neg (by omega)]; exact hk

end Go.Proofs.YtfoofbcmaljmoaaDoor
namespace Go.Proofs.YtfoofbcmaljmoaaDoor
open Go.RowKit
set_option linter.unusedVariables false
set_option linter.unusedSimpArgs false

theorem hide {p : Prop} (h : p) : Hid p := h
theorem unhide {p : Prop} (h : Hid p) : p := h
theorem ret_int {k : IntKind} {a b : Int} (h : a = b) : Ending.returned (.int k a) = .returned (.int k b) := by rw [h]
theorem ret_ib {k : IntKind} {a b : Int} {c d : Bool} (h : a = b) (h2 : c = d) : Ending.returned (.tuple #[.int k a, .bool c]) = .returned (.tuple #[.int k b, .bool d]) := by rw [h, h2]
theorem ret_bb {a b c d : Bool} (h : a = b) (h2 : c = d) : Ending.returned (.tuple #[.bool a, .bool c]) = .returned (.tuple #[.bool b, .bool d]) := by rw [h, h2]
theorem ret_bool {a b : Bool} (h : a = b) : Ending.returned (.bool a) = .returned (.bool b) := by rw [h]
theorem bcell {W w1 : World} (hb : Below W.heap.size W w1) : (∀ b o, b < W.heap.size → w1.cell? ⟨b, o, none⟩ = W.cell? ⟨b, o, none⟩) ∧ (∀ b o, b < W.heap.size → w1.frozen? ⟨b, o, none⟩ = W.frozen? ⟨b, o, none⟩) :=
  ⟨fun b o h => hb.cell (p := ⟨b, o, none⟩) h, fun b o h => hb.frozen (p := ⟨b, o, none⟩) h⟩
theorem results_tmp4 {fn : Func} {t u v x : Tmp} (h : fn.results = #[.tmp t, .tmp u, .tmp v, .tmp x]) (tmps : Array Value) (P : Program) (w : World) :
    (results fn tmps).run P w = .ok (.tuple #[tmps.getD t undef, tmps.getD u undef, tmps.getD v undef, tmps.getD x undef]) w := by simp [results, h]

/-- lo ≤ n ≤ hi -/
def inB (n lo hi : Int) : Bool := decide (lo ≤ n) && decide (n ≤ hi)
theorem inB_true {n lo hi : Int} (h : inB n lo hi = true) : lo ≤ n ∧ n ≤ hi := by unfold inB at h; simpa using h
theorem inB_false {n lo hi : Int} (h : inB n lo hi = false) : ¬ (lo ≤ n ∧ n ≤ hi) := by unfold inB at h; simpa using h

end Go.Proofs.YtfoofbcmaljmoaaDoor
