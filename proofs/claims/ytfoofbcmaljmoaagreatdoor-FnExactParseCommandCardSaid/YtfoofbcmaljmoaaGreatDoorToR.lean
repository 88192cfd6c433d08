/- Chains of factors on both sides. Levels on both sides. Rows on both sides. Predicates of a world and a value that every callee keeps. Rows that come in: szRow, toRow, eqRow. -/
import Derived.Test.YtfoofbcmaljmoaaGreatDoorArI
import Derived.Test.YtfoofbcmaljmoaaGreatDoorForm
import Derived.Deep.RegionWith
import Derived.Test.YtfoofbcmaljmoaaGreatDoorRule
namespace Go.Proofs.YtfoofbcmaljmoaaGreatDoor
open Go.RowKit
set_option linter.unusedVariables false
set_option linter.unusedSimpArgs false
attribute [local go_sem] q2 q3 q4 q5 q6 q7 q8 q9 q10 q11 q12

def chS (z : Nat → Int) : Nat → Option Int
 | 0 => some 1
 | j + 1 => match chS z j with
  | none => none
  | some p => if z j < 2 ∨ 1000 < z j ∨ (0 < j ∧ z j % z (j - 1) ≠ 0) ∨ 1000 < p * z j then none else some (p * z j)
def cprV (z : Nat → Int) (n : Nat) : Int := (chS z n).getD 0
def chB (z : Nat → Int) (n : Nat) : Bool := (chS z n).isSome
theorem chS_no {z : Nat → Int} {j : Nat} (h : chS z j = none) : ∀ n, j ≤ n → chS z n = none
 | 0, hn => by rw [show (0 : Nat) = j by omega]; exact h
 | n + 1, hn => by
  by_cases q : j = n + 1
  ·rw [← q]; exact h
  ·rw [chS, chS_no h n (by omega)]
theorem ch_two {z : Nat → Int} {i : Nat} {p : Int} (h : chS z (i + 1) = some p) : 2 ≤ z i ∧ z i ≤ 1000 := by
 rw [chS] at h
 split at h
 ·cases h
 ·split at h
  ·cases h
  ·rename_i q
   simp only [not_or] at q
   omega
theorem ch_bd {z : Nat → Int} : ∀ {j : Nat} {p : Int}, chS z j = some p → 1 ≤ p ∧ p ≤ 1000
 | 0, p, h => by rw [chS] at h; cases h; omega
 | j + 1, p, h => by
  have h2 := ch_two h
  rw [chS] at h
  split at h
  ·cases h
  ·rename_i p' hp
   have := ch_bd hp
   split at h
   ·cases h
   ·rename_i q
    cases h
    simp only [not_or] at q
    refine ⟨?_, by omega⟩
    have := Int.mul_le_mul (show (1 : Int) ≤ p' by omega) (show (1 : Int) ≤ z j by omega) (by omega) (by omega)
    omega

end Go.Proofs.YtfoofbcmaljmoaaGreatDoor
namespace Go.Proofs.YtfoofbcmaljmoaaGreatDoor
open Go.RowKit
set_option linter.unusedVariables false
set_option linter.unusedSimpArgs false
attribute [local go_sem] q2 q3 q4 q5 q6 q7 q8 q9 q10 q11 q12

def negB (d : Int) : Bool := inB d (-2000) (-3) && decide (d % 4 ≤ 1)
theorem neg_true {d : Int} (h : negB d = true) : -2000 ≤ d ∧ d ≤ -3 := by
 unfold negB at h; simp at h; exact inB_true h.1
end Go.Proofs.YtfoofbcmaljmoaaGreatDoor
namespace Go.Proofs.YtfoofbcmaljmoaaGreatDoor
open Go.RowKit
set_option linter.unusedVariables false
set_option linter.unusedSimpArgs false
attribute [local go_sem] q2 q3 q4 q5 q6 q7 q8 q9 q10 q11 q12

structure RowV where
 d : Int
 num : Int
 ge : Int
 ex : Int
abbrev rwv (r : RowV) (v : Value) : Value := .agg #[.int .i64 r.d, .int .i64 r.num, v, .int .i64 r.ge, .int .i64 r.ex]
def rwB (r : RowV) (n : Nat) (z : Nat → Int) : Bool := chB z n && (negB r.d && (decide (cprV z n = r.num) && (inB r.ge 1 1000 && inB r.ex 1 1000)))

end Go.Proofs.YtfoofbcmaljmoaaGreatDoor
namespace Go.Proofs.YtfoofbcmaljmoaaGreatDoor
open Go.RowKit
set_option linter.unusedVariables false
set_option linter.unusedSimpArgs false

def StB (P : World → Value → Prop) : Prop := ∀ W w' v, Below W.heap.size W w' → P W v → P w' v
theorem Kd.st (k : Kd) : StB k.ok := fun W w' v hb h => Kd.ok_below hb h
end Go.Proofs.YtfoofbcmaljmoaaGreatDoor
namespace Go.Proofs.YtfoofbcmaljmoaaGreatDoor
open Go.RowKit
set_option linter.unusedVariables false
set_option linter.unusedSimpArgs false
attribute [local go_sem] q2 q3 q4 q5 q6 q7 q8 q9 q10 q11 q12

def RowP (r : RowV) (n : Nat) (z : Nat → Int) (w : World) (v : Value) : Prop := ∃ g : Nat, v = rwv r (.slice (some ⟨g, 0, none⟩) n n) ∧ RowI w g n z ∧ g < w.heap.size
theorem RowP.st {r : RowV} {n : Nat} {z : Nat → Int} : StB (RowP r n z) := fun W w' v hb ⟨g, h1, h2, h3⟩ => ⟨g, h1, h2.below hb, Nat.lt_of_lt_of_le h3 hb.size⟩
end Go.Proofs.YtfoofbcmaljmoaaGreatDoor
