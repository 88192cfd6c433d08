/- The texts of rows on both sides. -/
import Derived.Test.YtfoofbcmaljmoaaGreatDoorFmt
import Derived.Test.YtfoofbcmaljmoaaGreatDoorToR
import Derived.Test.YtfoofbcmaljmoaaGreatDoorStrL
namespace Go.Proofs.YtfoofbcmaljmoaaGreatDoor
open Go.RowKit
set_option linter.unusedVariables false
set_option linter.unusedSimpArgs false
attribute [local go_sem] q2 q3 q4 q5 q6 q7 q8 q9 q10 q11 q12

def itL (z : Nat → Int) : Nat → List ByteArray
 | 0 => []
 | k + 1 => itL z k ++ [tx (Lib.itoa (z k))]
def fcS (z : Nat → Int) : Nat → List UInt8
 | 0 => [45]
 | 1 => Lib.itoa (z 0)
 | k + 2 => fcS z (k + 1) ++ [44] ++ Lib.itoa (z (k + 1))
theorem join_snoc (sep y : List UInt8) : ∀ (xs : List (List UInt8)), xs ≠ [] → Lib.join (xs ++ [y]) sep = Lib.join xs sep ++ sep ++ y
 | [], h => absurd rfl h
 | [x], _ => by simp [Lib.join, List.intercalate]
 | x :: x2 :: r, _ => by
  have ih := join_snoc sep y (x2 :: r) (by simp)
  simp only [Lib.join, List.intercalate, List.cons_append, List.intersperse] at ih ⊢
  simp only [List.flatten_cons, List.append_assoc] at ih ⊢
  rw [ih]
theorem join_it (z : Nat → Int) : ∀ n, 1 ≤ n → Lib.join ((itL z n).map (·.data.toList)) [44] = fcS z n
 | 1, _ => by simp [itL, fcS, tx, Lib.join, List.intercalate]
 | k + 2, _ => by
  rw [itL, List.map_append, List.map_cons, List.map_nil, tx_list, join_snoc _ _ _ (by simp [itL]), join_it z (k + 1) (by omega)]
  rfl
def rwT (r : RowV) (n : Nat) (z : Nat → Int) : List UInt8 := Lib.itoa r.d ++ [32] ++ Lib.itoa r.num ++ [32] ++ fcS z n ++ [32] ++ Lib.itoa r.ge ++ [32] ++ Lib.itoa r.ex
theorem ch_each {z : Nat → Int} {n : Nat} (h : chB z n = true) : ∀ i, i < n → 2 ≤ z i ∧ z i ≤ 1000 := by
 intro i hi
 cases q : chS z (i + 1) with
 | none => have := chS_no q n (by omega); unfold chB at h; rw [this] at h; cases h
 | some p => exact ch_two q
theorem ch_val {z : Nat → Int} {n : Nat} (h : chB z n = true) : 1 ≤ cprV z n ∧ cprV z n ≤ 1000 := by
 cases q : chS z n with
 | none => unfold chB at h; rw [q] at h; cases h
 | some p => have := ch_bd q; unfold cprV; rw [q]; exact this
theorem SL.joins {w : World} {lo : Nat} {a : Option Addr} {n c : Nat} {zs : List ByteArray} (h : SL w lo (.slice a n c) zs) (hz : 1 ≤ zs.length) : ∃ g, a = some ⟨g, 0, none⟩ ∧ n = zs.length ∧ g < w.heap.size ∧ zs.length ≤ c ∧ ∀ (j : Nat) x, zs[j]? = some x → w.cell? ⟨g, 0 + j, none⟩ = some (.string x) := by
 rcases h.2 with ⟨h1, h2⟩ | ⟨g, cap, cur, h1, h2, h3, h4, h5, h6, h7⟩
 ·omega
 ·simp only [Value.slice.injEq] at h1
  obtain ⟨rfl, rfl, rfl⟩ := h1
  refine ⟨g, rfl, rfl, (Array.getElem?_eq_some_iff.1 h3).1, h4, fun j x hx => ?_⟩
  obtain ⟨hj, rfl⟩ := List.getElem?_eq_some_iff.1 hx
  have hs := h.strs.2
  rcases hs with hs | ⟨g1, cap1, F, e1, h1, h2, h3, r, e⟩
  ·omega
  ·obtain ⟨rfl⟩ : g = g1 := by injection e1 with e1; injection e1
   rw [Nat.zero_add, r.cell (i := j) (by omega), e j hj]
   simp [List.getD_eq_getElem?_getD, hj]
theorem join_sl (w : World) (lo : Nat) (a : Option Addr) (n c : Nat) (zs : List ByteArray) (sep l : List UInt8) (h : SL w lo (.slice a n c) zs) (hz : 1 ≤ zs.length) (hN : zs.length ≤ 2000000) (hl : Lib.join (zs.map (·.data.toList)) sep = l) (hlen : l.length ≤ 140737488355328) :
  Calls Tryz.prog 26 #[.slice a n c, .string (tx sep)] w fun e w' => e = .returned (.string (tx l)) ∧ Below w.heap.size w w' := by
 obtain ⟨g, rfl, rfl, hg, hc, hcs⟩ := h.joins hz
 have e : (tx sep).data.toList = sep := tx_list sep
 have k := Any.strings_Join Tryz.lays156 Tryz.Builder_Extra_156 g 0 c zs (tx sep) w hcs hg (by omega) hc (by rw [e, hl]; exact hlen)
 rw [e, hl] at k
 exact k

end Go.Proofs.YtfoofbcmaljmoaaGreatDoor
