/- Plain: the text of a row read back. -/
import Derived.Test.YtfoofbcmaljmoaaGreatDoorPrq
import Derived.Test.YtfoofbcmaljmoaaGreatDoorRtx
namespace Go.Proofs.YtfoofbcmaljmoaaGreatDoor
open Go.RowKit
set_option linter.unusedVariables false
set_option linter.unusedSimpArgs false

def zlD (n : Nat) (z : Nat → Int) : List Int := (List.range n).map z
theorem zlD_len (n : Nat) (z : Nat → Int) : (zlD n z).length = n := by simp [zlD]
theorem zlD_at {n : Nat} {z : Nat → Int} {i : Nat} (h : i < n) : (zlD n z).getD i 0 = z i := by
 unfold zlD
 rw [List.getD_eq_getElem?_getD, List.getElem?_map, List.getElem?_eq_getElem (by simpa using h)]; simp
theorem zlD_succ (n : Nat) (z : Nat → Int) : zlD (n + 1) z = zlD n z ++ [z n] := by unfold zlD; rw [List.range_succ, List.map_append]; rfl
theorem zlD_ne {n : Nat} (z : Nat → Int) (h : 1 ≤ n) : zlD n z ≠ [] := fun e => by have := congrArg List.length e; rw [zlD_len] at this; simp at this; omega
theorem itL_map (z : Nat → Int) : ∀ n, (itL z n).map (·.data.toList) = (zlD n z).map Lib.itoa
 | 0 => rfl
 | n + 1 => by rw [itL, List.map_append, itL_map z n, zlD_succ, List.map_append]; simp [tx_list]
theorem fc_jn (z : Nat → Int) {n : Nat} (h : 1 ≤ n) : fcS z n = jn 44 ((zlD n z).map Lib.itoa) := by
 rw [← join_it z n h, jn_join, itL_map]
theorem jn_mem (c : UInt8) : ∀ (ws : List (List UInt8)) (x : UInt8), x ∈ jn c ws → x = c ∨ ∃ w ∈ ws, x ∈ w
 | [], x, h => by cases h
 | [w], x, h => .inr ⟨w, by simp, h⟩
 | w :: y :: r, x, h => by
  rw [jn] at h
  rcases List.mem_append.1 h with h | h
  ·exact .inr ⟨w, by simp, h⟩
  ·rcases List.mem_cons.1 h with h | h
   ·exact .inl h
   ·rcases jn_mem c (y :: r) x h with h | ⟨w2, h1, h2⟩
    ·exact .inl h
    ·exact .inr ⟨w2, by simp only [List.mem_cons] at h1 ⊢; exact .inr h1, h2⟩
theorem nm_ne {c : UInt8} (h : NmC c) : c ≠ 32 ∧ c ≠ 44 := by
 unfold NmC DgC at h
 constructor <;> (rintro rfl; revert h; decide)
theorem it_no (x : Int) : (32 : UInt8) ∉ Lib.itoa x ∧ (44 : UInt8) ∉ Lib.itoa x := ⟨fun h => (nm_ne (itoa_all x _ h)).1 rfl, fun h => (nm_ne (itoa_all x _ h)).2 rfl⟩
theorem fc_no (z : Nat → Int) (n : Nat) : (32 : UInt8) ∉ fcS z n := by
 by_cases h : 1 ≤ n
 ·rw [fc_jn z h]
  intro hx
  rcases jn_mem _ _ _ hx with h | ⟨w, hw, h⟩
  ·exact absurd h (by decide)
  ·obtain ⟨x, _, rfl⟩ := List.mem_map.1 hw
   exact (it_no x).1 h
 ·obtain rfl : n = 0 := by omega
  simp [fcS]
def rwW (r : RowV) (n : Nat) (z : Nat → Int) : List (List UInt8) := [Lib.itoa r.d, Lib.itoa r.num, fcS z n, Lib.itoa r.ge, Lib.itoa r.ex]
theorem rwT_jn (r : RowV) (n : Nat) (z : Nat → Int) : rwT r n z = jn 32 (rwW r n z) := by simp [rwT, rwW, jn]
theorem rwW_no (r : RowV) (n : Nat) (z : Nat → Int) : ∀ w ∈ rwW r n z, (32 : UInt8) ∉ w := by
 intro w hw
 simp only [rwW, List.mem_cons, List.not_mem_nil, or_false] at hw
 rcases hw with rfl | rfl | rfl | rfl | rfl
 ·exact (it_no _).1
 ·exact (it_no _).1
 ·exact fc_no _ _
 ·exact (it_no _).1
 ·exact (it_no _).1
def spW (s : ByteArray) : List ByteArray := Lib.splitB (tx [32]) 0 (Lib.countB s (tx [32])) s
theorem spl_row (r : RowV) (n : Nat) (z : Nat → Int) : spl 32 [] (rwT r n z) = rwW r n z := by
 rw [rwT_jn]; exact spl_jn 32 _ (by simp [rwW]) (rwW_no r n z)
theorem nmP_44 : nmP (44 : UInt8).toNat = true := by decide
theorem fc_ne {z : Nat → Int} {n : Nat} (h : 1 ≤ n) (h0 : 0 ≤ z 0) : fcS z n ≠ [45] := by
 rw [fc_jn z h]
 obtain ⟨m, rfl⟩ : ∃ m, n = m + 1 := ⟨n - 1, by omega⟩
 have e : ∃ r, zlD (m + 1) z = z 0 :: r := by
  unfold zlD; rw [List.range_succ_eq_map]; exact ⟨_, rfl⟩
 obtain ⟨r, hr⟩ := e
 rw [hr, List.map_cons, itoa_pos h0]
 obtain ⟨c, t, hc⟩ : ∃ c t, Lib.decDigits (z 0).toNat = c :: t := by
  cases hd : Lib.decDigits (z 0).toNat with
  | nil => exact absurd hd (dec_ne _)
  | cons c r => exact ⟨c, r, rfl⟩
 have hg := dec_all (z 0).toNat c (by rw [hc]; simp)
 have hne : c ≠ 45 := fun e => by subst e; unfold DgC at hg; have e : (45 : UInt8).toNat = 45 := rfl; omega
 rw [hc]
 cases hw : r.map Lib.itoa with
 | nil => rw [jn]; intro e; injection e with e1 e2; exact hne e1
 | cons y r => rw [jn, List.cons_append]; intro e; injection e with e1 e2; exact hne e1
theorem rw_b {r : RowV} {n : Nat} {z : Nat → Int} (h : rwB r n z = true) : (-2000 ≤ r.d ∧ r.d ≤ -3) ∧ (0 ≤ r.num ∧ r.num ≤ 1000) ∧ (0 ≤ r.ge ∧ r.ge ≤ 1000) ∧ (0 ≤ r.ex ∧ r.ex ≤ 1000) ∧ ∀ i, i < n → 0 ≤ z i ∧ z i ≤ 1000 := by
 unfold rwB at h
 simp only [Bool.and_eq_true, decide_eq_true_eq] at h
 obtain ⟨h1, h2, h3, h4, h5⟩ := h
 have a := neg_true h2
 have b := ch_val h1
 have c := inB_true h4
 have d := inB_true h5
 have e := ch_each h1
 exact ⟨a, by omega, by omega, by omega, fun i hi => by have := e i hi; omega⟩
theorem i64s {x : Int} (h0 : -2000 ≤ x) (h1 : x ≤ 1000) : I64 x := ⟨by omega, by omega⟩
theorem zl_b {n : Nat} {z : Nat → Int} (h : ∀ i, i < n → 0 ≤ z i ∧ z i ≤ 1000) : ∀ x ∈ zlD n z, 0 ≤ x ∧ x ≤ 1000 := by
 intro x hx
 obtain ⟨i, hi, rfl⟩ := List.mem_map.1 hx
 exact h i (List.mem_range.1 hi)
theorem ii_fc {r : RowV} {n : Nat} {z : Nat → Int} (h : rwB r n z = true) (hn : 1 ≤ n) : iiL (tx (fcS z n)) = zlD n z := by
 obtain ⟨_, _, _, _, e⟩ := rw_b h
 rw [fc_jn z hn]
 exact ii_jn 44 (by decide) nmP_44 _ (zlD_ne z hn) fun x hx => by have := zl_b e x hx; exact i64s (by omega) this.2
def PrIs (s : ByteArray) (r : RowV) (n : Nat) (z : Nat → Int) (ok : Bool) : Prop :=
 if ok then rwB r n z = true ∧ tx (rwT r n z) = s else r = ⟨0, 0, 0, 0⟩ ∧ n = 0 ∧ ∀ (r' : RowV) (n' : Nat) (z' : Nat → Int), rwB r' n' z' = true → tx (rwT r' n' z') ≠ s
theorem rwT_inj {r r' : RowV} {n n' : Nat} {z z' : Nat → Int} (h : rwB r n z = true) (h' : rwB r' n' z' = true) (e : tx (rwT r n z) = tx (rwT r' n' z')) : r = r' ∧ n = n' ∧ ∀ i, i < n → z i = z' i := by
 have e1 : rwT r n z = rwT r' n' z' := by rw [← tx_list (rwT r n z), e, tx_list]
 have e2 : rwW r n z = rwW r' n' z' := by rw [← spl_row, ← spl_row, e1]
 unfold rwW at e2
 injection e2 with a0 e2
 injection e2 with a1 e2
 injection e2 with a2 e2
 injection e2 with a3 e2
 injection e2 with a4 e2
 have b := rw_b h
 have b' := rw_b h'
 have it : ∀ {x y : Int}, -2000 ≤ x → x ≤ 1000 → -2000 ≤ y → y ≤ 1000 → Lib.itoa x = Lib.itoa y → x = y := fun h0 h1 h2 h3 e => by
  have p := atoi_itoa (i64s h0 h1)
  rw [e, atoi_itoa (i64s h2 h3)] at p
  injection p with p
  exact p.symm
 have c0 := it (by omega) (by omega) (by omega) (by omega) a0
 have c1 := it (by omega) (by omega) (by omega) (by omega) a1
 have c3 := it (by omega) (by omega) (by omega) (by omega) a3
 have c4 := it (by omega) (by omega) (by omega) (by omega) a4
 have hz : zlD n z = zlD n' z' := by
  by_cases q : 1 ≤ n
  ·by_cases q' : 1 ≤ n'
   ·rw [← ii_fc h q, ← ii_fc h' q', a2]
   ·obtain rfl : n' = 0 := by omega
    exact absurd a2 (fc_ne q (b.2.2.2.2 0 (by omega)).1)
  ·obtain rfl : n = 0 := by omega
   by_cases q' : 1 ≤ n'
   ·exact absurd a2.symm (fc_ne q' (b'.2.2.2.2 0 (by omega)).1)
   ·obtain rfl : n' = 0 := by omega
    rfl
 have hn : n = n' := by have := congrArg List.length hz; rw [zlD_len, zlD_len] at this; exact this
 subst hn
 refine ⟨?_, rfl, fun i hi => ?_⟩
 ·obtain ⟨d, num, ge, ex⟩ := r
  obtain ⟨d', num', ge', ex'⟩ := r'
  simp only at c0 c1 c3 c4
  subst c0; subst c1; subst c3; subst c4
  rfl
 ·have h1 := zlD_at (z := z) hi
  have h2 := zlD_at (z := z') hi
  rw [hz] at h1
  exact h1.symm.trans h2
theorem PrIs.same {s : ByteArray} {r r' : RowV} {n n' : Nat} {z z' : Nat → Int} {ok ok' : Bool} (h : PrIs s r n z ok) (h' : PrIs s r' n' z' ok') : r = r' ∧ n = n' ∧ ok = ok' ∧ ∀ i, i < n → z i = z' i := by
 cases ok <;> cases ok' <;> simp only [PrIs, Bool.false_eq_true, if_true, if_false] at h h'
 ·exact ⟨h.1.trans h'.1.symm, h.2.1.trans h'.2.1.symm, rfl, fun i hi => by omega⟩
 ·exact absurd h'.2 (h.2.2 _ _ _ h'.1)
 ·exact absurd h.2 (h'.2.2 _ _ _ h.1)
 ·obtain ⟨a, b, c⟩ := rwT_inj h.1 h'.1 (h.2.trans h'.2.symm)
  exact ⟨a, b, rfl, c⟩
end Go.Proofs.YtfoofbcmaljmoaaGreatDoor
