/-
  Plain: a candidate and what ParseRow answers.
-/
import Derived.Test.YtfoofbcmaljmoaaDoorPrs
namespace Go.Proofs.YtfoofbcmaljmoaaDoor
open Go.RowKit
set_option linter.unusedVariables false
set_option linter.unusedSimpArgs false

theorem chS_congr {z z' : Nat → Int} : ∀ {n : Nat}, (∀ i, i < n → z i = z' i) → chS z n = chS z' n
  | 0, _ => rfl
  | n + 1, h => by
    have ih := chS_congr (n := n) (fun i hi => h i (by omega))
    have hn := h n (by omega)
    have hm : 0 < n → z (n - 1) = z' (n - 1) := fun hp => h (n - 1) (by omega)
    rw [chS, chS, ih, hn]
    cases chS z' n with
    | none => rfl
    | some p =>
      simp only
      by_cases q : 0 < n
      · rw [hm q]
      · simp [q]
theorem fcS_congr {z z' : Nat → Int} : ∀ {n : Nat}, (∀ i, i < n → z i = z' i) → fcS z n = fcS z' n
  | 0, _ => rfl
  | 1, h => by rw [fcS, fcS, h 0 (by omega)]
  | n + 2, h => by rw [fcS, fcS, fcS_congr (n := n + 1) (fun i hi => h i (by omega)), h (n + 1) (by omega)]
theorem rwB_congr {r : RowV} {n : Nat} {z z' : Nat → Int} (h : ∀ i, i < n → z i = z' i) : rwB r n z = rwB r n z' := by
  unfold rwB chB cprV; rw [chS_congr h]
theorem rwT_congr {r : RowV} {n : Nat} {z z' : Nat → Int} (h : ∀ i, i < n → z i = z' i) : rwT r n z = rwT r n z' := by
  unfold rwT; rw [fcS_congr h]
/-- What a candidate is good for. -/
theorem PrIs.yes {s : ByteArray} {r R : RowV} {n : Nat} {z : Nat → Int} {ok : Bool} {F : List Int} (hP : PrIs s r n z ok) (h1 : rwB R F.length (fun i => F.getD i 0) = true) (h2 : tx (rwT R F.length (fun i => F.getD i 0)) = s) :
    R = r ∧ F.length = n ∧ ok = true ∧ ∀ i, i < n → F.getD i 0 = z i := by
  have hQ : PrIs s R F.length (fun i => F.getD i 0) true := by unfold PrIs; rw [if_pos rfl]; exact ⟨h1, h2⟩
  obtain ⟨a, b, c, d⟩ := hQ.same hP
  exact ⟨a, b, c.symm, fun i hi => d i (by omega)⟩
theorem PrIs.no {s : ByteArray} {r : RowV} {n : Nat} {z : Nat → Int} {ok : Bool} (hP : PrIs s r n z ok) (h : ∀ (r' : RowV) (n' : Nat) (z' : Nat → Int), rwB r' n' z' = true → tx (rwT r' n' z') = s → False) : r = ⟨0, 0, 0, 0⟩ ∧ n = 0 ∧ ok = false := by
  cases ok <;> simp only [PrIs, Bool.false_eq_true, if_true, if_false] at hP
  · exact ⟨hP.1, hP.2.1, rfl⟩
  · exact (h _ _ _ hP.1 hP.2).elim
theorem cand_no {s : ByteArray} {R : RowV} {F : List Int} (hc : ∀ (r' : RowV) (n' : Nat) (z' : Nat → Int), rwB r' n' z' = true → tx (rwT r' n' z') = s → R = r' ∧ F = zlD n' z') (hno : ¬ (rwB R F.length (fun i => F.getD i 0) = true ∧ tx (rwT R F.length (fun i => F.getD i 0)) = s)) :
    ∀ (r' : RowV) (n' : Nat) (z' : Nat → Int), rwB r' n' z' = true → tx (rwT r' n' z') = s → False := by
  intro r' n' z' h1 h2
  obtain ⟨rfl, rfl⟩ := hc _ _ _ h1 h2
  apply hno
  rw [zlD_len, rwB_congr (z' := z') (fun i hi => zlD_at hi), rwT_congr (z' := z') (fun i hi => zlD_at hi)]
  exact ⟨h1, h2⟩
theorem ch_grow {z : Nat → Int} : ∀ {n : Nat} {p : Int}, chS z n = some p → (n : Int) + 1 ≤ p ∧ 2 * (n : Int) ≤ p
  | 0, p, h => by rw [chS] at h; cases h; omega
  | n + 1, p, h => by
    have h2 := ch_two h
    rw [chS] at h
    split at h
    · cases h
    · rename_i p' hp
      have ih := ch_grow hp
      split at h
      · cases h
      · cases h
        have : p' * 2 ≤ p' * z n := Int.mul_le_mul_of_nonneg_left h2.1 (by omega)
        constructor <;> (push_cast; omega)
theorem ch_short {z : Nat → Int} {n : Nat} (h : chB z n = true) : n ≤ 700 := by
  unfold chB at h
  obtain ⟨p, hp⟩ := Option.isSome_iff_exists.1 h
  have h1 := ch_grow hp
  have h2 := ch_bd hp
  omega
theorem pr_ex (s : ByteArray) : ∃ (r : RowV) (n : Nat) (z : Nat → Int) (ok : Bool), PrIs s r n z ok ∧ n ≤ 700 := by
  by_cases h : ∃ (r : RowV) (n : Nat) (z : Nat → Int), rwB r n z = true ∧ tx (rwT r n z) = s
  · obtain ⟨r, n, z, h1, h2⟩ := h
    refine ⟨r, n, z, true, by unfold PrIs; rw [if_pos rfl]; exact ⟨h1, h2⟩, ?_⟩
    unfold rwB at h1
    simp only [Bool.and_eq_true] at h1
    exact ch_short h1.1
  · refine ⟨⟨0, 0, 0, 0⟩, 0, fun _ => 0, false, ?_, by omega⟩
    unfold PrIs
    rw [if_neg (by decide)]
    exact ⟨rfl, rfl, fun r' n' z' h1 h2 => h ⟨r', n', z', h1, h2⟩⟩
theorem split_sz (sep : ByteArray) : ∀ (k : Nat) (s : ByteArray), ∀ x ∈ Lib.splitB sep 0 k s, x.size ≤ s.size
  | 0, s, x, h => by simp [Lib.splitB] at h; subst h; exact Nat.le_refl _
  | k + 1, s, x, h => by
    unfold Lib.splitB at h
    split at h
    · simp at h; subst h; exact Nat.le_refl _
    · rcases List.mem_cons.1 h with h | h
      · subst h; rw [ByteArray.size_extract]; omega
      · have := split_sz sep k _ x h
        rw [ByteArray.size_extract] at this
        omega
theorem spW_sz (s : ByteArray) : ∀ x ∈ spW s, x.size ≤ s.size := split_sz _ _ _
end Go.Proofs.YtfoofbcmaljmoaaDoor
