/-
  Chains of factors on both sides.
-/
import Derived.Test.YtfoofbcmaljmoaaDoorArI
namespace Go.Proofs.YtfoofbcmaljmoaaDoor
open Go.RowKit
set_option linter.unusedVariables false
set_option linter.unusedSimpArgs false
attribute [local go_sem] q2 q3 q4 q5 q6 q7 q8 q9 q10 q11 q12

/-- The product of the first j factors, if they are a chain so far. -/
def chS (z : Nat → Int) : Nat → Option Int
  | 0 => some 1
  | j + 1 => match chS z j with
    | none => none
    | some p => if z j < 2 ∨ 1000 < z j ∨ (0 < j ∧ z j % z (j - 1) ≠ 0) ∨ 1000 < p * z j then none else some (p * z j)
def cprV (z : Nat → Int) (n : Nat) : Int := (chS z n).getD 0
def chB (z : Nat → Int) (n : Nat) : Bool := (chS z n).isSome
theorem chS_no {z : Nat → Int} {j : Nat} (h : chS z j = none) : ∀ n, j ≤ n → chS z n = none
  | 0, hn => by rw [show (0 : Nat) = j by omega]; exact h
  | n + 1, hn => by
    by_cases q : j = n + 1
    · rw [← q]; exact h
    · rw [chS, chS_no h n (by omega)]
theorem ch_bad {z : Nat → Int} {j n : Nat} {p : Int} (h : chS z j = some p) (hb : z j < 2 ∨ 1000 < z j ∨ (0 < j ∧ z j % z (j - 1) ≠ 0) ∨ 1000 < p * z j) (hn : j < n) : cprV z n = 0 ∧ chB z n = false := by
  have h1 : chS z (j + 1) = none := by rw [chS, h]; exact if_pos hb
  have h2 := chS_no h1 n hn
  exact ⟨by unfold cprV; rw [h2]; rfl, by unfold chB; rw [h2]; rfl⟩
theorem ch_next {z : Nat → Int} {j : Nat} {p : Int} (h : chS z j = some p) (h1 : 2 ≤ z j) (h2 : z j ≤ 1000) (h3 : j = 0 ∨ z j % z (j - 1) = 0) (h4 : p * z j ≤ 1000) : chS z (j + 1) = some (p * z j) := by
  rw [chS, h]
  refine if_neg ?_
  rintro (q | q | ⟨q, q'⟩ | q)
  · omega
  · omega
  · rcases h3 with h3 | h3
    · omega
    · exact q' h3
  · omega
theorem ch_end {z : Nat → Int} {n : Nat} {p : Int} (h : chS z n = some p) : cprV z n = p ∧ chB z n = true := ⟨by unfold cprV; rw [h]; rfl, by unfold chB; rw [h]; rfl⟩
theorem ch_two {z : Nat → Int} {i : Nat} {p : Int} (h : chS z (i + 1) = some p) : 2 ≤ z i ∧ z i ≤ 1000 := by
  rw [chS] at h
  split at h
  · cases h
  · split at h
    · cases h
    · rename_i q
      simp only [not_or] at q
      omega
theorem ch_bd {z : Nat → Int} : ∀ {j : Nat} {p : Int}, chS z j = some p → 1 ≤ p ∧ p ≤ 1000
  | 0, p, h => by rw [chS] at h; cases h; omega
  | j + 1, p, h => by
    have h2 := ch_two h
    rw [chS] at h
    split at h
    · cases h
    · rename_i p' hp
      have := ch_bd hp
      split at h
      · cases h
      · rename_i q
        cases h
        simp only [not_or] at q
        refine ⟨?_, by omega⟩
        have := Int.mul_le_mul (show (1 : Int) ≤ p' by omega) (show (1 : Int) ≤ z j by omega) (by omega) (by omega)
        omega

set_option maxRecDepth 100000 in
set_option maxHeartbeats 4000000 in
theorem isChain_a (v : Value) (n : Nat) (z : Nat → Int) (w : World) (h : ArgI w v n z) (hn : n ≤ 2000000) :
    Calls Tryd.prog 31 #[v] w fun e w' => e = .returned (.tuple #[.int .i64 (cprV z n), .bool (chB z n)]) ∧ w = w' := by
  have HA := hide h
  obtain ⟨a, c, rfl⟩ := h.len
  clear h
  go_enter Tryd.func31, Tryd.ntmps31
  go_wp2
  go_loop [4, 9] (fun ps is => ∃ (jx : Nat) (p : Int), jx ≤ n ∧ is = .int .i64 (jx : Int) ∧ ps = .int .i64 p ∧ Hid (chS z jx = some p)) (fun _ is => n - (intOf is).toNat)
  case atStart => exact ⟨0, 1, Nat.zero_le _, rfl, rfl, hide rfl⟩
  case round =>
    obtain ⟨jx, p, hj, rfl, rfl, hp⟩ := hrel
    have hpb := ch_bd (unhide hp)
    by_cases q : jx < n
    · have hci : (jx : Int) < (n : Int) := by omega
      obtain ⟨b, off, hv, hcs⟩ := (unhide HA).cells (by omega)
      have c0 := hcs jx q
      subst hv
      obtain ⟨x, hx⟩ : ∃ x, z jx = x := ⟨_, rfl⟩
      rw [hx] at c0
      have HX := hide hx
      clear hx
      by_cases c1 : x < 2
      · clear hcs
        have HV := hide (ch_bad (n := n) (unhide hp) (by rw [unhide HX]; exact .inl c1) q)
        skip
        go_wp2
        go_ret2
        exact ⟨by rw [(unhide HV).1, (unhide HV).2]; rfl, rfl⟩
      · by_cases c2 : 1000 < x
        · clear hcs
          have HV := hide (ch_bad (n := n) (unhide hp) (by rw [unhide HX]; exact .inr (.inl c2)) q)
          have c1' : 2 ≤ x := by omega
          go_wp2
          go_ret2
          exact ⟨by rw [(unhide HV).1, (unhide HV).2]; rfl, rfl⟩
        · have c1' : 2 ≤ x := by omega
          have c2' : x ≤ 1000 := by omega
          by_cases c3 : jx = 0
          · have hj0 : ¬ 0 < (jx : Int) := by omega
            have hj1 : (jx : Int) ≤ 0 := by omega
            have HC3 := hide c3
            clear hcs c1 c2 c3
            by_cases c4 : p * x ≤ 1000
            · have HN : Hid (chS z (jx + 1) = some (p * x)) := hide (by rw [← unhide HX]; exact ch_next (unhide hp) (by rw [unhide HX]; omega) (by rw [unhide HX]; omega) (.inl (unhide HC3)) (by rw [unhide HX]; exact c4))
              have hpx : 0 ≤ p * x := Int.mul_nonneg (by omega) (by omega)
              go_wp2
              go_round
              case rel => exact ⟨jx + 1, p * x, by omega, by go_num, rfl, HN⟩
              case measure => simp [intOf]; omega
            · have HV := hide (ch_bad (n := n) (unhide hp) (by rw [unhide HX]; right; right; right; omega) q)
              have hpx : 0 ≤ p * x ∧ p * x ≤ 1000000 := ⟨Int.mul_nonneg (by omega) (by omega), by have := Int.mul_le_mul (show p ≤ 1000 by omega) (show x ≤ 1000 by omega) (by omega) (by omega); omega⟩
              go_wp2
              go_ret2
              exact ⟨by rw [(unhide HV).1, (unhide HV).2]; rfl, rfl⟩
          · obtain ⟨i, rfl⟩ : ∃ i, jx = i + 1 := ⟨jx - 1, by omega⟩
            have hy2 := ch_two (unhide hp)
            have d0 := hcs i (by omega)
            obtain ⟨y, hy⟩ : ∃ y, z i = y := ⟨_, rfl⟩
            rw [hy] at d0 hy2
            have HY := hide hy
            clear hy hcs c1 c2 c3
            by_cases c5 : x % y = 0
            · have t5 : (x % y != 0) = false := by simp [c5]
              by_cases c4 : p * x ≤ 1000
              · have HN : Hid (chS z ((i + 1) + 1) = some (p * x)) := hide (by rw [← unhide HX]; exact ch_next (unhide hp) (by rw [unhide HX]; omega) (by rw [unhide HX]; omega) (.inr (by rw [unhide HX]; show x % z (i + 1 - 1) = 0; rw [Nat.add_sub_cancel, unhide HY]; exact c5)) (by rw [unhide HX]; exact c4))
                have hpx : 0 ≤ p * x := Int.mul_nonneg (by omega) (by omega)
                go_wp2
                go_round
                case rel => exact ⟨(i + 1) + 1, p * x, by omega, by go_num, rfl, HN⟩
                case measure => simp [intOf]; omega
              · have HV := hide (ch_bad (n := n) (unhide hp) (by rw [unhide HX]; right; right; right; omega) q)
                have hpx : 0 ≤ p * x ∧ p * x ≤ 1000000 := ⟨Int.mul_nonneg (by omega) (by omega), by have := Int.mul_le_mul (show p ≤ 1000 by omega) (show x ≤ 1000 by omega) (by omega) (by omega); omega⟩
                go_wp2
                go_ret2
                exact ⟨by rw [(unhide HV).1, (unhide HV).2]; rfl, rfl⟩
            · have t5 : (x % y != 0) = true := by simp [c5]
              have HV := hide (ch_bad (n := n) (unhide hp) (by rw [unhide HX]; refine .inr (.inr (.inl ⟨by omega, ?_⟩)); rw [Nat.add_sub_cancel, unhide HY]; exact c5) q)
              skip
              go_wp2
              go_ret2
              exact ⟨by rw [(unhide HV).1, (unhide HV).2]; rfl, rfl⟩
    · obtain rfl : jx = n := by omega
      have HV := hide (ch_end (unhide hp))
      go_wp2
      go_ret2
      exact ⟨by rw [(unhide HV).1, (unhide HV).2]; rfl, rfl⟩

set_option maxRecDepth 100000 in
set_option maxHeartbeats 4000000 in
theorem tbFactors_a (v : Value) (n : Nat) (z : Nat → Int) (w : World) (h : ArgI w v n z) (hn : n ≤ 2000000) :
    Calls Tryd.prog 23 #[v] w fun e w' => e = .returned (.tuple #[.int .i64 (cprV z n), .bool (chB z n)]) ∧ w = w' := by
  have HA := hide h
  obtain ⟨a, c, rfl⟩ := h.len
  clear h
  go_enter Tryd.func23, Tryd.ntmps23
  go_wp2
  go_loop [4, 9] (fun ps is => ∃ (jx : Nat) (p : Int), jx ≤ n ∧ is = .int .i64 (jx : Int) ∧ ps = .int .i64 p ∧ Hid (chS z jx = some p)) (fun _ is => n - (intOf is).toNat)
  case atStart => exact ⟨0, 1, Nat.zero_le _, rfl, rfl, hide rfl⟩
  case round =>
    obtain ⟨jx, p, hj, rfl, rfl, hp⟩ := hrel
    have hpb := ch_bd (unhide hp)
    by_cases q : jx < n
    · have hci : (jx : Int) < (n : Int) := by omega
      obtain ⟨b, off, hv, hcs⟩ := (unhide HA).cells (by omega)
      have c0 := hcs jx q
      subst hv
      obtain ⟨x, hx⟩ : ∃ x, z jx = x := ⟨_, rfl⟩
      rw [hx] at c0
      have HX := hide hx
      clear hx
      by_cases c1 : x < 2
      · clear hcs
        have HV := hide (ch_bad (n := n) (unhide hp) (by rw [unhide HX]; exact .inl c1) q)
        skip
        have hin : inB x 2 1000 = false := by unfold inB; simp; omega
        go_wp2_with (go_at_call 22; refine (l1In_any _ _ _ _).mono ?_; rintro e w' ⟨rfl, rfl⟩)
        go_ret2
        exact ⟨by rw [(unhide HV).1, (unhide HV).2]; rfl, rfl⟩
      · by_cases c2 : 1000 < x
        · clear hcs
          have HV := hide (ch_bad (n := n) (unhide hp) (by rw [unhide HX]; exact .inr (.inl c2)) q)
          have c1' : 2 ≤ x := by omega
          have hin : inB x 2 1000 = false := by unfold inB; simp; omega
          go_wp2_with (go_at_call 22; refine (l1In_any _ _ _ _).mono ?_; rintro e w' ⟨rfl, rfl⟩)
          go_ret2
          exact ⟨by rw [(unhide HV).1, (unhide HV).2]; rfl, rfl⟩
        · have c1' : 2 ≤ x := by omega
          have c2' : x ≤ 1000 := by omega
          by_cases c3 : jx = 0
          · have hj0 : ¬ 0 < (jx : Int) := by omega
            have hj1 : (jx : Int) ≤ 0 := by omega
            have HC3 := hide c3
            clear hcs c1 c2 c3
            by_cases c4 : p * x ≤ 1000
            · have HN : Hid (chS z (jx + 1) = some (p * x)) := hide (by rw [← unhide HX]; exact ch_next (unhide hp) (by rw [unhide HX]; omega) (by rw [unhide HX]; omega) (.inl (unhide HC3)) (by rw [unhide HX]; exact c4))
              have hpx : 0 ≤ p * x := Int.mul_nonneg (by omega) (by omega)
              have hin : inB x 2 1000 = true := by unfold inB; simp; omega
              go_wp2_with (go_at_call 22; refine (l1In_any _ _ _ _).mono ?_; rintro e w' ⟨rfl, rfl⟩)
              go_round
              case rel => exact ⟨jx + 1, p * x, by omega, by go_num, rfl, HN⟩
              case measure => simp [intOf]; omega
            · have HV := hide (ch_bad (n := n) (unhide hp) (by rw [unhide HX]; right; right; right; omega) q)
              have hpx : 0 ≤ p * x ∧ p * x ≤ 1000000 := ⟨Int.mul_nonneg (by omega) (by omega), by have := Int.mul_le_mul (show p ≤ 1000 by omega) (show x ≤ 1000 by omega) (by omega) (by omega); omega⟩
              have hin : inB x 2 1000 = true := by unfold inB; simp; omega
              go_wp2_with (go_at_call 22; refine (l1In_any _ _ _ _).mono ?_; rintro e w' ⟨rfl, rfl⟩)
              go_ret2
              exact ⟨by rw [(unhide HV).1, (unhide HV).2]; rfl, rfl⟩
          · obtain ⟨i, rfl⟩ : ∃ i, jx = i + 1 := ⟨jx - 1, by omega⟩
            have hy2 := ch_two (unhide hp)
            have d0 := hcs i (by omega)
            obtain ⟨y, hy⟩ : ∃ y, z i = y := ⟨_, rfl⟩
            rw [hy] at d0 hy2
            have HY := hide hy
            clear hy hcs c1 c2 c3
            by_cases c5 : x % y = 0
            · have t5 : (x % y != 0) = false := by simp [c5]
              by_cases c4 : p * x ≤ 1000
              · have HN : Hid (chS z ((i + 1) + 1) = some (p * x)) := hide (by rw [← unhide HX]; exact ch_next (unhide hp) (by rw [unhide HX]; omega) (by rw [unhide HX]; omega) (.inr (by rw [unhide HX]; show x % z (i + 1 - 1) = 0; rw [Nat.add_sub_cancel, unhide HY]; exact c5)) (by rw [unhide HX]; exact c4))
                have hpx : 0 ≤ p * x := Int.mul_nonneg (by omega) (by omega)
                have hin : inB x 2 1000 = true := by unfold inB; simp; omega
                go_wp2_with (go_at_call 22; refine (l1In_any _ _ _ _).mono ?_; rintro e w' ⟨rfl, rfl⟩)
                go_round
                case rel => exact ⟨(i + 1) + 1, p * x, by omega, by go_num, rfl, HN⟩
                case measure => simp [intOf]; omega
              · have HV := hide (ch_bad (n := n) (unhide hp) (by rw [unhide HX]; right; right; right; omega) q)
                have hpx : 0 ≤ p * x ∧ p * x ≤ 1000000 := ⟨Int.mul_nonneg (by omega) (by omega), by have := Int.mul_le_mul (show p ≤ 1000 by omega) (show x ≤ 1000 by omega) (by omega) (by omega); omega⟩
                have hin : inB x 2 1000 = true := by unfold inB; simp; omega
                go_wp2_with (go_at_call 22; refine (l1In_any _ _ _ _).mono ?_; rintro e w' ⟨rfl, rfl⟩)
                go_ret2
                exact ⟨by rw [(unhide HV).1, (unhide HV).2]; rfl, rfl⟩
            · have t5 : (x % y != 0) = true := by simp [c5]
              have HV := hide (ch_bad (n := n) (unhide hp) (by rw [unhide HX]; refine .inr (.inr (.inl ⟨by omega, ?_⟩)); rw [Nat.add_sub_cancel, unhide HY]; exact c5) q)
              skip
              have hin : inB x 2 1000 = true := by unfold inB; simp; omega
              go_wp2_with (go_at_call 22; refine (l1In_any _ _ _ _).mono ?_; rintro e w' ⟨rfl, rfl⟩)
              go_ret2
              exact ⟨by rw [(unhide HV).1, (unhide HV).2]; rfl, rfl⟩
    · obtain rfl : jx = n := by omega
      have HV := hide (ch_end (unhide hp))
      go_wp2
      go_ret2
      exact ⟨by rw [(unhide HV).1, (unhide HV).2]; rfl, rfl⟩
end Go.Proofs.YtfoofbcmaljmoaaDoor
