/- Names on both sides. -/
import Derived.Test.YtfoofbcmaljmoaaGreatDoorForm
namespace Go.Proofs.YtfoofbcmaljmoaaGreatDoor
open Go.RowKit
set_option linter.unusedVariables false
set_option linter.unusedSimpArgs false
attribute [local go_sem] q2 q3 q4 q5 q6 q7 q8 q9 q10 q11 q12

def lowB (c : UInt8) : Bool := decide (97 ≤ (c.toNat : Int)) && decide ((c.toNat : Int) ≤ 122)
def lowsB (s : ByteArray) (k : Nat) : Bool := (s.data.toList.take k).all lowB
def nmB (s : ByteArray) : Bool := s.data.toList.all lowB && (decide (1 ≤ s.size) && decide (s.size ≤ 8))
theorem low_snoc (s : ByteArray) (k : Nat) (h : k < s.size) : s.data.toList.take (k + 1) = s.data.toList.take k ++ [s[k]] := by
 rw [List.take_succ_eq_append_getElem (by simpa using h)]; rfl
theorem lows_next {s : ByteArray} {k : Nat} (h : k < s.size) (h1 : lowsB s k = true) (h2 : lowB s[k] = true) : lowsB s (k + 1) = true := by
 unfold lowsB at *
 rw [low_snoc s k h, List.all_append, h1]
 simp [h2]
theorem nm_bad {s : ByteArray} {k : Nat} (h : k < s.size) (h2 : lowB s[k] = false) : nmB s = false := by
 unfold nmB
 rw [Bool.and_eq_false_iff]; left
 rw [List.all_eq_false]
 exact ⟨s[k], List.getElem_mem (l := s.data.toList) (n := k) (by rw [Array.length_toList]; exact h), by simp [h2]⟩
theorem nm_end {s : ByteArray} (h : lowsB s s.size = true) : nmB s = (decide (1 ≤ s.size) && decide (s.size ≤ 8)) := by
 unfold nmB
 have e : s.data.toList.take s.size = s.data.toList := List.take_of_length_le (Nat.le_of_eq (Array.length_toList))
 unfold lowsB at h
 rw [e] at h
 rw [h, Bool.true_and]

set_option maxRecDepth 100000 in
set_option maxHeartbeats 1000000 in
theorem isName_a (s : ByteArray) (w : World) (hs : s.size ≤ 9223372036854775807) :
  Calls Tryz.prog 24 #[.string s] w fun e w' => e = .returned (.bool (nmB s)) ∧ w = w' := by
 go_enter Tryz.func24, Tryz.ntmps24
 go_wp2
 go_loop [3] (fun i => ∃ k : Nat, k ≤ s.size ∧ i = .int .i64 (k : Int) ∧ Hid (lowsB s k = true)) (fun i => s.size - (intOf i).toNat)
 case atStart => exact ⟨0, Nat.zero_le _, rfl, hide rfl⟩
 case round =>
  obtain ⟨k, hk, rfl, hl⟩ := hrel
  by_cases hlt : k < s.size
  ·have hlt2 : (k : Int) < (s.size : Int) := by omega
   cases hc : lowB s[k]
   ·have HV : Hid (nmB s = false) := hide (nm_bad hlt hc)
    have hcc : ¬ (97 ≤ (s[k].toNat : Int)) ∨ ¬ ((s[k].toNat : Int) ≤ 122) := by
     unfold lowB at hc
     rw [Bool.and_eq_false_iff] at hc
     simpa using hc
    clear hc
    rcases hcc with hc1 | hc1
    all_goals
     go_wp2
     all_goals (go_ret; exact ⟨by rw [unhide HV]; rfl, rfl⟩)
   ·have HN : Hid (lowsB s (k + 1) = true) := hide (lows_next hlt (unhide hl) hc)
    have hcc : 97 ≤ (s[k].toNat : Int) ∧ (s[k].toNat : Int) ≤ 122 := by
     unfold lowB at hc
     simpa using hc
    obtain ⟨c1, c2⟩ := hcc
    clear hc
    go_wp2
    go_round
    case rel => exact ⟨k + 1, by omega, by go_num, HN⟩
    case measure => simp [intOf]; omega
  ·obtain rfl : k = s.size := by omega
   have HE : Hid (nmB s = (decide (1 ≤ s.size) && decide (s.size ≤ 8))) := hide (nm_end (unhide hl))
   by_cases q1 : 1 ≤ s.size
   ·by_cases q2 : s.size ≤ 8
    ·have HV : Hid (nmB s = true) := hide (by rw [unhide HE]; simp [q1, q2])
     go_wp2
     go_ret
     exact ⟨ret_bool (by first | rw [unhide HV]; done | rw [unhide HV]; first | done | rfl | (simp; omega) | (unfold inB; simp; omega)), rfl⟩
    ·have HV : Hid (nmB s = false) := hide (by rw [unhide HE]; simp [q2])
     go_wp2
     go_ret
     exact ⟨ret_bool (by first | rw [unhide HV]; done | rw [unhide HV]; first | done | rfl | (simp; omega) | (unfold inB; simp; omega)), rfl⟩
   ·have HV : Hid (nmB s = false) := hide (by rw [unhide HE]; simp [q1])
    go_wp2
    go_ret
    exact ⟨ret_bool (by first | rw [unhide HV]; done | rw [unhide HV]; first | done | rfl | (simp; omega) | (unfold inB; simp; omega)), rfl⟩

set_option maxRecDepth 100000 in
set_option maxHeartbeats 1000000 in
theorem lgName_a (s : ByteArray) (w : World) (hs : s.size ≤ 9223372036854775807) :
  Calls Tryz.prog 29 #[.string s] w fun e w' => e = .returned (.bool (nmB s)) ∧ w = w' := by
 go_enter Tryz.func29, Tryz.ntmps29
 go_wp2
 go_loop [3] (fun i => ∃ k : Nat, k ≤ s.size ∧ i = .int .i64 (k : Int) ∧ Hid (lowsB s k = true)) (fun i => s.size - (intOf i).toNat)
 case atStart => exact ⟨0, Nat.zero_le _, rfl, hide rfl⟩
 case round =>
  obtain ⟨k, hk, rfl, hl⟩ := hrel
  by_cases hlt : k < s.size
  ·have hlt2 : (k : Int) < (s.size : Int) := by omega
   cases hc : lowB s[k]
   ·have HV : Hid (nmB s = false) := hide (nm_bad hlt hc)
    have hcc : ¬ (97 ≤ (s[k].toNat : Int)) ∨ ¬ ((s[k].toNat : Int) ≤ 122) := by
     unfold lowB at hc
     rw [Bool.and_eq_false_iff] at hc
     simpa using hc
    clear hc
    rcases hcc with hc1 | hc1
    all_goals
     go_wp2
     all_goals (go_ret; exact ⟨by rw [unhide HV]; rfl, rfl⟩)
   ·have HN : Hid (lowsB s (k + 1) = true) := hide (lows_next hlt (unhide hl) hc)
    have hcc : 97 ≤ (s[k].toNat : Int) ∧ (s[k].toNat : Int) ≤ 122 := by
     unfold lowB at hc
     simpa using hc
    obtain ⟨c1, c2⟩ := hcc
    clear hc
    go_wp2
    go_round
    case rel => exact ⟨k + 1, by omega, by go_num, HN⟩
    case measure => simp [intOf]; omega
  ·obtain rfl : k = s.size := by omega
   have HE : Hid (nmB s = (decide (1 ≤ s.size) && decide (s.size ≤ 8))) := hide (nm_end (unhide hl))
   by_cases q1 : 1 ≤ s.size
   ·by_cases q2 : s.size ≤ 8
    ·have HV : Hid (nmB s = true) := hide (by rw [unhide HE]; simp [q1, q2])
     go_wp2_with (go_at_call 14; refine (l1In_any _ _ _ _).mono ?_; rintro e w' ⟨rfl, rfl⟩)
     go_ret
     exact ⟨ret_bool (by first | rw [unhide HV]; done | rw [unhide HV]; first | done | rfl | (simp; omega) | (unfold inB; simp; omega)), rfl⟩
    ·have HV : Hid (nmB s = false) := hide (by rw [unhide HE]; simp [q2])
     go_wp2_with (go_at_call 14; refine (l1In_any _ _ _ _).mono ?_; rintro e w' ⟨rfl, rfl⟩)
     go_ret
     exact ⟨ret_bool (by first | rw [unhide HV]; done | rw [unhide HV]; first | done | rfl | (simp; omega) | (unfold inB; simp; omega)), rfl⟩
   ·have HV : Hid (nmB s = false) := hide (by rw [unhide HE]; simp [q1])
    go_wp2_with (go_at_call 14; refine (l1In_any _ _ _ _).mono ?_; rintro e w' ⟨rfl, rfl⟩)
    go_ret
    exact ⟨ret_bool (by first | rw [unhide HV]; done | rw [unhide HV]; first | done | rfl | (simp; omega) | (unfold inB; simp; omega)), rfl⟩
end Go.Proofs.YtfoofbcmaljmoaaGreatDoor
