/- foInt. -/
import Derived.Test.YtfoofbcmaljmoaaGreatDoorRdw
namespace Go.Proofs.YtfoofbcmaljmoaaGreatDoor
open Go.RowKit
set_option linter.unusedVariables false
set_option linter.unusedSimpArgs false
attribute [local go_sem] q2 q3 q4 q5 q6 q7 q8 q9 q10 q11 q12
set_option maxRecDepth 100000 in
set_option maxHeartbeats 4000000 in
theorem foInt_a (s : ByteArray) (w : World) (hs : s.size ≤ 2100000) : Calls Tryz.prog 45 #[.string s] w fun e w' => e = .returned (.tuple #[.int .i64 (foI s.data.toList).1, .bool (foI s.data.toList).2]) ∧ w = w' := by
 have hL : s.data.toList.length = s.size := Array.length_toList
 have key : ∀ (n : Int) (mi : Bool), -1 ≤ n ∧ n ≤ 10000000000 → Hid (foI s.data.toList = if n < 0 ∨ (mi = true ∧ n = 0) ∨ 1000000 < n then (0, false) else (if mi then -n else n, true)) →
   (mi = true → Hid (1 < s.size ∧ ∃ h : 0 < s.size, s[0] = 45) ∧ ∀ W, Calls Tryz.prog 61 #[.string (s.extract 1 s.size)] W fun e w' => e = .returned (.int .i64 n) ∧ W = w') →
   (mi = false → Hid (¬ (1 < s.size ∧ ∃ h : 0 < s.size, s[0] = 45)) ∧ ∀ W, Calls Tryz.prog 61 #[.string s] W fun e w' => e = .returned (.int .i64 n) ∧ W = w') →
   Calls Tryz.prog 45 #[.string s] w fun e w' => e = .returned (.tuple #[.int .i64 (foI s.data.toList).1, .bool (foI s.data.toList).2]) ∧ w = w' := by
  intro n mi hn HF h1 h2
  clear hL
  generalize foI s.data.toList = R at *
  cases mi
  ·obtain ⟨hm, hC⟩ := h2 rfl
   have HC := hide hC
   clear h1 h2 hC
   have pp : ¬ (1 : Int) < (s.size : Int) ∨ ∃ h : 0 < s.size, (1 : Int) < (s.size : Int) ∧ ((s[0].toNat : Int) == 45) = false := by
    by_cases r : 1 < s.size
    ·refine .inr ⟨by omega, by omega, ?_⟩
     have : ¬ (s[0].toNat : Int) = 45 := fun h => unhide hm ⟨r, by omega, UInt8.toNat_inj.1 (by have e : (45 : UInt8).toNat = 45 := rfl; omega)⟩
     simpa using this
    ·exact .inl (by omega)
   have rr : (n < 0 ∧ Hid (R = (0, false))) ∨ (¬ n < 0 ∧ (1000000 : Int) < n ∧ Hid (R = (0, false))) ∨ (¬ n < 0 ∧ ¬ (1000000 : Int) < n ∧ Hid (R = (n, true))) := by
    have h := unhide HF
    by_cases r1 : n < 0
    ·exact .inl ⟨r1, hide (by rw [h, if_pos (.inl r1)])⟩
    ·by_cases r2 : 1000000 < n
     ·exact .inr (.inl ⟨r1, r2, hide (by rw [h, if_pos (.inr (.inr r2))])⟩)
     ·exact .inr (.inr ⟨r1, r2, hide (by rw [h, if_neg (by simp; omega)]; rfl)⟩)
   clear HF hm
   rcases pp with pp | ⟨p0, pp, pq⟩ <;> rcases rr with ⟨r1, HR⟩ | ⟨r1, r2, HR⟩ | ⟨r1, r2, HR⟩
   all_goals
    go_enter Tryz.func45, Tryz.ntmps45
    go_wp2_with (go_at_call 61; refine ((unhide HC) _).mono ?_; rintro e w2 ⟨rfl, rfl⟩)
    go_ret2
    exact ⟨by rw [unhide HR]; rfl, rfl⟩
  ·obtain ⟨hm, hC⟩ := h1 rfl
   have HC := hide hC
   clear h1 h2 hC
   obtain ⟨p1, p0, p2⟩ := unhide hm
   have pp : (1 : Int) < (s.size : Int) := by omega
   have pq : ((s[0].toNat : Int) == 45) = true := by rw [p2]; rfl
   have rr : (n < 0 ∧ Hid (R = (0, false))) ∨ (¬ n < 0 ∧ n = 0 ∧ Hid (R = (0, false))) ∨ (¬ n < 0 ∧ (n == 0) = false ∧ (1000000 : Int) < n ∧ Hid (R = (0, false))) ∨ (¬ n < 0 ∧ (n == 0) = false ∧ ¬ (1000000 : Int) < n ∧ Hid (R = (-n, true))) := by
    have h := unhide HF
    by_cases r1 : n < 0
    ·exact .inl ⟨r1, hide (by rw [h, if_pos (.inl r1)])⟩
    ·by_cases r0 : n = 0
     ·exact .inr (.inl ⟨r1, r0, hide (by rw [h, if_pos (.inr (.inl ⟨rfl, r0⟩))])⟩)
     ·by_cases r2 : 1000000 < n
      ·exact .inr (.inr (.inl ⟨r1, by simpa using r0, r2, hide (by rw [h, if_pos (.inr (.inr r2))])⟩))
      ·exact .inr (.inr (.inr ⟨r1, by simpa using r0, r2, hide (by rw [h, if_neg (by simp; omega)]; rfl)⟩))
   clear HF hm p2
   rcases rr with ⟨r1, HR⟩ | ⟨r1, r0, HR⟩ | ⟨r1, r0, r2, HR⟩ | ⟨r1, r0, r2, HR⟩
   case inr.inl => subst r0; (go_enter Tryz.func45, Tryz.ntmps45; go_wp2_with (go_at_call 61; refine ((unhide HC) _).mono ?_; rintro e w2 ⟨rfl, rfl⟩); go_ret2; exact ⟨by rw [unhide HR]; rfl, rfl⟩)
   all_goals
    go_enter Tryz.func45, Tryz.ntmps45
    go_wp2_with (go_at_call 61; refine ((unhide HC) _).mono ?_; rintro e w2 ⟨rfl, rfl⟩)
    go_ret2
    exact ⟨by rw [unhide HR]; rfl, rfl⟩
 have hd : ∀ h : 0 < s.size, s.data.toList.head? = some s[0] := fun h => by rw [List.head?_eq_getElem?, List.getElem?_eq_getElem (by omega)]; rfl
 by_cases m : 1 < s.size ∧ ∃ h : 0 < s.size, s[0] = 45
 ·have hm : foMin s.data.toList = true := by
   obtain ⟨m1, m0, m2⟩ := m
   simp [foMin, hd m0, m2]; omega
  have ht : (s.extract 1 s.size).data.toList = s.data.toList.tail := by
   rw [Lib.extract_data, List.drop_one]
   exact List.take_of_length_le (by rw [List.length_tail]; omega)
  refine key (rdN 10 s.data.toList.tail) true (rdN_b (by omega) _) (hide (by unfold foI; rw [hm]; rfl)) (fun _ => ⟨hide m, fun W => ?_⟩) (fun h => by cases h)
  have := nuRead_a (s.extract 1 s.size) W (by rw [ByteArray.size_extract]; omega)
  rw [ht] at this
  exact this
 ·have hm : foMin s.data.toList = false := by
   unfold foMin
   by_cases r : 1 < s.size
   ·have h0 : 0 < s.size := by omega
    have : ¬ s[0] = 45 := fun e => m ⟨r, h0, e⟩
    rw [hd h0]; simp [this]
   ·have : ¬ 1 < s.data.toList.length := by omega
    exact Bool.and_eq_false_iff.2 (.inl (decide_eq_false this))
  exact key (rdN 10 s.data.toList) false (rdN_b (by omega) _) (hide (by unfold foI; rw [hm]; rfl)) (fun h => by cases h) (fun _ => ⟨hide m, fun W => nuRead_a s W hs⟩)
end Go.Proofs.YtfoofbcmaljmoaaGreatDoor
