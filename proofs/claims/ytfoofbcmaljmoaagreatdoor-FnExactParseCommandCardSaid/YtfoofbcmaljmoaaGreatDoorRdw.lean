/- nuRead, l1Read. -/
import Derived.Test.YtfoofbcmaljmoaaGreatDoorSpl
namespace Go.Proofs.YtfoofbcmaljmoaaGreatDoor
open Go.RowKit
set_option linter.unusedVariables false
set_option linter.unusedSimpArgs false
attribute [local go_sem] q2 q3 q4 q5 q6 q7 q8 q9 q10 q11 q12
set_option maxRecDepth 100000 in
set_option maxHeartbeats 4000000 in
theorem nuRead_a (s : ByteArray) (w : World) (hs : s.size ≤ 2100000) : Calls Tryz.prog 61 #[.string s] w fun e w' => e = .returned (.int .i64 (rdN 10 s.data.toList)) ∧ w = w' := by
 have hL : s.data.toList.length = s.size := Array.length_toList
 have HI : Hid (∀ (x : Int) W, Calls Tryz.prog 14 #[.int .i64 x, .int .i64 1, .int .i64 10] W fun e w' => e = .returned (.bool (inB x 1 10)) ∧ w' = W) := hide fun x W => (l1In_any x 1 10 W).mono fun e w' h => by first | exact h | exact ⟨h.1, h.2.symm⟩
 by_cases q : 1 ≤ s.size ∧ s.size ≤ 10
 ·obtain ⟨q1, q2⟩ := q
  have h0 : 0 < s.size := by omega
  have hB : inB (s.size : Int) 1 10 = true := by simp [inB]; omega
  have hh : s.data.toList.head? = some s[0] := by
   rw [List.head?_eq_getElem?, List.getElem?_eq_getElem (by omega)]; rfl
  by_cases p : s[0] = 48 ∧ 1 < s.size
  ·obtain ⟨p1, p2⟩ := p
   have HV : Hid (rdN 10 s.data.toList = -1) := hide (by unfold rdN; rw [if_pos]; exact .inr (.inr ⟨by rw [hh, p1], by omega⟩))
   have e1 : ((s[0].toNat : Int) == 48) = true := by rw [p1]; rfl
   have e2 : (1 : Int) < (s.size : Int) := by omega
   clear hh p1 hL
   go_enter Tryz.func61, Tryz.ntmps61
   go_wp2_with (go_at_call 14; refine ((unhide HI) _ _).mono ?_; rw [hB]; rintro e w2 ⟨rfl, rfl⟩)
   go_ret
   exact ⟨by rw [unhide HV]; rfl, rfl⟩
  ·have HV : Hid (rdN 10 s.data.toList = rdF 0 s.data.toList) := hide (by
    unfold rdN
    rw [if_neg]
    rintro (r | r | ⟨r, r2⟩)
    ·omega
    ·omega
    ·rw [hh] at r; injection r with r; exact p ⟨r, by omega⟩)
   have HZ0 : Hid (s.data.toList.drop s.size = []) := hide (List.drop_eq_nil_of_le (by omega))
   clear hh
   have pp : ((s[0].toNat : Int) == 48) = false ∨ (((s[0].toNat : Int) == 48) = true ∧ ¬ (1 : Int) < (s.size : Int)) := by
    by_cases r : s[0] = 48
    ·exact .inr ⟨by rw [r]; rfl, fun h => p ⟨r, by omega⟩⟩
    ·exact .inl (by
      have : ¬ (s[0].toNat : Int) = 48 := fun h => r (UInt8.toNat_inj.1 (by have e : (48 : UInt8).toNat = 48 := rfl; omega))
      simpa using this)
   clear p hL
   rcases pp with pp | ⟨pp, pp2⟩
   all_goals
    go_enter Tryz.func61, Tryz.ntmps61
    go_wp2_with (go_at_call 14; refine ((unhide HI) _ _).mono ?_; rw [hB]; rintro e w2 ⟨rfl, rfl⟩)
    clear HI
    go_loopw [3, 4] (fun ns is wr => ∃ (k v : Nat), ns = .int .i64 (v : Int) ∧ is = .int .i64 (k : Int) ∧ k ≤ s.size ∧ Hid (v + 1 ≤ 10 ^ k) ∧ Hid (rdN 10 s.data.toList = rdF (v : Int) (s.data.toList.drop k)) ∧ wr = w2) (fun _ is _ => s.size - (intOf is).toNat)
    case atStart => exact ⟨0, 0, rfl, rfl, by omega, hide (by decide), hide (by rw [unhide HV]; rfl), rfl⟩
    case round =>
     obtain ⟨k, v, rfl, rfl, hk, hv, hr, rfl⟩ := hrel
     have hvb : v ≤ 10000000000 := by
      have h1 := unhide hv
      have h2 : 10 ^ k ≤ 10 ^ 10 := Nat.pow_le_pow_right (by omega) (by omega)
      omega
     by_cases q5 : k < s.size
     ·have q6 : (k : Int) < (s.size : Int) := by omega
      have hd := at_drop q5
      by_cases c1 : s[k].toNat < 48
      ·have NV : Hid (rdN 10 s.data.toList = -1) := hide (by rw [unhide hr, hd, rdF, if_pos (.inl c1)])
       have c2 : (s[k].toNat : Int) < 48 := by omega
       clear hd
       go_wp2
       go_ret
       exact ⟨by rw [unhide NV]; rfl, rfl⟩
      ·by_cases c3 : 57 < s[k].toNat
       ·have NV : Hid (rdN 10 s.data.toList = -1) := hide (by rw [unhide hr, hd, rdF, if_pos (.inr c3)])
        have c2 : ¬ (s[k].toNat : Int) < 48 := by omega
        have c4 : 57 < (s[k].toNat : Int) := by omega
        clear hd
        go_wp2
        go_ret
        exact ⟨by rw [unhide NV]; rfl, rfl⟩
       ·have c2 : ¬ (s[k].toNat : Int) < 48 := by omega
        have c4 : ¬ 57 < (s[k].toNat : Int) := by omega
        have HN : Hid (10 * v + (s[k].toNat - 48) + 1 ≤ 10 ^ (k + 1)) := hide (by have := unhide hv; rw [Nat.pow_succ]; omega)
        have NR : Hid (rdN 10 s.data.toList = rdF ((10 * v + (s[k].toNat - 48) : Nat) : Int) (s.data.toList.drop (k + 1))) := hide (by
         rw [unhide hr, hd, rdF, if_neg (by omega)]
         congr 1
         omega)
        clear hd
        go_wp2
        go_roundw
        case rel => exact ⟨k + 1, 10 * v + (s[k].toNat - 48), by first | rfl | go_num | (congr 1; omega), by first | rfl | go_num, by omega, HN, NR, by first | rfl | trivial⟩
        case measure => simp [intOf]; omega
     ·obtain rfl : k = s.size := by omega
      have NV : Hid (rdN 10 s.data.toList = (v : Int)) := hide (by rw [unhide hr, unhide HZ0, rdF])
      go_wp2
      go_ret
      exact ⟨ret_int (by rw [unhide NV]), rfl⟩
 ·have hB : inB (s.size : Int) 1 10 = false := by simp [inB]; omega
  have HV : Hid (rdN 10 s.data.toList = -1) := hide (by unfold rdN; rw [if_pos]; omega)
  clear hL
  go_enter Tryz.func61, Tryz.ntmps61
  go_wp2_with (go_at_call 14; refine ((unhide HI) _ _).mono ?_; rw [hB]; rintro e w2 ⟨rfl, rfl⟩)
  go_ret
  exact ⟨by rw [unhide HV]; rfl, rfl⟩
end Go.Proofs.YtfoofbcmaljmoaaGreatDoor
