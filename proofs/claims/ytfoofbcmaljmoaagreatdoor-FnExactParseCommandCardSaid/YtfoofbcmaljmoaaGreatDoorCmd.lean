/- Commands on both sides. -/
import Derived.Test.YtfoofbcmaljmoaaGreatDoorNm
import Derived.Test.YtfoofbcmaljmoaaGreatDoorRule
import Derived.Test.YtfoofbcmaljmoaaGreatDoorOwn
namespace Go.Proofs.YtfoofbcmaljmoaaGreatDoor
open Go.RowKit
set_option linter.unusedVariables false
set_option linter.unusedSimpArgs false
attribute [local go_sem] q2 q3 q4 q5 q6 q7 q8 q9 q10 q11 q12

def emB (s : ByteArray) : Bool := decide (s.toList = [])
def zeB (F : Int × Int × Int) : Bool := decide (F.1 = 0) && (decide (F.2.1 = 0) && decide (F.2.2 = 0))
def ciB (F : Int × Int × Int) : Bool := classB F.1 F.2.1 F.2.2
structure Cmd where
 k : Int
 n : ByteArray
 a : ByteArray
 b : ByteArray
 f : Int × Int × Int
structure CmdOk (c : Cmd) : Prop where
 k : I64 c.k
 n : c.n.size ≤ 9223372036854775807
 a : c.a.size ≤ 9223372036854775807
 b : c.b.size ≤ 9223372036854775807
 f0 : I64 c.f.1
 f1 : I64 c.f.2.1
 f2 : I64 c.f.2.2
abbrev cmv (c : Cmd) : Value := .agg #[.int .i64 c.k, .string c.n, .string c.a, .string c.b, .int .i64 c.f.1, .int .i64 c.f.2.1, .int .i64 c.f.2.2]
def cmB (c : Cmd) : Bool := nmB c.n && (if c.k = 1 ∨ c.k = 5 then emB c.a && (emB c.b && ciB c.f) else if c.k = 2 then emB c.a && (emB c.b && zeB c.f) else if c.k = 3 then nmB c.a && (nmB c.b && zeB c.f) else if c.k = 4 then nmB c.a && (emB c.b && zeB c.f) else false)

def hfB (k : Int) : Bool := k == 1 || k == 5
theorem hasForm_a (k : Int) (w : World) : Calls Tryz.prog 16 #[.int .i64 k] w fun e w' => e = .returned (.bool (hfB k)) ∧ w = w' := by
 go_enter Tryz.func16, Tryz.ntmps16
 go_wp2
 all_goals (go_ret; exact ⟨by first | rfl | (simp [hfB, *]; done), rfl⟩)
theorem is_emp (s : ByteArray) : s.toList.isEmpty = decide (s.toList = []) := by cases s.toList <;> rfl

set_option maxRecDepth 100000 in
set_option maxHeartbeats 4000000 in
theorem isCommand_a (c : Cmd) (w : World) (hc : CmdOk c) : Calls Tryz.prog 10 #[cmv c] w fun e w' => e = .returned (.bool (cmB c)) ∧ Below w.heap.size w w' := by
 obtain ⟨k, n, a, b, f⟩ := c
 obtain ⟨ik, in_, ia, ib, i0, i1, i2⟩ := hc
 simp only [] at ik in_ ia ib i0 i1 i2
 show Calls Tryz.prog 10 #[.agg #[.int .i64 k, .string n, .string a, .string b, .int .i64 f.1, .int .i64 f.2.1, .int .i64 f.2.2]] w fun e w' => e = .returned (.bool (cmB ⟨k, n, a, b, f⟩)) ∧ Below w.heap.size w w'
 cases h0 : nmB n
 ·have HV : Hid (cmB ⟨k, n, a, b, f⟩ = false) := hide (by simp [cmB, h0])
  go_enter Tryz.func10, Tryz.ntmps10
  go_wp2_with (first | (go_at_call 24; refine (isName_a _ _ (by omega)).mono ?_; rintro e w' ⟨rfl, rfl⟩) | (go_at_call 25; refine (isClassForm_a _ _ _ _ (by assumption) (by assumption) (by assumption)).mono ?_; rintro e w1 ⟨rfl, hb⟩))
  all_goals (go_ret; exact ⟨by first | (rw [unhide HV]; first | done | rfl | (simp [emB, zeB, ciB, is_emp, *]; done)), byGG⟩)
 ·by_cases q1 : k = 1
  ·subst q1
   have HV : Hid (cmB ⟨1, n, a, b, f⟩ = (emB a && (emB b && ciB f))) := hide (by simp [cmB, h0])
   go_enter Tryz.func10, Tryz.ntmps10
   go_wp2_with (first | (go_at_call 24; refine (isName_a _ _ (by omega)).mono ?_; rintro e w' ⟨rfl, rfl⟩) | (go_at_call 25; refine (isClassForm_a _ _ _ _ (by assumption) (by assumption) (by assumption)).mono ?_; rintro e w1 ⟨rfl, hb⟩))
   all_goals (go_ret; exact ⟨by first | (rw [unhide HV]; first | done | rfl | (simp [emB, zeB, ciB, is_emp, *]; done)), byGG⟩)
  ·by_cases q2 : k = 2
   ·subst q2
    have HV : Hid (cmB ⟨2, n, a, b, f⟩ = (emB a && (emB b && zeB f))) := hide (by simp [cmB, h0])
    go_enter Tryz.func10, Tryz.ntmps10
    go_wp2_with (first | (go_at_call 24; refine (isName_a _ _ (by omega)).mono ?_; rintro e w' ⟨rfl, rfl⟩) | (go_at_call 25; refine (isClassForm_a _ _ _ _ (by assumption) (by assumption) (by assumption)).mono ?_; rintro e w1 ⟨rfl, hb⟩))
    all_goals (go_ret; exact ⟨by first | (rw [unhide HV]; first | done | rfl | (simp [emB, zeB, ciB, is_emp, *]; done)), byGG⟩)
   ·by_cases q3 : k = 3
    ·subst q3
     have HV : Hid (cmB ⟨3, n, a, b, f⟩ = (nmB a && (nmB b && zeB f))) := hide (by simp [cmB, h0])
     cases ha : nmB a
     ·go_enter Tryz.func10, Tryz.ntmps10
      go_wp2_with (first | (go_at_call 24; refine (isName_a _ _ (by omega)).mono ?_; rintro e w' ⟨rfl, rfl⟩) | (go_at_call 25; refine (isClassForm_a _ _ _ _ (by assumption) (by assumption) (by assumption)).mono ?_; rintro e w1 ⟨rfl, hb⟩))
      all_goals (go_ret; exact ⟨by first | (rw [unhide HV]; first | done | rfl | (simp [emB, zeB, ciB, is_emp, *]; done)), byGG⟩)
     ·cases hb : nmB b
      ·go_enter Tryz.func10, Tryz.ntmps10
       go_wp2_with (first | (go_at_call 24; refine (isName_a _ _ (by omega)).mono ?_; rintro e w' ⟨rfl, rfl⟩) | (go_at_call 25; refine (isClassForm_a _ _ _ _ (by assumption) (by assumption) (by assumption)).mono ?_; rintro e w1 ⟨rfl, hb⟩))
       all_goals (go_ret; exact ⟨by first | (rw [unhide HV]; first | done | rfl | (simp [emB, zeB, ciB, is_emp, *]; done)), byGG⟩)
      ·go_enter Tryz.func10, Tryz.ntmps10
       go_wp2_with (first | (go_at_call 24; refine (isName_a _ _ (by omega)).mono ?_; rintro e w' ⟨rfl, rfl⟩) | (go_at_call 25; refine (isClassForm_a _ _ _ _ (by assumption) (by assumption) (by assumption)).mono ?_; rintro e w1 ⟨rfl, hb⟩))
       all_goals (go_ret; exact ⟨by first | (rw [unhide HV]; first | done | rfl | (simp [emB, zeB, ciB, is_emp, *]; done)), byGG⟩)
    ·by_cases q4 : k = 4
     ·subst q4
      have HV : Hid (cmB ⟨4, n, a, b, f⟩ = (nmB a && (emB b && zeB f))) := hide (by simp [cmB, h0])
      cases ha : nmB a
      ·go_enter Tryz.func10, Tryz.ntmps10
       go_wp2_with (first | (go_at_call 24; refine (isName_a _ _ (by omega)).mono ?_; rintro e w' ⟨rfl, rfl⟩) | (go_at_call 25; refine (isClassForm_a _ _ _ _ (by assumption) (by assumption) (by assumption)).mono ?_; rintro e w1 ⟨rfl, hb⟩))
       all_goals (go_ret; exact ⟨by first | (rw [unhide HV]; first | done | rfl | (simp [emB, zeB, ciB, is_emp, *]; done)), byGG⟩)
      ·go_enter Tryz.func10, Tryz.ntmps10
       go_wp2_with (first | (go_at_call 24; refine (isName_a _ _ (by omega)).mono ?_; rintro e w' ⟨rfl, rfl⟩) | (go_at_call 25; refine (isClassForm_a _ _ _ _ (by assumption) (by assumption) (by assumption)).mono ?_; rintro e w1 ⟨rfl, hb⟩))
       all_goals (go_ret; exact ⟨by first | (rw [unhide HV]; first | done | rfl | (simp [emB, zeB, ciB, is_emp, *]; done)), byGG⟩)
     ·by_cases q5 : k = 5
      ·subst q5
       have HV : Hid (cmB ⟨5, n, a, b, f⟩ = (emB a && (emB b && ciB f))) := hide (by simp [cmB, h0])
       go_enter Tryz.func10, Tryz.ntmps10
       go_wp2_with (first | (go_at_call 24; refine (isName_a _ _ (by omega)).mono ?_; rintro e w' ⟨rfl, rfl⟩) | (go_at_call 25; refine (isClassForm_a _ _ _ _ (by assumption) (by assumption) (by assumption)).mono ?_; rintro e w1 ⟨rfl, hb⟩))
       all_goals (go_ret; exact ⟨by first | (rw [unhide HV]; first | done | rfl | (simp [emB, zeB, ciB, is_emp, *]; done)), byGG⟩)
      ·have HV : Hid (cmB ⟨k, n, a, b, f⟩ = false) := hide (by simp [cmB, q1, q2, q3, q4, q5])
       go_enter Tryz.func10, Tryz.ntmps10
       go_wp2_with (first | (go_at_call 24; refine (isName_a _ _ (by omega)).mono ?_; rintro e w' ⟨rfl, rfl⟩) | (go_at_call 25; refine (isClassForm_a _ _ _ _ (by assumption) (by assumption) (by assumption)).mono ?_; rintro e w1 ⟨rfl, hb⟩))
       all_goals (go_ret; exact ⟨by first | (rw [unhide HV]; first | done | rfl | (simp [emB, zeB, ciB, is_emp, *]; done)), byGG⟩)

set_option maxRecDepth 100000 in
set_option maxHeartbeats 4000000 in
theorem lgCommand_a (c : Cmd) (w : World) (hc : CmdOk c) : Calls Tryz.prog 18 #[cmv c] w fun e w' => e = .returned (.bool (cmB c)) ∧ Below w.heap.size w w' := by
 obtain ⟨k, n, a, b, f⟩ := c
 obtain ⟨ik, in_, ia, ib, i0, i1, i2⟩ := hc
 simp only [] at ik in_ ia ib i0 i1 i2
 show Calls Tryz.prog 18 #[.agg #[.int .i64 k, .string n, .string a, .string b, .int .i64 f.1, .int .i64 f.2.1, .int .i64 f.2.2]] w fun e w' => e = .returned (.bool (cmB ⟨k, n, a, b, f⟩)) ∧ Below w.heap.size w w'
 cases h0 : nmB n
 ·have HV : Hid (cmB ⟨k, n, a, b, f⟩ = false) := hide (by simp [cmB, h0])
  cases hin : inB k 1 5
  ·go_enter Tryz.func18, Tryz.ntmps18
   go_wp2_with (first | (go_at_call 14; refine (l1In_any _ _ _ _).mono ?_; rintro e w' ⟨rfl, rfl⟩) | (go_at_call 29; refine (lgName_a _ _ (by omega)).mono ?_; rintro e w' ⟨rfl, rfl⟩) | (go_at_call 16; refine (hasForm_a _ _).mono ?_; rintro e w' ⟨rfl, rfl⟩) | (go_at_call 30; refine (coGood_a _ _ _ _).mono ?_; rintro e w1 ⟨rfl, hb⟩; obtain ⟨hc, hf⟩ := bcell hb; have hl := lt_keep hb; have hs := hb.size))
   all_goals (go_ret; exact ⟨by first | (rw [unhide HV]; first | done | rfl | (simp [emB, zeB, ciB, is_emp, *]; done)), byGG⟩)
  ·go_enter Tryz.func18, Tryz.ntmps18
   go_wp2_with (first | (go_at_call 14; refine (l1In_any _ _ _ _).mono ?_; rintro e w' ⟨rfl, rfl⟩) | (go_at_call 29; refine (lgName_a _ _ (by omega)).mono ?_; rintro e w' ⟨rfl, rfl⟩) | (go_at_call 16; refine (hasForm_a _ _).mono ?_; rintro e w' ⟨rfl, rfl⟩) | (go_at_call 30; refine (coGood_a _ _ _ _).mono ?_; rintro e w1 ⟨rfl, hb⟩; obtain ⟨hc, hf⟩ := bcell hb; have hl := lt_keep hb; have hs := hb.size))
   all_goals (go_ret; exact ⟨by first | (rw [unhide HV]; first | done | rfl | (simp [emB, zeB, ciB, is_emp, *]; done)), byGG⟩)
 ·by_cases q1 : k = 1
  ·subst q1
   have hh : hfB 1 = true := rfl
   have HV : Hid (cmB ⟨1, n, a, b, f⟩ = (emB a && (emB b && ciB f))) := hide (by simp [cmB, h0])
   go_enter Tryz.func18, Tryz.ntmps18
   go_wp2_with (first | (go_at_call 14; refine (l1In_any _ _ _ _).mono ?_; rintro e w' ⟨rfl, rfl⟩) | (go_at_call 29; refine (lgName_a _ _ (by omega)).mono ?_; rintro e w' ⟨rfl, rfl⟩) | (go_at_call 16; refine (hasForm_a _ _).mono ?_; rintro e w' ⟨rfl, rfl⟩) | (go_at_call 30; refine (coGood_a _ _ _ _).mono ?_; rintro e w1 ⟨rfl, hb⟩; obtain ⟨hc, hf⟩ := bcell hb; have hl := lt_keep hb; have hs := hb.size))
   all_goals (go_ret; exact ⟨by first | (rw [unhide HV]; first | done | rfl | (simp [emB, zeB, ciB, is_emp, *]; done)), byGG⟩)
  ·by_cases q2 : k = 2
   ·subst q2
    have hh : hfB 2 = false := rfl
    have HV : Hid (cmB ⟨2, n, a, b, f⟩ = (emB a && (emB b && zeB f))) := hide (by simp [cmB, h0])
    go_enter Tryz.func18, Tryz.ntmps18
    go_wp2_with (first | (go_at_call 14; refine (l1In_any _ _ _ _).mono ?_; rintro e w' ⟨rfl, rfl⟩) | (go_at_call 29; refine (lgName_a _ _ (by omega)).mono ?_; rintro e w' ⟨rfl, rfl⟩) | (go_at_call 16; refine (hasForm_a _ _).mono ?_; rintro e w' ⟨rfl, rfl⟩) | (go_at_call 30; refine (coGood_a _ _ _ _).mono ?_; rintro e w1 ⟨rfl, hb⟩; obtain ⟨hc, hf⟩ := bcell hb; have hl := lt_keep hb; have hs := hb.size))
    all_goals (go_ret; exact ⟨by first | (rw [unhide HV]; first | done | rfl | (simp [emB, zeB, ciB, is_emp, *]; done)), byGG⟩)
   ·by_cases q3 : k = 3
    ·subst q3
     have hh : hfB 3 = false := rfl
     have HV : Hid (cmB ⟨3, n, a, b, f⟩ = (nmB a && (nmB b && zeB f))) := hide (by simp [cmB, h0])
     cases ha : nmB a
     ·go_enter Tryz.func18, Tryz.ntmps18
      go_wp2_with (first | (go_at_call 14; refine (l1In_any _ _ _ _).mono ?_; rintro e w' ⟨rfl, rfl⟩) | (go_at_call 29; refine (lgName_a _ _ (by omega)).mono ?_; rintro e w' ⟨rfl, rfl⟩) | (go_at_call 16; refine (hasForm_a _ _).mono ?_; rintro e w' ⟨rfl, rfl⟩) | (go_at_call 30; refine (coGood_a _ _ _ _).mono ?_; rintro e w1 ⟨rfl, hb⟩; obtain ⟨hc, hf⟩ := bcell hb; have hl := lt_keep hb; have hs := hb.size))
      all_goals (go_ret; exact ⟨by first | (rw [unhide HV]; first | done | rfl | (simp [emB, zeB, ciB, is_emp, *]; done)), byGG⟩)
     ·cases hb : nmB b
      ·go_enter Tryz.func18, Tryz.ntmps18
       go_wp2_with (first | (go_at_call 14; refine (l1In_any _ _ _ _).mono ?_; rintro e w' ⟨rfl, rfl⟩) | (go_at_call 29; refine (lgName_a _ _ (by omega)).mono ?_; rintro e w' ⟨rfl, rfl⟩) | (go_at_call 16; refine (hasForm_a _ _).mono ?_; rintro e w' ⟨rfl, rfl⟩) | (go_at_call 30; refine (coGood_a _ _ _ _).mono ?_; rintro e w1 ⟨rfl, hb⟩; obtain ⟨hc, hf⟩ := bcell hb; have hl := lt_keep hb; have hs := hb.size))
       all_goals (go_ret; exact ⟨by first | (rw [unhide HV]; first | done | rfl | (simp [emB, zeB, ciB, is_emp, *]; done)), byGG⟩)
      ·go_enter Tryz.func18, Tryz.ntmps18
       go_wp2_with (first | (go_at_call 14; refine (l1In_any _ _ _ _).mono ?_; rintro e w' ⟨rfl, rfl⟩) | (go_at_call 29; refine (lgName_a _ _ (by omega)).mono ?_; rintro e w' ⟨rfl, rfl⟩) | (go_at_call 16; refine (hasForm_a _ _).mono ?_; rintro e w' ⟨rfl, rfl⟩) | (go_at_call 30; refine (coGood_a _ _ _ _).mono ?_; rintro e w1 ⟨rfl, hb⟩; obtain ⟨hc, hf⟩ := bcell hb; have hl := lt_keep hb; have hs := hb.size))
       all_goals (go_ret; exact ⟨by first | (rw [unhide HV]; first | done | rfl | (simp [emB, zeB, ciB, is_emp, *]; done)), byGG⟩)
    ·by_cases q4 : k = 4
     ·subst q4
      have hh : hfB 4 = false := rfl
      have HV : Hid (cmB ⟨4, n, a, b, f⟩ = (nmB a && (emB b && zeB f))) := hide (by simp [cmB, h0])
      cases ha : nmB a
      ·go_enter Tryz.func18, Tryz.ntmps18
       go_wp2_with (first | (go_at_call 14; refine (l1In_any _ _ _ _).mono ?_; rintro e w' ⟨rfl, rfl⟩) | (go_at_call 29; refine (lgName_a _ _ (by omega)).mono ?_; rintro e w' ⟨rfl, rfl⟩) | (go_at_call 16; refine (hasForm_a _ _).mono ?_; rintro e w' ⟨rfl, rfl⟩) | (go_at_call 30; refine (coGood_a _ _ _ _).mono ?_; rintro e w1 ⟨rfl, hb⟩; obtain ⟨hc, hf⟩ := bcell hb; have hl := lt_keep hb; have hs := hb.size))
       all_goals (go_ret; exact ⟨by first | (rw [unhide HV]; first | done | rfl | (simp [emB, zeB, ciB, is_emp, *]; done)), byGG⟩)
      ·go_enter Tryz.func18, Tryz.ntmps18
       go_wp2_with (first | (go_at_call 14; refine (l1In_any _ _ _ _).mono ?_; rintro e w' ⟨rfl, rfl⟩) | (go_at_call 29; refine (lgName_a _ _ (by omega)).mono ?_; rintro e w' ⟨rfl, rfl⟩) | (go_at_call 16; refine (hasForm_a _ _).mono ?_; rintro e w' ⟨rfl, rfl⟩) | (go_at_call 30; refine (coGood_a _ _ _ _).mono ?_; rintro e w1 ⟨rfl, hb⟩; obtain ⟨hc, hf⟩ := bcell hb; have hl := lt_keep hb; have hs := hb.size))
       all_goals (go_ret; exact ⟨by first | (rw [unhide HV]; first | done | rfl | (simp [emB, zeB, ciB, is_emp, *]; done)), byGG⟩)
     ·by_cases q5 : k = 5
      ·subst q5
       have hh : hfB 5 = true := rfl
       have HV : Hid (cmB ⟨5, n, a, b, f⟩ = (emB a && (emB b && ciB f))) := hide (by simp [cmB, h0])
       go_enter Tryz.func18, Tryz.ntmps18
       go_wp2_with (first | (go_at_call 14; refine (l1In_any _ _ _ _).mono ?_; rintro e w' ⟨rfl, rfl⟩) | (go_at_call 29; refine (lgName_a _ _ (by omega)).mono ?_; rintro e w' ⟨rfl, rfl⟩) | (go_at_call 16; refine (hasForm_a _ _).mono ?_; rintro e w' ⟨rfl, rfl⟩) | (go_at_call 30; refine (coGood_a _ _ _ _).mono ?_; rintro e w1 ⟨rfl, hb⟩; obtain ⟨hc, hf⟩ := bcell hb; have hl := lt_keep hb; have hs := hb.size))
       all_goals (go_ret; exact ⟨by first | (rw [unhide HV]; first | done | rfl | (simp [emB, zeB, ciB, is_emp, *]; done)), byGG⟩)
      ·have HV : Hid (cmB ⟨k, n, a, b, f⟩ = false) := hide (by simp [cmB, q1, q2, q3, q4, q5])
       have hin : inB k 1 5 = false := by unfold inB; simp; omega
       have hh : hfB k = false := by simp [hfB, q1, q5]
       go_enter Tryz.func18, Tryz.ntmps18
       go_wp2_with (first | (go_at_call 14; refine (l1In_any _ _ _ _).mono ?_; rintro e w' ⟨rfl, rfl⟩) | (go_at_call 29; refine (lgName_a _ _ (by omega)).mono ?_; rintro e w' ⟨rfl, rfl⟩) | (go_at_call 16; refine (hasForm_a _ _).mono ?_; rintro e w' ⟨rfl, rfl⟩) | (go_at_call 30; refine (coGood_a _ _ _ _).mono ?_; rintro e w1 ⟨rfl, hb⟩; obtain ⟨hc, hf⟩ := bcell hb; have hl := lt_keep hb; have hs := hb.size))
       all_goals (go_ret; exact ⟨by first | (rw [unhide HV]; first | done | rfl | (simp [emB, zeB, ciB, is_emp, *]; done)), byGG⟩)

end Go.Proofs.YtfoofbcmaljmoaaGreatDoor
