/- The texts of commands, plainly. -/
import Derived.Test.YtfoofbcmaljmoaaGreatDoorCmd
import Derived.Test.YtfoofbcmaljmoaaGreatDoorFmt
import Derived.Test.YtfoofbcmaljmoaaGreatDoorStrL
import Derived.Test.YtfoofbcmaljmoaaGreatDoorToR
import Derived.Test.YtfoofbcmaljmoaaGreatDoorForm
namespace Go.Proofs.YtfoofbcmaljmoaaGreatDoor
open Go.RowKit
set_option linter.unusedVariables false
set_option linter.unusedSimpArgs false
attribute [local go_sem] q2 q3 q4 q5 q6 q7 q8 q9 q10 q11 q12

def kwB (k : Int) : List UInt8 := if k = 1 then [97, 100, 100] else if k = 2 then [100, 114, 111, 112] else if k = 3 then [109, 117, 108] else if k = 4 then [105, 110, 118] else [109, 111, 118, 101]
theorem kw_len (k : Int) : (kwB k).length ≤ 4 := by unfold kwB; (repeat' split) <;> simp
def optL (l : List UInt8) : List UInt8 := if l = [] then [] else [32] ++ l
def cmT (c : Cmd) : List UInt8 := kwB c.k ++ [32] ++ c.n.data.toList ++ optL c.a.data.toList ++ optL c.b.data.toList ++ (if hfB c.k then [32] ++ fmT c.f.1 c.f.2.1 c.f.2.2 else [])
theorem em_size {s : ByteArray} (h : emB s = true) : s.size = 0 := by
 unfold emB at h
 rw [decide_eq_true_eq] at h
 have e : s.toList.length = s.size := by obtain ⟨⟨l⟩⟩ := s; simp [ByteArray.size]
 rw [h] at e
 exact e.symm
theorem nm_size {s : ByteArray} (h : nmB s = true) : s.size ≤ 8 := by
 unfold nmB at h
 rw [Bool.and_eq_true, Bool.and_eq_true, decide_eq_true_eq, decide_eq_true_eq] at h
 exact h.2.2
theorem ze_of {F : Int × Int × Int} (h : zeB F = true) : F.1 = 0 ∧ F.2.1 = 0 ∧ F.2.2 = 0 := by
 unfold zeB at h
 rw [Bool.and_eq_true, Bool.and_eq_true, decide_eq_true_eq, decide_eq_true_eq, decide_eq_true_eq] at h
 exact h
theorem ci_of {F : Int × Int × Int} (h : ciB F = true) : F.1 ≠ 0 ∧ (-2000000000 ≤ F.1 ∧ F.1 ≤ 2000000000) ∧ (-2000000000 ≤ F.2.1 ∧ F.2.1 ≤ 2000000000) ∧ (-2000000000 ≤ F.2.2 ∧ F.2.2 ≤ 2000000000) := by
 unfold ciB at h
 obtain ⟨ha, hb, hc⟩ := form_true (class_form h)
 have h2 := shown_def (class_shown h)
 unfold defB at h2; simp at h2
 exact ⟨by omega, by omega, by omega, by omega⟩
theorem cm_valid {c : Cmd} (h : cmB c = true) : 1 ≤ c.k ∧ c.k ≤ 5 ∧ c.n.size ≤ 8 ∧ c.a.size ≤ 8 ∧ c.b.size ≤ 8 ∧ ((hfB c.k = true ∧ ciB c.f = true) ∨ (hfB c.k = false ∧ zeB c.f = true)) := by
 unfold cmB at h
 rw [Bool.and_eq_true] at h
 obtain ⟨hn, h⟩ := h
 have n8 := nm_size hn
 split at h
 ·rename_i hk
  rw [Bool.and_eq_true, Bool.and_eq_true] at h
  have := em_size h.1
  have := em_size h.2.1
  exact ⟨by omega, by omega, n8, by omega, by omega, .inl ⟨by unfold hfB; rcases hk with hk | hk <;> rw [hk] <;> rfl, h.2.2⟩⟩
 ·split at h
  ·rename_i hk
   rw [Bool.and_eq_true, Bool.and_eq_true] at h
   have := em_size h.1
   have := em_size h.2.1
   exact ⟨by omega, by omega, n8, by omega, by omega, .inr ⟨by unfold hfB; rw [hk]; rfl, h.2.2⟩⟩
  ·split at h
   ·rename_i hk
    rw [Bool.and_eq_true, Bool.and_eq_true] at h
    have := nm_size h.1
    have := nm_size h.2.1
    exact ⟨by omega, by omega, n8, by omega, by omega, .inr ⟨by unfold hfB; rw [hk]; rfl, h.2.2⟩⟩
   ·split at h
    ·rename_i hk
     rw [Bool.and_eq_true, Bool.and_eq_true] at h
     have := nm_size h.1
     have := em_size h.2.1
     exact ⟨by omega, by omega, n8, by omega, by omega, .inr ⟨by unfold hfB; rw [hk]; rfl, h.2.2⟩⟩
    ·cases h
def SlcS (l : List ByteArray) (w : World) (v : Value) : Prop := ∃ g : Nat, v = .slice (some ⟨g, 0, none⟩) l.length l.length ∧ ∀ j, j < l.length → w.cell? ⟨g, j, none⟩ = some (.string (l.getD j ⟨#[]⟩))
theorem SlcS.st {l : List ByteArray} : StB (SlcS l) := fun W w' v hb ⟨g, h1, h2⟩ => ⟨g, h1, fun j hj => cell_call hb (h2 j hj)⟩
def PtrTo (x : Value) (w : World) (v : Value) : Prop := ∃ a, v = .pointer (some a) ∧ w.cell? a = some x
theorem PtrTo.st {x : Value} : StB (PtrTo x) := fun W w' v hb ⟨a, h1, h2⟩ => ⟨a, h1, cell_call hb h2⟩
def SLv (lo : Nat) (zs : List ByteArray) (w : World) (v : Value) : Prop := ∃ g : Nat, v = .slice (some ⟨g, 0, none⟩) zs.length zs.length ∧ SL w lo (.slice (some ⟨g, 0, none⟩) zs.length zs.length) zs ∧ g < w.heap.size
theorem SLv.st {lo : Nat} {zs : List ByteArray} : StB (SLv lo zs) := fun W w' v hb ⟨g, h1, h2, h3⟩ => ⟨g, h1, h2.below hb, Nat.lt_of_lt_of_le h3 hb.size⟩
theorem sl_two (w : World) (lo : Nat) (x y : ByteArray) (h : lo ≤ w.heap.size) : SLv lo [x, y] (w.alloc (.cells #[.string x, .string y] 9)) (.slice (some ⟨w.heap.size, 0, none⟩) 2 2) :=
 ⟨w.heap.size, rfl, World.ownsRow_lit (size := 1) w #[.string x, .string y] 2 h (by decide) rfl, by simp⟩
def kws : List ByteArray := [tx [97, 100, 100], tx [100, 114, 111, 112], tx [109, 117, 108], tx [105, 110, 118], tx [109, 111, 118, 101]]
def kws6 : List ByteArray := tx [] :: kws
theorem kws_at {k : Int} {m : Nat} (hk : k - 1 = (m : Int)) (hm : m < 5) : kws.getD m ⟨#[]⟩ = tx (kwB k) := by
 obtain rfl : k = (m : Int) + 1 := by omega
 rcases (show m = 0 ∨ m = 1 ∨ m = 2 ∨ m = 3 ∨ m = 4 by omega) with rfl | rfl | rfl | rfl | rfl <;> rfl
theorem kws6_at {m : Nat} (h1 : 1 ≤ m) (hm : m < 6) : kws6.getD m ⟨#[]⟩ = tx (kwB (m : Int)) := by
 rcases (show m = 1 ∨ m = 2 ∨ m = 3 ∨ m = 4 ∨ m = 5 by omega) with rfl | rfl | rfl | rfl | rfl <;> rfl
theorem tx_nil_em : (tx []).toList.isEmpty = true := by
 have h : (tx []).toList.length = 0 := by simp [tx]
 cases q : (tx []).toList with
 | nil => rfl
 | cons _ _ => rw [q] at h; simp at h
theorem tx_cons_ne (u : UInt8) (l : List UInt8) : (tx (u :: l)).toList.isEmpty = false := by
 have h : (tx (u :: l)).toList.length = l.length + 1 := by simp [tx, ByteArray.size]
 cases q : (tx (u :: l)).toList with
 | nil => rw [q] at h; simp at h
 | cons _ _ => rfl
end Go.Proofs.YtfoofbcmaljmoaaGreatDoor
