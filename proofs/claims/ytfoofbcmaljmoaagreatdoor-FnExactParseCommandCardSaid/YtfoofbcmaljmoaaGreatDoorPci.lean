/- Plain: what ParseCommand answers. -/
import Derived.Test.YtfoofbcmaljmoaaGreatDoorPcq
namespace Go.Proofs.YtfoofbcmaljmoaaGreatDoor
open Go.RowKit
set_option linter.unusedVariables false
set_option linter.unusedSimpArgs false

def cm0 : Cmd := ⟨0, tx [], tx [], tx [], (0, 0, 0)⟩
def CmIs (s : ByteArray) (c : Cmd) (ok : Bool) : Prop := if ok then cmB c = true ∧ tx (cmT c) = s else c = cm0 ∧ ∀ c' : Cmd, cmB c' = true → tx (cmT c') ≠ s
theorem cmT_inj {c c' : Cmd} (h : cmB c = true) (h' : cmB c' = true) (e : tx (cmT c) = tx (cmT c')) : c = c' := by
 have h1 := (spW_cm h).1
 rw [e, (spW_cm h').1] at h1
 rw [← (cdI_cm h).2, ← h1, (cdI_cm h').2]
theorem CmIs.same {s : ByteArray} {c c' : Cmd} {ok ok' : Bool} (h : CmIs s c ok) (h' : CmIs s c' ok') : c = c' ∧ ok = ok' := by
 cases ok <;> cases ok' <;> simp only [CmIs, Bool.false_eq_true, if_true, if_false] at h h'
 ·exact ⟨h.1.trans h'.1.symm, rfl⟩
 ·exact absurd h'.2 (h.2 _ h'.1)
 ·exact absurd h.2 (h'.2 _ h.1)
 ·exact ⟨cmT_inj h.1 h'.1 (h.2.trans h'.2.symm), rfl⟩
theorem CmIs.yes {s : ByteArray} {c R : Cmd} {ok : Bool} (hP : CmIs s c ok) (h1 : cmB R = true) (h2 : tx (cmT R) = s) : R = c ∧ ok = true := by
 have hQ : CmIs s R true := by unfold CmIs; rw [if_pos rfl]; exact ⟨h1, h2⟩
 obtain ⟨a, b⟩ := hQ.same hP
 exact ⟨a, b.symm⟩
theorem CmIs.no {s : ByteArray} {c : Cmd} {ok : Bool} (hP : CmIs s c ok) (h : ∀ c' : Cmd, cmB c' = true → tx (cmT c') = s → False) : c = cm0 ∧ ok = false := by
 cases ok <;> simp only [CmIs, Bool.false_eq_true, if_true, if_false] at hP
 ·exact ⟨hP.1, rfl⟩
 ·exact (h _ hP.1 hP.2).elim
theorem cm_ex (s : ByteArray) : ∃ (c : Cmd) (ok : Bool), CmIs s c ok := by
 by_cases h : ∃ c : Cmd, cmB c = true ∧ tx (cmT c) = s
 ·obtain ⟨c, h1, h2⟩ := h
  exact ⟨c, true, by unfold CmIs; rw [if_pos rfl]; exact ⟨h1, h2⟩⟩
 ·refine ⟨cm0, false, ?_⟩
  unfold CmIs
  rw [if_neg (by decide)]
  exact ⟨rfl, fun c' h1 h2 => h ⟨c', h1, h2⟩⟩
theorem cm_of {s : ByteArray} {c : Cmd} (h1 : cmB c = true) (h2 : tx (cmT c) = s) : spW s = cmW c ∧ cdI (spW s) = c ∧ 2 ≤ (spW s).length := by
 rw [← h2, (spW_cm h1).1]
 exact ⟨rfl, (cdI_cm h1).2, (cdI_cm h1).1⟩
end Go.Proofs.YtfoofbcmaljmoaaGreatDoor
