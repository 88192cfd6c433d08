/- Plain: the reference's candidate. -/
import Derived.Test.YtfoofbcmaljmoaaGreatDoorPci
import Derived.Test.YtfoofbcmaljmoaaGreatDoorSpl
import Derived.Test.YtfoofbcmaljmoaaGreatDoorCts
namespace Go.Proofs.YtfoofbcmaljmoaaGreatDoor
open Go.RowKit
set_option linter.unusedVariables false
set_option linter.unusedSimpArgs false

def crI (ws : List ByteArray) : Cmd := if hfB (kdV (ws.getD 0 ⟨#[]⟩)) = true then ⟨kdV (ws.getD 0 ⟨#[]⟩), ws.getD 1 ⟨#[]⟩, ⟨#[]⟩, ⟨#[]⟩, frV (ws.getD 2 ⟨#[]⟩).data.toList⟩ else ⟨kdV (ws.getD 0 ⟨#[]⟩), ws.getD 1 ⟨#[]⟩, ws.getD 2 ⟨#[]⟩, ws.getD 3 ⟨#[]⟩, (0, 0, 0)⟩
theorem crI_cm {c : Cmd} (h : cmB c = true) : crI (cmW c) = c ∧ 2 ≤ (cmW c).length ∧ (cmW c).length ≤ 4 ∧ (hfB c.k = true → (cmW c).length = 3 ∧ frB ((cmW c).getD 2 ⟨#[]⟩).data.toList = true) := by
 have em : tx [] = ⟨#[]⟩ := rfl
 have hv := cm_valid h
 obtain ⟨hn, hc⟩ := cm_cases h
 have hk : kdV (tx (kwB c.k)) = c.k := kd_kw hv.1 hv.2.1
 have g0 : (cmW c).getD 0 ⟨#[]⟩ = tx (kwB c.k) := by simp [cmW, cmWs]
 have g1 : (cmW c).getD 1 ⟨#[]⟩ = c.n := by simp [cmW, cmWs, tx_of]
 unfold crI
 rw [g0, g1, hk]
 obtain ⟨k, n, a, b, f⟩ := c
 simp only at hc hn hk g0 g1 ⊢
 rcases hc with ⟨h1, ha, hb, hf, hh⟩ | ⟨h1, ha, hb, hf⟩ | ⟨h1, ha, hb, hf⟩ | ⟨h1, ha, hb, hf⟩
 ·subst ha; subst hb
  have e1 : cmW ⟨k, n, tx [], tx [], f⟩ = [tx (kwB k), n, tx (fmT f.1 f.2.1 f.2.2)] := by simp [cmW, cmWs, tx_list, hh, tx_of]
  have fr := fr_form hf
  rw [e1]
  refine ⟨?_, by simp, by simp, fun _ => ⟨rfl, ?_⟩⟩
  ·rw [if_pos hh]
   show (⟨k, n, _, _, frV (tx (fmT f.1 f.2.1 f.2.2)).data.toList⟩ : Cmd) = _
   rw [tx_list, fr.2, em]
  ·show frB (tx (fmT f.1 f.2.1 f.2.2)).data.toList = true
   rw [tx_list]; exact fr.1
 ·subst h1; subst ha; subst hb; subst hf
  have e1 : cmW ⟨2, n, tx [], tx [], (0, 0, 0)⟩ = [tx (kwB 2), n] := by simp [cmW, cmWs, tx_list, hfB, tx_of]
  rw [e1]
  exact ⟨rfl, by simp, by simp, fun h => absurd h (by decide)⟩
 ·subst h1; subst hf
  have na := (nm_no ha).2
  have nb := (nm_no hb).2
  have e1 : cmW ⟨3, n, a, b, (0, 0, 0)⟩ = [tx (kwB 3), n, a, b] := by simp [cmW, cmWs, na, nb, hfB, tx_of]
  rw [e1]
  exact ⟨rfl, by simp, by simp, fun h => absurd h (by decide)⟩
 ·subst h1; subst hb; subst hf
  have na := (nm_no ha).2
  have e1 : cmW ⟨4, n, a, tx [], (0, 0, 0)⟩ = [tx (kwB 4), n, a] := by simp [cmW, cmWs, na, hfB, tx_of, tx_list]
  rw [e1]
  exact ⟨rfl, by simp, by simp, fun h => absurd h (by decide)⟩
theorem cr_of {s : ByteArray} {c : Cmd} (h1 : cmB c = true) (h2 : tx (cmT c) = s) : spL 32 s = cmW c := by
 unfold spL cmW
 rw [← h2, tx_list, (spW_cm h1).2]
def kdA (x : ByteArray) (i : Nat) : Int := ((List.range i).foldl (fun k j => if 0 < j ∧ (kws6.getD j ⟨#[]⟩).toList = x.toList then (j : Int) else k) 0)
theorem kdA_next (x : ByteArray) (i : Nat) : kdA x (i + 1) = if 0 < i ∧ (kws6.getD i ⟨#[]⟩).toList = x.toList then (i : Int) else kdA x i := by
 unfold kdA
 rw [List.range_succ, List.foldl_append]; rfl
theorem kdA_kdV (x : ByteArray) : kdA x 6 = kdV x := by
 have q : ∀ y : List UInt8, ((tx y).toList = x.toList) ↔ x = tx y := fun y => by
  rw [Lib.toList_data, Lib.toList_data, tx_list]
  exact ⟨fun h => by rw [h, tx_of], fun h => by rw [h, tx_list]⟩
 rw [kdA_next x 5, kdA_next x 4, kdA_next x 3, kdA_next x 2, kdA_next x 1, kdA_next x 0, show kdA x 0 = 0 from rfl]
 rw [show kws6.getD 5 ⟨#[]⟩ = tx [109, 111, 118, 101] from rfl, show kws6.getD 4 ⟨#[]⟩ = tx [105, 110, 118] from rfl, show kws6.getD 3 ⟨#[]⟩ = tx [109, 117, 108] from rfl, show kws6.getD 2 ⟨#[]⟩ = tx [100, 114, 111, 112] from rfl, show kws6.getD 1 ⟨#[]⟩ = tx [97, 100, 100] from rfl]
 simp only [q]
 unfold kdV
 by_cases h1 : x = tx [97, 100, 100]
 ·subst h1; decide
 ·by_cases h2 : x = tx [100, 114, 111, 112]
  ·subst h2; decide
  ·by_cases h3 : x = tx [109, 117, 108]
   ·subst h3; decide
   ·by_cases h4 : x = tx [105, 110, 118]
    ·subst h4; decide
    ·by_cases h5 : x = tx [109, 111, 118, 101]
     ·subst h5; decide
     ·simp [h1, h2, h3, h4, h5]
end Go.Proofs.YtfoofbcmaljmoaaGreatDoor
