/- impl.abs, and the tests that all integers of a slice lie in a range. -/
import Derived.Test.YtfoofbcmaljmoaaGreatDoorInts
namespace Go.Proofs.YtfoofbcmaljmoaaGreatDoor
open Go.RowKit
set_option linter.unusedVariables false
set_option linter.unusedSimpArgs false

def I64 (n : Int) : Prop := -9223372036854775808 ≤ n ∧ n ≤ 9223372036854775807
def allB (zs : List Int) (lo hi : Int) : Bool := zs.all (fun z => inB z lo hi)
theorem allB_no {zs : List Int} {lo hi : Int} {k : Nat} (hk : k < zs.length) (h : inB (zs.getD k 0) lo hi = false) : allB zs lo hi = false := by
 rw [List.getD_eq_getElem?_getD, List.getElem?_eq_getElem hk] at h
 unfold allB
 rw [List.all_eq_false]
 exact ⟨zs[k], List.getElem_mem hk, by simpa using h⟩
theorem allB_yes {zs : List Int} {lo hi : Int} (h : ∀ k, k < zs.length → inB (zs.getD k 0) lo hi = true) : allB zs lo hi = true := by
 unfold allB
 rw [List.all_eq_true]
 intro z hz
 obtain ⟨k, hk, rfl⟩ := List.mem_iff_getElem.1 hz
 have := h k hk
 rwa [List.getD_eq_getElem?_getD, List.getElem?_eq_getElem hk] at this
def Cells (w : World) (g : Nat) (zs : List Int) : Prop := ∀ i, i < zs.length → w.cell? ⟨g, i, none⟩ = some (.int .i64 (zs.getD i 0))
theorem Cells.keep {w w' : World} {g : Nat} {zs : List Int} (h : Cells w g zs) (e : w'.heap[g]? = w.heap[g]?) : Cells w' g zs := fun i hi => (World.cell?_of_block (a := ⟨g, i, none⟩) e).trans (h i hi)


set_option maxHeartbeats 1000000 in
theorem areNumbers_any (zs : List Int)  (g c : Nat) (w : World) (hw : ∀ i, i < zs.length → I64 (zs.getD i 0)) (hl : zs.length ≤ 1000000) (hc : Cells w g zs) :
  Calls Tryz.prog 38 #[.slice (some ⟨g, 0, none⟩) zs.length c] w fun e w' => e = .returned (.bool (allB zs (-1000000) 1000000)) ∧ w = w' := by
 have HC := hide hc
 have HW := hide hw
 clear hc hw
 go_enter Tryz.func38, Tryz.ntmps38
 go_wp2
 go_loop [7] (fun ks => ∃ k : Nat, k ≤ zs.length ∧ ks = .int .i64 (k : Int) ∧ (∀ j, j < k → inB (zs.getD j 0) (-1000000) 1000000 = true)) (fun ks => zs.length - (intOf ks).toNat)
 case atStart => exact ⟨0, by omega, rfl, fun j hj => by omega⟩
 case round =>
  obtain ⟨k, hk, rfl, hall⟩ := hrel
  have HA := hide hall
  clear hall
  by_cases c1 : k < zs.length
  ·have hci : (k : Int) < (zs.length : Int) := by omega
   have hcell := unhide HC k c1
   have hz := unhide HW k c1
   cases hb : inB (zs.getD k 0) (-1000000) 1000000
   ·have hfin := allB_no c1 hb
    have HF := hide hfin
    generalize hZ : zs.getD k 0 = z at *
    have hd := inB_false hb
    have HZ := hide hZ
    have HB := hide hb
    have HI := hide hz
    clear hfin hZ hz
    go_wp2_with fail
    all_goals (go_ret; exact ⟨ret_bool (unhide HF).symm, rfl⟩)
   ·have hall2 : ∀ j, j < k + 1 → inB (zs.getD j 0) (-1000000) 1000000 = true := fun j hj => by
     by_cases e : j = k
     ·rw [e]; exact hb
     ·exact unhide HA j (by omega)
    have HA2 := hide hall2
    generalize hZ : zs.getD k 0 = z at *
    obtain ⟨hd1, hd2⟩ := inB_true hb
    have HZ := hide hZ
    have HB := hide hb
    have HI := hide hz
    clear hall2 hZ hz
    go_wp2_with fail
    go_round
    case rel => exact ⟨k + 1, by omega, by go_num, unhide HA2⟩
    case measure => simp [intOf]; omega
  ·have hk2 : k = zs.length := by omega
   have hfin : allB zs (-1000000) 1000000 = true := allB_yes (by rw [← hk2]; exact unhide HA)
   have HF := hide hfin
   clear hk2 hfin
   go_wp2
   go_ret
   exact ⟨ret_bool (unhide HF).symm, rfl⟩

end Go.Proofs.YtfoofbcmaljmoaaGreatDoor
