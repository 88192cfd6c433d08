/- ParseCommand, impl.: joined. -/
import Derived.Test.YtfoofbcmaljmoaaGreatDoorPck
import Derived.Test.YtfoofbcmaljmoaaGreatDoorPrt
namespace Go.Proofs.YtfoofbcmaljmoaaGreatDoor
open Go.RowKit
set_option linter.unusedVariables false
set_option linter.unusedSimpArgs false
attribute [local go_sem] q2 q3 q4 q5 q6 q7 q8 q9 q10 q11 q12

theorem getD_mem {α : Type} {l : List α} {i : Nat} {d : α} (h : i < l.length) : l.getD i d ∈ l := by
 rw [List.getD_eq_getElem?_getD, List.getElem?_eq_getElem h]
 exact List.getElem_mem h
theorem i64_0 : I64 0 := by first | decide | (unfold I64; omega) | (constructor <;> decide)
theorem pfV_ok (y : ByteArray) : I64 (pfV y).1 ∧ I64 (pfV y).2.1 ∧ I64 (pfV y).2.2 := by
 unfold pfV
 split
 ·rename_i h
  have h3 : (iiL y).length = 3 := by
   unfold pfB at h
   rw [Bool.and_eq_true] at h
   exact of_decide_eq_true h.1
  exact ⟨iiL_b y _ (getD_mem (by omega)), iiL_b y _ (getD_mem (by omega)), iiL_b y _ (getD_mem (by omega))⟩
 ·exact ⟨i64_0, i64_0, i64_0⟩
theorem stI_ok {k : Int} {c : Cmd} {y : ByteArray} (h : CmdOk c) (hy : y.size ≤ 9000000) : CmdOk (stI k c y) := by
 obtain ⟨h1, h2, h3, h4, h5, h6, h7⟩ := h
 unfold stI
 split
 ·exact ⟨h1, h2, h3, h4, (pfV_ok y).1, (pfV_ok y).2.1, (pfV_ok y).2.2⟩
 ·split
  ·exact ⟨h1, h2, (show y.size ≤ _ by omega), h4, h5, h6, h7⟩
  ·exact ⟨h1, h2, h3, (show y.size ≤ _ by omega), h5, h6, h7⟩
theorem fold_ok {k : Int} : ∀ (l : List ByteArray) (c : Cmd), CmdOk c → (∀ y ∈ l, y.size ≤ 9000000) → CmdOk (l.foldl (stI k) c)
 | [], c, h, _ => h
 | y :: l, c, h, hl => fold_ok l _ (stI_ok h (hl y (by simp))) (fun z hz => hl z (by simp [hz]))
theorem kdV_bd (y : ByteArray) : -10 ≤ kdV y ∧ kdV y ≤ 10 := by
 unfold kdV
 repeat' split
 all_goals omega
theorem cdI_ok {s : ByteArray} (hs : s.size ≤ 1100000) (h2 : 2 ≤ (spW s).length) : CmdOk (cdI (spW s)) := by
 have hsz := spW_sz s
 refine fold_ok _ _ ⟨?_, ?_, ?_, ?_, i64_0, i64_0, i64_0⟩ (fun y hy => ?_)
 ·have := kdV_bd ((spW s).getD 0 ⟨#[]⟩)
  show I64 (kdV ((spW s).getD 0 ⟨#[]⟩))
  unfold I64
  first | omega | (constructor <;> omega)
 ·have := hsz _ (getD_mem (d := (⟨#[]⟩ : ByteArray)) (show 1 < (spW s).length by omega))
  show ((spW s).getD 1 ⟨#[]⟩).size ≤ _
  omega
 ·show (tx []).size ≤ _
  rw [tx_size]; decide
 ·show (tx []).size ≤ _
  rw [tx_size]; decide
 ·have := hsz y (List.mem_of_mem_drop hy)
  omega
set_option maxRecDepth 100000 in
set_option maxHeartbeats 4000000 in
theorem implPc_a (s : ByteArray) (hs : s.size ≤ 1100000) {c : Cmd} {ok : Bool} (hP : CmIs s c ok) (w : World) (hE : Env w) :
  Calls Tryz.prog 5 #[.string s] w (RetCm w c ok) := by
 have hsp : ∀ W, Below w.heap.size w W → Calls Tryz.prog 8 #[.string s, .string (tx [32])] W fun e w' => e = .returned (.slice (some ⟨W.heap.size, 0, none⟩) (spW s).length (spW s).length) ∧ SL w' W.heap.size (.slice (some ⟨W.heap.size, 0, none⟩) (spW s).length (spW s).length) (spW s) ∧ Below W.heap.size W w' := fun W hb => split_a s (by omega) W (hE.below hb)
 have hsz := spW_sz s
 have hln := spW_len s
 by_cases h2 : (spW s).length < 2
 ·obtain ⟨rfl, rfl⟩ := hP.no (fun c' h1 h3 => by have := (cm_of h1 h3).2.2; omega)
  exact pc_1 s (spW s).length w (by omega) (hide fun W hb => (hsp W hb).mono fun e w' h => ⟨_, _, h.1, h.2.2⟩)
 ·have hok := cdI_ok hs (by omega)
  have hC : foI9 (spW s) (kdV ((spW s).getD 0 ⟨#[]⟩)) ((spW s).getD 1 ⟨#[]⟩) ((spW s).length - 2) = cdI (spW s) := by
   unfold foI9 cdI
   rw [List.take_of_length_le (by rw [List.length_drop]; exact Nat.le_refl _)]
  have z0 := hsz _ (getD_mem (d := (⟨#[]⟩ : ByteArray)) (show 0 < (spW s).length by omega))
  refine (pc_3 s (spW s) (spW s).length _ _ _ (cdI (spW s)) (cmB (cdI (spW s))) ((tx (cmT (cdI (spW s)))).toList == s.toList) (tx (cmT (cdI (spW s)))) w (hide rfl) (by omega) (by omega) (hide rfl) (hide rfl) (hide rfl) (kdV_bd _) (by omega) (hide hC) (hide hsp)
   (hide fun j W hj hb => ParseForm_a _ (by have := hsz _ (getD_mem (d := (⟨#[]⟩ : ByteArray)) hj); omega) W (hE.below hb))
   (hide fun W => isCommand_a _ W hok) (hide fun h W hb => commandText_a _ W h (hE.below hb).tab) rfl).mono ?_
  intro e w' he
  by_cases q : (cmB (cdI (spW s)) && ((tx (cmT (cdI (spW s)))).toList == s.toList)) = true
  ·rw [if_pos q] at he
   rw [Bool.and_eq_true] at q
   have hT : tx (cmT (cdI (spW s))) = s := by
    have h9 := eq_of_beq q.2
    rw [Lib.toList_data, Lib.toList_data, tx_list] at h9
    rw [h9]
    exact tx_of s
   obtain ⟨k1, k2⟩ := hP.yes q.1 hT
   rw [← k1, k2]
   exact he
  ·rw [if_neg q] at he
   obtain ⟨rfl, rfl⟩ := hP.no (fun c' h1 h3 => q (by
    have h4 := (cm_of h1 h3).2.1
    rw [h4, h3, Bool.and_eq_true]
    exact ⟨h1, by simp⟩))
   exact he
end Go.Proofs.YtfoofbcmaljmoaaGreatDoor
