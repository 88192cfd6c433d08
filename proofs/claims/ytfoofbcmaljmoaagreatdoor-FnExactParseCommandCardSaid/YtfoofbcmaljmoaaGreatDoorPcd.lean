/- ParseCommand, spec.: joined. -/
import Derived.Test.YtfoofbcmaljmoaaGreatDoorPcu
import Derived.Test.YtfoofbcmaljmoaaGreatDoorPcv
import Derived.Test.YtfoofbcmaljmoaaGreatDoorPcw
import Derived.Test.YtfoofbcmaljmoaaGreatDoorPcx
import Derived.Test.YtfoofbcmaljmoaaGreatDoorPcy
import Derived.Test.YtfoofbcmaljmoaaGreatDoorPca
import Derived.Test.YtfoofbcmaljmoaaGreatDoorPcb
namespace Go.Proofs.YtfoofbcmaljmoaaGreatDoor
open Go.RowKit
set_option linter.unusedVariables false
set_option linter.unusedSimpArgs false
attribute [local go_sem] q2 q3 q4 q5 q6 q7 q8 q9 q10 q11 q12

theorem sl_cells {W w' : World} {zs : List ByteArray} {e : Ending} (hz : 0 < zs.length) (h : RetSL W zs e w') : ∃ g9 c9, e = .returned (.slice (some ⟨g9, 0, none⟩) zs.length c9) ∧ W.heap.size ≤ g9 ∧ g9 < w'.heap.size ∧ (∀ j, j < zs.length → w'.cell? ⟨g9, j, none⟩ = some (.string (zs.getD j ⟨#[]⟩))) ∧ Below W.heap.size W w' := by
 obtain ⟨a, c, h1, h2, h3⟩ := h
 obtain ⟨g, hg, hg2⟩ : ∃ g, a = some ⟨g, 0, none⟩ ∧ W.heap.size ≤ g := by
  rcases h2.2 with ⟨k1, k2⟩ | ⟨g, cap, cur, k1, k2, _⟩
  ·have : zs = [] := by simpa using k2
   subst this
   simp at hz
  ·simp only [Value.slice.injEq] at k1
   exact ⟨g, k1.1, k2⟩
 subst hg
 have hs := h2.strs.2
 obtain ⟨g', hg', hlt, _⟩ := StrsAt.cell hs hz
 injection hg' with hg'
 injection hg' with hg'
 subst hg'
 refine ⟨_, c, h1, hg2, hlt, fun j hj => ?_, h3⟩
 obtain ⟨g', hg', _, hq⟩ := StrsAt.cell hs hj
 injection hg' with hg'
 injection hg' with hg'
 subst hg'
 exact hq
theorem cr_all {s : ByteArray} {c : Cmd} (h1 : cmB c = true) (h2 : tx (cmT c) = s) : crI (spL 32 s) = c ∧ 2 ≤ (spL 32 s).length ∧ (spL 32 s).length ≤ 4 ∧ (hfB (kdV ((spL 32 s).getD 0 ⟨#[]⟩)) = true → (spL 32 s).length = 3 ∧ frB ((spL 32 s).getD 2 ⟨#[]⟩).data.toList = true) := by
 rw [cr_of h1 h2]
 obtain ⟨a, b, d, e⟩ := crI_cm h1
 refine ⟨a, b, d, fun h => e ?_⟩
 have : (crI (cmW c)).k = kdV ((cmW c).getD 0 ⟨#[]⟩) := by unfold crI; split <;> rfl
 rw [a] at this
 rw [this]; exact h
theorem cm_fin {s : ByteArray} {c : Cmd} {ok : Bool} (hP : CmIs s c ok) {C : Cmd} (hC : crI (spL 32 s) = C) {w w' : World} {e : Ending}
  (he : (if cmB C && ((tx (cmT C)).toList == s.toList) then RetCm w C true else RetCm w cm0 false) e w') : RetCm w c ok e w' := by
 by_cases q : (cmB C && ((tx (cmT C)).toList == s.toList)) = true
 ·rw [if_pos q] at he
  rw [Bool.and_eq_true] at q
  have hT : tx (cmT C) = s := by
   have h9 := eq_of_beq q.2
   rw [Lib.toList_data, Lib.toList_data, tx_list] at h9
   rw [h9]
   exact tx_of s
  obtain ⟨k1, k2⟩ := hP.yes q.1 hT
  rw [← k1, k2]
  exact he
 ·rw [if_neg q] at he
  obtain ⟨rfl, rfl⟩ := hP.no (fun c' h1 h3 => q (by
   have h4 := (cr_all h1 h3).1
   rw [hC] at h4
   rw [h4, h3, Bool.and_eq_true]
   exact ⟨h1, by simp⟩))
  exact he
theorem fsL_b (l : List UInt8) (j : Nat) : -1000000 ≤ (fsL l).getD j 0 ∧ (fsL l).getD j 0 ≤ 1000000 := by
 unfold fsL
 split
 ·by_cases h : j < (spl 44 [] l).length
  ·have : ((spl 44 [] l).map (fun x => (foI x).1)).getD j 0 = (foI ((spl 44 [] l).getD j [])).1 := by simp [List.getD_eq_getElem?_getD, List.getElem?_map, List.getElem?_eq_getElem h]
   rw [this]; exact foI_b _
  ·rw [List.getD_eq_getElem?_getD, List.getElem?_eq_none (by rw [List.length_map]; omega)]
   simp
 ·simp
theorem i64z : I64 0 := i64m (by omega)
theorem frV_ok (l : List UInt8) : I64 (frV l).1 ∧ I64 (frV l).2.1 ∧ I64 (frV l).2.2 := by
 unfold frV
 split
 ·exact ⟨i64m (fsL_b _ 0), i64m (fsL_b _ 1), i64m (fsL_b _ 2)⟩
 ·exact ⟨i64z, i64z, i64z⟩
theorem kd_i64 (y : ByteArray) : I64 (kdV y) := by
 have : -10 ≤ kdV y ∧ kdV y ≤ 10 := by
  unfold kdV
  repeat' split
  all_goals omega
 exact i64m (by omega)
theorem l2x {l : List ByteArray} (h : l.length = 2) : ∃ a b, l = [a, b] := by
 match l, h with
 | [a, b], _ => exact ⟨a, b, rfl⟩
theorem l3x {l : List ByteArray} (h : l.length = 3) : ∃ a b c, l = [a, b, c] := by
 match l, h with
 | [a, b, c], _ => exact ⟨a, b, c, rfl⟩
theorem l4x {l : List ByteArray} (h : l.length = 4) : ∃ a b c d, l = [a, b, c, d] := by
 match l, h with
 | [a, b, c, d], _ => exact ⟨a, b, c, d, rfl⟩
set_option maxRecDepth 100000 in
set_option maxHeartbeats 4000000 in
theorem lgRead_a (s : ByteArray) (hs : s.size ≤ 1100000) {c : Cmd} {ok : Bool} (hP : CmIs s c ok) (w : World) :
  Calls Tryz.prog 7 #[.string s] w (RetCm w c ok) := by
 have hsp : ∀ W, Calls Tryz.prog 13 #[.string s, .int .u8 32] W (RetSL W (spL 32 s)) := fun W => l1Split_a s 32 (by omega) W
 have hsL : s.data.toList.length = s.size := Array.length_toList
 have hsz : ∀ x ∈ spL 32 s, x.size ≤ 1100000 := fun x hx => by
  unfold spL at hx
  obtain ⟨y, hy, rfl⟩ := List.mem_map.1 hx
  have := spl_sz2 32 s.data.toList [] y hy
  simp only [List.length_nil] at this
  rw [tx_size]; omega
 have hln : (spL 32 s).length ≤ 8000000 := by
  have := spl_len 32 s.data.toList []
  unfold spL
  rw [List.length_map]; omega
 by_cases h2 : 2 ≤ (spL 32 s).length ∧ (spL 32 s).length ≤ 4
 ·rcases (show (spL 32 s).length = 2 ∨ (spL 32 s).length = 3 ∨ (spL 32 s).length = 4 by omega) with h | h | h
  ·obtain ⟨x0, x1, hx⟩ := l2x h
   have hA : ∀ c' : Cmd, cmB c' = true → tx (cmT c') = s → crI [x0, x1] = c' ∧ (hfB (kdV x0) = true → False) := fun c' h1 h3 => by
    obtain ⟨e1, e2, e3, e4⟩ := cr_all h1 h3
    rw [hx] at e1 e4
    exact ⟨e1, fun h => by have := (e4 h).1; simp at this⟩
   rw [hx] at hsp hsz
   have z0 := hsz x0 (by simp)
   have z1 := hsz x1 (by simp)
   cases hfk : hfB (kdV x0)
   ·have hok : CmdOk ⟨kdV x0, x1, ⟨#[]⟩, ⟨#[]⟩, (0, 0, 0)⟩ := ⟨kd_i64 x0, (show x1.size ≤ _ by omega), (show (0 : Nat) ≤ _ by omega), (show (0 : Nat) ≤ _ by omega), i64z, i64z, i64z⟩
    refine (sr_n2 s x0 x1 _ _ _ _ w (hide rfl) hfk (hide fun W => lgCommand_a _ W hok) (hide fun h W _ => lgText_a _ W h) rfl
   (hide fun W hb => (hsp W).mono fun e w' h => by
    obtain ⟨g9, c9, h1, h2, h3, h4, h5⟩ := sl_cells (by simp) h
    exact ⟨g9, c9, h1, h2, h3, h4 0 (by simp), h4 1 (by simp), h5⟩)).mono ?_
    intro e w' he
    refine cm_fin hP (C := ⟨kdV x0, x1, ⟨#[]⟩, ⟨#[]⟩, (0, 0, 0)⟩) ?_ he
    rw [hx]; unfold crI
    rw [if_neg (by show ¬ hfB (kdV x0) = true; rw [hfk]; decide)]; rfl
   ·obtain ⟨rfl, rfl⟩ := hP.no (fun c' h1 h3 => (hA c' h1 h3).2 hfk)
    refine (sr_f2 s x0 x1 _  w (hide rfl) hfk 
   (hide fun W hb => (hsp W).mono fun e w' h => by
    obtain ⟨g9, c9, h1, h2, h3, h4, h5⟩ := sl_cells (by simp) h
    exact ⟨g9, c9, h1, h2, h3, h4 0 (by simp), h4 1 (by simp), h5⟩)).mono ?_
    exact fun e w' he => he
  ·obtain ⟨x0, x1, x2, hx⟩ := l3x h
   have hA : ∀ c' : Cmd, cmB c' = true → tx (cmT c') = s → (hfB (kdV x0) = true → frB x2.data.toList = true) := fun c' h1 h3 => by
    obtain ⟨e1, e2, e3, e4⟩ := cr_all h1 h3
    rw [hx] at e4
    exact fun h => (e4 h).2
   rw [hx] at hsp hsz
   have z0 := hsz x0 (by simp)
   have z1 := hsz x1 (by simp)
   have z2 := hsz x2 (by simp)
   cases hfk : hfB (kdV x0)
   ·have hok : CmdOk ⟨kdV x0, x1, x2, ⟨#[]⟩, (0, 0, 0)⟩ := ⟨kd_i64 x0, (show x1.size ≤ _ by omega), (show x2.size ≤ _ by omega), (show (0 : Nat) ≤ _ by omega), i64z, i64z, i64z⟩
    refine (sr_n3 s x0 x1 x2 _ _ _ _ w (hide rfl) hfk (hide fun W => lgCommand_a _ W hok) (hide fun h W _ => lgText_a _ W h) rfl
   (hide fun W hb => (hsp W).mono fun e w' h => by
    obtain ⟨g9, c9, h1, h2, h3, h4, h5⟩ := sl_cells (by simp) h
    exact ⟨g9, c9, h1, h2, h3, h4 0 (by simp), h4 1 (by simp), h4 2 (by simp), h5⟩)).mono ?_
    intro e w' he
    refine cm_fin hP (C := ⟨kdV x0, x1, x2, ⟨#[]⟩, (0, 0, 0)⟩) ?_ he
    rw [hx]; unfold crI
    rw [if_neg (by show ¬ hfB (kdV x0) = true; rw [hfk]; decide)]; rfl
   ·have hY : ∀ W, Below w.heap.size w W → Calls Tryz.prog 17 #[.string x2] W (RetPF W (frV x2.data.toList) (frB x2.data.toList)) := fun W _ => foRead_a x2 (by omega) W
    have hi := frV_ok x2.data.toList
    have hF9 : crI [x0, x1, x2] = ⟨kdV x0, x1, ⟨#[]⟩, ⟨#[]⟩, frV x2.data.toList⟩ := by
     unfold crI
     rw [if_pos (by show hfB (kdV x0) = true; exact hfk)]; rfl
    rw [← hx] at hF9
    obtain ⟨⟨g0, g1, g2⟩, hF⟩ : ∃ F, frV x2.data.toList = F := ⟨_, rfl⟩
    rw [hF] at hY hi hF9
    cases hb : frB x2.data.toList
    ·obtain ⟨rfl, rfl⟩ := hP.no (fun c' h1 h3 => by have := hA c' h1 h3 hfk; rw [hb] at this; exact absurd this (by decide))
     rw [hb] at hY
     refine (sr_f1 s x0 x1 x2 _ g0 g1 g2 w (hide rfl) hfk (hide hY)
      (hide fun W hb => (hsp W).mono fun e w' h => by
    obtain ⟨g9, c9, h1, h2, h3, h4, h5⟩ := sl_cells (by simp) h
    exact ⟨g9, c9, h1, h2, h3, h4 0 (by simp), h4 1 (by simp), h4 2 (by simp), h5⟩)).mono ?_
     exact fun e w' he => he
    ·rw [hb] at hY
     have hok : CmdOk ⟨kdV x0, x1, ⟨#[]⟩, ⟨#[]⟩, (g0, g1, g2)⟩ := ⟨kd_i64 x0, (show x1.size ≤ _ by omega), (show (0 : Nat) ≤ _ by omega), (show (0 : Nat) ≤ _ by omega), hi.1, hi.2.1, hi.2.2⟩
     refine (sr_f3 s x0 x1 x2 _ g0 g1 g2 _ _ _ w (hide rfl) hfk (hide hY) (hide fun W => lgCommand_a _ W hok) (hide fun h W _ => lgText_a _ W h) rfl
      (hide fun W hb => (hsp W).mono fun e w' h => by
    obtain ⟨g9, c9, h1, h2, h3, h4, h5⟩ := sl_cells (by simp) h
    exact ⟨g9, c9, h1, h2, h3, h4 0 (by simp), h4 1 (by simp), h4 2 (by simp), h5⟩)).mono ?_
     intro e w' he
     exact cm_fin hP (C := ⟨kdV x0, x1, ⟨#[]⟩, ⟨#[]⟩, (g0, g1, g2)⟩) hF9 he
  ·obtain ⟨x0, x1, x2, x3, hx⟩ := l4x h
   have hA : ∀ c' : Cmd, cmB c' = true → tx (cmT c') = s → (hfB (kdV x0) = true → False) := fun c' h1 h3 => by
    obtain ⟨e1, e2, e3, e4⟩ := cr_all h1 h3
    rw [hx] at e4
    exact fun h => by have := (e4 h).1; simp at this
   rw [hx] at hsp hsz
   have z0 := hsz x0 (by simp)
   have z1 := hsz x1 (by simp)
   have z2 := hsz x2 (by simp)
   have z3 := hsz x3 (by simp)
   cases hfk : hfB (kdV x0)
   ·have hok : CmdOk ⟨kdV x0, x1, x2, x3, (0, 0, 0)⟩ := ⟨kd_i64 x0, (show x1.size ≤ _ by omega), (show x2.size ≤ _ by omega), (show x3.size ≤ _ by omega), i64z, i64z, i64z⟩
    refine (sr_n4 s x0 x1 x2 x3 _ _ _ _ w (hide rfl) hfk (hide fun W => lgCommand_a _ W hok) (hide fun h W _ => lgText_a _ W h) rfl
   (hide fun W hb => (hsp W).mono fun e w' h => by
    obtain ⟨g9, c9, h1, h2, h3, h4, h5⟩ := sl_cells (by simp) h
    exact ⟨g9, c9, h1, h2, h3, h4 0 (by simp), h4 1 (by simp), h4 2 (by simp), h4 3 (by simp), h5⟩)).mono ?_
    intro e w' he
    refine cm_fin hP (C := ⟨kdV x0, x1, x2, x3, (0, 0, 0)⟩) ?_ he
    rw [hx]; unfold crI
    rw [if_neg (by show ¬ hfB (kdV x0) = true; rw [hfk]; decide)]; rfl
   ·obtain ⟨rfl, rfl⟩ := hP.no (fun c' h1 h3 => hA c' h1 h3 hfk)
    refine (sr_f4 s x0 x1 x2 x3 _  w (hide rfl) hfk 
   (hide fun W hb => (hsp W).mono fun e w' h => by
    obtain ⟨g9, c9, h1, h2, h3, h4, h5⟩ := sl_cells (by simp) h
    exact ⟨g9, c9, h1, h2, h3, h4 0 (by simp), h4 1 (by simp), h4 2 (by simp), h4 3 (by simp), h5⟩)).mono ?_
    exact fun e w' he => he
 ·obtain ⟨rfl, rfl⟩ := hP.no (fun c' h1 h3 => by
   obtain ⟨e1, e2, e3, e4⟩ := cr_all h1 h3
   exact h2 ⟨e2, e3⟩)
  exact sr_1 s (spL 32 s).length w (fun h => h2 ⟨by omega, by omega⟩) hln (hide fun W hb => (hsp W).mono fun e w' ⟨a, c, h1, h3, h4⟩ => ⟨a, c, h1, h4⟩)
set_option maxRecDepth 100000 in
set_option maxHeartbeats 4000000 in
theorem specPc_a (s : ByteArray) (hs : s.size ≤ 1100000) {c : Cmd} {ok : Bool} (hP : CmIs s c ok) (w : World) :
  Calls Tryz.prog 4 #[.string s] w (RetCm w c ok) := by
 have HR := hide (fun W => lgRead_a s hs hP W)
 obtain ⟨k, n, a, b, f0, f1, f2⟩ := c
 clear hP
 go_enter Tryz.func4, Tryz.ntmps4
 go_wp2_with fail
 refine ((unhide HR) _).mono ?_
 rintro e w1 ⟨rfl, hb1⟩
 have hcs9 := cells_calls hb1 [⟨w.heap.size, 0, none⟩, ⟨w.heap.size, 1, none⟩, ⟨w.heap.size, 2, none⟩, ⟨w.heap.size, 3, none⟩, ⟨w.heap.size, 4, none⟩, ⟨w.heap.size, 5, none⟩, ⟨w.heap.size, 6, none⟩] [.int .i64 0, .string ⟨#[]⟩, .string ⟨#[]⟩, .string ⟨#[]⟩, .int .i64 0, .int .i64 0, .int .i64 0] (by refine ⟨?_, ?_, ?_, ?_, ?_, ?_, ?_, trivial⟩ <;> exact byCT)
 have hfs9 := frees_calls hb1 [⟨w.heap.size, 0, none⟩, ⟨w.heap.size, 1, none⟩, ⟨w.heap.size, 2, none⟩, ⟨w.heap.size, 3, none⟩, ⟨w.heap.size, 4, none⟩, ⟨w.heap.size, 5, none⟩, ⟨w.heap.size, 6, none⟩] (by refine ⟨?_, ?_, ?_, ?_, ?_, ?_, ?_, trivial⟩ <;> first | with_reducible assumption | omega | (simp; omega) | (simp; done)) (by refine ⟨?_, ?_, ?_, ?_, ?_, ?_, ?_, trivial⟩ <;> exact byFT)
 have hzs9 := blocks_calls hb1 [w.heap.size] (by refine ⟨?_, trivial⟩ <;> first | with_reducible assumption | omega | (simp; omega) | (simp; done))
 try clear c00 c01 c02 c03 c04 c05 c06 f00 f01 f02 f03 f04 f05 f06
 obtain ⟨c00, c01, c02, c03, c04, c05, c06, -⟩ := hcs9
 obtain ⟨f00, f01, f02, f03, f04, f05, f06, -⟩ := hfs9
 obtain ⟨z0, -⟩ := hzs9
 have s1 := hb1.size
 go_wp2_with fail
 have k09 : True := trivial
 refine bodyPost_ret (v := .tuple #[cmv ⟨k, n, a, b, (f0, f1, f2)⟩, .bool ok]) (by first | (simp [results, Tryz.results4, go_sem, *]; done) | (simp [results, Tryz.results4, go_sem, *]; rfl)) rfl ?_
 exact ⟨rfl, byGG⟩
end Go.Proofs.YtfoofbcmaljmoaaGreatDoor
