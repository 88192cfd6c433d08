/- integersIn. -/
import Derived.Test.YtfoofbcmaljmoaaGreatDoorEnv
namespace Go.Proofs.YtfoofbcmaljmoaaGreatDoor
open Go.RowKit
set_option linter.unusedVariables false
set_option linter.unusedSimpArgs false
attribute [local go_sem] q2 q3 q4 q5 q6 q7 q8 q9 q10 q11 q12

set_option maxRecDepth 100000 in
set_option maxHeartbeats 4000000 in
theorem integersIn_a (s : ByteArray) (hs : s.size ≤ 9000000) (w : World) (hE : Env w) : Calls Tryz.prog 21 #[.string s] w (RetIL w (iiL s)) := by
 have HF : Hid (∀ W, Calls Tryz.prog 35 #[.string s, .func (.func 36) #[] #[]] W fun e w' => ∃ A, e = .returned (.slice (some ⟨A, 0, none⟩) (Lib.goFieldsP nmP s).length (Lib.goFieldsP nmP s).length) ∧ SL w' W.heap.size (.slice (some ⟨A, 0, none⟩) (Lib.goFieldsP nmP s).length (Lib.goFieldsP nmP s).length) (Lib.goFieldsP nmP s) ∧ Below W.heap.size W w') := hide fun W => fields_a s (by omega) W
 have hlen := fields_len nmP s
 have HM := hide (fields_sz s)
 have HV : Hid (iiL s = if (Lib.goFieldsP nmP s).all iiOk then (Lib.goFieldsP nmP s).map iiV else []) := hide rfl
 have HE := hide hE
 clear hE
 generalize Lib.goFieldsP nmP s = zs at *
 generalize iiL s = R at *
 go_enter Tryz.func21, Tryz.ntmps21
 go_wp2_with (go_at_call 35; refine ((unhide HF) _).mono ?_; rintro e wA ⟨A, rfl, hlA, hbA⟩)
 have hS : StrsAt wA (w.heap.size + 1) wA.heap.size (some ⟨A, 0, none⟩) zs.length (fun i => zs.getD i ⟨#[]⟩) := by have := hlA.strs.2; simpa using this
 have hsd := SI.startM (S := srcStr (w.heap.size + 1) wA.heap.size (some ⟨A, 0, none⟩) zs.length (fun i => zs.getD i ⟨#[]⟩)) hbA hS (Nat.le_refl _)
 have hK := strs_kept (LO := w.heap.size + 1) (HI := wA.heap.size) (n := zs.length) (a := some ⟨A, 0, none⟩) (f := fun i => zs.getD i ⟨#[]⟩)
 obtain ⟨HI, hHI⟩ : ∃ HI, wA.heap.size = HI := ⟨_, rfl⟩
 rw [hHI] at hsd hK hS
 clear hlA hS
 go_loopw [3, 12] (fun ls is wr => ∃ (k n9 c : Nat) (a : Option Addr) (l : List Int), is = .int .i64 (k : Int) ∧ ls = .slice a n9 c ∧ k ≤ zs.length ∧ n9 ≤ k ∧ Hid (l = (zs.take k).map iiV) ∧ Hid ((zs.take k).all iiOk = true) ∧ SI w (w.heap.size + 1) HI (srcStr (w.heap.size + 1) HI (some ⟨A, 0, none⟩) zs.length (fun i => zs.getD i ⟨#[]⟩)) wr a n9 c l) (fun _ is _ => zs.length - (intOf is).toNat)
 case atStart => exact ⟨0, 0, 0, _, _, rfl, rfl, by omega, by omega, hide rfl, hide rfl, hsd⟩
 case round =>
  clear hsd hbA
  obtain ⟨k, n9, c, a, l, rfl, rfl, hk, hnk, hl, hall, hsd⟩ := hrel
  obtain ⟨w1, rfl⟩ : ∃ w1 : World, w1 = wr := ⟨_, rfl⟩
  have hz := hsd.sd.bel.size
  have hln := hsd.len
  have hlb : l.length ≤ 30000000 := by have := unhide hln; omega
  by_cases c9 : k < zs.length
  ·have hci : (k : Int) < (zs.length : Int) := by omega
   obtain ⟨g0, hg0, hg2, d0⟩ := StrsAt.cell hsd.sd.src c9
   have hx := (unhide HM) _ (gdm (d := ⟨#[]⟩) c9)
   have ht : zs.take (k + 1) = zs.take k ++ [zs.getD k ⟨#[]⟩] := by rw [List.take_succ_eq_append_getElem c9, List.getD_eq_getElem?_getD, List.getElem?_eq_getElem c9]; rfl
   have hm9 := gdm (d := (⟨#[]⟩ : ByteArray)) c9
   obtain ⟨x, hxx⟩ : ∃ x, zs.getD k ⟨#[]⟩ = x := ⟨_, rfl⟩
   rw [hxx] at d0 hx ht hm9
   injection hg0 with hg0
   injection hg0 with hg0
   subst hg0
   have hx2 : x.size ≤ 9000000 := by omega
   have HEw := hide ((unhide HE).below hsd.sd.bel)
   cases cp : iiOk x
   ·have HA : Hid (∀ W, Below w.heap.size w W → Calls Tryz.prog 37 #[.string x] W fun e w' => ∃ (x : Int) (T N : Nat), e = .returned (.tuple #[.int .i64 x, .iface T (.pointer (some ⟨N, 0, none⟩))]) ∧ Below W.heap.size W w') := hide fun W hb => atoi_no x hx2 W ((unhide HE).below hb) cp
    have NO : Hid (R = []) := hide (by
     rw [unhide HV, if_neg]
     intro h9
     rw [List.all_eq_true] at h9
     have := h9 _ hm9
     rw [cp] at this; cases this)
    clear cp hxx ht
    go_wp2_with (go_at_call 37; refine ((unhide HA) _ (by first | exact hsd.sd.bel | exact byGG)).mono ?_; rintro e w2 ⟨x9, T9, N9, rfl, hb2⟩; have hs2 := hsd.call hK hb2; have hz2 := hs2.sd.bel.size)
    go_ret
    refine ⟨some ⟨w2.heap.size, 0, none⟩, 0, by rw [unhide NO]; rfl, ?_, hs2.sd.bel.trans ((below_alloc_self w2 _).mono hz2)⟩
    rw [unhide NO]
    exact IL.made w2 w.heap.size hz2
   ·have HA : Hid (∀ W, Calls Tryz.prog 37 #[.string x] W fun e w' => e = .returned (.tuple #[.int .i64 (iiV x), .nilIface]) ∧ Below W.heap.size W w') := hide fun W => atoi_ok x hx2 W cp
    have YES : Hid (l ++ [iiV x] = (zs.take (k + 1)).map iiV) := hide (by rw [unhide hl, ht, List.map_append]; rfl)
    have ALL : Hid ((zs.take (k + 1)).all iiOk = true) := hide (by rw [ht, List.all_append, unhide hall]; simp [cp])
    clear cp hxx ht
    generalize iiV x = v at *
    go_wp2_with (first | (go_at_call 37; refine ((unhide HA) _).mono ?_; rintro e w2 ⟨rfl, hb2⟩; have hs2 := hsd.call hK hb2; have hz2 := hs2.sd.bel.size) | (at_builtin; refine app_int _ rfl (.tmp 24) (.tmp 26) rfl w.heap.size (.slice a n9 c) l v w2.heap.size rfl rfl (hs2.alloc hK _).il (by go_simp) (by omega) (by first | omega | (simp; omega)) ?_; intro g cap w3 hown hgrow hat hlt))
    go_roundw
    case rel =>
     have hs3 := (hs2.alloc hK _).app hK hown hgrow hat
     exact ⟨k + 1, l.length + 1, cap, some ⟨g, 0, none⟩, _, by go_num, rfl, by omega, by have := unhide hln; omega, YES, ALL, hs3⟩
    case measure => simp [intOf]; omega
  ·obtain rfl : k = zs.length := by omega
   have hR : l = R := by
    have h1 := unhide hall
    have h2 := unhide hl
    rw [List.take_length] at h1 h2
    rw [h2, unhide HV, if_pos h1]
   go_wp2
   go_ret
   exact hsd.ret hR rfl
end Go.Proofs.YtfoofbcmaljmoaaGreatDoor
