/- foInside, foInts. -/
import Derived.Test.YtfoofbcmaljmoaaGreatDoorPcf
import Derived.Test.YtfoofbcmaljmoaaGreatDoorFoi
namespace Go.Proofs.YtfoofbcmaljmoaaGreatDoor
open Go.RowKit
set_option linter.unusedVariables false
set_option linter.unusedSimpArgs false

theorem spl_sz2 (c : UInt8) : ∀ (l cur : List UInt8), ∀ x ∈ spl c cur l, x.length ≤ cur.length + l.length
 | [], cur, x, h => by simp [spl] at h; subst h; simp
 | b :: l, cur, x, h => by
  rw [spl] at h
  split at h
  ·rcases List.mem_cons.1 h with h | h
   ·subst h; simp
   ·have := spl_sz2 c l [] x h; simp at this ⊢; omega
  ·have := spl_sz2 c l (cur ++ [b]) x h; simp at this ⊢; omega
attribute [local go_sem] q2 q3 q4 q5 q6 q7 q8 q9 q10 q11 q12

theorem head_at {s : ByteArray} (h : 0 < s.size) : s.data.toList.head? = some s[0] := by
 have hl : s.data.toList.length = s.size := Array.length_toList
 rw [List.head?_eq_getElem?, List.getElem?_eq_getElem (by omega)]; rfl
theorem last_at {s : ByteArray} {m : Nat} (hm : s.size = m + 1) : s.data.toList.getLast? = some (s[m]'(by omega)) := by
 have hl : s.data.toList.length = s.size := Array.length_toList
 rw [List.getLast?_eq_getElem?, hl, show s.size - 1 = m by omega, List.getElem?_eq_getElem (by omega)]; rfl
theorem u8ne {a b : UInt8} {k : Int} (hb : (b.toNat : Int) = k) (h : ¬ a = b) : ((a.toNat : Int) != k) = true := by
 have : ¬ (a.toNat : Int) = k := fun e => h (UInt8.toNat_inj.1 (by omega))
 simpa using this
set_option maxRecDepth 100000 in
set_option maxHeartbeats 4000000 in
theorem foInside_a (s : ByteArray) (hs : s.size ≤ 9000000) (w : World) : Calls Tryz.prog 27 #[.string s, .int .u8 40, .int .u8 41] w fun e w' => e = .returned (.tuple #[.string (tx (fiM s.data.toList)), .bool (fiOk s.data.toList)]) ∧ w = w' := by
 have hl : s.data.toList.length = s.size := Array.length_toList
 have no : fiOk s.data.toList = false → Hid (fiM s.data.toList = [] ∧ fiOk s.data.toList = false) := fun h => hide ⟨by unfold fiM; rw [h]; rfl, h⟩
 by_cases q : 2 ≤ s.size
 ·have h0 : 0 < s.size := by omega
  obtain ⟨m, hm⟩ : ∃ m, s.size = m + 1 := ⟨s.size - 1, by omega⟩
  have q2 : ¬ (s.size : Int) < 2 := by omega
  by_cases c0 : s[0] = 40
  ·have k0 : ((s[0].toNat : Int) != 40) = false := by rw [c0]; rfl
   have hml : m < s.size := by omega
   by_cases c1 : s[m] = 41
   ·have hok : fiOk s.data.toList = true := by
     unfold fiOk
     rw [head_at h0, last_at hm, c0, c1, hl]
     simp; omega
    have HV : Hid (tx (fiM s.data.toList) = s.extract 1 m ∧ fiOk s.data.toList = true) := hide ⟨by
     unfold fiM
     rw [if_pos hok, ← tx_of (s.extract 1 m), Lib.extract_data, hl, hm]
     congr 2, hok⟩
    have k1 : ((s[m].toNat : Int) != 41) = false := by rw [c1]; rfl
    have k2 : ((s.size : Int) - 1) = (m : Int) := by omega
    have k3 : (m : Int) < (s.size : Int) := by omega
    have k4 : (1 : Int) ≤ (m : Int) := by omega
    clear hok hl no c0 c1 hm
    go_enter Tryz.func27, Tryz.ntmps27
    go_wp2
    go_ret2
    exact ⟨by rw [(unhide HV).1, (unhide HV).2]; rfl, rfl⟩
   ·have HV := no (by unfold fiOk; rw [last_at hm]; simp [c1])
    have k1 : ((s[m].toNat : Int) != 41) = true := u8ne rfl c1
    have k2 : ((s.size : Int) - 1) = (m : Int) := by omega
    have k3 : (m : Int) < (s.size : Int) := by omega
    clear hl no c0 c1 hm
    go_enter Tryz.func27, Tryz.ntmps27
    go_wp2
    go_ret2
    exact ⟨by rw [(unhide HV).1, (unhide HV).2]; rfl, rfl⟩
  ·have k0 : ((s[0].toNat : Int) != 40) = true := u8ne rfl c0
   have HV := no (by unfold fiOk; rw [head_at h0]; simp [c0])
   clear hl no c0 hm
   go_enter Tryz.func27, Tryz.ntmps27
   go_wp2
   go_ret2
   exact ⟨by rw [(unhide HV).1, (unhide HV).2]; rfl, rfl⟩
 ·have HV := no (by unfold fiOk; rw [hl]; simp [q])
  have q2 : (s.size : Int) < 2 := by omega
  clear hl no
  go_enter Tryz.func27, Tryz.ntmps27
  go_wp2
  go_ret2
  exact ⟨by rw [(unhide HV).1, (unhide HV).2]; rfl, rfl⟩
set_option maxRecDepth 100000 in
set_option maxHeartbeats 4000000 in
theorem foInts_a (s : ByteArray) (hs : s.size ≤ 2000000) (w : World) : Calls Tryz.prog 28 #[.string s, .int .u8 44, .int .i64 3] w (RetIL w (fsL s.data.toList)) := by
 have HS : Hid (∀ W, Calls Tryz.prog 13 #[.string s, .int .u8 44] W (RetSL W ((spl 44 [] s.data.toList).map tx))) := hide fun W => l1Split_a s 44 (by omega) W
 have hsz : Hid (∀ x ∈ spl 44 [] s.data.toList, x.length ≤ s.size) := hide fun x hx => by
  have := spl_sz2 44 s.data.toList [] x hx
  have hl : s.data.toList.length = s.size := Array.length_toList
  simp only [List.length_nil] at this
  omega
 obtain ⟨ls, hls⟩ : ∃ ls, spl 44 [] s.data.toList = ls := ⟨_, rfl⟩
 have HR : Hid (fsL s.data.toList = if decide (ls.length = 3) && ls.all (fun x => (foI x).2) then ls.map (fun x => (foI x).1) else []) := hide (by unfold fsL fsOk; rw [hls])
 rw [hls] at HS hsz
 clear hls
 generalize fsL s.data.toList = R at *
 by_cases h3 : ls.length = 3
 ·obtain ⟨zs, hzs⟩ : ∃ zs, ls.map tx = zs := ⟨_, rfl⟩
  have hzl : Hid (zs.length = 3) := hide (by rw [← hzs, List.length_map, h3])
  have HZ : Hid (∀ k, k < 3 → zs.getD k ⟨#[]⟩ = tx (ls.getD k []) ∧ (ls.getD k []).length ≤ s.size) := hide fun k hk => by
   refine ⟨?_, ?_⟩
   ·rw [← hzs]; simp [List.getD_eq_getElem?_getD, List.getElem?_map, List.getElem?_eq_getElem (show k < ls.length by omega)]
   ·exact (unhide hsz) _ (gdm (d := []) (by omega))
  rw [hzs] at HS
  have HL3 := hide h3
  have hz3 := unhide hzl
  obtain ⟨n3, hn3⟩ : ∃ n3, zs.length = n3 := ⟨_, rfl⟩
  have HS3 : Hid (∀ W, Calls Tryz.prog 13 #[.string s, .int .u8 44] W fun e w' => ∃ a c, e = .returned (.slice a 3 c) ∧ SL w' W.heap.size (.slice a 3 c) zs ∧ Below W.heap.size W w') := hide fun W => by
   have := (unhide HS) W
   unfold RetSL at this
   rw [unhide hzl] at this
   exact this
  clear h3 hz3 hn3 HS hzs
  go_enter Tryz.func28, Tryz.ntmps28
  go_wp2_with (go_at_call 13; refine ((unhide HS3) _).mono ?_; rintro e wA ⟨A, cA, rfl, hlA, hbA⟩)
  have hS : StrsAt wA w.heap.size wA.heap.size A 3 (fun i => zs.getD i ⟨#[]⟩) := by have := hlA.strs.2; rw [unhide hzl] at this; exact this
  have hsd := SI.startN (LO := w.heap.size) (S := srcStr w.heap.size wA.heap.size A 3 (fun i => zs.getD i ⟨#[]⟩)) hbA hS (Nat.le_refl _)
  have hK := strs_kept (LO := w.heap.size) (HI := wA.heap.size) (n := 3) (a := A) (f := fun i => zs.getD i ⟨#[]⟩)
  obtain ⟨HI, hHI⟩ : ∃ HI, wA.heap.size = HI := ⟨_, rfl⟩
  rw [hHI] at hsd hK hS
  clear hlA hS
  go_loopw [8, 22] (fun ls9 is wr => ∃ (k n9 c : Nat) (a : Option Addr) (l : List Int), is = .int .i64 (k : Int) ∧ ls9 = .slice a n9 c ∧ k ≤ 3 ∧ n9 ≤ k ∧ Hid (l = (ls.take k).map (fun x => (foI x).1)) ∧ Hid ((ls.take k).all (fun x => (foI x).2) = true) ∧ SI w w.heap.size HI (srcStr w.heap.size HI A 3 (fun i => zs.getD i ⟨#[]⟩)) wr a n9 c l) (fun _ is _ => 3 - (intOf is).toNat)
  case atStart => exact ⟨0, 0, 0, _, _, rfl, rfl, by omega, by omega, hide rfl, hide rfl, hsd⟩
  case round =>
   clear hsd hbA
   obtain ⟨k, n9, c, a, l, rfl, rfl, hk, hnk, hl, hall, hsd⟩ := hrel
   obtain ⟨w1, rfl⟩ : ∃ w1 : World, w1 = wr := ⟨_, rfl⟩
   have hz := hsd.sd.bel.size
   have hln := hsd.len
   have hlb : l.length ≤ 30000000 := by have := unhide hln; omega
   by_cases c9 : k < 3
   ·have hci : (k : Int) < 3 := by omega
    obtain ⟨g0, hg0, hg2, d0⟩ := StrsAt.cell hsd.sd.src c9
    obtain ⟨hz1, hz2⟩ := (unhide HZ) k c9
    have hkl : k < ls.length := by have := unhide HL3; omega
    have ht : ls.take (k + 1) = ls.take k ++ [ls.getD k []] := by rw [List.take_succ_eq_append_getElem hkl, List.getD_eq_getElem?_getD, List.getElem?_eq_getElem hkl]; rfl
    have hm9 := gdm (d := ([] : List UInt8)) hkl
    obtain ⟨y, hy⟩ : ∃ y, ls.getD k [] = y := ⟨_, rfl⟩
    rw [hy] at hz1 hz2 ht hm9
    rw [hz1] at d0
    subst hg0
    have hfo : ∀ W, Calls Tryz.prog 45 #[.string (tx y)] W fun e w' => e = .returned (.tuple #[.int .i64 (foI y).1, .bool (foI y).2]) ∧ W = w' := fun W => by
     have := foInt_a (tx y) W (by rw [tx_size]; omega)
     rw [tx_list] at this
     exact this
    obtain ⟨ty, hty⟩ : ∃ t, tx y = t := ⟨_, rfl⟩
    rw [hty] at d0 hfo
    obtain ⟨v, hv⟩ : ∃ v, (foI y).1 = v := ⟨_, rfl⟩
    cases cp : (foI y).2
    ·rw [cp, hv] at hfo
     have HX := hide hfo
     have NO : Hid (R = []) := hide (by
      rw [unhide HR, if_neg]
      intro h9
      rw [Bool.and_eq_true, List.all_eq_true] at h9
      have := h9.2 _ hm9
      rw [cp] at this; cases this)
     clear hfo cp hv hty ht hy hz1
     go_wp2_with (go_at_call 45; refine ((unhide HX) _).mono ?_; rintro e w2 ⟨rfl, rfl⟩)
     go_ret
     exact ⟨none, 0, by rw [unhide NO]; rfl, by rw [unhide NO]; exact IL.nil _ _, hsd.sd.bel⟩
    ·rw [cp, hv] at hfo
     have HX := hide hfo
     have YES : Hid (l ++ [v] = (ls.take (k + 1)).map (fun x => (foI x).1)) := hide (by rw [unhide hl, ht, List.map_append]; simp [hv])
     have ALL : Hid ((ls.take (k + 1)).all (fun x => (foI x).2) = true) := hide (by rw [ht, List.all_append, unhide hall]; simp [cp])
     clear hfo cp hv hty ht hy hz1
     go_wp2_with (first | (go_at_call 45; refine ((unhide HX) _).mono ?_; rintro e w2 ⟨rfl, rfl⟩) | (at_builtin; refine app_int _ rfl (.tmp 33) (.tmp 35) rfl w.heap.size (.slice a n9 c) l v w1.heap.size rfl rfl (hsd.alloc hK _).il (by go_simp) (by omega) (by first | omega | (simp; omega)) ?_; intro g cap w3 hown hgrow hat hlt))
     go_roundw
     case rel =>
      have hs3 := (hsd.alloc hK _).app hK hown hgrow hat
      exact ⟨k + 1, l.length + 1, cap, some ⟨g, 0, none⟩, _, by go_num, rfl, by omega, by have := unhide hln; omega, YES, ALL, hs3⟩
     case measure => simp [intOf]; omega
   ·obtain rfl : k = 3 := by omega
    have hR : l = R := by
     have h1 := unhide hall
     have h2 := unhide hl
     have h3 := unhide HL3
     rw [List.take_of_length_le (by omega)] at h1 h2
     rw [h2, unhide HR, if_pos (by rw [Bool.and_eq_true]; exact ⟨by simpa using h3, h1⟩)]
    go_wp2
    go_ret
    exact hsd.ret hR rfl
 ·have NO : Hid (R = []) := hide (by rw [unhide HR, if_neg (by simp [h3])])
  have HS2 : Hid (∀ W, Calls Tryz.prog 13 #[.string s, .int .u8 44] W fun e w' => ∃ a c, e = .returned (.slice a ls.length c) ∧ Below W.heap.size W w') := hide fun W => ((unhide HS) W).mono fun e w' ⟨a, c, h1, _, h3⟩ => ⟨a, c, by rw [List.length_map] at h1; exact h1, h3⟩
  have h4 : ((ls.length : Int) != 3) = true := by simp; omega
  clear HS
  generalize ls.length = nn at *
  go_enter Tryz.func28, Tryz.ntmps28
  go_wp2_with (go_at_call 13; refine ((unhide HS2) _).mono ?_; rintro e wA ⟨A, cA, rfl, hbA⟩)
  go_ret
  exact ⟨none, 0, by rw [unhide NO]; rfl, by rw [unhide NO]; exact IL.nil _ _, hbA⟩
end Go.Proofs.YtfoofbcmaljmoaaGreatDoor
