/- DiscriminantsWithFactors, spec. -/
import Derived.Test.YtaeabefbohlcpaaDwf
namespace Go.Proofs.Ytaeabefbohlcpaa
open Go.RowKit
set_option linter.unusedVariables false
set_option linter.unusedSimpArgs false
attribute [local go_sem] q2 q3 q4 q5 q6 q7 q8 q9 q10 q11 q12

set_option maxRecDepth 100000 in
set_option maxHeartbeats 4000000 in
theorem specDwf_y (g n : Nat) (z : Nat → Int) (w : World) (hn : n ≤ 2000000) (hR : RowI w g n z) (h9 : chB z n = true) :
  Calls Try.prog 10 #[.slice (some ⟨g, 0, none⟩) n n] w (RetInts w (dfL (cprV z n) (zlD n z) (dcL (-2000) (-3)) (dcL (-2000) (-3)).length).length (fun i => (dfL (cprV z n) (zlD n z) (dcL (-2000) (-3)) (dcL (-2000) (-3)).length).getD i 0) true) := by
 have HA : Hid (IntsAt w 0 w.heap.size (some ⟨g, 0, none⟩) n (fun i => (zlD n z).getD i 0)) := hide ((hR.at (Nat.zero_le _)).congr fun i hi => (zlD_at hi).symm)
 have HCH : Hid (∀ W, Below w.heap.size w W → Calls Try.prog 22 #[.slice (some ⟨g, 0, none⟩) n n] W fun e w' => e = .returned (.tuple #[.int .i64 (cprV z n), .bool true]) ∧ W = w') := hide fun W hb => by rw [← h9]; exact tbFactors_a _ n z W (hR.arg.below hb) hn
 have HZ : Hid (n = (zlD n z).length) := hide (zlD_len n z).symm
 have HC : ∀ W, Calls Try.prog 14 #[.int .i64 (-2000), .int .i64 (-3)] W (RetIL W (dcL (-2000) (-3))) := fun W => tbDiscs_a (-2000) (-3) W (by omega) (by omega)
 have HC := hide HC
 have hlen := dcL_len (lo := -2000) (hi := -3) (by omega) (by omega)
 have HM := fun x hx => dcL_mem (lo := -2000) (hi := -3) (x := x) hx
 generalize dcL (-2000) (-3) = ds at *
 generalize zlD n z = zs at *
 clear hR h9
 generalize cprV z n = h at *
 go_enter Try.func10, Try.ntmps10
 go_wp2_with (first | (go_at_call 22; refine ((unhide HCH) _ byGG).mono ?_; rintro e w1 ⟨rfl, rfl⟩) | (go_at_call 14; refine ((unhide HC) _).mono ?_; rintro e wA ⟨a0, c0, rfl, hlA, hbA⟩))
 have hS : IntsAt wA w.heap.size wA.heap.size a0 ds.length (fun i => ds.getD i 0) := hlA.ints.2.weak (by simp) (Nat.le_refl _)
 have hsd := SI.startN (LO := w.heap.size) (S := srcI w.heap.size wA.heap.size a0 ds.length (fun i => ds.getD i 0)) hbA hS (Nat.le_refl _)
 have hK := ints_kept (LO := w.heap.size) (HI := wA.heap.size) (n := ds.length) (a := a0) (f := fun i => ds.getD i 0)
 obtain ⟨HI, hHI⟩ : ∃ HI, wA.heap.size = HI := ⟨_, rfl⟩
 rw [hHI] at hsd hK hS
 clear hlA hS
 go_loopw [6, 18] (fun ls is wr => ∃ (k n9 c : Nat) (a : Option Addr) (l : List Int), is = .int .i64 (k : Int) ∧ ls = .slice a n9 c ∧ k ≤ ds.length ∧ n9 ≤ k ∧ Hid (l = dfL h zs ds k) ∧ SI w w.heap.size HI (srcI w.heap.size HI a0 ds.length (fun i => ds.getD i 0)) wr a n9 c l) (fun _ is _ => ds.length - (intOf is).toNat)
 case atStart => exact ⟨0, 0, 0, _, _, rfl, rfl, by omega, by omega, hide rfl, hsd⟩
 case round =>
  clear hsd hbA
  obtain ⟨k, n9, c, a, l, rfl, rfl, hk, hnk, hl, hsd⟩ := hrel
  obtain ⟨w1, rfl⟩ : ∃ w1 : World, w1 = wr := ⟨_, rfl⟩
  have hz := hsd.sd.bel.size
  have hln := hsd.len
  have hlb : l.length ≤ 3000 := by have := unhide hln; omega
  by_cases c9 : k < ds.length
  ·have hci : (k : Int) < (ds.length : Int) := by omega
   obtain ⟨g0, hg0, hg2, d0⟩ := IntsAt.cell hsd.sd.src c9
   have hx := HM _ (gdm (d := 0) c9)
   obtain ⟨x, hxx⟩ : ∃ x, ds.getD k 0 = x := ⟨_, rfl⟩
   rw [hxx] at d0 hx
   subst hg0
   obtain ⟨x0, x1⟩ := neg_true hx
   have HG : ∀ W, Calls Try.prog 24 #[.int .i64 x] W (RetIL W (rowFL x)) := fun W => tbGroup_a x W hx
   have HF : ∀ W, Calls Try.prog 16 #[.int .i64 x] W (RetLen W (rfL x).length) := fun W => reList_len x W x0 x1 rfl
   have HS : ∀ (W : World) (a1 : Option Addr) (c1 l1 u1 : Nat), u1 ≤ W.heap.size → IntsAt W l1 u1 a1 (rowFL x).length (fun i => (rowFL x).getD i 0) → Below w.heap.size w W → Calls Try.prog 23 #[.slice a1 (rowFL x).length c1, .slice (some ⟨g, 0, none⟩) n n] W fun e w' => e = .returned (.bool (decide (rowFL x = zs))) ∧ Below W.heap.size W w' := fun W a1 c1 l1 u1 h1 h2 h3 =>
    l1Same_a (rowFL x) zs a1 _ _ _ c1 n l1 u1 0 w.heap.size W (hide rfl) HZ h1 h3.size h2 ((unhide HA).below h3 (Nat.le_refl _)) (by have := rowFL_len hx; omega) (by omega)
   have hlx := rfL_len x0 x1
   have HP : dfP h zs x = (decide (((rfL x).length : Int) = h) && decide (rowFL x = zs)) := rfl
   obtain ⟨nn, hnn⟩ : ∃ nn, (rfL x).length = nn := ⟨_, rfl⟩
   obtain ⟨xs, hxs⟩ : ∃ xs, rowFL x = xs := ⟨_, rfl⟩
   rw [hnn] at HF hlx HP
   rw [hxs] at HG HS HP
   clear hnn hxs
   obtain ⟨bb, hbb⟩ : ∃ bb, decide (xs = zs) = bb := ⟨_, rfl⟩
   rw [hbb] at HS HP
   clear hbb
   have HG := hide HG
   have HF := hide HF
   have HS := hide HS
   cases cp : dfP h zs x
   ·have NO := hide ((unhide hl).trans (df_no hxx cp).symm)
    by_cases ce : (nn : Int) = h
    ·subst ce
     obtain rfl : bb = false := by rw [cp] at HP; simpa using HP.symm
     have tt : ((nn : Int) == (nn : Int)) = true := by simp
     clear HP
     clear hxx cp
     go_wp2_with (first | (go_at_call 24; refine ((unhide HG) _).mono ?_; rintro e w8 ⟨a8, c8, rfl, hl8, hb8⟩; have hs8 := hs2.call hK hb8; have hz8 := hs8.sd.bel.size) | (go_at_call 23; refine ((unhide HS) _ _ _ _ _ (Nat.le_refl _) hl8.ints.2 hs8.sd.bel).mono ?_; rintro e w9 ⟨rfl, hb9⟩; have hs9 := hs8.call hK hb9; have hz9 := hs9.sd.bel.size) | (go_at_call 16; refine ((unhide HF) _).mono ?_; rintro e w2 ⟨a2, c2, rfl, hb2⟩; have hs2 := hsd.call hK hb2; have hz2 := hs2.sd.bel.size))
     go_roundw
     case rel => first | exact ⟨k + 1, n9, c, _, l, by first | rfl | go_num, rfl, by omega, by omega, NO, hs9⟩ | ((repeat apply Exists.intro); exact ⟨⟨k + 1, n9, c, _, l, by first | rfl | go_num, rfl, by omega, by omega, NO, hs9⟩, rfl⟩)
     case measure => simp [intOf]; omega
    ·have tt : ((nn : Int) == h) = false := by simpa using ce
     clear HP
     clear hxx cp
     go_wp2_with (first | (go_at_call 24; refine ((unhide HG) _).mono ?_; rintro e w8 ⟨a8, c8, rfl, hl8, hb8⟩; have hs8 := hs2.call hK hb8; have hz8 := hs8.sd.bel.size) | (go_at_call 23; refine ((unhide HS) _ _ _ _ _ (Nat.le_refl _) hl8.ints.2 hs8.sd.bel).mono ?_; rintro e w9 ⟨rfl, hb9⟩; have hs9 := hs8.call hK hb9; have hz9 := hs9.sd.bel.size) | (go_at_call 16; refine ((unhide HF) _).mono ?_; rintro e w2 ⟨a2, c2, rfl, hb2⟩; have hs2 := hsd.call hK hb2; have hz2 := hs2.sd.bel.size))
     go_roundw
     case rel => first | exact ⟨k + 1, n9, c, _, l, by first | rfl | go_num, rfl, by omega, by omega, NO, hs2⟩ | ((repeat apply Exists.intro); exact ⟨⟨k + 1, n9, c, _, l, by first | rfl | go_num, rfl, by omega, by omega, NO, hs2⟩, rfl⟩)
     case measure => simp [intOf]; omega
   ·have YES := hide ((congrArg (· ++ [x]) (unhide hl)).trans (df_yes hxx cp).symm)
    obtain rfl : bb = true := by rw [cp] at HP; have := HP.symm; simp at this; exact this.2
    obtain rfl : (nn : Int) = h := by rw [cp] at HP; have := HP.symm; simp at this; first | exact this | exact this.1
    have tt : ((nn : Int) == (nn : Int)) = true := by simp
    clear HP
    clear hxx cp
    go_wp2_with (first | (first | (go_at_call 24; refine ((unhide HG) _).mono ?_; rintro e w8 ⟨a8, c8, rfl, hl8, hb8⟩; have hs8 := hs2.call hK hb8; have hz8 := hs8.sd.bel.size) | (go_at_call 23; refine ((unhide HS) _ _ _ _ _ (Nat.le_refl _) hl8.ints.2 hs8.sd.bel).mono ?_; rintro e w9 ⟨rfl, hb9⟩; have hs9 := hs8.call hK hb9; have hz9 := hs9.sd.bel.size) | (go_at_call 16; refine ((unhide HF) _).mono ?_; rintro e w2 ⟨a2, c2, rfl, hb2⟩; have hs2 := hsd.call hK hb2; have hz2 := hs2.sd.bel.size)) | (at_builtin; refine app_int _ rfl (.tmp 33) (.tmp 35) rfl w.heap.size (.slice a n9 c) l x w9.heap.size rfl rfl (hs9.alloc hK _).il (by go_simp) (by omega) (by first | omega | (simp; omega)) ?_; intro g cap w3 hown hgrow hat hlt))
    go_roundw
    case rel =>
     have hs3 := (hs9.alloc hK _).app hK hown hgrow hat
     exact ⟨k + 1, l.length + 1, cap, some ⟨g, 0, none⟩, _, by go_num, rfl, by omega, by have := unhide hln; omega, YES, hs3⟩
    case measure => simp [intOf]; omega
  ·obtain rfl : k = ds.length := by omega
   go_wp2
   go_ret2
   have EL := unhide hl
   subst EL
   have hn := unhide hln
   refine ⟨a, c, by rw [← hn]; rfl, ?_, hsd.sd.bel⟩
   have := hsd.il.ints.2
   exact this

set_option maxRecDepth 100000 in
set_option maxHeartbeats 4000000 in
theorem specDwf_a (g n : Nat) (z : Nat → Int) (w : World) (hn : n ≤ 2000000) (hR : RowI w g n z) : Calls Try.prog 10 #[.slice (some ⟨g, 0, none⟩) n n] w (RetInts w (dfR n z).length (fun i => (dfR n z).getD i 0) (chB z n)) := by
 cases h : chB z n
 ·have hL : dfR n z = [] := by simp [dfR, h]
  have HCH : Hid (∀ W, Below w.heap.size w W → Calls Try.prog 22 #[.slice (some ⟨g, 0, none⟩) n n] W fun e w' => e = .returned (.tuple #[.int .i64 (cprV z n), .bool false]) ∧ W = w') := hide fun W hb => by rw [← h]; exact tbFactors_a _ n z W (hR.arg.below hb) hn
  have HL := hide hL
  clear hL hR h
  generalize cprV z n = P at *
  go_enter Try.func10, Try.ntmps10
  go_wp2_with (go_at_call 22; refine ((unhide HCH) _ byGG).mono ?_; rintro e w1 ⟨rfl, rfl⟩)
  go_ret2
  exact ⟨_, _, by rw [unhide HL]; rfl, .inl (by rw [unhide HL]; rfl), byGG⟩
 ·have hL : dfR n z = dfL (cprV z n) (zlD n z) (dcL (-2000) (-3)) (dcL (-2000) (-3)).length := by simp [dfR, h]
  rw [hL]
  exact specDwf_y g n z w hn hR h
end Go.Proofs.Ytaeabefbohlcpaa
