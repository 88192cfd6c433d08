/- The forms of a genus: genusWith. -/
import Derived.Test.YtaeabefbohlcpaaSf
import Derived.Test.YtaeabefbohlcpaaSam
import Derived.Test.YtaeabefbohlcpaaGnv
import Derived.Test.YtaeabefbohlcpaaRfl
namespace Go.Proofs.Ytaeabefbohlcpaa
open Go.RowKit
set_option linter.unusedVariables false
set_option linter.unusedSimpArgs false
attribute [local go_sem] q2 q3 q4 q5 q6 q7 q8 q9 q10 q11 q12

noncomputable def gwK (fs : List (Int × Int × Int)) (vs : List Int) (k : Nat) : List (Int × Int × Int) := flN (fun i => decide (gvL (fs.getD i (0, 0, 0)) = vs)) (fun i => fs.getD i (0, 0, 0)) k
theorem gw_len (fs : List (Int × Int × Int)) (vs : List Int) (k : Nat) : (gwK fs vs k).length ≤ k := flN_len _ _ _
theorem gw_head {fs : List (Int × Int × Int)} {vs : List Int} : ∀ {k : Nat}, (∃ i, i < k ∧ gvL (fs.getD i (0, 0, 0)) = vs) → ∃ j, j < k ∧ gvL (fs.getD j (0, 0, 0)) = vs ∧ (∀ i, i < j → gvL (fs.getD i (0, 0, 0)) ≠ vs) ∧ 0 < (gwK fs vs k).length ∧ (gwK fs vs k).getD 0 (0, 0, 0) = fs.getD j (0, 0, 0)
 | 0, h => by obtain ⟨i, hi, _⟩ := h; omega
 | k + 1, h => by
  by_cases q : ∃ i, i < k ∧ gvL (fs.getD i (0, 0, 0)) = vs
  ·obtain ⟨j, h1, h2, h3, h4, h5⟩ := gw_head q
   refine ⟨j, by omega, h2, h3, ?_, ?_⟩ <;> unfold gwK at h4 h5 ⊢ <;> rw [flN] <;> split
   ·rw [List.length_append]; omega
   ·exact h4
   ·rw [List.getD_eq_getElem?_getD, List.getElem?_append_left h4, ← List.getD_eq_getElem?_getD]; exact h5
   ·exact h5
  ·obtain ⟨i, hi, he⟩ := h
   obtain rfl : i = k := by
    by_cases e : i = k
    ·exact e
    ·exact absurd ⟨i, by omega, he⟩ q
   have hnil : flN (fun i => decide (gvL (fs.getD i (0, 0, 0)) = vs)) (fun i => fs.getD i (0, 0, 0)) i = [] := by
    rw [List.eq_nil_iff_forall_not_mem]
    intro x hx
    obtain ⟨j, hj, hp, _⟩ := flN_mem hx
    exact q ⟨j, hj, by simpa using hp⟩
   refine ⟨i, by omega, he, fun j hj hje => q ⟨j, hj, hje⟩, ?_, ?_⟩ <;> unfold gwK <;> rw [flN, if_pos (by simpa using he), hnil] <;> simp
theorem gw_yes {fs : List (Int × Int × Int)} {vs : List Int} {k : Nat} {x : Int × Int × Int} (hx : fs.getD k (0, 0, 0) = x) (h : gvL x = vs) : gwK fs vs (k + 1) = gwK fs vs k ++ [x] := by
 subst hx; exact flN_yes (p := fun i => decide (gvL (fs.getD i (0, 0, 0)) = vs)) (by simpa using h)
theorem gw_no {fs : List (Int × Int × Int)} {vs : List Int} {k : Nat} {x : Int × Int × Int} (hx : fs.getD k (0, 0, 0) = x) (h : ¬ gvL x = vs) : gwK fs vs (k + 1) = gwK fs vs k := by
 subst hx; exact flN_no (p := fun i => decide (gvL (fs.getD i (0, 0, 0)) = vs)) (by simpa using h)
theorem gvL_len {d : Int} {F : Int × Int × Int} (h0 : -2000 ≤ d) (h1 : d ≤ -3) (hd : discI F.1 F.2.1 F.2.2 = d) : (gvL F).length ≤ 2002 := by
 unfold gvL vlL; rw [List.length_map, hd]; exact chL_len h0 h1
theorem rf_at {d : Int} (hd : negB d = true) {k : Nat} (hk : k < (rfL d).length) : RedC ((rfL d).getD k (0, 0, 0)).1 ((rfL d).getD k (0, 0, 0)).2.1 ((rfL d).getD k (0, 0, 0)).2.2 ∧ discI ((rfL d).getD k (0, 0, 0)).1 ((rfL d).getD k (0, 0, 0)).2.1 ((rfL d).getD k (0, 0, 0)).2.2 = d := by
 obtain ⟨h1, h2⟩ := rf_in hd (gdm (d := (0, 0, 0)) hk)
 exact ⟨h2, h1.d⟩

set_option maxRecDepth 100000 in
set_option maxHeartbeats 4000000 in
theorem genusWith_a (d : Int) (vs : List Int) (av : Option Addr) (nv cv lv uv : Nat) (w : World) (hd : negB d = true) (ev : Hid (nv = vs.length)) (hiv : uv ≤ w.heap.size) (hv : IntsAt w lv uv av nv (fun i => vs.getD i 0)) (hnv : nv ≤ 1000000000) :
  Calls Try.prog 37 #[.int .i64 d, .slice av nv cv] w (RetFL w (gwK (rfL d) vs (rfL d).length)) := by
 obtain ⟨d0, d1⟩ := neg_true hd
 have HLen := rfL_len d0 d1
 have HRF := fun k hk => rf_at hd (k := k) hk
 have HND := rf_nodup d
 have HC : ∀ W, Calls Try.prog 21 #[.int .i64 d] W (RetFL W (rfL d)) := fun W => reducedForms_a d W d0 d1
 have HC := hide HC
 generalize rfL d = fs at *
 go_enter Try.func37, Try.ntmps37
 go_wp2_with (go_at_call 21; refine ((unhide HC) _).mono ?_; rintro e wA ⟨a0, c0, rfl, hlA, hbA⟩)
 have hS : FAt wA (w.heap.size + 1) wA.heap.size a0 fs := hlA.at.2.low (by simp)
 have hK := forms_kept (LO := (w.heap.size + 1)) (HI := wA.heap.size) (a := a0) (fs := fs)
 have hsd : SF w (w.heap.size + 1) wA.heap.size (srcF (w.heap.size + 1) wA.heap.size a0 fs) wA (some ⟨w.heap.size, 0, none⟩) 0 0 [] := ⟨hide rfl, SD.startM hbA hS (Nat.le_refl _)⟩
 obtain ⟨HI, hHI⟩ : ∃ HI, wA.heap.size = HI := ⟨_, rfl⟩
 rw [hHI] at hsd hK hS
 clear hlA hS
 go_loopw [5, 12] (fun ls is wr => ∃ (k n9 c : Nat) (a : Option Addr) (l : List (Int × Int × Int)), is = .int .i64 (k : Int) ∧ ls = .slice a n9 c ∧ k ≤ fs.length ∧ n9 ≤ k ∧ Hid (l = gwK fs vs k) ∧ SF w (w.heap.size + 1) HI (srcF (w.heap.size + 1) HI a0 fs) wr a n9 c l) (fun _ is _ => fs.length - (intOf is).toNat)
 case atStart => exact ⟨0, 0, 0, _, [], rfl, rfl, by omega, by omega, hide rfl, hsd⟩
 case round =>
  clear hsd hbA
  obtain ⟨k, n9, c, a, l, rfl, rfl, hk, hnk, hl, hsd⟩ := hrel
  obtain ⟨w1, rfl⟩ : ∃ w1 : World, w1 = wr := ⟨_, rfl⟩
  have hz := hsd.sd.bel.size
  have hln := hsd.len
  have hlb : l.length ≤ 3000 := by have := unhide hln; omega
  by_cases c9 : k < fs.length
  ·have hci : (k : Int) < (fs.length : Int) := by omega
   obtain ⟨g0, hg0, hg2, e0, e1, e2⟩ := FAt.cells hsd.sd.src c9
   obtain ⟨hrc, hdi⟩ := HRF k c9
   obtain ⟨X, hX⟩ : ∃ X, fs.getD k (0, 0, 0) = X := ⟨_, rfl⟩
   rw [hX] at e0 e1 e2 hrc hdi
   obtain ⟨x, y, z⟩ := X
   simp only at e0 e1 e2 hrc hdi
   have hgl := gvL_len (F := (x, y, z)) d0 d1 hdi
   subst hg0
   have HS : ∀ (W : World) (a2 : Option Addr) (c2 : Nat), Below w.heap.size w W → IL W w1.heap.size (.slice a2 (gvL (x, y, z)).length c2) (gvL (x, y, z)) → Calls Try.prog 27 #[.slice a2 (gvL (x, y, z)).length c2, .slice av nv cv] W fun e w' => e = .returned (.bool (decide (gvL (x, y, z) = vs))) ∧ Below W.heap.size W w' := fun W a2 c2 hb hl2 =>
    sameValues_a _ _ _ _ _ _ _ _ _ _ _ _ W (hide rfl) ev (Nat.le_refl _) (Nat.le_trans hiv hb.size) hl2.ints.2 (hv.below hb hiv) (by omega) hnv
   have HS := hide HS
   by_cases cg : gvL (x, y, z) = vs
   ·have YES := hide ((congrArg (· ++ [(x, y, z)]) (unhide hl)).trans (gw_yes hX cg).symm)
    have cd : decide (gvL (x, y, z) = vs) = true := by simpa using cg
    rw [cd] at HS
    clear hX cd cg
    go_wp2_with (first | (go_at_call 38; refine (genusValues_a x y z d _ hrc hd hdi).mono ?_; rintro e w2 ⟨a2, c2, rfl, hl2, hb2⟩; have f00 := cell_call hb2 (a := ⟨w1.heap.size, 0, none⟩) (v := .int .i64 x) (by first | assumption | go_simp); have f01 := cell_call hb2 (a := ⟨w1.heap.size, 1, none⟩) (v := .int .i64 y) (by first | assumption | go_simp); have f02 := cell_call hb2 (a := ⟨w1.heap.size, 2, none⟩) (v := .int .i64 z) (by first | assumption | go_simp); have hs2 := (hsd.alloc hK _).call hK hb2; have hz2 := hs2.sd.bel.size) | (go_at_call 27; refine ((unhide HS) _ _ _ hs2.sd.bel (hl2.raise (by simp))).mono ?_; rintro e w3 ⟨rfl, hb3⟩; have f00 := cell_call hb3 (a := ⟨w1.heap.size, 0, none⟩) (v := .int .i64 x) (by assumption); have f01 := cell_call hb3 (a := ⟨w1.heap.size, 1, none⟩) (v := .int .i64 y) (by assumption); have f02 := cell_call hb3 (a := ⟨w1.heap.size, 2, none⟩) (v := .int .i64 z) (by assumption); have hs3 := hs2.call hK hb3; have hz3 := hs3.sd.bel.size) | (at_builtin; refine app_FL _ rfl (.tmp 20) (.tmp 22) rfl w.heap.size (.slice a n9 c) l x y z w3.heap.size rfl rfl (hs3.alloc hK _).fl (by go_simp) (by go_simp) (by go_simp) (by omega) (by first | omega | (simp; omega)) ?_; intro g cap w4 hown hgrow hat hlt))
    go_roundw
    case rel =>
     have hs4 := (hs3.alloc hK _).app hK hown hgrow hat
     exact ⟨k + 1, l.length + 1, cap, some ⟨g, 0, none⟩, _, by go_num, rfl, by omega, by have := unhide hln; omega, YES, hs4⟩
    case measure => simp [intOf]; omega
   ·have NO := hide ((unhide hl).trans (gw_no hX cg).symm)
    have cd : decide (gvL (x, y, z) = vs) = false := by simpa using cg
    rw [cd] at HS
    clear hX cd cg
    go_wp2_with (first | (go_at_call 38; refine (genusValues_a x y z d _ hrc hd hdi).mono ?_; rintro e w2 ⟨a2, c2, rfl, hl2, hb2⟩; have f00 := cell_call hb2 (a := ⟨w1.heap.size, 0, none⟩) (v := .int .i64 x) (by first | assumption | go_simp); have f01 := cell_call hb2 (a := ⟨w1.heap.size, 1, none⟩) (v := .int .i64 y) (by first | assumption | go_simp); have f02 := cell_call hb2 (a := ⟨w1.heap.size, 2, none⟩) (v := .int .i64 z) (by first | assumption | go_simp); have hs2 := (hsd.alloc hK _).call hK hb2; have hz2 := hs2.sd.bel.size) | (go_at_call 27; refine ((unhide HS) _ _ _ hs2.sd.bel (hl2.raise (by simp))).mono ?_; rintro e w3 ⟨rfl, hb3⟩; have f00 := cell_call hb3 (a := ⟨w1.heap.size, 0, none⟩) (v := .int .i64 x) (by assumption); have f01 := cell_call hb3 (a := ⟨w1.heap.size, 1, none⟩) (v := .int .i64 y) (by assumption); have f02 := cell_call hb3 (a := ⟨w1.heap.size, 2, none⟩) (v := .int .i64 z) (by assumption); have hs3 := hs2.call hK hb3; have hz3 := hs3.sd.bel.size))
    go_roundw
    case rel => first | exact ⟨k + 1, n9, c, _, l, by first | rfl | go_num, rfl, by omega, by omega, NO, hs3⟩ | ((repeat apply Exists.intro); exact ⟨⟨k + 1, n9, c, _, l, by first | rfl | go_num, rfl, by omega, by omega, NO, hs3⟩, rfl⟩)
    case measure => simp [intOf]; omega
  ·obtain rfl : k = fs.length := by omega
   go_wp2
   go_ret
   exact hsd.ret (unhide hl) rfl
end Go.Proofs.Ytaeabefbohlcpaa
