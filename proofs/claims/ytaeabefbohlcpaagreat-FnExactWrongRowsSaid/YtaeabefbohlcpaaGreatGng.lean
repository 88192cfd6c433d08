/- How many genera: genera. -/
import Derived.Test.YtaeabefbohlcpaaGreatGrq
import Derived.BigQuiet
namespace Go.Proofs.YtaeabefbohlcpaaGreat
open Go.RowKit
set_option linter.unusedVariables false
set_option linter.unusedSimpArgs false
attribute [local go_sem] q2 q3 q4 q5 q6 q7 q8 q9 q10 q11 q12

def newB (fs : List (Int × Int × Int)) (k : Nat) : Prop := ∀ j, j < k → gvL (fs.getD j (0, 0, 0)) ≠ gvL (fs.getD k (0, 0, 0))
open Classical in
noncomputable def gsK (fs : List (Int × Int × Int)) : Nat → Nat
 | 0 => 0
 | k + 1 => gsK fs k + if newB fs k then 1 else 0
theorem gsK_yes {fs : List (Int × Int × Int)} {k : Nat} (h : newB fs k) : gsK fs (k + 1) = gsK fs k + 1 := by rw [gsK, if_pos h]
theorem gsK_no {fs : List (Int × Int × Int)} {k : Nat} (h : ¬ newB fs k) : gsK fs (k + 1) = gsK fs k := by rw [gsK, if_neg h]; rfl
theorem gsK_le (fs : List (Int × Int × Int)) : ∀ k, gsK fs k ≤ k
 | 0 => Nat.le_refl _
 | k + 1 => by have := gsK_le fs k; rw [gsK]; split <;> omega
noncomputable def gsN (d : Int) : Nat := gsK (rfL d) (rfL d).length
theorem new_iff {fs : List (Int × Int × Int)} (hn : fs.Nodup) {j k : Nat} (hk : k < fs.length) (hj : j < fs.length) (h1 : gvL (fs.getD j (0, 0, 0)) = gvL (fs.getD k (0, 0, 0))) (h2 : ∀ i, i < j → gvL (fs.getD i (0, 0, 0)) ≠ gvL (fs.getD k (0, 0, 0))) : fs.getD j (0, 0, 0) = fs.getD k (0, 0, 0) ↔ newB fs k := by
 constructor
 ·intro e i hi
  have : j = k := by
   simp only [List.getD_eq_getElem?_getD, List.getElem?_eq_getElem hj, List.getElem?_eq_getElem hk, Option.getD_some] at e
   rcases Nat.lt_trichotomy j k with q | q | q
   ·exact absurd e (List.pairwise_iff_getElem.1 hn j k hj hk q)
   ·exact q
   ·exact absurd e.symm (List.pairwise_iff_getElem.1 hn k j hk hj q)
  subst this
  exact h2 i hi
 ·intro h
  have h3 : ¬ j < k := fun q => h j q h1
  have h4 : ¬ k < j := fun q => h2 k q rfl
  rw [show j = k by omega]

set_option maxRecDepth 100000 in
set_option maxHeartbeats 4000000 in
theorem genera_a (d : Int) (w : World) (hd : negB d = true) :
  Calls Tryz.prog 47 #[.int .i64 d] w (RetLen w (gsN d)) := by
 have HGW : ∀ (W : World) (vs : List Int) (av : Option Addr) (cv lv : Nat), vs.length ≤ 2002 → IL W lv (.slice av vs.length cv) vs → Calls Tryz.prog 67 #[.int .i64 d, .slice av vs.length cv] W (RetFL W (gwK (rfL d) vs (rfL d).length)) := fun W vs av cv lv hle hl =>
  genusWith_a d vs av vs.length cv lv W.heap.size W hd (hide rfl) (Nat.le_refl _) hl.ints.2 (by omega)
 have HGW := hide HGW
 obtain ⟨d0, d1⟩ := neg_true hd
 have HLen := rfL_len d0 d1
 have HRF := fun k hk => rf_at hd (k := k) hk
 have HND := rf_nodup d
 have HC : ∀ W, Calls Tryz.prog 61 #[.int .i64 d] W (RetFL W (rfL d)) := fun W => reducedForms_a d W d0 d1
 have HC := hide HC
 unfold gsN
 generalize rfL d = fs at *
 go_enter Tryz.func47, Tryz.ntmps47
 go_wp2_with (go_at_call 61; refine ((unhide HC) _).mono ?_; rintro e wA ⟨a0, c0, rfl, hlA, hbA⟩)
 have hS : FAt wA (w.heap.size + 1) wA.heap.size a0 fs := hlA.at.2.low (by simp)
 have hK := forms_kept (LO := (w.heap.size + 1)) (HI := wA.heap.size) (a := a0) (fs := fs)
 have hsd : SD 53 1 w (w.heap.size + 1) wA.heap.size (srcF (w.heap.size + 1) wA.heap.size a0 fs) wA (.slice (some ⟨w.heap.size, 0, none⟩) 0 0) 0 [] := SD.startM hbA hS (Nat.le_refl _)
 obtain ⟨HI, hHI⟩ : ∃ HI, wA.heap.size = HI := ⟨_, rfl⟩
 rw [hHI] at hsd hK hS
 clear hlA hS
 go_loopw [3, 11] (fun ls is wr => ∃ (k n9 c : Nat) (a : Option Addr) (vs : List Value), is = .int .i64 (k : Int) ∧ ls = .slice a n9 c ∧ k ≤ fs.length ∧ n9 ≤ k ∧ Hid (n9 = gsK fs k) ∧ SD 53 1 w (w.heap.size + 1) HI (srcF (w.heap.size + 1) HI a0 fs) wr (.slice a n9 c) n9 vs) (fun _ is _ => fs.length - (intOf is).toNat)
 case atStart => exact ⟨0, 0, 0, _, [], rfl, rfl, by omega, by omega, hide rfl, hsd⟩
 case round =>
  clear hsd hbA
  obtain ⟨k, n9, c, a, vs, rfl, rfl, hk, hnk, hl, hsd⟩ := hrel
  obtain ⟨w1, rfl⟩ : ∃ w1 : World, w1 = wr := ⟨_, rfl⟩
  have hz := hsd.bel.size
  by_cases c9 : k < fs.length
  ·have hci : (k : Int) < (fs.length : Int) := by omega
   obtain ⟨g0, hg0, hg2, e0, e1, e2⟩ := FAt.cells hsd.src c9
   obtain ⟨hrc, hdi⟩ := HRF k c9
   obtain ⟨X, hX⟩ : ∃ X, fs.getD k (0, 0, 0) = X := ⟨_, rfl⟩
   rw [hX] at e0 e1 e2 hrc hdi
   obtain ⟨x, y, z⟩ := X
   simp only at e0 e1 e2 hrc hdi
   have hgl := gvL_len (F := (x, y, z)) d0 d1 hdi
   subst hg0
   obtain ⟨j, hj, j1, j2, j3, j4⟩ := gw_head (fs := fs) (vs := gvL (x, y, z)) (k := fs.length) ⟨k, c9, by rw [hX]⟩
   have hnew := new_iff HND c9 hj (by rw [hX]; exact j1) (by rw [hX]; exact j2)
   rw [hX, ← j4] at hnew
   obtain ⟨gs, hgs⟩ : ∃ gs, gwK fs (gvL (x, y, z)) fs.length = gs := ⟨_, rfl⟩
   have hgsl : gs.length ≤ fs.length := by rw [← hgs]; exact gw_len _ _ _
   rw [hgs] at j3 j4 hnew
   obtain ⟨G, hG⟩ : ∃ G, gs.getD 0 (0, 0, 0) = G := ⟨_, rfl⟩
   have HW := hide (fun W av cv lv h => hgs ▸ unhide HGW W (gvL (x, y, z)) av cv lv (by omega) h)
   clear hgs j1 j2 j4 hX
   rw [hG] at hnew
   have HFX : ∀ (W : World) (a3 : Option Addr) (c3 lo3 : Nat), FL W lo3 (.slice a3 gs.length c3) gs → ∃ g3, a3 = some ⟨g3, 0, none⟩ ∧ g3 < W.heap.size ∧ W.cell? ⟨g3, 0, none⟩ = some (.int .i64 G.1) ∧ W.cell? ⟨g3, 1, none⟩ = some (.int .i64 G.2.1) ∧ W.cell? ⟨g3, 2, none⟩ = some (.int .i64 G.2.2) := fun W a3 c3 lo3 h => by
    obtain ⟨g3, q1, q2, q3, q4, q5⟩ := h.at.2.cells j3
    rw [hG] at q3 q4 q5
    exact ⟨g3, q1, q2, by simpa using q3, by simpa using q4, by simpa using q5⟩
   have HFX := hide HFX
   clear hG
   obtain ⟨m, hm⟩ : ∃ m, gs.length = m + 1 := ⟨gs.length - 1, by omega⟩
   by_cases cg : newB fs k
   ·obtain rfl := hnew.2 cg
    have YES : Hid (n9 + 1 = gsK fs (k + 1)) := hide (by rw [gsK_yes cg, unhide hl])
    clear cg hnew
    go_wp2_with (first | (go_at_call 68; refine (genusValues_a x y z d _ hrc hd hdi).mono ?_; rintro e w2 ⟨a2, c2, rfl, hl2, hb2⟩; have f00 := cell_call hb2 (a := ⟨w1.heap.size, 0, none⟩) (v := .int .i64 x) (by first | assumption | go_simp); have f01 := cell_call hb2 (a := ⟨w1.heap.size, 1, none⟩) (v := .int .i64 y) (by first | assumption | go_simp); have f02 := cell_call hb2 (a := ⟨w1.heap.size, 2, none⟩) (v := .int .i64 z) (by first | assumption | go_simp); have hs2 := (hsd.alloc hK _).call hK hb2; have hz2 := hs2.bel.size) | (go_at_call 67; refine ((unhide HW) _ _ _ _ hl2).mono ?_; rintro e w3 ⟨a3, c3, rfl, hl3, hb3⟩; have f00 := cell_call hb3 (a := ⟨w1.heap.size, 0, none⟩) (v := .int .i64 x) (by assumption); have f01 := cell_call hb3 (a := ⟨w1.heap.size, 1, none⟩) (v := .int .i64 y) (by assumption); have f02 := cell_call hb3 (a := ⟨w1.heap.size, 2, none⟩) (v := .int .i64 z) (by assumption); have hs3 := hs2.call hK hb3; have hz3 := hs3.bel.size; obtain ⟨g3, rfl, hg3, q0, q1, q2⟩ := unhide HFX _ _ _ _ hl3; have q0 := q0; have q1 := q1; have q2 := q2))
    go_quiet (fail)
    have hs4 := hs3.call hK (below_drewN_self w3 nq)
    obtain ⟨w4, hw4⟩ : ∃ w4, w4 = w3.drewN nq := ⟨_, rfl⟩
    rw [← hw4] at hs4 ⊢
    clear hw4
    go_wp2_with (at_builtin; refine app_sl _ rfl (.tmp 24) (.tmp 26) rfl w.heap.size (.slice a n9 c) n9 vs (.slice (some ⟨g3, 0, none⟩) (m + 1) c3) w4.heap.size rfl rfl (hs4.alloc hK _).own (by go_simp) rfl (by omega) (by have := hs4.bel.size; first | omega | (simp; omega)) ?_; intro g cap w5 hown hgrow hat hlt)
    go_roundw
    case rel =>
     have hs5 := (hs4.alloc hK _).app hK hown hgrow hat
     exact ⟨k + 1, n9 + 1, cap, some ⟨g, 0, none⟩, _, by go_num, rfl, by omega, by omega, YES, hs5⟩
    case measure => simp [intOf]; omega
   ·have hne : ¬ G = (x, y, z) := fun e => cg (hnew.1 e)
    have NO : Hid (n9 = gsK fs (k + 1)) := hide (by rw [gsK_no cg, unhide hl])
    clear cg hnew
    obtain ⟨p, q, r⟩ := G
    simp only at HFX
    have hcs : ¬ p = x ∨ (p = x ∧ ¬ q = y) ∨ (p = x ∧ q = y ∧ ¬ r = z) := by
     by_cases e0 : p = x
     ·by_cases e1 : q = y
      ·by_cases e2 : r = z
       ·subst e0 e1 e2; exact absurd rfl hne
       ·exact .inr (.inr ⟨e0, e1, e2⟩)
      ·exact .inr (.inl ⟨e0, e1⟩)
     ·exact .inl e0
    clear hne
    rcases hcs with n1 | ⟨e1, n1⟩ | ⟨e1, e2, n1⟩
    all_goals
     go_wp2_with (first | (go_at_call 68; refine (genusValues_a x y z d _ hrc hd hdi).mono ?_; rintro e w2 ⟨a2, c2, rfl, hl2, hb2⟩; have f00 := cell_call hb2 (a := ⟨w1.heap.size, 0, none⟩) (v := .int .i64 x) (by first | assumption | go_simp); have f01 := cell_call hb2 (a := ⟨w1.heap.size, 1, none⟩) (v := .int .i64 y) (by first | assumption | go_simp); have f02 := cell_call hb2 (a := ⟨w1.heap.size, 2, none⟩) (v := .int .i64 z) (by first | assumption | go_simp); have hs2 := (hsd.alloc hK _).call hK hb2; have hz2 := hs2.bel.size) | (go_at_call 67; refine ((unhide HW) _ _ _ _ hl2).mono ?_; rintro e w3 ⟨a3, c3, rfl, hl3, hb3⟩; have f00 := cell_call hb3 (a := ⟨w1.heap.size, 0, none⟩) (v := .int .i64 x) (by assumption); have f01 := cell_call hb3 (a := ⟨w1.heap.size, 1, none⟩) (v := .int .i64 y) (by assumption); have f02 := cell_call hb3 (a := ⟨w1.heap.size, 2, none⟩) (v := .int .i64 z) (by assumption); have hs3 := hs2.call hK hb3; have hz3 := hs3.bel.size; obtain ⟨g3, rfl, hg3, q0, q1, q2⟩ := unhide HFX _ _ _ _ hl3; have q0 := q0; have q1 := q1; have q2 := q2))
     go_quiet (fail)
     have hs4 := hs3.call hK (below_drewN_self w3 nq)
     go_wp2
     go_roundw
     case rel => first | exact ⟨k + 1, n9, c, _, vs, by first | rfl | go_num, rfl, by omega, by omega, NO, hs4⟩ | ((repeat apply Exists.intro); exact ⟨⟨k + 1, n9, c, _, vs, by first | rfl | go_num, rfl, by omega, by omega, NO, hs4⟩, rfl⟩)
     case measure => simp [intOf]; omega
  ·obtain rfl : k = fs.length := by omega
   have HE := unhide hl
   clear hl
   subst HE
   go_wp2
   go_ret
   exact ⟨_, _, rfl, hsd.bel⟩
end Go.Proofs.YtaeabefbohlcpaaGreat
