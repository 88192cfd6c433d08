/- OneClassGenera on both sides, and the law's walk. -/
import Derived.Test.YtaeabefbohlcpaaGns
import Derived.Test.YtaeabefbohlcpaaGng
import Derived.Test.YtaeabefbohlcpaaSd
import Derived.Test.YtaeabefbohlcpaaCbn
namespace Go.Proofs.Ytaeabefbohlcpaa
open Go.RowKit
set_option linter.unusedVariables false
set_option linter.unusedSimpArgs false
attribute [local go_sem] q2 q3 q4 q5 q6 q7 q8 q9 q10 q11 q12

noncomputable def ocP (d : Int) : Bool := decide (gsN d = (rfL d).length)
noncomputable def ocL (ds : List Int) (k : Nat) : List Int := flN (fun i => ocP (ds.getD i 0)) (fun i => ds.getD i 0) k
theorem oc_yes {ds : List Int} {k : Nat} {x : Int} (hx : ds.getD k 0 = x) (h : ocP x = true) : ocL ds (k + 1) = ocL ds k ++ [x] := by
 subst hx; exact flN_yes (p := fun i => ocP (ds.getD i 0)) h
theorem oc_no {ds : List Int} {k : Nat} {x : Int} (hx : ds.getD k 0 = x) (h : ocP x = false) : ocL ds (k + 1) = ocL ds k := by
 subst hx; exact flN_no (p := fun i => ocP (ds.getD i 0)) h
noncomputable def ogL (lo hi : Int) : List Int := if rgB lo hi then ocL (dcL lo hi) (dcL lo hi).length else []
theorem ogL_len (lo hi : Int) : (ogL lo hi).length ≤ 1000000000 := by
 unfold ogL
 split
 ·rename_i h
  obtain ⟨r0, r1, r2⟩ := rg_true h
  have h1 : (ocL (dcL lo hi) (dcL lo hi).length).length ≤ (dcL lo hi).length := flN_len _ _ _
  have h2 := dcL_len (lo := lo) (hi := hi) r0 r2
  omega
 ·simp
set_option maxRecDepth 100000 in
set_option maxHeartbeats 4000000 in
theorem like_oc (d : Int) (w : World) (hd : negB d = true) : Calls Try.prog 19 #[.int .i64 d] w fun e w' => e = .returned (.bool (ocP d)) ∧ Below w.heap.size w w' := by
 obtain ⟨d0, d1⟩ := neg_true hd
 have HG : ∀ W, Calls Try.prog 20 #[.int .i64 d] W (RetLen W (gsN d)) := fun W => genera_a d W hd
 have HF : ∀ W, Calls Try.prog 21 #[.int .i64 d] W (RetLen W (rfL d).length) := fun W => reducedForms_len d W d0 d1 rfl
 have hl := rfL_len d0 d1
 have hg : gsN d ≤ (rfL d).length := gsK_le _ _
 have HP : Hid (ocP d = decide (gsN d = (rfL d).length)) := hide rfl
 obtain ⟨P, hP⟩ : ∃ P, ocP d = P := ⟨_, rfl⟩
 rw [hP] at HP ⊢
 clear hP
 generalize gsN d = m at *
 generalize (rfL d).length = n at *
 have HG := hide HG
 have HF := hide HF
 go_enter Try.func19, Try.ntmps19
 go_wp2_with (first | (go_at_call 20; refine ((unhide HG) _).mono ?_; rintro e w2 ⟨a2, c2, rfl, hb2⟩) | (go_at_call 21; refine ((unhide HF) _).mono ?_; rintro e w3 ⟨a3, c3, rfl, hb3⟩))
 go_ret
 refine ⟨ret_bool ?_, byGG⟩
 rw [unhide HP]
 by_cases q : m = n
 ·subst q; simp
 ·have : ¬ (m : Int) = (n : Int) := by omega
  simp [q, this]

set_option maxRecDepth 100000 in
set_option maxHeartbeats 4000000 in
theorem discsLike_oc (lo hi : Int) (w : World) (r0 : -2000 ≤ lo) (r2 : hi ≤ -3) :
  Calls Try.prog 18 #[.int .i64 lo, .int .i64 hi, .func (.func 19) #[] #[]] w (RetIL w (ocL (dcL lo hi) (dcL lo hi).length)) := by
 have HC : ∀ W, Calls Try.prog 36 #[.int .i64 lo, .int .i64 hi] W (RetIL W (dcL lo hi)) := fun W => discsIn_a lo hi W r0 r2
 have HC := hide HC
 have hlen := dcL_len (lo := lo) (hi := hi) r0 r2
 have HM := fun x hx => dcL_mem (lo := lo) (hi := hi) (x := x) hx
 generalize dcL lo hi = ds at *
 go_enter Try.func18, Try.ntmps18
 go_wp2_with (go_at_call 36; refine ((unhide HC) _).mono ?_; rintro e wA ⟨a0, c0, rfl, hlA, hbA⟩)
 have hS : IntsAt wA (w.heap.size + 1) wA.heap.size a0 ds.length (fun i => ds.getD i 0) := hlA.ints.2.weak (by simp) (Nat.le_refl _)
 have hsd := SI.startM (S := srcI (w.heap.size + 1) wA.heap.size a0 ds.length (fun i => ds.getD i 0)) hbA hS (Nat.le_refl _)
 have hK := ints_kept (LO := (w.heap.size + 1)) (HI := wA.heap.size) (n := ds.length) (a := a0) (f := fun i => ds.getD i 0)
 obtain ⟨HI, hHI⟩ : ∃ HI, wA.heap.size = HI := ⟨_, rfl⟩
 rw [hHI] at hsd hK hS
 clear hlA hS
 go_loopw [7, 15] (fun ls is wr => ∃ (k n9 c : Nat) (a : Option Addr) (l : List Int), is = .int .i64 (k : Int) ∧ ls = .slice a n9 c ∧ k ≤ ds.length ∧ n9 ≤ k ∧ Hid (l = ocL ds k) ∧ SI w (w.heap.size + 1) HI (srcI (w.heap.size + 1) HI a0 ds.length (fun i => ds.getD i 0)) wr a n9 c l) (fun _ is _ => ds.length - (intOf is).toNat)
 case atStart => exact ⟨0, 0, 0, _, _, rfl, rfl, by omega, by omega, hide rfl, hsd⟩
 case round =>
  clear hsd hbA
  obtain ⟨k, n9, c, a, l, rfl, rfl, hk, hnk, hl, hsd⟩ := hrel
  obtain ⟨w1, rfl⟩ : ∃ w1 : World, w1 = wr := ⟨_, rfl⟩
  have hz := hsd.sd.bel.size
  have hln := hsd.len
  have hlb : l.length ≤ 3000 := by have := unhide hln; omega
  by_cases c9 : k < ds.length
  ·have hci : (k : Int) < (ds.length : Int) := by omega
   obtain ⟨g0, hg0, hg2, d0⟩ := IntsAt.cell hsd.sd.src c9
   have hx := HM _ (gdm (d := 0) c9)
   obtain ⟨x, hxx⟩ : ∃ x, ds.getD k 0 = x := ⟨_, rfl⟩
   rw [hxx] at d0 hx
   subst hg0
   have HCL0 : ∀ W, Calls Try.prog 19 #[.int .i64 x] W fun e w' => e = .returned (.bool (ocP x)) ∧ Below W.heap.size W w' := fun W => like_oc x W hx
   cases cp : ocP x
   ·have NO := hide ((unhide hl).trans (oc_no hxx cp).symm)
    rw [cp] at HCL0
    have HCL := hide HCL0
    clear HCL0
    clear hxx cp
    go_wp2_with (go_at_call 19; refine ((unhide HCL) _).mono ?_; rintro e w2 ⟨rfl, hb2⟩; have hs2 := hsd.call hK hb2; have hz2 := hs2.sd.bel.size)
    go_roundw
    case rel => first | exact ⟨k + 1, n9, c, _, l, by first | rfl | go_num, rfl, by omega, by omega, NO, hs2⟩ | ((repeat apply Exists.intro); exact ⟨⟨k + 1, n9, c, _, l, by first | rfl | go_num, rfl, by omega, by omega, NO, hs2⟩, rfl⟩)
    case measure => simp [intOf]; omega
   ·have YES := hide ((congrArg (· ++ [x]) (unhide hl)).trans (oc_yes hxx cp).symm)
    rw [cp] at HCL0
    have HCL := hide HCL0
    clear HCL0
    clear hxx cp
    go_wp2_with (first | (go_at_call 19; refine ((unhide HCL) _).mono ?_; rintro e w2 ⟨rfl, hb2⟩; have hs2 := hsd.call hK hb2; have hz2 := hs2.sd.bel.size) | (at_builtin; refine app_int _ rfl (.tmp 22) (.tmp 24) rfl w.heap.size (.slice a n9 c) l x w2.heap.size rfl rfl (hs2.alloc hK _).il (by go_simp) (by omega) (by first | omega | (simp; omega)) ?_; intro g cap w3 hown hgrow hat hlt))
    go_roundw
    case rel =>
     have hs3 := (hs2.alloc hK _).app hK hown hgrow hat
     exact ⟨k + 1, l.length + 1, cap, some ⟨g, 0, none⟩, _, by go_num, rfl, by omega, by have := unhide hln; omega, YES, hs3⟩
    case measure => simp [intOf]; omega
  ·obtain rfl : k = ds.length := by omega
   go_wp2
   go_ret
   exact hsd.ret (unhide hl) rfl

set_option maxRecDepth 100000 in
set_option maxHeartbeats 4000000 in
theorem implOcg_a (lo hi : Int) (w : World) : Calls Try.prog 6 #[.int .i64 lo, .int .i64 hi] w (RetInts w (ogL lo hi).length (fun i => (ogL lo hi).getD i 0) (rgB lo hi)) := by
 cases h : rgB lo hi
 ·have hL : ogL lo hi = [] := by simp [ogL, h]
  have HL := hide hL
  clear hL
  go_enter Try.func6, Try.ntmps6
  go_wp2_with (go_at_call 17; refine (isRange_a _ _ _).mono ?_; rintro e w' ⟨rfl, rfl⟩)
  go_ret2
  exact ⟨_, _, by rw [unhide HL]; rfl, .inl (by rw [unhide HL]; rfl), byGG⟩
 ·obtain ⟨r0, r1, r2⟩ := rg_true h
  have hL : ogL lo hi = ocL (dcL lo hi) (dcL lo hi).length := by simp [ogL, h]
  have HL := hide hL
  clear hL
  have HC : ∀ W, Calls Try.prog 18 #[.int .i64 lo, .int .i64 hi, .func (.func 19) #[] #[]] W (RetIL W (ocL (dcL lo hi) (dcL lo hi).length)) := fun W => discsLike_oc lo hi W r0 r2
  have HC := hide HC
  generalize ocL (dcL lo hi) (dcL lo hi).length = zs at *
  go_enter Try.func6, Try.ntmps6
  go_wp2_with (first | (go_at_call 17; refine (isRange_a _ _ _).mono ?_; rintro e w' ⟨rfl, rfl⟩) | (go_at_call 18; refine ((unhide HC) _).mono ?_; rintro e w1 ⟨a, c, rfl, hl, hb⟩))
  go_ret2
  refine ⟨a, c, by rw [unhide HL]; rfl, ?_, byGG⟩
  rw [unhide HL]
  exact hl.ints.2.weak (by simp) (Nat.le_refl _)

set_option maxRecDepth 100000 in
set_option maxHeartbeats 4000000 in
theorem specOcg_y (lo hi : Int) (w : World) (h : rgB lo hi = true) :
  Calls Try.prog 5 #[.int .i64 lo, .int .i64 hi] w (RetInts w (ocL (dcL lo hi) (dcL lo hi).length).length (fun i => (ocL (dcL lo hi) (dcL lo hi).length).getD i 0) true) := by
 obtain ⟨r0, r1, r2⟩ := rg_true h
 have HC : ∀ W, Calls Try.prog 14 #[.int .i64 lo, .int .i64 hi] W (RetIL W (dcL lo hi)) := fun W => tbDiscs_a lo hi W r0 r2
 have HC := hide HC
 have hlen := dcL_len (lo := lo) (hi := hi) r0 r2
 have HM := fun x hx => dcL_mem (lo := lo) (hi := hi) (x := x) hx
 generalize dcL lo hi = ds at *
 go_enter Try.func5, Try.ntmps5
 go_wp2_with (first | (go_at_call 13; refine (tbRange_a _ _ _).mono ?_; rintro e w' ⟨rfl, rfl⟩) | (go_at_call 14; refine ((unhide HC) _).mono ?_; rintro e wA ⟨a0, c0, rfl, hlA, hbA⟩))
 have hS : IntsAt wA w.heap.size wA.heap.size a0 ds.length (fun i => ds.getD i 0) := hlA.ints.2.weak (by simp) (Nat.le_refl _)
 have hsd := SI.startN (LO := w.heap.size) (S := srcI w.heap.size wA.heap.size a0 ds.length (fun i => ds.getD i 0)) hbA hS (Nat.le_refl _)
 have hK := ints_kept (LO := w.heap.size) (HI := wA.heap.size) (n := ds.length) (a := a0) (f := fun i => ds.getD i 0)
 obtain ⟨HI, hHI⟩ : ∃ HI, wA.heap.size = HI := ⟨_, rfl⟩
 rw [hHI] at hsd hK hS
 clear hlA hS
 go_loopw [6, 17] (fun ls is wr => ∃ (k n9 c : Nat) (a : Option Addr) (l : List Int), is = .int .i64 (k : Int) ∧ ls = .slice a n9 c ∧ k ≤ ds.length ∧ n9 ≤ k ∧ Hid (l = ocL ds k) ∧ SI w w.heap.size HI (srcI w.heap.size HI a0 ds.length (fun i => ds.getD i 0)) wr a n9 c l) (fun _ is _ => ds.length - (intOf is).toNat)
 case atStart => exact ⟨0, 0, 0, _, _, rfl, rfl, by omega, by omega, hide rfl, hsd⟩
 case round =>
  clear hsd hbA
  obtain ⟨k, n9, c, a, l, rfl, rfl, hk, hnk, hl, hsd⟩ := hrel
  obtain ⟨w1, rfl⟩ : ∃ w1 : World, w1 = wr := ⟨_, rfl⟩
  have hz := hsd.sd.bel.size
  have hln := hsd.len
  have hlb : l.length ≤ 3000 := by have := unhide hln; omega
  by_cases c9 : k < ds.length
  ·have hci : (k : Int) < (ds.length : Int) := by omega
   obtain ⟨g0, hg0, hg2, d0⟩ := IntsAt.cell hsd.sd.src c9
   have hx := HM _ (gdm (d := 0) c9)
   obtain ⟨x, hxx⟩ : ∃ x, ds.getD k 0 = x := ⟨_, rfl⟩
   rw [hxx] at d0 hx
   subst hg0
   obtain ⟨x0, x1⟩ := neg_true hx
   have HG : ∀ W, Calls Try.prog 15 #[.int .i64 x] W (RetLen W (gsN x)) := fun W => chGenera_a x W hx
   have HF : ∀ W, Calls Try.prog 16 #[.int .i64 x] W (RetLen W (rfL x).length) := fun W => reList_len x W x0 x1 rfl
   have hlx := rfL_len x0 x1
   have hgx : gsN x ≤ (rfL x).length := gsK_le _ _
   have HP : ocP x = decide (gsN x = (rfL x).length) := rfl
   obtain ⟨mm, hmm⟩ : ∃ mm, gsN x = mm := ⟨_, rfl⟩
   obtain ⟨nn, hnn⟩ : ∃ nn, (rfL x).length = nn := ⟨_, rfl⟩
   rw [hmm] at HG hgx HP
   rw [hnn] at HF hlx hgx HP
   clear hmm hnn
   have HG := hide HG
   have HF := hide HF
   cases cp : ocP x
   ·have NO := hide ((unhide hl).trans (oc_no hxx cp).symm)
    have cq : ¬ (mm : Int) = (nn : Int) := by rw [cp] at HP; have := of_decide_eq_false HP.symm; omega
    clear HP
    clear hxx cp
    go_wp2_with (first | (go_at_call 15; refine ((unhide HG) _).mono ?_; rintro e w8 ⟨a8, c8, rfl, hb8⟩; have hs8 := hsd.call hK hb8) | (go_at_call 16; refine ((unhide HF) _).mono ?_; rintro e w2 ⟨a2, c2, rfl, hb2⟩; have hs2 := hs8.call hK hb2; have hz2 := hs2.sd.bel.size))
    go_roundw
    case rel => first | exact ⟨k + 1, n9, c, _, l, by first | rfl | go_num, rfl, by omega, by omega, NO, hs2⟩ | ((repeat apply Exists.intro); exact ⟨⟨k + 1, n9, c, _, l, by first | rfl | go_num, rfl, by omega, by omega, NO, hs2⟩, rfl⟩)
    case measure => simp [intOf]; omega
   ·have YES := hide ((congrArg (· ++ [x]) (unhide hl)).trans (oc_yes hxx cp).symm)
    obtain rfl : mm = nn := by rw [cp] at HP; exact of_decide_eq_true HP.symm
    clear HP
    clear hxx cp
    go_wp2_with (first | (first | (go_at_call 15; refine ((unhide HG) _).mono ?_; rintro e w8 ⟨a8, c8, rfl, hb8⟩; have hs8 := hsd.call hK hb8) | (go_at_call 16; refine ((unhide HF) _).mono ?_; rintro e w2 ⟨a2, c2, rfl, hb2⟩; have hs2 := hs8.call hK hb2; have hz2 := hs2.sd.bel.size)) | (at_builtin; refine app_int _ rfl (.tmp 28) (.tmp 30) rfl w.heap.size (.slice a n9 c) l x w2.heap.size rfl rfl (hs2.alloc hK _).il (by go_simp) (by omega) (by first | omega | (simp; omega)) ?_; intro g cap w3 hown hgrow hat hlt))
    go_roundw
    case rel =>
     have hs3 := (hs2.alloc hK _).app hK hown hgrow hat
     exact ⟨k + 1, l.length + 1, cap, some ⟨g, 0, none⟩, _, by go_num, rfl, by omega, by have := unhide hln; omega, YES, hs3⟩
    case measure => simp [intOf]; omega
  ·obtain rfl : k = ds.length := by omega
   go_wp2
   go_ret2
   have EL := unhide hl
   subst EL
   have hn := unhide hln
   refine ⟨a, c, by rw [← hn]; rfl, ?_, hsd.sd.bel⟩
   have := hsd.il.ints.2
   exact this

set_option maxRecDepth 100000 in
set_option maxHeartbeats 4000000 in
theorem specOcg_a (lo hi : Int) (w : World) : Calls Try.prog 5 #[.int .i64 lo, .int .i64 hi] w (RetInts w (ogL lo hi).length (fun i => (ogL lo hi).getD i 0) (rgB lo hi)) := by
 cases h : rgB lo hi
 ·have hL : ogL lo hi = [] := by simp [ogL, h]
  have HL := hide hL
  clear hL
  go_enter Try.func5, Try.ntmps5
  go_wp2_with (go_at_call 13; refine (tbRange_a _ _ _).mono ?_; rintro e w' ⟨rfl, rfl⟩)
  go_ret2
  exact ⟨_, _, by rw [unhide HL]; rfl, .inl (by rw [unhide HL]; rfl), byGG⟩
 ·obtain ⟨r0, r1, r2⟩ := rg_true h
  have hL : ogL lo hi = ocL (dcL lo hi) (dcL lo hi).length := by simp [ogL, h]
  have HL := hide hL
  clear hL
  rw [unhide HL]
  exact specOcg_y lo hi w h

set_option maxHeartbeats 2000000 in
theorem lawOneClassGenera (lo hi : Int) (w : World) :
  Calls Try.prog 3 #[.int .i64 lo, .int .i64 hi] w fun e w' => e = .returned (.bool true) ∧ Below w.heap.size w w' := by
 have hn : (ogL lo hi).length ≤ 1000000000 := ogL_len lo hi
 generalize hN : (ogL lo hi).length = N at *
 generalize hF : (fun i => (ogL lo hi).getD i 0) = f at *
 generalize hO : rgB lo hi = ok at *
 go_enter Try.func3, Try.ntmps3
 have HN := hide hN
 have HF := hide hF
 have HO := hide hO
 clear hN hF hO
 go_wp2_with fail
 have c1 := specOcg_a lo hi w
 rw [unhide HN, unhide HF, unhide HO] at c1
 refine c1.mono ?_
 clear c1
 rintro e w1 ⟨a1, d1, rfl, i1, b1⟩
 go_wp2_with fail
 have c2 := implOcg_a lo hi w1
 rw [unhide HN, unhide HF, unhide HO] at c2
 refine c2.mono ?_
 clear c2
 rintro e w2 ⟨a2, d2, rfl, i2, b2⟩
 have s1 := b1.size
 have s2 := b2.size
 have j1 := i1.below b2 (Nat.le_refl _)
 go_wp2_with fail
 refine (eqIntS_any a2 a1 _ _ _ _ N d2 d1 f w2 hn i2 j1).mono ?_
 rintro e w3 ⟨rfl, k3, rfl⟩
 go_wp2_with fail
 refine (markIntS_any a2 w1.heap.size w2.heap.size N d2 1 f (w2.drewN k3) hn (by omega) i2).mono ?_
 rintro e w4 ⟨rfl, i4, h4, s4, b4⟩
 have s4' : w4.heap.size = w2.heap.size := s4
 have S4 := hide s4'
 clear s4 s4'
 go_wp2_with fail
 refine (heldIntS_any a2 w1.heap.size w2.heap.size N d2 1 w4 hn (by omega) i4).mono ?_
 rintro e w5 ⟨rfl, rfl⟩
 go_wp2_with fail
 have c3 := implOcg_a lo hi w4
 rw [unhide HN, unhide HF, unhide HO] at c3
 refine c3.mono ?_
 clear c3
 rintro e w6 ⟨a6, d6, rfl, i6, b6⟩
 have hs : w1.heap.size ≤ w4.heap.size := by have := unhide S4; omega
 have k1 : IntsAt w6 w.heap.size w1.heap.size a1 N f := (j1.keep (w' := w4) (fun k _ h2 => h4 k h2)).below b6 hs
 have k2 : IntsAt w6 w1.heap.size w2.heap.size a2 N (fun i => ((1 : Nat) : Int) + i) := i4.below b6 (by have := unhide S4; omega)
 go_wp2_with fail
 refine (eqIntS_any a6 a1 _ _ _ _ N d6 d1 f w6 hn i6 k1).mono ?_
 rintro e w7 ⟨rfl, k7, rfl⟩
 go_wp2_with fail
 refine (heldIntS_any a2 w1.heap.size w2.heap.size N d2 1 (w6.drewN k7) hn (by omega) k2).mono ?_
 rintro e w8 ⟨rfl, rfl⟩
 go_wp2
 go_ret
 exact ⟨rfl, below_drewN (((b1.trans (b2.mono s1)).trans ((below_drewN (Below.refl _ _) k3).trans (b4.mono s1))).trans (b6.mono (by omega))) k7⟩
end Go.Proofs.Ytaeabefbohlcpaa
