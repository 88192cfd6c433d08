/- The values at a number, both sides. -/
import Derived.Test.YtaeabefbohlcpaaChv
import Derived.Test.YtaeabefbohlcpaaChi
import Derived.Test.YtaeabefbohlcpaaChs
namespace Go.Proofs.Ytaeabefbohlcpaa
open Go.RowKit
set_option linter.unusedVariables false
set_option linter.unusedSimpArgs false
attribute [local go_sem] q2 q3 q4 q5 q6 q7 q8 q9 q10 q11 q12

def vlK (Z : List (Int × Int)) (n : Int) (k : Nat) : List Int := (Z.take k).map fun z => chv z.1 z.2 n
theorem vlK_succ {Z : List (Int × Int)} {n : Int} {k : Nat} (h : k < Z.length) {x y : Int} (hx : (Z.getD k (0, 0)).1 = x) (hy : (Z.getD k (0, 0)).2 = y) : vlK Z n k ++ [chv x y n] = vlK Z n (k + 1) := by
 subst hx hy
 unfold vlK
 rw [List.take_add_one, List.getElem?_eq_getElem h, List.map_append, List.getD_eq_getElem?_getD, List.getElem?_eq_getElem h]; rfl
theorem vlK_all (Z : List (Int × Int)) (n : Int) : vlK Z n Z.length = Z.map fun z => chv z.1 z.2 n := by unfold vlK; rw [List.take_length]
def vlL (d n : Int) : List Int := (chL d).map fun z => chv z.1 z.2 n

set_option maxRecDepth 100000 in
set_option maxHeartbeats 4000000 in
theorem valuesAt_a (d n : Int) (w : World) (hd : negB d = true) (h0 : 1 ≤ n) (h1 : n ≤ 1000000000000) (ho : n % 2 = 1) :
  Calls Try.prog 59 #[.int .i64 d, .int .i64 n] w (RetIL w (vlL d n)) := by
 obtain ⟨d0, d1⟩ := neg_true hd
 have HLen := chL_len d0 d1
 have HOK := chL_ok d0 d1
 have HC : ∀ W, Calls Try.prog 78 #[.int .i64 d] W (RetV 70 2 W (chL d).length (chV (chL d))) := fun W => assigned_a d W hd
 have HR : vlL d n = vlK (chL d) n (chL d).length := (vlK_all _ _).symm
 rw [HR]
 clear HR
 have HC := hide HC
 generalize chL d = Z at *
 go_enter Try.func59, Try.ntmps59
 go_wp2_with (go_at_call 78; refine ((unhide HC) _).mono ?_; rintro e wA ⟨a0, c0, rfl, hlA, hbA⟩)
 have hS := srcV_of hlA
 have hK := srcV_kept (LO := (w.alloc (.cells #[] 3)).heap.size) (HI := wA.heap.size) (a := a0) (vs := chV Z)
 simp only [World.size_alloc] at hS hK
 have hsd := SI.startM (S := srcV (w.heap.size + 1) wA.heap.size a0 (chV Z)) hbA hS (Nat.le_refl _)
 obtain ⟨HI, hHI⟩ : ∃ HI, wA.heap.size = HI := ⟨_, rfl⟩
 rw [hHI] at hsd hK hS
 clear hlA hS
 go_loopw [5, 12] (fun ls is wr => ∃ (k n9 c : Nat) (a : Option Addr) (l : List Int), is = .int .i64 (k : Int) ∧ ls = .slice a n9 c ∧ k ≤ Z.length ∧ n9 ≤ k ∧ Hid (l = vlK Z n k) ∧ SI w (w.heap.size + 1) HI (srcV (w.heap.size + 1) HI a0 (chV Z)) wr a n9 c l) (fun _ is _ => Z.length - (intOf is).toNat)
 case atStart => exact ⟨0, 0, 0, _, [], rfl, rfl, by omega, by omega, hide rfl, hsd⟩
 case round =>
  clear hsd hbA
  obtain ⟨k, n9, c, a, l, rfl, rfl, hk, hnk, hl, hsd⟩ := hrel
  obtain ⟨w1, rfl⟩ : ∃ w1 : World, w1 = wr := ⟨_, rfl⟩
  have hz := hsd.sd.bel.size
  have hln := hsd.len
  have hlb : l.length ≤ 3000 := by have := unhide hln; omega
  by_cases c9 : k < Z.length
  ·have hci : (k : Int) < (Z.length : Int) := by omega
   obtain ⟨g0, hg0, hg1, hg2, hd0⟩ := srcV_at hsd.sd.src (by rw [chV_len]; omega)
   have e0 := hd0 (k * 2) (by rw [chV_len]; omega)
   have e1 := hd0 (k * 2 + 1) (by rw [chV_len]; omega)
   rw [(chV_at Z k c9).1] at e0
   rw [(chV_at Z k c9).2] at e1
   have hck := HOK _ (gdm (d := (0, 0)) c9)
   obtain ⟨x, hx⟩ : ∃ x, (Z.getD k (0, 0)).1 = x := ⟨_, rfl⟩
   obtain ⟨y, hy⟩ : ∃ y, (Z.getD k (0, 0)).2 = y := ⟨_, rfl⟩
   rw [hx] at e0
   rw [hy] at e1
   rw [hx, hy] at hck
   have YES := hide ((congrArg (· ++ [chv x y n]) (unhide hl)).trans (vlK_succ c9 hx hy))
   subst hg0
   clear hx hy hd0
   go_wp2_with (first | (go_at_call 79; refine (value_a x y n _ hck h0 h1 ho).mono ?_; rintro e w2 ⟨rfl, hb2⟩; have hs2 := (hsd.alloc hK _).call hK hb2; have hz2 := hs2.sd.bel.size) | (at_builtin; refine app_int _ rfl (.tmp 16) (.tmp 20) rfl w.heap.size (.slice a n9 c) l (chv x y n) w2.heap.size rfl rfl (hs2.alloc hK _).il (by go_simp) (by omega) (by first | omega | (simp; omega)) ?_; intro g cap w3 hown hgrow hat hlt))
   go_roundw
   case rel =>
    have hs3 := (hs2.alloc hK _).app hK hown hgrow hat
    exact ⟨k + 1, l.length + 1, cap, some ⟨g, 0, none⟩, _, by go_num, rfl, by omega, by have := unhide hln; omega, YES, hs3⟩
   case measure => simp [intOf]; omega
  ·obtain rfl : k = Z.length := by omega
   go_wp2
   go_ret
   exact hsd.ret (unhide hl) rfl

set_option maxRecDepth 100000 in
set_option maxHeartbeats 4000000 in
theorem chList_a (d n : Int) (w : World) (hd : negB d = true) (h0 : 1 ≤ n) (h1 : n ≤ 1000000000000) (ho : n % 2 = 1) :
  Calls Try.prog 49 #[.int .i64 d, .int .i64 n] w (RetIL w (vlL d n)) := by
 obtain ⟨d0, d1⟩ := neg_true hd
 have HLen := chL_len d0 d1
 have HOK := chL_ok d0 d1
 have HC : ∀ W, Calls Try.prog 70 #[.int .i64 d] W (RetV 70 2 W (chL d).length (chV (chL d))) := fun W => chAll_a d W hd
 have HR : vlL d n = vlK (chL d) n (chL d).length := (vlK_all _ _).symm
 rw [HR]
 clear HR
 have HC := hide HC
 generalize chL d = Z at *
 go_enter Try.func49, Try.ntmps49
 go_wp2_with (go_at_call 70; refine ((unhide HC) _).mono ?_; rintro e wA ⟨a0, c0, rfl, hlA, hbA⟩)
 have hS := srcV_of hlA
 have hK := srcV_kept (LO := w.heap.size) (HI := wA.heap.size) (a := a0) (vs := chV Z)
 skip
 have hsd := SI.startN (LO := w.heap.size) (S := srcV w.heap.size wA.heap.size a0 (chV Z)) hbA hS (Nat.le_refl _)
 obtain ⟨HI, hHI⟩ : ∃ HI, wA.heap.size = HI := ⟨_, rfl⟩
 rw [hHI] at hsd hK hS
 clear hlA hS
 go_loopw [5, 11] (fun ls is wr => ∃ (k n9 c : Nat) (a : Option Addr) (l : List Int), is = .int .i64 (k : Int) ∧ ls = .slice a n9 c ∧ k ≤ Z.length ∧ n9 ≤ k ∧ Hid (l = vlK Z n k) ∧ SI w w.heap.size HI (srcV w.heap.size HI a0 (chV Z)) wr a n9 c l) (fun _ is _ => Z.length - (intOf is).toNat)
 case atStart => exact ⟨0, 0, 0, _, [], rfl, rfl, by omega, by omega, hide rfl, hsd⟩
 case round =>
  clear hsd hbA
  obtain ⟨k, n9, c, a, l, rfl, rfl, hk, hnk, hl, hsd⟩ := hrel
  obtain ⟨w1, rfl⟩ : ∃ w1 : World, w1 = wr := ⟨_, rfl⟩
  have hz := hsd.sd.bel.size
  have hln := hsd.len
  have hlb : l.length ≤ 3000 := by have := unhide hln; omega
  by_cases c9 : k < Z.length
  ·have hci : (k : Int) < (Z.length : Int) := by omega
   obtain ⟨g0, hg0, hg1, hg2, hd0⟩ := srcV_at hsd.sd.src (by rw [chV_len]; omega)
   have e0 := hd0 (k * 2) (by rw [chV_len]; omega)
   have e1 := hd0 (k * 2 + 1) (by rw [chV_len]; omega)
   rw [(chV_at Z k c9).1] at e0
   rw [(chV_at Z k c9).2] at e1
   have hck := HOK _ (gdm (d := (0, 0)) c9)
   obtain ⟨x, hx⟩ : ∃ x, (Z.getD k (0, 0)).1 = x := ⟨_, rfl⟩
   obtain ⟨y, hy⟩ : ∃ y, (Z.getD k (0, 0)).2 = y := ⟨_, rfl⟩
   rw [hx] at e0
   rw [hy] at e1
   rw [hx, hy] at hck
   have YES := hide ((congrArg (· ++ [chv x y n]) (unhide hl)).trans (vlK_succ c9 hx hy))
   subst hg0
   clear hx hy hd0
   go_wp2_with (first | (go_at_call 71; refine (chAt_a x y n _ hck h0 h1 ho).mono ?_; rintro e w2 ⟨rfl, hb2⟩; have hs2 := (hsd.alloc hK _).call hK hb2; have hz2 := hs2.sd.bel.size) | (at_builtin; refine app_int _ rfl (.tmp 15) (.tmp 19) rfl w.heap.size (.slice a n9 c) l (chv x y n) w2.heap.size rfl rfl (hs2.alloc hK _).il (by go_simp) (by omega) (by first | omega | (simp; omega)) ?_; intro g cap w3 hown hgrow hat hlt))
   go_roundw
   case rel =>
    have hs3 := (hs2.alloc hK _).app hK hown hgrow hat
    exact ⟨k + 1, l.length + 1, cap, some ⟨g, 0, none⟩, _, by go_num, rfl, by omega, by have := unhide hln; omega, YES, hs3⟩
   case measure => simp [intOf]; omega
  ·obtain rfl : k = Z.length := by omega
   go_wp2
   go_ret
   exact hsd.ret (unhide hl) rfl
end Go.Proofs.Ytaeabefbohlcpaa
