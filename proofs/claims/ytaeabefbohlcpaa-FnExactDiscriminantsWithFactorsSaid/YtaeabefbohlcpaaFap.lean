/- The different primes of a number: primesOf. -/
import Derived.Test.YtaeabefbohlcpaaFaf
import Derived.Test.YtaeabefbohlcpaaSd
import Derived.Test.YtaeabefbohlcpaaMpf
namespace Go.Proofs.Ytaeabefbohlcpaa
open Go.RowKit
set_option linter.unusedVariables false
set_option linter.unusedSimpArgs false
attribute [local go_sem] q2 q3 q4 q5 q6 q7 q8 q9 q10 q11 q12

theorem fs_ge {n : Nat} (h0 : 1 ≤ n) : ∀ x ∈ fcL 2 n, 1 ≤ x := fun x hx => by have := ((ps_fc h0).pr x hx).1.1; omega

set_option maxRecDepth 100000 in
set_option maxHeartbeats 4000000 in
theorem primesOf_a (n : Nat) (w : World) (h0 : 1 ≤ n) (h1 : n ≤ 2000) :
  Calls Try.prog 44 #[.int .i64 (n : Int)] w (RetIL w (nI (psL n))) := by
 have HC : ∀ W, Calls Try.prog 68 #[.int .i64 (n : Int)] W (RetIL W (nI (fcL 2 n))) := fun W => factors_a n W h0 h1
 have HC := hide HC
 have hps : psL n = ddK (fcL 2 n) (fcL 2 n).length := rfl
 have hfl : (fcL 2 n).length ≤ 2000 := by have := fc_len h0; omega
 have hge := fs_ge h0
 have hdd := ps_dd h0
 rw [hps]
 clear hps
 generalize fcL 2 n = fs at *
 have hdd := hide hdd
 go_enter Try.func44, Try.ntmps44
 go_wp2_with (go_at_call 68; refine ((unhide HC) _).mono ?_; rintro e wA ⟨a0, c0, rfl, hlA, hbA⟩)
 have hS : IntsAt wA (w.heap.size + 1) wA.heap.size a0 fs.length (fun i => (nI fs).getD i 0) := by
  have := hlA.ints.2; rw [nI_len] at this; exact this.weak (by simp) (Nat.le_refl _)
 have hsd := SI.startM (S := srcI (w.heap.size + 1) wA.heap.size a0 fs.length (fun i => (nI fs).getD i 0)) hbA hS (Nat.le_refl _)
 have hN : (nI fs).length = fs.length := nI_len fs
 rw [hN]
 clear hN
 have hK := ints_kept (LO := w.heap.size + 1) (HI := wA.heap.size) (n := fs.length) (a := a0) (f := fun i => (nI fs).getD i 0)
 obtain ⟨HI, hHI⟩ : ∃ HI, wA.heap.size = HI := ⟨_, rfl⟩
 rw [hHI] at hsd hK hS
 clear hlA hS
 go_loopw [3, 10] (fun ls is wr => ∃ (k n c : Nat) (a : Option Addr) (l : List Int), is = .int .i64 (k : Int) ∧ ls = .slice a n c ∧ k ≤ fs.length ∧ n ≤ k ∧ Hid (l = nI (ddK fs k)) ∧ SI w (w.heap.size + 1) HI (srcI (w.heap.size + 1) HI a0 fs.length (fun i => (nI fs).getD i 0)) wr a n c l) (fun _ is _ => fs.length - (intOf is).toNat)
 case atStart => exact ⟨0, 0, 0, _, [], rfl, rfl, by omega, by omega, hide rfl, hsd⟩
 case round =>
  clear hsd hbA
  obtain ⟨k, n9, c, a, l, rfl, rfl, hk, hnk, hl, hsd⟩ := hrel
  obtain ⟨w1, rfl⟩ : ∃ w1 : World, w1 = wr := ⟨_, rfl⟩
  have hz := hsd.sd.bel.size
  have hln := hsd.len
  have hIL := hsd.il
  have hlb : l.length ≤ 2000 := by have := unhide hln; omega
  by_cases c9 : k < fs.length
  ·have hci : (k : Int) < (fs.length : Int) := by omega
   obtain ⟨g0, hg0, hg2, d0⟩ := IntsAt.cell hsd.sd.src c9
   rw [nI_get c9] at d0
   obtain ⟨p, hp⟩ : ∃ p, fs.getD k 0 = p := ⟨_, rfl⟩
   rw [hp] at d0
   have hp1 : 1 ≤ p := by rw [← hp]; exact hge _ (gdm c9)
   subst hg0
   have YES : Hid ((ddK fs k).getD ((ddK fs k).length - 1) 0 ≠ p → l ++ [(p : Int)] = nI (ddK fs (k + 1))) := hide fun h => by
    rw [unhide hl, dd_no (by rw [hp]; exact h), nI_app, hp]
   have NO : Hid ((ddK fs k).getD ((ddK fs k).length - 1) 0 = p → l = nI (ddK fs (k + 1))) := hide fun h => by
    rw [unhide hl, dd_yes (by rw [hp]; exact h)]
   have LN : Hid (n9 = (ddK fs k).length) := hide (by have := unhide hln; rw [unhide hl, nI_len] at this; exact this)
   clear hp
   cases n9 with
   | zero =>
    have YES2 : Hid (l ++ [(p : Int)] = nI (ddK fs (k + 1))) := hide (unhide YES (by
     have := unhide LN
     rw [List.getD_eq_getElem?_getD, List.getElem?_eq_none (by omega)]; simp; omega))
    go_wp2_with (at_builtin; refine app_int _ rfl (.tmp 27) (.tmp 29) rfl w.heap.size (.slice a 0 c) l (p : Int) w1.heap.size rfl rfl (hIL.alloc _) (by go_simp) (by omega) (by first | omega | (simp; omega)) ?_; intro g cap w2 hown hgrow hat hlt)
    go_roundw
    case rel =>
     have hs2 := (hsd.alloc hK _).app hK hown hgrow hat
     exact ⟨k + 1, l.length + 1, cap, some ⟨g, 0, none⟩, _, by go_num, rfl, by omega, by have := unhide hln; omega, YES2, hs2⟩
    case measure => simp [intOf]; omega
   | succ q =>
    obtain ⟨gl, hgl, hgl2, hcl⟩ := hsd.ptr (Nat.succ_pos q)
    have e0 := hcl q (by omega)
    subst hgl
    have EL : Hid (l.getD q 0 = (((ddK fs k).getD ((ddK fs k).length - 1) 0 : Nat) : Int)) := hide (by
     have := unhide LN
     rw [unhide hl, nI_get (by omega), ← this]; rfl)
    obtain ⟨y, hy⟩ : ∃ y, (ddK fs k).getD ((ddK fs k).length - 1) 0 = y := ⟨_, rfl⟩
    rw [unhide EL, hy] at e0
    have YES := hide (show y ≠ p → _ by rw [← hy]; exact unhide YES)
    have NO := hide (show y = p → _ by rw [← hy]; exact unhide NO)
    clear hy hcl EL
    by_cases cp : y = p
    ·have NO2 := hide (unhide NO cp)
     subst cp
     clear NO YES
     go_wp2
     go_roundw
     case rel => first | exact ⟨k + 1, q + 1, c, _, l, by first | rfl | go_num, rfl, by omega, by omega, NO2, hsd⟩ | ((repeat apply Exists.intro); exact ⟨⟨k + 1, q + 1, c, _, l, by first | rfl | go_num, rfl, by omega, by omega, NO2, hsd⟩, rfl⟩)
     case measure => simp [intOf]; omega
    ·have YES2 := hide (unhide YES cp)
     have cp2 : ((y : Int) != (p : Int)) = true := by simp; omega
     clear NO YES
     go_wp2_with (at_builtin; refine app_int _ rfl (.tmp 27) (.tmp 29) rfl w.heap.size (.slice (some ⟨gl, 0, none⟩) (q + 1) c) l (p : Int) w1.heap.size rfl rfl (hIL.alloc _) (by go_simp) (by omega) (by first | omega | (simp; omega)) ?_; intro g cap w2 hown hgrow hat hlt)
     go_roundw
     case rel =>
      have hs2 := (hsd.alloc hK _).app hK hown hgrow hat
      exact ⟨k + 1, l.length + 1, cap, some ⟨g, 0, none⟩, _, by go_num, rfl, by omega, by have := unhide hln; omega, YES2, hs2⟩
     case measure => simp [intOf]; omega
  ·obtain rfl : k = fs.length := by omega
   go_wp2
   go_ret
   exact hsd.ret (unhide hl) rfl
end Go.Proofs.Ytaeabefbohlcpaa
