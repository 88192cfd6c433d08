/- The orders of the classes: powers, orders. -/
import Derived.Test.YtaeabefbohlcpaaGrt
namespace Go.Proofs.Ytaeabefbohlcpaa
open Go.RowKit
set_option linter.unusedVariables false
set_option linter.unusedSimpArgs false
attribute [local go_sem] q2 q3 q4 q5 q6 q7 q8 q9 q10 q11 q12

theorem ix_ex {fs : List (Int × Int × Int)} {F : Int × Int × Int} (h : F ∈ fs) : ∃ j, j < fs.length ∧ fs.getD j (0, 0, 0) = F := by
 obtain ⟨j, hj, he⟩ := List.getElem_of_mem h
 exact ⟨j, hj, by rw [List.getD_eq_getElem?_getD, List.getElem?_eq_getElem hj]; exact he⟩
theorem ix_inj {fs : List (Int × Int × Int)} (hn : fs.Nodup) {i j : Nat} (hi : i < fs.length) (hj : j < fs.length) (h : fs.getD i (0, 0, 0) = fs.getD j (0, 0, 0)) : i = j := by
 simp only [List.getD_eq_getElem?_getD, List.getElem?_eq_getElem hi, List.getElem?_eq_getElem hj, Option.getD_some] at h
 rcases Nat.lt_trichotomy i j with q | q | q
 ·exact absurd h (List.pairwise_iff_getElem.1 hn i j hi hj q)
 ·exact q
 ·exact absurd h.symm (List.pairwise_iff_getElem.1 hn j i hj hi q)
structure RfS (d : Int) (fs : List (Int × Int × Int)) : Prop where
 nd : fs.Nodup
 inn : ∀ j, j < fs.length → InD d (fs.getD j (0, 0, 0)) ∧ RcT (fs.getD j (0, 0, 0)) ∧ SmF (fs.getD j (0, 0, 0))
 mem : ∀ F, InD d F → RcT F → F ∈ fs
 zero : fs.getD 0 (0, 0, 0) = onT d
 pos : 0 < fs.length
 len : fs.length ≤ 676
theorem rfs {d : Int} (hd : negB d = true) : RfS d (rfL d) := by
 obtain ⟨d0, d1⟩ := neg_true hd
 exact ⟨rf_nodup d, fun j hj => ⟨(rf_in hd (gdm hj)).1, (rf_in hd (gdm hj)).2, rf_sm hd hj⟩, fun F h h2 => rf_mem h h2, rf_zero hd, rf_pos hd, rfL_len d0 d1⟩
theorem RfS.pw {d : Int} {fs : List (Int × Int × Int)} (h : RfS d fs) {i : Nat} (hi : i < fs.length) (m : Nat) : ∃ p, p < fs.length ∧ fs.getD p (0, 0, 0) = poN d (fs.getD i (0, 0, 0)) m :=
 ix_ex (h.mem _ (poN_in (h.inn i hi).1 m) (poN_rc (h.inn i hi).1 m))
theorem RfS.one {d : Int} {fs : List (Int × Int × Int)} (h : RfS d fs) {i : Nat} (hi : i < fs.length) : fs.getD i (0, 0, 0) = poN d (fs.getD i (0, 0, 0)) 1 := by
 rw [poN_one (h.inn i hi).1]; exact (rd_same (h.inn i hi).2.1).symm
theorem RfS.nz {d : Int} {fs : List (Int × Int × Int)} (h : RfS d fs) {i p m : Nat} (hi : i < fs.length) (hp : p < fs.length) (he : fs.getD p (0, 0, 0) = poN d (fs.getD i (0, 0, 0)) m) (h1 : 1 ≤ m) (h2 : m ≤ orN d (fs.getD i (0, 0, 0))) : p = 0 ↔ m = orN d (fs.getD i (0, 0, 0)) := by
 constructor
 ·intro e
  subst e
  exact or_here (h.inn i hi).1 h1 h2 (by rw [← he, h.zero])
 ·intro e
  refine ix_inj h.nd hp h.pos ?_
  rw [he, h.zero, e]
  exact (or_is (h.inn i hi).1).2.2.1
theorem orL_at {d : Int} {k : Nat} (hk : k < (rfL d).length) : (orL d).take k ++ [((orN d ((rfL d).getD k (0, 0, 0)) : Nat) : Int)] = (orL d).take (k + 1) := by
 unfold orL
 rw [List.take_add_one, List.getElem?_map, List.getElem?_eq_getElem hk, List.getD_eq_getElem?_getD, List.getElem?_eq_getElem hk]; rfl
set_option maxRecDepth 100000 in
set_option maxHeartbeats 4000000 in
theorem powers_a (d : Int) (HI gb : Nat) (fs : List (Int × Int × Int)) (i : Nat) (w : World) (hR : RfS d fs) (hG : grpS HI gb fs w) (hHI : HI ≤ w.heap.size) (hi : i < fs.length) {N : Nat} (hN : orN d (fs.getD i (0, 0, 0)) = N) :
  Calls Try.prog 47 #[.pointer (some ⟨gb, 0, none⟩), .int .i64 (i : Int)] w (RetLen w N) := by
 have hor := (or_is (hR.inn i hi).1)
 rw [hN] at hor
 obtain ⟨n1, n2, -, -⟩ := hor
 have HT : ∀ (W : World) (p r : Nat), grpS w.heap.size gb fs W → w.heap.size ≤ W.heap.size → p < fs.length → r < fs.length → cmp (fs.getD p (0, 0, 0)) (fs.getD i (0, 0, 0)) = fs.getD r (0, 0, 0) → Calls Try.prog 69 #[.pointer (some ⟨gb, 0, none⟩), .int .i64 (p : Int), .int .i64 (i : Int)] W fun e w' => e = .returned (.int .i64 (r : Int)) ∧ Below W.heap.size W w' := fun W p r h1 h2 h3 h4 h5 =>
  grTimes_a (D := d) w.heap.size gb fs p i r W h1 h2 h3 hi h4 (fun j hj => (hR.inn j hj).1) (hR.inn r h4).2.2 h5 (by have := hR.len; omega)
 have HT := hide HT
 have hG2 := grp_up hG hHI
 have hlen := hR.len
 have hK := grp_kept (HI := w.heap.size) (gb := gb) (fs := fs)
 have hown : (w.alloc (.cells #[.int .i64 0] 3)).ownsRow w.heap.size 3 1 (.slice (some ⟨w.heap.size, 0, none⟩) 1 1) 1 [.int .i64 0] := World.ownsRow_lit (size := 1) w #[.int .i64 0] 1 (Nat.le_refl _) (by decide) rfl
 have hsd : SI w 0 w.heap.size (grpS w.heap.size gb fs) (w.alloc (.cells #[.int .i64 0] 3)) (some ⟨w.heap.size, 0, none⟩) 1 1 [0] :=
  ⟨hide rfl, hown, fun b hb => by simp [Value.ownBlock] at hb; right; omega, byGG, grp_call hG2 byGG (Nat.le_refl _), by simp⟩
 have HR := hide hR
 have HNN := hide hN
 clear hG hG2 hown hN
 go_enter Try.func47, Try.ntmps47
 go_wp2
 go_loopw [5, 6] (fun ls ps wr => ∃ (m p c : Nat) (a : Option Addr) (l : List Int), ls = .slice a m c ∧ ps = .int .i64 (p : Int) ∧ 1 ≤ m ∧ m ≤ N ∧ p < fs.length ∧ Hid (fs.getD p (0, 0, 0) = poN d (fs.getD i (0, 0, 0)) m) ∧ SI w 0 w.heap.size (grpS w.heap.size gb fs) wr a m c l) (fun ls _ _ => N - lenOf ls)
 case atStart => exact ⟨1, i, 1, _, _, rfl, rfl, by omega, n1, hi, hide (hR.one hi), hsd⟩
 case round =>
  clear hsd
  obtain ⟨m, p, c, a, l, rfl, rfl, m1, m2, hp, he, hsd⟩ := hrel
  obtain ⟨w1, rfl⟩ : ∃ w1 : World, w1 = wr := ⟨_, rfl⟩
  have hz := hsd.sd.bel.size
  have hln := hsd.len
  have hlb : l.length ≤ 3000 := by have := unhide hln; omega
  have hnz := (unhide HR).nz hi hp (unhide he) m1 (by rw [unhide HNN]; exact m2)
  rw [unhide HNN] at hnz
  by_cases cm : m = N
  ·have hp0 := hnz.2 cm
   clear hnz
   subst hp0 cm
   go_wp2
   go_ret
   exact ⟨_, _, rfl, hsd.sd.bel⟩
  ·have hmN : m < N := by omega
   have hp0 : ((p : Int) != 0) = true := by
    have : ¬ p = 0 := fun e => cm (hnz.1 e)
    simp; omega
   obtain ⟨r, hr, hre⟩ := (unhide HR).pw hi (m + 1)
   have hce : cmp (fs.getD p (0, 0, 0)) (fs.getD i (0, 0, 0)) = fs.getD r (0, 0, 0) := by rw [hre, unhide he]; rfl
   have HRE := hide hre
   have HT2 := hide (fun W h1 h2 => unhide HT W p r h1 h2 hp hr hce)
   clear hnz hre hce he cm
   go_wp2_with (first | (at_builtin; refine app_int _ rfl (.tmp 15) (.tmp 17) rfl w.heap.size (.slice a m c) l (p : Int) w1.heap.size rfl rfl (hsd.alloc hK _).il (by go_simp) (by omega) (by first | omega | (simp; omega)) ?_; intro g cap w3 hown hgrow hat hlt; have hs3 := (hsd.alloc hK _).app hK hown hgrow hat) | (go_at_call 69; refine ((unhide HT2) _ hs3.sd.src hs3.sd.bel.size).mono ?_; rintro e w4 ⟨rfl, hb4⟩))
   go_roundw
   case rel =>
    have hs4 := hs3.call hK hb4
    have e1 : m + 1 = l.length + 1 := by have := unhide hln; omega
    have HRE2 : Hid (fs.getD r (0, 0, 0) = poN d (fs.getD i (0, 0, 0)) (l.length + 1)) := hide (by rw [← e1]; exact unhide HRE)
    first | exact ⟨l.length + 1, r, cap, some ⟨g, 0, none⟩, _, rfl, rfl, by omega, by omega, hr, HRE2, hs4⟩ | ((repeat apply Exists.intro); exact ⟨⟨l.length + 1, r, cap, some ⟨g, 0, none⟩, _, rfl, rfl, by omega, by omega, hr, HRE2, hs4⟩, rfl⟩)
   case measure => have := unhide hln; simp [lenOf]; omega
set_option maxRecDepth 100000 in
set_option maxHeartbeats 4000000 in
theorem orders_a (d : Int) (HI gb : Nat) (w : World) (hd : negB d = true) (hG : grpS HI gb (rfL d) w) (hHI : HI ≤ w.heap.size) :
  Calls Try.prog 30 #[.pointer (some ⟨gb, 0, none⟩)] w (RetIL w (orL d)) := by
 have hR := rfs hd
 have hoL : (orL d).take (rfL d).length = orL d := List.take_of_length_le (by unfold orL; rw [List.length_map]; exact Nat.le_refl _)
 have HS := hide (fun k (hk : k < (rfL d).length) => orL_at hk)
 have HOR : Hid (∀ k, k < (rfL d).length → orN d ((rfL d).getD k (0, 0, 0)) ≤ 2000) := hide fun k hk => (or_is (hR.inn k hk).1).2.1
 have HP : ∀ (W : World) (k : Nat), grpS w.heap.size gb (rfL d) W → w.heap.size ≤ W.heap.size → k < (rfL d).length → Calls Try.prog 47 #[.pointer (some ⟨gb, 0, none⟩), .int .i64 (k : Int)] W (RetLen W (orN d ((rfL d).getD k (0, 0, 0)))) := fun W k h1 h2 h3 =>
  powers_a d w.heap.size gb (rfL d) k W hR h1 h2 h3 rfl
 have HP := hide HP
 have hG2 := grp_up hG hHI
 have hlen := hR.len
 obtain ⟨OL, hOL⟩ : ∃ OL, orL d = OL := ⟨_, rfl⟩
 have HO : Hid (∀ k, k < (rfL d).length → OL.take k ++ [((orN d ((rfL d).getD k (0, 0, 0)) : Nat) : Int)] = OL.take (k + 1)) := hide (by rw [← hOL]; exact unhide HS)
 rw [hOL] at hoL ⊢
 clear HS hOL hR hG
 generalize rfL d = fs at *
 have hK := grp_kept (HI := w.heap.size) (gb := gb) (fs := fs)
 have hsd : SI w 0 w.heap.size (grpS w.heap.size gb fs) (w.alloc (.cells #[] 3)) (some ⟨w.heap.size, 0, none⟩) 0 0 [] :=
  ⟨hide rfl, (SD.startM (S := fun _ => True) (HI := 0) (Below.refl _ _) trivial (Nat.zero_le _)).own, fun b hb => by simp [Value.ownBlock] at hb; right; omega, byGG, grp_call hG2 byGG (Nat.le_refl _), by simp⟩
 obtain ⟨-, a5, c5, mb5, lo5, q0, q1, q2, q3, q4⟩ := hG2
 have hgb : gb < w.heap.size := World.block_lt_of_cell? _ _ q0
 clear q1 q2 q3 q4
 go_enter Try.func30, Try.ntmps30
 go_wp2
 go_loopw [3, 11] (fun ls is wr => ∃ (k n9 c : Nat) (a : Option Addr) (l : List Int), is = .int .i64 (k : Int) ∧ ls = .slice a n9 c ∧ k ≤ fs.length ∧ n9 ≤ k ∧ Hid (l = OL.take k) ∧ SI w 0 w.heap.size (grpS w.heap.size gb fs) wr a n9 c l) (fun _ is _ => fs.length - (intOf is).toNat)
 case atStart => exact ⟨0, 0, 0, _, _, rfl, rfl, by omega, by omega, hide (by simp), hsd⟩
 case round =>
  clear hsd q0
  obtain ⟨k, n9, c, a, l, rfl, rfl, hk, hnk, hl, hsd⟩ := hrel
  obtain ⟨w1, rfl⟩ : ∃ w1 : World, w1 = wr := ⟨_, rfl⟩
  have hz := hsd.sd.bel.size
  have hln := hsd.len
  have hlb : l.length ≤ 3000 := by have := unhide hln; omega
  by_cases c9 : k < fs.length
  ·have hci : (k : Int) < (fs.length : Int) := by omega
   obtain ⟨N, hN⟩ : ∃ N, orN d (fs.getD k (0, 0, 0)) = N := ⟨_, rfl⟩
   have hNb : N ≤ 2000 := by rw [← hN]; exact unhide HOR k c9
   have YES := hide ((congrArg (· ++ [((orN d (fs.getD k (0, 0, 0)) : Nat) : Int)]) (unhide hl)).trans (unhide HO k c9))
   rw [hN] at YES
   have HPk := hide (hN ▸ (fun W h1 h2 => unhide HP W k h1 h2 c9) : ∀ (W : World), grpS w.heap.size gb fs W → w.heap.size ≤ W.heap.size → Calls Try.prog 47 #[.pointer (some ⟨gb, 0, none⟩), .int .i64 (k : Int)] W (RetLen W N))
   clear hN
   go_wp2_with (first | (go_at_call 47; refine ((unhide HPk) _ hsd.sd.src hz).mono ?_; rintro e w2 ⟨a2, c2, rfl, hb2⟩; have hs2 := hsd.call hK hb2; have hz2 := hs2.sd.bel.size) | (at_builtin; refine app_int _ rfl (.tmp 14) (.tmp 19) rfl w.heap.size (.slice a n9 c) l (N : Int) w2.heap.size rfl rfl (hs2.alloc hK _).il (by go_simp) (by omega) (by first | omega | (simp; omega)) ?_; intro g cap w3 hown hgrow hat hlt))
   go_roundw
   case rel =>
    have hs3 := (hs2.alloc hK _).app hK hown hgrow hat
    exact ⟨k + 1, l.length + 1, cap, some ⟨g, 0, none⟩, _, by go_num, rfl, by omega, by have := unhide hln; omega, YES, hs3⟩
   case measure => simp [intOf]; omega
  ·obtain rfl : k = fs.length := by omega
   go_wp2
   go_ret
   exact hsd.ret ((unhide hl).trans hoL) rfl
end Go.Proofs.Ytaeabefbohlcpaa
