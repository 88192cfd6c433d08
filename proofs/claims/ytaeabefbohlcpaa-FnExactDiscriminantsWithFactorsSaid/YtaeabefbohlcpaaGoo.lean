/- The orders of the classes out of the table: grOrder, grOrders. -/
import Derived.Test.YtaeabefbohlcpaaGtt
namespace Go.Proofs.Ytaeabefbohlcpaa
open Go.RowKit
set_option linter.unusedVariables false
set_option linter.unusedSimpArgs false
attribute [local go_sem] q2 q3 q4 q5 q6 q7 q8 q9 q10 q11 q12

theorem orL_get {d : Int} {k : Nat} (hk : k < (rfL d).length) : (orL d).getD k 0 = ((orN d ((rfL d).getD k (0, 0, 0)) : Nat) : Int) := by
 unfold orL
 rw [List.getD_eq_getElem?_getD, List.getElem?_map, List.getElem?_eq_getElem hk, List.getD_eq_getElem?_getD, List.getElem?_eq_getElem hk]; rfl
set_option maxRecDepth 100000 in
set_option maxHeartbeats 4000000 in
theorem grOrder_a (d : Int) (HI g n : Nat) (T : Nat → Nat → Nat) (fs : List (Int × Int × Int)) (i : Nat) (w : World) (hR : RfS d fs) (hG : tabS HI g n T w) (hn : Hid (n = fs.length)) (hi : i < n)
  (HT : ∀ i j, i < fs.length → j < fs.length → T i j < fs.length ∧ fs.getD (T i j) (0, 0, 0) = cmp (fs.getD i (0, 0, 0)) (fs.getD j (0, 0, 0))) {N : Nat} (hN : orN d (fs.getD i (0, 0, 0)) = N) :
  Calls Try.prog 65 #[.slice (some ⟨g, 0, none⟩) n n, .int .i64 (i : Int)] w fun e w' => e = .returned (.int .i64 (N : Int)) ∧ w = w' := by
 have hif : i < fs.length := by rw [← unhide hn]; exact hi
 have hor := (or_is (hR.inn i hif).1)
 rw [hN] at hor
 obtain ⟨n1, n2, -, -⟩ := hor
 have HR := hide hR
 have HNN := hide hN
 have HT := hide HT
 have HG := hide hG.2
 have hst := hR.one hif
 have hn6 : n ≤ 676 := by have := hR.len; have := unhide hn; omega
 clear hN hG
 go_enter Try.func65, Try.ntmps65
 go_wp2
 go_loop [5, 6] (fun ks ps => ∃ m p : Nat, ks = .int .i64 (m : Int) ∧ ps = .int .i64 (p : Int) ∧ 1 ≤ m ∧ m ≤ N ∧ p < n ∧ Hid (fs.getD p (0, 0, 0) = poN d (fs.getD i (0, 0, 0)) m)) (fun ks _ => N - (intOf ks).toNat)
 case atStart => exact ⟨1, i, rfl, rfl, by omega, n1, hi, hide hst⟩
 case round =>
  clear hst
  obtain ⟨m, p, rfl, rfl, m1, m2, hp, he⟩ := hrel
  have hpf : p < fs.length := by rw [← unhide hn]; exact hp
  have hnz := (unhide HR).nz hif hpf (unhide he) m1 (by rw [unhide HNN]; exact m2)
  rw [unhide HNN] at hnz
  by_cases cm : m = N
  ·have hp0 := hnz.2 cm
   clear hnz
   subst hp0 cm
   go_wp2
   go_ret
   exact ⟨rfl, rfl⟩
  ·have hmN : m < N := by omega
   have hp0 : ((p : Int) != 0) = true := by
    have : ¬ p = 0 := fun e => cm (hnz.1 e)
    simp; omega
   obtain ⟨gp, gp1, gp2, gp3⟩ := unhide HG p hp
   have q3 := gp3 i hi
   obtain ⟨hr, hre⟩ := unhide HT p i hpf hif
   obtain ⟨r, hrr⟩ : ∃ r, T p i = r := ⟨_, rfl⟩
   rw [hrr] at q3 hr hre
   have hrn : r < n := by rw [unhide hn]; exact hr
   have HRE : Hid (fs.getD r (0, 0, 0) = poN d (fs.getD i (0, 0, 0)) (m + 1)) := hide (by rw [hre, unhide he]; rfl)
   have hpn : (p : Int) < (n : Int) := by omega
   have hin : (i : Int) < (n : Int) := by omega
   clear hnz hre hrr cm gp3 hr
   go_wp2
   go_round
   case rel => first | exact ⟨m + 1, r, by first | rfl | go_num, rfl, by omega, by omega, hrn, HRE⟩ | ((repeat apply Exists.intro); exact ⟨⟨m + 1, r, by first | rfl | go_num, rfl, by omega, by omega, hrn, HRE⟩, rfl⟩)
   case measure => simp [intOf]; omega
set_option maxRecDepth 100000 in
set_option maxHeartbeats 4000000 in
theorem grOrders_a (d : Int) (HI g n : Nat) (T : Nat → Nat → Nat) (w : World) (hd : negB d = true) (hG : tabS HI g n T w) (hHI : HI ≤ w.heap.size) (hn : Hid (n = (rfL d).length))
  (HT : ∀ i j, i < (rfL d).length → j < (rfL d).length → T i j < (rfL d).length ∧ (rfL d).getD (T i j) (0, 0, 0) = cmp ((rfL d).getD i (0, 0, 0)) ((rfL d).getD j (0, 0, 0))) :
  Calls Try.prog 42 #[.slice (some ⟨g, 0, none⟩) n n] w (RetIL w (orL d)) := by
 have hR := rfs hd
 have hn6 : n ≤ 676 := by have := hR.len; have := unhide hn; omega
 have HC : Hid (∀ (W : World) (k : Nat), tabS HI g n T W → k < n → Calls Try.prog 65 #[.slice (some ⟨g, 0, none⟩) n n, .int .i64 (k : Int)] W fun e w' => e = .returned (.int .i64 ((orN d ((rfL d).getD k (0, 0, 0)) : Nat) : Int)) ∧ W = w') := hide fun W k h1 h2 =>
  grOrder_a d HI g n T (rfL d) k W hR h1 hn h2 HT rfl
 have HOG : Hid (∀ k, k < n → (orL d).getD k 0 = ((orN d ((rfL d).getD k (0, 0, 0)) : Nat) : Int)) := hide fun k hk => orL_get (by rw [← unhide hn]; exact hk)
 have HOL : Hid ((orL d).length = n) := hide (by unfold orL; rw [List.length_map]; exact (unhide hn).symm)
 obtain ⟨OL, hOL⟩ : ∃ OL, orL d = OL := ⟨_, rfl⟩
 rw [hOL] at HOG HOL ⊢
 clear hOL hR HT
 obtain ⟨j0, hj0, hy0, hy1, hy2⟩ := info_parts Try.infoInt'
 go_enter Try.func42, Try.ntmps42
 go_wp2_with (at_make; refine wpList_make_full _ rfl (.tmp 6) (.tmp 6) 22 rfl w.heap.size 3 j0 (.int .i64 0) 1 Try.underlying22 hj0 hy0 hy1 .i64 .i64 _ _ n rfl rfl rfl rfl (by rw [hy2]; omega) (by unfold maxLen; omega) (Nat.le_refl _) ?_; intro w3 hown3 hgrow3)
 have hrow3 := IL.of_row hown3 (fun j hj => made_at hj)
 have hb3 : Below w.heap.size w w3 := (Below.refl _ _).grown hgrow3 (Nat.le_refl _) (fun k hk => by cases hk)
 clear hown3 hgrow3
 go_loopw [10] (fun is wr => ∃ (k : Nat) (l : List Int), is = .int .i64 (k : Int) ∧ k ≤ n ∧ Hid (l.length = n) ∧ IL wr w.heap.size (.slice (some ⟨w.heap.size, 0, none⟩) n n) l ∧ Hid (∀ j, j < k → l.getD j 0 = OL.getD j 0) ∧ Below w.heap.size w wr) (fun is _ => n - (intOf is).toNat)
 case atStart => exact ⟨0, _, rfl, by omega, hide (by simp), hrow3, hide (fun j h => absurd h (by omega)), hb3⟩
 case round =>
  clear hrow3 hb3
  obtain ⟨k, l, rfl, hk, hll, hrow, hdone, hb⟩ := hrel
  obtain ⟨w1, rfl⟩ : ∃ w1 : World, w1 = wr := ⟨_, rfl⟩
  by_cases ck : k < n
  ·have hci : (k : Int) < (n : Int) := by omega
   have q1 := IL.cellAt hrow (j := k) (by rw [unhide hll]; exact ck)
   have q2 := IL.frozenAt hrow k
   have hT1 : tabS HI g n T w1 := tab_kept w w1 (fun j _ h => hb.block j (by omega)) hG
   have HCk := unhide HC w1 k hT1 ck
   have hok := unhide HOG k ck
   obtain ⟨v, hv⟩ : ∃ v : Int, ((orN d ((rfL d).getD k (0, 0, 0)) : Nat) : Int) = v := ⟨_, rfl⟩
   rw [hv] at HCk hok
   have HCk := hide HCk
   have HOK := hide hok
   clear hv hok
   generalize l.getD k 0 = v8 at *
   go_wp2_with (go_at_call 65; refine (unhide HCk).mono ?_; rintro e w2 ⟨rfl, rfl⟩)
   go_roundw
   case rel =>
    obtain ⟨hrow7, hg7⟩ := IL.stored hrow k v
    have hlo : w.heap.size ≤ w1.heap.size := hb.size
    have hl7 : Hid ((l.set k v).length = n) := hide (by rw [List.length_set]; exact unhide hll)
    have hd7 : Hid (∀ j', j' < k + 1 → (l.set k v).getD j' 0 = OL.getD j' 0) := hide fun j' hj' => by
     have hll9 := unhide hll
     rw [List.getD_eq_getElem?_getD, List.getElem?_set]
     by_cases e : k = j'
     ·subst e; rw [if_pos rfl, if_pos (by omega), unhide HOK]; rfl
     ·rw [if_neg e, ← List.getD_eq_getElem?_getD]; exact unhide hdone j' (by omega)
    have hb7 := hb.grown hg7 hlo (fun j hj => by cases hj; exact Nat.le_refl _)
    first | exact ⟨k + 1, _, by first | rfl | go_num, by omega, hl7, hrow7, hd7, hb7⟩ | ((repeat apply Exists.intro); exact ⟨⟨k + 1, _, by first | rfl | go_num, by omega, hl7, hrow7, hd7, hb7⟩, rfl⟩)
   case measure => simp [intOf]; omega
  ·obtain rfl : k = n := by omega
   have hle : l = OL := ints_eq ((unhide hll).trans (unhide HOL).symm) (fun i hi => unhide hdone i (by rw [unhide hll] at hi; exact hi))
   go_wp2
   go_ret
   exact ⟨some ⟨w.heap.size, 0, none⟩, _, by rw [unhide HOL]; rfl, by rw [unhide HOL, ← hle]; exact hrow, hb⟩
end Go.Proofs.Ytaeabefbohlcpaa
