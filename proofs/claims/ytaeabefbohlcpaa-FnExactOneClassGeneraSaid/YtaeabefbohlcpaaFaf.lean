/- Prime factors, the exponent and the part of a prime: both sides. -/
import Derived.Test.YtaeabefbohlcpaaFaw
import Derived.Test.YtaeabefbohlcpaaFilter
namespace Go.Proofs.Ytaeabefbohlcpaa
open Go.RowKit
set_option linter.unusedVariables false
set_option linter.unusedSimpArgs false
attribute [local go_sem] q2 q3 q4 q5 q6 q7 q8 q9 q10 q11 q12

set_option maxRecDepth 100000 in
set_option maxHeartbeats 4000000 in
theorem factors_a (n : Nat) (w : World) (h0 : 1 ≤ n) (h1 : n ≤ 2000) :
  Calls Try.prog 68 #[.int .i64 (n : Int)] w (RetIL w (nI (fcL 2 n))) := by
 go_enter Try.func68, Try.ntmps68
 go_wp2
 go_loopw [0, 3, 4] (fun ns ls ps wr => ∃ (m p : Nat) (L : List Nat) (a : Option Addr) (c : Nat), ns = .int .i64 (m : Int) ∧ ls = .slice a (nI L).length c ∧ ps = .int .i64 (p : Int) ∧ FcInv n p m L ∧ p ≤ 45 ∧ IL wr w.heap.size (.slice a (nI L).length c) (nI L) ∧ Below w.heap.size w wr) (fun _ _ ps _ => 60 - (intOf ps).toNat)
 case atStart => exact ⟨n, 2, [], some ⟨w.heap.size, 0, none⟩, 0, rfl, rfl, rfl, FcInv.start h0, by omega, IL.made w _ (Nat.le_refl _), (Below.refl _ _).alloc (Nat.le_refl _) _⟩
 case round =>
  obtain ⟨m, p, L, a, c, rfl, rfl, rfl, hi, hp45, hl, hb⟩ := hrel
  obtain ⟨w1, rfl⟩ : ∃ w1 : World, w1 = wr := ⟨_, rfl⟩
  have hz := hb.size
  have hL0 := hi.len h1
  have hL : (nI L).length ≤ 2000 := by rw [nI_len]; exact hL0
  clear hL0
  have hp2 := hi.p2
  have hm1 := hi.m1
  have hmn := hi.mn
  by_cases c1 : p * p ≤ m
  ·have hpb := hi.bd h1 c1
   have c1' : (p : Int) * (p : Int) ≤ (m : Int) := by exact_mod_cast c1
   have c0 : 0 ≤ (p : Int) * (p : Int) := Int.mul_nonneg (by omega) (by omega)
   clear c1
   go_wp2
   clear c1' c0 hm1 hmn
   go_loopw [0, 3] (fun ns ls wr => ∃ (m : Nat) (L : List Nat) (a : Option Addr) (c : Nat), ns = .int .i64 (m : Int) ∧ ls = .slice a (nI L).length c ∧ FcInv n p m L ∧ p ≤ 45 ∧ IL wr w.heap.size (.slice a (nI L).length c) (nI L) ∧ Below w.heap.size w wr) (fun ns _ _ => (intOf ns).toNat)
   case atStart => exact ⟨m, L, a, c, rfl, rfl, hi, by omega, hl, hb⟩
   case round =>
    clear hi hl hb hz hL
    obtain ⟨m, L, a, c, rfl, rfl, hi, hp45x, hl, hb⟩ := hrel
    obtain ⟨w1, rfl⟩ : ∃ w1 : World, w1 = wr := ⟨_, rfl⟩
    have hz := hb.size
    have hL0 := hi.len h1
    have hL : (nI L).length ≤ 2000 := by rw [nI_len]; exact hL0
    clear hL0
    have hm1 := hi.m1
    have hmn := hi.mn
    have hpne : ¬ (p : Int) = 0 := by omega
    by_cases c2 : m % p = 0
    ·have t1 : Int.tmod (m : Int) (p : Int) = 0 := by rw [tmodN, c2]; rfl
     obtain ⟨M, hM⟩ : ∃ M, m / p = M := ⟨_, rfl⟩
     have t2 : Int.tdiv (m : Int) (p : Int) = (M : Int) := by rw [tdivN, hM]
     obtain ⟨hi2, hlt⟩ := hi.next c2 hM
     have HE := hide (nI_app L p)
     clear hM c2
     go_wp2_with (at_builtin; refine app_int _ rfl (.tmp 17) (.tmp 19) rfl w.heap.size (.slice a (nI L).length c) (nI L) (p : Int) w1.heap.size rfl rfl (hl.alloc _) (by go_simp) (by omega) (by first | omega | (simp; omega)) ?_; intro g cap w2 hown hgrow hat hlt)
     go_roundw
     case rel =>
      refine ⟨M, L ++ [p], some ⟨g, 0, none⟩, cap, rfl, ?_, hi2, by omega, ?_, (hb.alloc hz _).grown hgrow (by simp; omega) (fun k hk => (hl.lt k hk).1)⟩
      ·rw [unhide HE, List.length_append]; rfl
      ·rw [unhide HE, List.length_append]; exact hown
     case measure => simp [intOf]; omega
    ·obtain ⟨r, hr⟩ : ∃ r : Int, Int.tmod (m : Int) (p : Int) = r := ⟨_, rfl⟩
     have hr0 : ¬ r = 0 := by
      rw [← hr, tmodN]; omega
     have hi2 := hi.up c2
     go_wp2
     go_roundw
     case rel => first | exact ⟨m, p + 1, L, a, c, rfl, rfl, by first | rfl | go_num, hi2, by omega, hl, hb⟩ | ((repeat apply Exists.intro); exact ⟨⟨m, p + 1, L, a, c, rfl, rfl, by first | rfl | go_num, hi2, by omega, hl, hb⟩, rfl⟩)
     case measure => simp [intOf]; omega
  ·have c1' : ¬ (p : Int) * (p : Int) ≤ (m : Int) := by
    intro h; apply c1; exact_mod_cast h
   have cq0 : 0 ≤ (p : Int) * (p : Int) := Int.mul_nonneg (by omega) (by omega)
   have cq1 : (p : Int) * (p : Int) ≤ 2025 := by exact_mod_cast (Nat.mul_le_mul hp45 hp45)
   by_cases c3 : 1 < m
   ·have c3' : 1 < (m : Int) := by omega
    have HE : Hid (nI (fcL 2 n) = nI L ++ [(m : Int)]) := hide (by rw [← hi.end1 (by omega) c3, nI_app])
    clear c1
    go_wp2_with (at_builtin; refine app_int _ rfl (.tmp 26) (.tmp 28) rfl w.heap.size (.slice a (nI L).length c) (nI L) (m : Int) w1.heap.size rfl rfl (hl.alloc _) (by go_simp) (by omega) (by first | omega | (simp; omega)) ?_; intro g cap w2 hown hgrow hat hlt)
    go_ret
    refine ⟨some ⟨g, 0, none⟩, cap, ?_, ?_, (hb.alloc hz _).grown hgrow (by simp; omega) (fun k hk => (hl.lt k hk).1)⟩
    ·rw [unhide HE, List.length_append]; rfl
    ·rw [unhide HE, List.length_append]; exact hown
   ·have c3' : ¬ 1 < (m : Int) := by omega
    have HE : Hid (nI (fcL 2 n) = nI L) := hide (by rw [← hi.end0 (by omega) (by omega)])
    clear c1
    go_wp2
    go_ret
    refine ⟨a, c, ?_, ?_, hb⟩
    ·rw [unhide HE]; rfl
    ·rw [unhide HE]; exact hl

set_option maxRecDepth 100000 in
set_option maxHeartbeats 4000000 in
theorem nuFactors_a (n : Nat) (w : World) (h0 : 1 ≤ n) (h1 : n ≤ 2000) :
  Calls Try.prog 81 #[.int .i64 (n : Int)] w (RetIL w (nI (fcL 2 n))) := by
 go_enter Try.func81, Try.ntmps81
 go_wp2
 go_loopw [0, 3, 4] (fun ns ls ps wr => ∃ (m p : Nat) (L : List Nat) (a : Option Addr) (c : Nat), ns = .int .i64 (m : Int) ∧ ls = .slice a (nI L).length c ∧ ps = .int .i64 (p : Int) ∧ FcInv n p m L ∧ p ≤ 45 ∧ IL wr w.heap.size (.slice a (nI L).length c) (nI L) ∧ Below w.heap.size w wr) (fun _ _ ps _ => 60 - (intOf ps).toNat)
 case atStart => exact ⟨n, 2, [], none, 0, rfl, rfl, rfl, FcInv.start h0, by omega, IL.nil _ _, Below.refl _ _⟩
 case round =>
  obtain ⟨m, p, L, a, c, rfl, rfl, rfl, hi, hp45, hl, hb⟩ := hrel
  obtain ⟨w1, rfl⟩ : ∃ w1 : World, w1 = wr := ⟨_, rfl⟩
  have hz := hb.size
  have hL0 := hi.len h1
  have hL : (nI L).length ≤ 2000 := by rw [nI_len]; exact hL0
  clear hL0
  have hp2 := hi.p2
  have hm1 := hi.m1
  have hmn := hi.mn
  by_cases c1 : p * p ≤ m
  ·have hpb := hi.bd h1 c1
   have c1' : (p : Int) * (p : Int) ≤ (m : Int) := by exact_mod_cast c1
   have c0 : 0 ≤ (p : Int) * (p : Int) := Int.mul_nonneg (by omega) (by omega)
   clear c1
   go_wp2
   clear c1' c0 hm1 hmn
   go_loopw [0, 3] (fun ns ls wr => ∃ (m : Nat) (L : List Nat) (a : Option Addr) (c : Nat), ns = .int .i64 (m : Int) ∧ ls = .slice a (nI L).length c ∧ FcInv n p m L ∧ p ≤ 45 ∧ IL wr w.heap.size (.slice a (nI L).length c) (nI L) ∧ Below w.heap.size w wr) (fun ns _ _ => (intOf ns).toNat)
   case atStart => exact ⟨m, L, a, c, rfl, rfl, hi, by omega, hl, hb⟩
   case round =>
    clear hi hl hb hz hL
    obtain ⟨m, L, a, c, rfl, rfl, hi, hp45x, hl, hb⟩ := hrel
    obtain ⟨w1, rfl⟩ : ∃ w1 : World, w1 = wr := ⟨_, rfl⟩
    have hz := hb.size
    have hL0 := hi.len h1
    have hL : (nI L).length ≤ 2000 := by rw [nI_len]; exact hL0
    clear hL0
    have hm1 := hi.m1
    have hmn := hi.mn
    have hpne : ¬ (p : Int) = 0 := by omega
    by_cases c2 : m % p = 0
    ·have t1 : Int.tmod (m : Int) (p : Int) = 0 := by rw [tmodN, c2]; rfl
     obtain ⟨M, hM⟩ : ∃ M, m / p = M := ⟨_, rfl⟩
     have t2 : Int.tdiv (m : Int) (p : Int) = (M : Int) := by rw [tdivN, hM]
     obtain ⟨hi2, hlt⟩ := hi.next c2 hM
     have HE := hide (nI_app L p)
     clear hM c2
     go_wp2_with (at_builtin; refine app_int _ rfl (.tmp 16) (.tmp 18) rfl w.heap.size (.slice a (nI L).length c) (nI L) (p : Int) w1.heap.size rfl rfl (hl.alloc _) (by go_simp) (by omega) (by first | omega | (simp; omega)) ?_; intro g cap w2 hown hgrow hat hlt)
     go_roundw
     case rel =>
      refine ⟨M, L ++ [p], some ⟨g, 0, none⟩, cap, rfl, ?_, hi2, by omega, ?_, (hb.alloc hz _).grown hgrow (by simp; omega) (fun k hk => (hl.lt k hk).1)⟩
      ·rw [unhide HE, List.length_append]; rfl
      ·rw [unhide HE, List.length_append]; exact hown
     case measure => simp [intOf]; omega
    ·obtain ⟨r, hr⟩ : ∃ r : Int, Int.tmod (m : Int) (p : Int) = r := ⟨_, rfl⟩
     have hr0 : ¬ r = 0 := by
      rw [← hr, tmodN]; omega
     have hi2 := hi.up c2
     go_wp2
     go_roundw
     case rel => first | exact ⟨m, p + 1, L, a, c, rfl, rfl, by first | rfl | go_num, hi2, by omega, hl, hb⟩ | ((repeat apply Exists.intro); exact ⟨⟨m, p + 1, L, a, c, rfl, rfl, by first | rfl | go_num, hi2, by omega, hl, hb⟩, rfl⟩)
     case measure => simp [intOf]; omega
  ·have c1' : ¬ (p : Int) * (p : Int) ≤ (m : Int) := by
    intro h; apply c1; exact_mod_cast h
   have cq0 : 0 ≤ (p : Int) * (p : Int) := Int.mul_nonneg (by omega) (by omega)
   have cq1 : (p : Int) * (p : Int) ≤ 2025 := by exact_mod_cast (Nat.mul_le_mul hp45 hp45)
   by_cases c3 : 1 < m
   ·have c3' : 1 < (m : Int) := by omega
    have HE : Hid (nI (fcL 2 n) = nI L ++ [(m : Int)]) := hide (by rw [← hi.end1 (by omega) c3, nI_app])
    clear c1
    go_wp2_with (at_builtin; refine app_int _ rfl (.tmp 25) (.tmp 27) rfl w.heap.size (.slice a (nI L).length c) (nI L) (m : Int) w1.heap.size rfl rfl (hl.alloc _) (by go_simp) (by omega) (by first | omega | (simp; omega)) ?_; intro g cap w2 hown hgrow hat hlt)
    go_ret
    refine ⟨some ⟨g, 0, none⟩, cap, ?_, ?_, (hb.alloc hz _).grown hgrow (by simp; omega) (fun k hk => (hl.lt k hk).1)⟩
    ·rw [unhide HE, List.length_append]; rfl
    ·rw [unhide HE, List.length_append]; exact hown
   ·have c3' : ¬ 1 < (m : Int) := by omega
    have HE : Hid (nI (fcL 2 n) = nI L) := hide (by rw [← hi.end0 (by omega) (by omega)])
    clear c1
    go_wp2
    go_ret
    refine ⟨a, c, ?_, ?_, hb⟩
    ·rw [unhide HE]; rfl
    ·rw [unhide HE]; exact hl

end Go.Proofs.Ytaeabefbohlcpaa
