/- Prime factors, the exponent and the part of a prime: both sides. -/
import Derived.Test.YtaeabefbohlcpaaFaw
import Derived.Test.YtaeabefbohlcpaaConv
namespace Go.Proofs.Ytaeabefbohlcpaa
open Go.RowKit
set_option linter.unusedVariables false
set_option linter.unusedSimpArgs false
attribute [local go_sem] q2 q3 q4 q5 q6 q7 q8 q9 q10 q11 q12

set_option maxRecDepth 100000 in
set_option maxHeartbeats 4000000 in
theorem factors_a (n : Nat) (w : World) (h0 : 1 ≤ n) (h1 : n ≤ 2000) :
  Calls Try.prog 68 #[.int .i64 (n : Int)] w (RetIL w (nI (fcL 2 n))) := by
 go_enter Try.func68, Try.ntmps68
 go_wp2
 go_loopw [0, 3, 4] (fun ns ls ps wr => ∃ (m p : Nat) (L : List Nat) (a : Option Addr) (c : Nat), ns = .int .i64 (m : Int) ∧ ls = .slice a (nI L).length c ∧ ps = .int .i64 (p : Int) ∧ FcInv n p m L ∧ p ≤ 45 ∧ IL wr w.heap.size (.slice a (nI L).length c) (nI L) ∧ Below w.heap.size w wr) (fun _ _ ps _ => 60 - (intOf ps).toNat)
 case atStart => exact ⟨n, 2, [], some ⟨w.heap.size, 0, none⟩, 0, rfl, rfl, rfl, FcInv.start h0, by omega, IL.made w _ (Nat.le_refl _), (Below.refl _ _).alloc (Nat.le_refl _) _⟩
 case round =>
  obtain ⟨m, p, L, a, c, rfl, rfl, rfl, hi, hp45, hl, hb⟩ := hrel
  obtain ⟨w1, rfl⟩ : ∃ w1 : World, w1 = wr := ⟨_, rfl⟩
  have hz := hb.size
  have hL0 := hi.len h1
  have hL : (nI L).length ≤ 2000 := by rw [nI_len]; exact hL0
  clear hL0
  have hp2 := hi.p2
  have hm1 := hi.m1
  have hmn := hi.mn
  by_cases c1 : p * p ≤ m
  ·have hpb := hi.bd h1 c1
   have c1' : (p : Int) * (p : Int) ≤ (m : Int) := by exact_mod_cast c1
   have c0 : 0 ≤ (p : Int) * (p : Int) := Int.mul_nonneg (by omega) (by omega)
   clear c1
   go_wp2
   clear c1' c0 hm1 hmn
   go_loopw [0, 3] (fun ns ls wr => ∃ (m : Nat) (L : List Nat) (a : Option Addr) (c : Nat), ns = .int .i64 (m : Int) ∧ ls = .slice a (nI L).length c ∧ FcInv n p m L ∧ p ≤ 45 ∧ IL wr w.heap.size (.slice a (nI L).length c) (nI L) ∧ Below w.heap.size w wr) (fun ns _ _ => (intOf ns).toNat)
   case atStart => exact ⟨m, L, a, c, rfl, rfl, hi, by omega, hl, hb⟩
   case round =>
    clear hi hl hb hz hL
    obtain ⟨m, L, a, c, rfl, rfl, hi, hp45x, hl, hb⟩ := hrel
    obtain ⟨w1, rfl⟩ : ∃ w1 : World, w1 = wr := ⟨_, rfl⟩
    have hz := hb.size
    have hL0 := hi.len h1
    have hL : (nI L).length ≤ 2000 := by rw [nI_len]; exact hL0
    clear hL0
    have hm1 := hi.m1
    have hmn := hi.mn
    have hpne : ¬ (p : Int) = 0 := by omega
    by_cases c2 : m % p = 0
    ·have t1 : Int.tmod (m : Int) (p : Int) = 0 := by rw [tmodN, c2]; rfl
     obtain ⟨M, hM⟩ : ∃ M, m / p = M := ⟨_, rfl⟩
     have t2 : Int.tdiv (m : Int) (p : Int) = (M : Int) := by rw [tdivN, hM]
     obtain ⟨hi2, hlt⟩ := hi.next c2 hM
     have HE := hide (nI_app L p)
     clear hM c2
     go_wp2_with (at_builtin; refine app_int _ rfl (.tmp 17) (.tmp 19) rfl w.heap.size (.slice a (nI L).length c) (nI L) (p : Int) w1.heap.size rfl rfl (hl.alloc _) (by go_simp) (by omega) (by first | omega | (simp; omega)) ?_; intro g cap w2 hown hgrow hat hlt)
     go_roundw
     case rel =>
      refine ⟨M, L ++ [p], some ⟨g, 0, none⟩, cap, rfl, ?_, hi2, by omega, ?_, (hb.alloc hz _).grown hgrow (by simp; omega) (fun k hk => (hl.lt k hk).1)⟩
      ·rw [unhide HE, List.length_append]; rfl
      ·rw [unhide HE, List.length_append]; exact hown
     case measure => simp [intOf]; omega
    ·obtain ⟨r, hr⟩ : ∃ r : Int, Int.tmod (m : Int) (p : Int) = r := ⟨_, rfl⟩
     have hr0 : ¬ r = 0 := by
      rw [← hr, tmodN]; omega
     have hi2 := hi.up c2
     go_wp2
     go_roundw
     case rel => first | exact ⟨m, p + 1, L, a, c, rfl, rfl, by first | rfl | go_num, hi2, by omega, hl, hb⟩ | ((repeat apply Exists.intro); exact ⟨⟨m, p + 1, L, a, c, rfl, rfl, by first | rfl | go_num, hi2, by omega, hl, hb⟩, rfl⟩)
     case measure => simp [intOf]; omega
  ·have c1' : ¬ (p : Int) * (p : Int) ≤ (m : Int) := by
    intro h; apply c1; exact_mod_cast h
   have cq0 : 0 ≤ (p : Int) * (p : Int) := Int.mul_nonneg (by omega) (by omega)
   have cq1 : (p : Int) * (p : Int) ≤ 2025 := by exact_mod_cast (Nat.mul_le_mul hp45 hp45)
   by_cases c3 : 1 < m
   ·have c3' : 1 < (m : Int) := by omega
    have HE : Hid (nI (fcL 2 n) = nI L ++ [(m : Int)]) := hide (by rw [← hi.end1 (by omega) c3, nI_app])
    clear c1
    go_wp2_with (at_builtin; refine app_int _ rfl (.tmp 26) (.tmp 28) rfl w.heap.size (.slice a (nI L).length c) (nI L) (m : Int) w1.heap.size rfl rfl (hl.alloc _) (by go_simp) (by omega) (by first | omega | (simp; omega)) ?_; intro g cap w2 hown hgrow hat hlt)
    go_ret
    refine ⟨some ⟨g, 0, none⟩, cap, ?_, ?_, (hb.alloc hz _).grown hgrow (by simp; omega) (fun k hk => (hl.lt k hk).1)⟩
    ·rw [unhide HE, List.length_append]; rfl
    ·rw [unhide HE, List.length_append]; exact hown
   ·have c3' : ¬ 1 < (m : Int) := by omega
    have HE : Hid (nI (fcL 2 n) = nI L) := hide (by rw [← hi.end0 (by omega) (by omega)])
    clear c1
    go_wp2
    go_ret
    refine ⟨a, c, ?_, ?_, hb⟩
    ·rw [unhide HE]; rfl
    ·rw [unhide HE]; exact hl

set_option maxRecDepth 100000 in
set_option maxHeartbeats 4000000 in
theorem nuFactors_a (n : Nat) (w : World) (h0 : 1 ≤ n) (h1 : n ≤ 2000) :
  Calls Try.prog 81 #[.int .i64 (n : Int)] w (RetIL w (nI (fcL 2 n))) := by
 go_enter Try.func81, Try.ntmps81
 go_wp2
 go_loopw [0, 3, 4] (fun ns ls ps wr => ∃ (m p : Nat) (L : List Nat) (a : Option Addr) (c : Nat), ns = .int .i64 (m : Int) ∧ ls = .slice a (nI L).length c ∧ ps = .int .i64 (p : Int) ∧ FcInv n p m L ∧ p ≤ 45 ∧ IL wr w.heap.size (.slice a (nI L).length c) (nI L) ∧ Below w.heap.size w wr) (fun _ _ ps _ => 60 - (intOf ps).toNat)
 case atStart => exact ⟨n, 2, [], none, 0, rfl, rfl, rfl, FcInv.start h0, by omega, IL.nil _ _, Below.refl _ _⟩
 case round =>
  obtain ⟨m, p, L, a, c, rfl, rfl, rfl, hi, hp45, hl, hb⟩ := hrel
  obtain ⟨w1, rfl⟩ : ∃ w1 : World, w1 = wr := ⟨_, rfl⟩
  have hz := hb.size
  have hL0 := hi.len h1
  have hL : (nI L).length ≤ 2000 := by rw [nI_len]; exact hL0
  clear hL0
  have hp2 := hi.p2
  have hm1 := hi.m1
  have hmn := hi.mn
  by_cases c1 : p * p ≤ m
  ·have hpb := hi.bd h1 c1
   have c1' : (p : Int) * (p : Int) ≤ (m : Int) := by exact_mod_cast c1
   have c0 : 0 ≤ (p : Int) * (p : Int) := Int.mul_nonneg (by omega) (by omega)
   clear c1
   go_wp2
   clear c1' c0 hm1 hmn
   go_loopw [0, 3] (fun ns ls wr => ∃ (m : Nat) (L : List Nat) (a : Option Addr) (c : Nat), ns = .int .i64 (m : Int) ∧ ls = .slice a (nI L).length c ∧ FcInv n p m L ∧ p ≤ 45 ∧ IL wr w.heap.size (.slice a (nI L).length c) (nI L) ∧ Below w.heap.size w wr) (fun ns _ _ => (intOf ns).toNat)
   case atStart => exact ⟨m, L, a, c, rfl, rfl, hi, by omega, hl, hb⟩
   case round =>
    clear hi hl hb hz hL
    obtain ⟨m, L, a, c, rfl, rfl, hi, hp45x, hl, hb⟩ := hrel
    obtain ⟨w1, rfl⟩ : ∃ w1 : World, w1 = wr := ⟨_, rfl⟩
    have hz := hb.size
    have hL0 := hi.len h1
    have hL : (nI L).length ≤ 2000 := by rw [nI_len]; exact hL0
    clear hL0
    have hm1 := hi.m1
    have hmn := hi.mn
    have hpne : ¬ (p : Int) = 0 := by omega
    by_cases c2 : m % p = 0
    ·have t1 : Int.tmod (m : Int) (p : Int) = 0 := by rw [tmodN, c2]; rfl
     obtain ⟨M, hM⟩ : ∃ M, m / p = M := ⟨_, rfl⟩
     have t2 : Int.tdiv (m : Int) (p : Int) = (M : Int) := by rw [tdivN, hM]
     obtain ⟨hi2, hlt⟩ := hi.next c2 hM
     have HE := hide (nI_app L p)
     clear hM c2
     go_wp2_with (at_builtin; refine app_int _ rfl (.tmp 16) (.tmp 18) rfl w.heap.size (.slice a (nI L).length c) (nI L) (p : Int) w1.heap.size rfl rfl (hl.alloc _) (by go_simp) (by omega) (by first | omega | (simp; omega)) ?_; intro g cap w2 hown hgrow hat hlt)
     go_roundw
     case rel =>
      refine ⟨M, L ++ [p], some ⟨g, 0, none⟩, cap, rfl, ?_, hi2, by omega, ?_, (hb.alloc hz _).grown hgrow (by simp; omega) (fun k hk => (hl.lt k hk).1)⟩
      ·rw [unhide HE, List.length_append]; rfl
      ·rw [unhide HE, List.length_append]; exact hown
     case measure => simp [intOf]; omega
    ·obtain ⟨r, hr⟩ : ∃ r : Int, Int.tmod (m : Int) (p : Int) = r := ⟨_, rfl⟩
     have hr0 : ¬ r = 0 := by
      rw [← hr, tmodN]; omega
     have hi2 := hi.up c2
     go_wp2
     go_roundw
     case rel => first | exact ⟨m, p + 1, L, a, c, rfl, rfl, by first | rfl | go_num, hi2, by omega, hl, hb⟩ | ((repeat apply Exists.intro); exact ⟨⟨m, p + 1, L, a, c, rfl, rfl, by first | rfl | go_num, hi2, by omega, hl, hb⟩, rfl⟩)
     case measure => simp [intOf]; omega
  ·have c1' : ¬ (p : Int) * (p : Int) ≤ (m : Int) := by
    intro h; apply c1; exact_mod_cast h
   have cq0 : 0 ≤ (p : Int) * (p : Int) := Int.mul_nonneg (by omega) (by omega)
   have cq1 : (p : Int) * (p : Int) ≤ 2025 := by exact_mod_cast (Nat.mul_le_mul hp45 hp45)
   by_cases c3 : 1 < m
   ·have c3' : 1 < (m : Int) := by omega
    have HE : Hid (nI (fcL 2 n) = nI L ++ [(m : Int)]) := hide (by rw [← hi.end1 (by omega) c3, nI_app])
    clear c1
    go_wp2_with (at_builtin; refine app_int _ rfl (.tmp 25) (.tmp 27) rfl w.heap.size (.slice a (nI L).length c) (nI L) (m : Int) w1.heap.size rfl rfl (hl.alloc _) (by go_simp) (by omega) (by first | omega | (simp; omega)) ?_; intro g cap w2 hown hgrow hat hlt)
    go_ret
    refine ⟨some ⟨g, 0, none⟩, cap, ?_, ?_, (hb.alloc hz _).grown hgrow (by simp; omega) (fun k hk => (hl.lt k hk).1)⟩
    ·rw [unhide HE, List.length_append]; rfl
    ·rw [unhide HE, List.length_append]; exact hown
   ·have c3' : ¬ 1 < (m : Int) := by omega
    have HE : Hid (nI (fcL 2 n) = nI L) := hide (by rw [← hi.end0 (by omega) (by omega)])
    clear c1
    go_wp2
    go_ret
    refine ⟨a, c, ?_, ?_, hb⟩
    ·rw [unhide HE]; rfl
    ·rw [unhide HE]; exact hl

set_option maxRecDepth 100000 in
set_option maxHeartbeats 4000000 in
theorem exponent_a (n p : Nat) (w : World) (h0 : 1 ≤ n) (h1 : n ≤ 2000) (h2 : 2 ≤ p) (h3 : p ≤ 2000) :
  Calls Try.prog 46 #[.int .i64 (n : Int), .int .i64 (p : Int)] w fun e w' => e = .returned (.int .i64 ((exN n p : Nat) : Int)) ∧ w = w' := by
 obtain ⟨T, hT⟩ : ∃ T, exN n p = T := ⟨_, rfl⟩
 have HT := hide (show 0 + exN n p = T by omega)
 rw [hT]
 have hTb : T < n := by rw [← hT]; exact ex_le h2 h0
 clear hT
 have hpne : ¬ (p : Int) = 0 := by omega
 go_enter Try.func46, Try.ntmps46
 go_wp2
 go_loop [0, 5] (fun ns ks => ∃ (m k : Nat), ns = .int .i64 (m : Int) ∧ ks = .int .i64 (k : Int) ∧ 1 ≤ m ∧ m ≤ n ∧ Hid (k + exN m p = T)) (fun ns _ => (intOf ns).toNat)
 case atStart => exact ⟨n, 0, rfl, rfl, h0, Nat.le_refl _, HT⟩
 case round =>
  obtain ⟨m, k, rfl, rfl, m1, m2, HK⟩ := hrel
  have hkT : k ≤ T := by have := unhide HK; omega
  by_cases c2 : m % p = 0
  ·have t1 : Int.tmod (m : Int) (p : Int) = 0 := by rw [tmodN, c2]; rfl
   obtain ⟨M, hM⟩ : ∃ M, m / p = M := ⟨_, rfl⟩
   have t2 : Int.tdiv (m : Int) (p : Int) = (M : Int) := by rw [tdivN, hM]
   have HK2 : Hid (k + 1 + exN M p = T) := hide (by have := unhide HK; rw [ex_yes h2 m1 c2, hM] at this; omega)
   have hM1 : 1 ≤ M ∧ M < m := by
    have := Nat.div_add_mod m p
    rw [c2, hM] at this
    rcases Nat.eq_zero_or_pos M with z | z
    ·subst z; omega
    ·have := Nat.mul_le_mul_right M h2; omega
   clear hM c2 HK
   go_wp2
   go_round
   case rel => exact ⟨M, k + 1, rfl, by first | rfl | go_num, hM1.1, by omega, HK2⟩
   case measure => simp [intOf]; omega
  ·obtain ⟨r, hr⟩ : ∃ r : Int, Int.tmod (m : Int) (p : Int) = r := ⟨_, rfl⟩
   have hr0 : ¬ r = 0 := by
    rw [← hr, tmodN]; omega
   have HE : Hid (k = T) := hide (by have := unhide HK; rw [ex_no c2] at this; omega)
   clear HK
   go_wp2
   go_ret
   exact ⟨ret_int (by rw [unhide HE]), rfl⟩

set_option maxRecDepth 100000 in
set_option maxHeartbeats 4000000 in
theorem nuExponent_a (n p : Nat) (w : World) (h0 : 1 ≤ n) (h1 : n ≤ 2000) (h2 : 2 ≤ p) (h3 : p ≤ 2000) :
  Calls Try.prog 64 #[.int .i64 (n : Int), .int .i64 (p : Int)] w fun e w' => e = .returned (.int .i64 ((exN n p : Nat) : Int)) ∧ w = w' := by
 obtain ⟨T, hT⟩ : ∃ T, exN n p = T := ⟨_, rfl⟩
 have HT := hide (show 0 + exN n p = T by omega)
 rw [hT]
 have hTb : T < n := by rw [← hT]; exact ex_le h2 h0
 clear hT
 have hpne : ¬ (p : Int) = 0 := by omega
 go_enter Try.func64, Try.ntmps64
 go_wp2
 go_loop [0, 5] (fun ns ks => ∃ (m k : Nat), ns = .int .i64 (m : Int) ∧ ks = .int .i64 (k : Int) ∧ 1 ≤ m ∧ m ≤ n ∧ Hid (k + exN m p = T)) (fun ns _ => (intOf ns).toNat)
 case atStart => exact ⟨n, 0, rfl, rfl, h0, Nat.le_refl _, HT⟩
 case round =>
  obtain ⟨m, k, rfl, rfl, m1, m2, HK⟩ := hrel
  have hkT : k ≤ T := by have := unhide HK; omega
  by_cases c2 : m % p = 0
  ·have t1 : Int.tmod (m : Int) (p : Int) = 0 := by rw [tmodN, c2]; rfl
   obtain ⟨M, hM⟩ : ∃ M, m / p = M := ⟨_, rfl⟩
   have t2 : Int.tdiv (m : Int) (p : Int) = (M : Int) := by rw [tdivN, hM]
   have HK2 : Hid (k + 1 + exN M p = T) := hide (by have := unhide HK; rw [ex_yes h2 m1 c2, hM] at this; omega)
   have hM1 : 1 ≤ M ∧ M < m := by
    have := Nat.div_add_mod m p
    rw [c2, hM] at this
    rcases Nat.eq_zero_or_pos M with z | z
    ·subst z; omega
    ·have := Nat.mul_le_mul_right M h2; omega
   clear hM c2 HK
   go_wp2
   go_round
   case rel => exact ⟨M, k + 1, rfl, by first | rfl | go_num, hM1.1, by omega, HK2⟩
   case measure => simp [intOf]; omega
  ·obtain ⟨r, hr⟩ : ∃ r : Int, Int.tmod (m : Int) (p : Int) = r := ⟨_, rfl⟩
   have hr0 : ¬ r = 0 := by
    rw [← hr, tmodN]; omega
   have HE : Hid (k = T) := hide (by have := unhide HK; rw [ex_no c2] at this; omega)
   clear HK
   go_wp2
   go_ret
   exact ⟨ret_int (by rw [unhide HE]), rfl⟩

set_option maxRecDepth 100000 in
set_option maxHeartbeats 4000000 in
theorem part_a (n p : Nat) (w : World) (h0 : 1 ≤ n) (h1 : n ≤ 2000) (h2 : 2 ≤ p) (h3 : p ≤ 2000) :
  Calls Try.prog 45 #[.int .i64 (n : Int), .int .i64 (p : Int)] w fun e w' => e = .returned (.int .i64 ((p ^ exN n p : Nat) : Int)) ∧ w = w' := by
 obtain ⟨T, hT⟩ : ∃ T, p ^ exN n p = T := ⟨_, rfl⟩
 have HT := hide (show 1 * p ^ exN n p = T by omega)
 rw [hT]
 have hTb : T ≤ n := by
  obtain ⟨k, hk, hk2⟩ := ex_spec h2 n h0
  rw [← hT]
  have hk0 : 1 ≤ k := Nat.pos_of_ne_zero fun z => hk2 (z ▸ Nat.dvd_zero p)
  have := Nat.mul_le_mul_left (p ^ exN n p) hk0
  omega
 clear hT
 have hpne : ¬ (p : Int) = 0 := by omega
 go_enter Try.func45, Try.ntmps45
 go_wp2
 go_loop [0, 5] (fun ns ks => ∃ (m q : Nat), ns = .int .i64 (m : Int) ∧ ks = .int .i64 (q : Int) ∧ 1 ≤ m ∧ m ≤ n ∧ q ≤ T ∧ Hid (q * p ^ exN m p = T)) (fun ns _ => (intOf ns).toNat)
 case atStart => exact ⟨n, 1, rfl, rfl, h0, Nat.le_refl _, by have := unhide HT; have h4 : 1 ≤ p ^ exN n p := Nat.pow_pos (by omega); omega, HT⟩
 case round =>
  obtain ⟨m, q, rfl, rfl, m1, m2, hqT, HK⟩ := hrel
  by_cases c2 : m % p = 0
  ·have t1 : Int.tmod (m : Int) (p : Int) = 0 := by rw [tmodN, c2]; rfl
   obtain ⟨M, hM⟩ : ∃ M, m / p = M := ⟨_, rfl⟩
   have t2 : Int.tdiv (m : Int) (p : Int) = (M : Int) := by rw [tdivN, hM]
   obtain ⟨Q, hQ⟩ : ∃ Q, q * p = Q := ⟨_, rfl⟩
   have HK2 : Hid (Q * p ^ exN M p = T) := hide (by have := unhide HK; rw [ex_yes h2 m1 c2, hM, Nat.pow_succ, Nat.mul_comm _ p, ← Nat.mul_assoc, hQ] at this; exact this)
   have hQT : Q ≤ T := by
    have := unhide HK2
    have h4 : 1 ≤ p ^ exN M p := Nat.pow_pos (by omega)
    have := Nat.mul_le_mul_left Q h4
    omega
   have t3 : (q : Int) * (p : Int) = (Q : Int) := by rw [← hQ]; push_cast; rfl
   have hM1 : 1 ≤ M ∧ M < m := by
    have := Nat.div_add_mod m p
    rw [c2, hM] at this
    rcases Nat.eq_zero_or_pos M with z | z
    ·subst z; omega
    ·have := Nat.mul_le_mul_right M h2; omega
   clear hM c2 HK hQ
   go_wp2
   go_round
   case rel => exact ⟨M, Q, rfl, by first | rfl | go_num, hM1.1, by omega, hQT, HK2⟩
   case measure => simp [intOf]; omega
  ·obtain ⟨r, hr⟩ : ∃ r : Int, Int.tmod (m : Int) (p : Int) = r := ⟨_, rfl⟩
   have hr0 : ¬ r = 0 := by
    rw [← hr, tmodN]; omega
   have HE : Hid (q = T) := hide (by have := unhide HK; rw [ex_no c2, Nat.pow_zero, Nat.mul_one] at this; exact this)
   clear HK
   go_wp2
   go_ret
   exact ⟨ret_int (by rw [unhide HE]), rfl⟩
end Go.Proofs.Ytaeabefbohlcpaa
