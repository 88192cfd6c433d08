/- Two lists of integers compared, both sides. Prime factors: the walks' plain side. -/
import Derived.Test.YtaeabefbohlcpaaSd
import Derived.Test.YtaeabefbohlcpaaMpf
import Derived.BigQuiet
import Derived.Test.YtaeabefbohlcpaaFac
import Derived.Test.YtaeabefbohlcpaaConv
namespace Go.Proofs.Ytaeabefbohlcpaa
open Go.RowKit
set_option linter.unusedVariables false
set_option linter.unusedSimpArgs false
attribute [local go_sem] q2 q3 q4 q5 q6 q7 q8 q9 q10 q11 q12

theorem ints_eq {x y : List Int} (hl : x.length = y.length) (h : ∀ i, i < x.length → x.getD i 0 = y.getD i 0) : x = y := by
 refine List.ext_getElem hl fun i h1 h2 => ?_
 have := h i h1
 simpa [List.getD_eq_getElem?_getD, List.getElem?_eq_getElem h1, List.getElem?_eq_getElem h2] using this

set_option maxRecDepth 100000 in
set_option maxHeartbeats 4000000 in
theorem sameValues_a (x y : List Int) (a1 a2 : Option Addr) (n1 n2 c1 c2 l1 u1 l2 u2 : Nat) (w : World) (e1 : Hid (n1 = x.length)) (e2 : Hid (n2 = y.length)) (hi1 : u1 ≤ w.heap.size) (hi2 : u2 ≤ w.heap.size)
  (hx : IntsAt w l1 u1 a1 n1 (fun i => x.getD i 0)) (hy : IntsAt w l2 u2 a2 n2 (fun i => y.getD i 0)) (hb1 : n1 ≤ 1000000000) (hb2 : n2 ≤ 1000000000) :
  Calls Try.prog 27 #[.slice a1 n1 c1, .slice a2 n2 c2] w fun e w' => e = .returned (.bool (decide (x = y))) ∧ Below w.heap.size w w' := by
 obtain ⟨b, hbb⟩ : ∃ b, decide (x = y) = b := ⟨_, rfl⟩
 rw [hbb]
 by_cases cn : n1 = n2
 ·subst cn
  have hb0 := Below.refl w.heap.size w
  go_enter Try.func27, Try.ntmps27
  go_wp2
  go_loopw [14] (fun is wr => ∃ k : Nat, k ≤ n1 ∧ is = .int .i64 (k : Int) ∧ Hid (∀ i, i < k → x.getD i 0 = y.getD i 0) ∧ Below w.heap.size w wr) (fun is _ => n1 - (intOf is).toNat)
  case atStart => exact ⟨0, by omega, rfl, hide (fun i hi => absurd hi (by omega)), hb0⟩
  case round =>
   clear hb0
   obtain ⟨k, hk, rfl, hall, hb⟩ := hrel
   obtain ⟨w1, rfl⟩ : ∃ w1 : World, w1 = wr := ⟨_, rfl⟩
   by_cases ck : k < n1
   ·have hci : (k : Int) < (n1 : Int) := by omega
    obtain ⟨g1, hg1, hz1, d1⟩ := IntsAt.cell (IntsAt.below hx hb hi1) ck
    obtain ⟨g2, hg2, hz2, d2⟩ := IntsAt.cell (IntsAt.below hy hb hi2) ck
    subst hg1 hg2
    obtain ⟨u, hu⟩ : ∃ u, x.getD k 0 = u := ⟨_, rfl⟩
    obtain ⟨v, hv⟩ : ∃ v, y.getD k 0 = v := ⟨_, rfl⟩
    rw [hu] at d1
    rw [hv] at d2
    by_cases ce : u = v
    ·subst ce
     have hall2 : Hid (∀ i, i < k + 1 → x.getD i 0 = y.getD i 0) := hide fun i hi => by
      by_cases q : i < k
      ·exact unhide hall i q
      ·obtain rfl : i = k := by omega
       rw [hu, hv]
     clear hu hv
     go_wp2
     go_roundw
     case rel => first | exact ⟨k + 1, by omega, by first | rfl | go_num, hall2, by (repeat' first | with_reducible (first | exact Below.refl _ _ | assumption | refine gr_alloc ?_ _ | refine below_drewN ?_ _ | refine below_drew ?_ | refine gr_call ?_ (by assumption) | refine Below.setCell ?_ ?_ _) | go_size | omega | (simp; omega))⟩ | ((repeat apply Exists.intro); exact ⟨⟨k + 1, by omega, by first | rfl | go_num, hall2, by (repeat' first | with_reducible (first | exact Below.refl _ _ | assumption | refine gr_alloc ?_ _ | refine below_drewN ?_ _ | refine below_drew ?_ | refine gr_call ?_ (by assumption) | refine Below.setCell ?_ ?_ _) | go_size | omega | (simp; omega))⟩, rfl⟩)
     case measure => simp [intOf]; omega
    ·have HB : Hid (b = false) := hide (by rw [← hbb, decide_eq_false_iff_not]; intro e; subst e; exact ce (hu.symm.trans hv))
     have ce1 : (u != v) = true := by simpa using ce
     have ce2 : (v != u) = true := by simp; exact fun e => ce e.symm
     clear hu hv ce hbb
     go_wp2
     go_ret
     exact ⟨by rw [unhide HB]; rfl, by (repeat' first | with_reducible (first | exact Below.refl _ _ | assumption | refine gr_alloc ?_ _ | refine below_drewN ?_ _ | refine below_drew ?_ | refine gr_call ?_ (by assumption) | refine Below.setCell ?_ ?_ _) | go_size | omega | (simp; omega))⟩
   ·obtain rfl : k = n1 := by omega
    have HB : Hid (b = true) := hide (by rw [← hbb, decide_eq_true_iff]; exact ints_eq ((unhide e1).symm.trans (unhide e2)) (fun i hi => unhide hall i (by have := unhide e1; omega)))
    clear hbb
    go_wp2
    go_ret
    exact ⟨by rw [unhide HB]; rfl, hb⟩
 ·have HB : Hid (b = false) := hide (by rw [← hbb, decide_eq_false_iff_not]; intro e; subst e; exact cn ((unhide e1).trans (unhide e2).symm))
  have cn1 : ((n1 : Int) != (n2 : Int)) = true := by simp; omega
  clear hbb
  go_enter Try.func27, Try.ntmps27
  go_wp2
  go_ret
  exact ⟨by rw [unhide HB]; rfl, Below.refl _ _⟩

set_option maxRecDepth 100000 in
set_option maxHeartbeats 4000000 in
theorem l1Same_a (x y : List Int) (a1 a2 : Option Addr) (n1 n2 c1 c2 l1 u1 l2 u2 : Nat) (w : World) (e1 : Hid (n1 = x.length)) (e2 : Hid (n2 = y.length)) (hi1 : u1 ≤ w.heap.size) (hi2 : u2 ≤ w.heap.size)
  (hx : IntsAt w l1 u1 a1 n1 (fun i => x.getD i 0)) (hy : IntsAt w l2 u2 a2 n2 (fun i => y.getD i 0)) (hb1 : n1 ≤ 1000000000) (hb2 : n2 ≤ 1000000000) :
  Calls Try.prog 23 #[.slice a1 n1 c1, .slice a2 n2 c2] w fun e w' => e = .returned (.bool (decide (x = y))) ∧ Below w.heap.size w w' := by
 obtain ⟨b, hbb⟩ : ∃ b, decide (x = y) = b := ⟨_, rfl⟩
 rw [hbb]
 by_cases cn : n1 = n2
 ·subst cn
  have hb0 := Below.refl w.heap.size w
  go_enter Try.func23, Try.ntmps23
  go_wp2
  go_loopw [13] (fun is wr => ∃ k : Nat, k ≤ n1 ∧ is = .int .i64 (k : Int) ∧ Hid (∀ i, i < k → x.getD i 0 = y.getD i 0) ∧ Below w.heap.size w wr) (fun is _ => n1 - (intOf is).toNat)
  case atStart => exact ⟨0, by omega, rfl, hide (fun i hi => absurd hi (by omega)), hb0⟩
  case round =>
   clear hb0
   obtain ⟨k, hk, rfl, hall, hb⟩ := hrel
   obtain ⟨w1, rfl⟩ : ∃ w1 : World, w1 = wr := ⟨_, rfl⟩
   by_cases ck : k < n1
   ·have hci : (k : Int) < (n1 : Int) := by omega
    obtain ⟨g1, hg1, hz1, d1⟩ := IntsAt.cell (IntsAt.below hx hb hi1) ck
    obtain ⟨g2, hg2, hz2, d2⟩ := IntsAt.cell (IntsAt.below hy hb hi2) ck
    subst hg1 hg2
    obtain ⟨u, hu⟩ : ∃ u, x.getD k 0 = u := ⟨_, rfl⟩
    obtain ⟨v, hv⟩ : ∃ v, y.getD k 0 = v := ⟨_, rfl⟩
    rw [hu] at d1
    rw [hv] at d2
    by_cases ce : u = v
    ·subst ce
     have hall2 : Hid (∀ i, i < k + 1 → x.getD i 0 = y.getD i 0) := hide fun i hi => by
      by_cases q : i < k
      ·exact unhide hall i q
      ·obtain rfl : i = k := by omega
       rw [hu, hv]
     clear hu hv
     go_wp2
     go_quiet (fail)
     go_wp2
     go_roundw
     case rel => first | exact ⟨k + 1, by omega, by first | rfl | go_num, hall2, by (repeat' first | with_reducible (first | exact Below.refl _ _ | assumption | refine gr_alloc ?_ _ | refine below_drewN ?_ _ | refine below_drew ?_ | refine gr_call ?_ (by assumption) | refine Below.setCell ?_ ?_ _) | go_size | omega | (simp; omega))⟩ | ((repeat apply Exists.intro); exact ⟨⟨k + 1, by omega, by first | rfl | go_num, hall2, by (repeat' first | with_reducible (first | exact Below.refl _ _ | assumption | refine gr_alloc ?_ _ | refine below_drewN ?_ _ | refine below_drew ?_ | refine gr_call ?_ (by assumption) | refine Below.setCell ?_ ?_ _) | go_size | omega | (simp; omega))⟩, rfl⟩)
     case measure => simp [intOf]; omega
    ·have HB : Hid (b = false) := hide (by rw [← hbb, decide_eq_false_iff_not]; intro e; subst e; exact ce (hu.symm.trans hv))
     have ce1 : (u != v) = true := by simpa using ce
     have ce2 : (v != u) = true := by simp; exact fun e => ce e.symm
     clear hu hv ce hbb
     go_wp2
     go_quiet (fail)
     go_wp2
     go_ret
     exact ⟨by rw [unhide HB]; rfl, by (repeat' first | with_reducible (first | exact Below.refl _ _ | assumption | refine gr_alloc ?_ _ | refine below_drewN ?_ _ | refine below_drew ?_ | refine gr_call ?_ (by assumption) | refine Below.setCell ?_ ?_ _) | go_size | omega | (simp; omega))⟩
   ·obtain rfl : k = n1 := by omega
    have HB : Hid (b = true) := hide (by rw [← hbb, decide_eq_true_iff]; exact ints_eq ((unhide e1).symm.trans (unhide e2)) (fun i hi => unhide hall i (by have := unhide e1; omega)))
    clear hbb
    go_wp2
    go_ret
    exact ⟨by rw [unhide HB]; rfl, hb⟩
 ·have HB : Hid (b = false) := hide (by rw [← hbb, decide_eq_false_iff_not]; intro e; subst e; exact cn ((unhide e1).trans (unhide e2).symm))
  have cn1 : ((n1 : Int) != (n2 : Int)) = true := by simp; omega
  clear hbb
  go_enter Try.func23, Try.ntmps23
  go_wp2
  go_ret
  exact ⟨by rw [unhide HB]; rfl, Below.refl _ _⟩
end Go.Proofs.Ytaeabefbohlcpaa
namespace Go.Proofs.Ytaeabefbohlcpaa
open Go.RowKit
set_option linter.unusedVariables false
set_option linter.unusedSimpArgs false
attribute [local go_sem] q2 q3 q4 q5 q6 q7 q8 q9 q10 q11 q12

def nI (L : List Nat) : List Int := L.map (fun x : Nat => (x : Int))
theorem nI_len (L : List Nat) : (nI L).length = L.length := by simp [nI]
theorem nI_app (L : List Nat) (p : Nat) : nI (L ++ [p]) = nI L ++ [(p : Int)] := by simp [nI]
theorem nI_get {L : List Nat} {k : Nat} (h : k < L.length) : (nI L).getD k 0 = ((L.getD k 0 : Nat) : Int) := by
 simp [nI, List.getD_eq_getElem?_getD, List.getElem?_map, List.getElem?_eq_getElem h]
structure FcInv (n p m : Nat) (L : List Nat) : Prop where
 e : L ++ fcL p m = fcL 2 n
 p2 : 2 ≤ p
 m1 : 1 ≤ m
 mn : m ≤ n
 low : ∀ q, Pr q → q ∣ m → p ≤ q
theorem FcInv.start {n : Nat} (h : 1 ≤ n) : FcInv n 2 n [] := ⟨rfl, Nat.le_refl _, h, Nat.le_refl _, fun q hq _ => hq.1⟩
theorem FcInv.small {n p m : Nat} {L : List Nat} (h : FcInv n p m L) (hs : m < p * p) (hd : m % p = 0) : m = p := by
 have hp := h.p2
 obtain ⟨k, hk⟩ := Nat.dvd_of_mod_eq_zero hd
 have hm := h.m1
 by_cases k1 : k = 1
 ·subst k1; omega
 ·by_cases k0 : k = 0
  ·subst k0; omega
  ·obtain ⟨r, hr, hrd⟩ := Pr.ex (show 2 ≤ k by omega)
   have h1 := h.low r hr (by rw [hk]; exact Nat.dvd_trans hrd (Nat.dvd_mul_left _ _))
   have h2 := Nat.le_of_dvd (by omega) hrd
   have h3 := Nat.mul_le_mul_left p (show p ≤ k by omega)
   omega
theorem FcInv.next {n p m M : Nat} {L : List Nat} (h : FcInv n p m L) (hd : m % p = 0) (hM : m / p = M) : FcInv n p M (L ++ [p]) ∧ M < m := by
 have hp := h.p2
 have hm := h.m1
 have he : m = p * M := by have := Nat.div_add_mod m p; rw [hd, hM] at this; omega
 have hM1 : 1 ≤ M := by
  rcases Nat.eq_zero_or_pos M with z | z
  ·subst z; omega
  ·exact z
 have hlt : M < m := by
  have := Nat.mul_le_mul_right M hp
  omega
 refine ⟨⟨?_, hp, hM1, by have := h.mn; omega, fun q hq hqd => h.low q hq (by rw [he]; exact Nat.dvd_trans hqd (Nat.dvd_mul_left _ _))⟩, hlt⟩
 rw [← h.e, List.append_assoc]
 congr 1
 by_cases c : p * p ≤ m
 ·rw [fc_dvd hp c hd, hM]; rfl
 ·have hmp := h.small (by omega) hd
  subst hmp
  have : M = 1 := by
   rw [← hM]; exact Nat.div_self (by omega)
  subst this
  have h4 : m * 2 ≤ m * m := Nat.mul_le_mul_left m hp
  rw [fc_end (p := m) (n := m) (by omega) (by omega), fc_nil (p := m) (by omega) (Nat.le_refl _)]; rfl
theorem FcInv.up {n p m : Nat} {L : List Nat} (h : FcInv n p m L) (hd : m % p ≠ 0) : FcInv n (p + 1) m L := by
 have hp := h.p2
 have hm := h.m1
 have hmn := h.mn
 refine ⟨?_, by omega, hm, hmn, fun q hq hqd => ?_⟩
 ·rw [← h.e]
  congr 1
  by_cases c : p * p ≤ m
  ·rw [fc_no hp c hd]
  ·have h4 : (p + 1) * (p + 1) = p * p + 2 * p + 1 := by grind
   by_cases c1 : 1 < m
   ·rw [fc_end (p := p) (by omega) c1, fc_end (p := p + 1) (by omega) c1]
   ·rw [fc_nil (p := p) (by omega) (by omega), fc_nil (p := p + 1) (by omega) (by omega)]
 ·have := h.low q hq hqd
  by_cases e : q = p
  ·subst e; exact absurd (Nat.mod_eq_zero_of_dvd hqd) hd
  ·omega
theorem FcInv.end1 {n p m : Nat} {L : List Nat} (h : FcInv n p m L) (hs : m < p * p) (h1 : 1 < m) : L ++ [m] = fcL 2 n := by rw [← h.e, fc_end hs h1]
theorem FcInv.end0 {n p m : Nat} {L : List Nat} (h : FcInv n p m L) (hs : m < p * p) (h1 : m ≤ 1) : L = fcL 2 n := by rw [← h.e, fc_nil hs h1]; simp
theorem FcInv.len {n p m : Nat} {L : List Nat} (h : FcInv n p m L) (hn : n ≤ 2000) : L.length ≤ 2000 := by
 have h1 : n ≥ 1 := by have := h.m1; have := h.mn; omega
 have := fc_len h1
 rw [← h.e, List.length_append] at this
 omega
theorem FcInv.bd {n p m : Nat} {L : List Nat} (h : FcInv n p m L) (hn : n ≤ 2000) (hs : p * p ≤ m) : p ≤ 44 := by
 have := h.mn
 by_cases c : p ≤ 44
 ·exact c
 ·have := Nat.mul_le_mul (show 45 ≤ p by omega) (show 45 ≤ p by omega)
  omega
theorem tmodN {m p : Nat} : Int.tmod (m : Int) (p : Int) = ((m % p : Nat) : Int) := by rw [Int.tmod_eq_emod_of_nonneg (by omega)]; rfl
theorem tdivN {m p : Nat} : Int.tdiv (m : Int) (p : Int) = ((m / p : Nat) : Int) := by rw [Int.tdiv_eq_ediv_of_nonneg (by omega)]; rfl
end Go.Proofs.Ytaeabefbohlcpaa
