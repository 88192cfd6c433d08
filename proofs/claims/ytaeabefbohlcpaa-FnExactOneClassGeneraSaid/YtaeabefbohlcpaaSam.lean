/- Two lists of integers compared, both sides. -/
import Derived.Test.YtaeabefbohlcpaaSd
import Derived.BigQuiet
namespace Go.Proofs.Ytaeabefbohlcpaa
open Go.RowKit
set_option linter.unusedVariables false
set_option linter.unusedSimpArgs false
attribute [local go_sem] q2 q3 q4 q5 q6 q7 q8 q9 q10 q11 q12

theorem ints_eq {x y : List Int} (hl : x.length = y.length) (h : ∀ i, i < x.length → x.getD i 0 = y.getD i 0) : x = y := by
 refine List.ext_getElem hl fun i h1 h2 => ?_
 have := h i h1
 simpa [List.getD_eq_getElem?_getD, List.getElem?_eq_getElem h1, List.getElem?_eq_getElem h2] using this

set_option maxRecDepth 100000 in
set_option maxHeartbeats 4000000 in
theorem sameValues_a (x y : List Int) (a1 a2 : Option Addr) (n1 n2 c1 c2 l1 u1 l2 u2 : Nat) (w : World) (e1 : Hid (n1 = x.length)) (e2 : Hid (n2 = y.length)) (hi1 : u1 ≤ w.heap.size) (hi2 : u2 ≤ w.heap.size)
  (hx : IntsAt w l1 u1 a1 n1 (fun i => x.getD i 0)) (hy : IntsAt w l2 u2 a2 n2 (fun i => y.getD i 0)) (hb1 : n1 ≤ 1000000000) (hb2 : n2 ≤ 1000000000) :
  Calls Try.prog 27 #[.slice a1 n1 c1, .slice a2 n2 c2] w fun e w' => e = .returned (.bool (decide (x = y))) ∧ Below w.heap.size w w' := by
 obtain ⟨b, hbb⟩ : ∃ b, decide (x = y) = b := ⟨_, rfl⟩
 rw [hbb]
 by_cases cn : n1 = n2
 ·subst cn
  have hb0 := Below.refl w.heap.size w
  go_enter Try.func27, Try.ntmps27
  go_wp2
  go_loopw [14] (fun is wr => ∃ k : Nat, k ≤ n1 ∧ is = .int .i64 (k : Int) ∧ Hid (∀ i, i < k → x.getD i 0 = y.getD i 0) ∧ Below w.heap.size w wr) (fun is _ => n1 - (intOf is).toNat)
  case atStart => exact ⟨0, by omega, rfl, hide (fun i hi => absurd hi (by omega)), hb0⟩
  case round =>
   clear hb0
   obtain ⟨k, hk, rfl, hall, hb⟩ := hrel
   obtain ⟨w1, rfl⟩ : ∃ w1 : World, w1 = wr := ⟨_, rfl⟩
   by_cases ck : k < n1
   ·have hci : (k : Int) < (n1 : Int) := by omega
    obtain ⟨g1, hg1, hz1, d1⟩ := IntsAt.cell (IntsAt.below hx hb hi1) ck
    obtain ⟨g2, hg2, hz2, d2⟩ := IntsAt.cell (IntsAt.below hy hb hi2) ck
    subst hg1 hg2
    obtain ⟨u, hu⟩ : ∃ u, x.getD k 0 = u := ⟨_, rfl⟩
    obtain ⟨v, hv⟩ : ∃ v, y.getD k 0 = v := ⟨_, rfl⟩
    rw [hu] at d1
    rw [hv] at d2
    by_cases ce : u = v
    ·subst ce
     have hall2 : Hid (∀ i, i < k + 1 → x.getD i 0 = y.getD i 0) := hide fun i hi => by
      by_cases q : i < k
      ·exact unhide hall i q
      ·obtain rfl : i = k := by omega
       rw [hu, hv]
     clear hu hv
     go_wp2
     go_roundw
     case rel => first | exact ⟨k + 1, by omega, by first | rfl | go_num, hall2, by (repeat' first | with_reducible (first | exact Below.refl _ _ | assumption | refine gr_alloc ?_ _ | refine below_drewN ?_ _ | refine below_drew ?_ | refine gr_call ?_ (by assumption) | refine Below.setCell ?_ ?_ _) | go_size | omega | (simp; omega))⟩ | ((repeat apply Exists.intro); exact ⟨⟨k + 1, by omega, by first | rfl | go_num, hall2, by (repeat' first | with_reducible (first | exact Below.refl _ _ | assumption | refine gr_alloc ?_ _ | refine below_drewN ?_ _ | refine below_drew ?_ | refine gr_call ?_ (by assumption) | refine Below.setCell ?_ ?_ _) | go_size | omega | (simp; omega))⟩, rfl⟩)
     case measure => simp [intOf]; omega
    ·have HB : Hid (b = false) := hide (by rw [← hbb, decide_eq_false_iff_not]; intro e; subst e; exact ce (hu.symm.trans hv))
     have ce1 : (u != v) = true := by simpa using ce
     have ce2 : (v != u) = true := by simp; exact fun e => ce e.symm
     clear hu hv ce hbb
     go_wp2
     go_ret
     exact ⟨by rw [unhide HB]; rfl, by (repeat' first | with_reducible (first | exact Below.refl _ _ | assumption | refine gr_alloc ?_ _ | refine below_drewN ?_ _ | refine below_drew ?_ | refine gr_call ?_ (by assumption) | refine Below.setCell ?_ ?_ _) | go_size | omega | (simp; omega))⟩
   ·obtain rfl : k = n1 := by omega
    have HB : Hid (b = true) := hide (by rw [← hbb, decide_eq_true_iff]; exact ints_eq ((unhide e1).symm.trans (unhide e2)) (fun i hi => unhide hall i (by have := unhide e1; omega)))
    clear hbb
    go_wp2
    go_ret
    exact ⟨by rw [unhide HB]; rfl, hb⟩
 ·have HB : Hid (b = false) := hide (by rw [← hbb, decide_eq_false_iff_not]; intro e; subst e; exact cn ((unhide e1).trans (unhide e2).symm))
  have cn1 : ((n1 : Int) != (n2 : Int)) = true := by simp; omega
  clear hbb
  go_enter Try.func27, Try.ntmps27
  go_wp2
  go_ret
  exact ⟨by rw [unhide HB]; rfl, Below.refl _ _⟩

set_option maxRecDepth 100000 in
set_option maxHeartbeats 4000000 in
theorem l1Same_a (x y : List Int) (a1 a2 : Option Addr) (n1 n2 c1 c2 l1 u1 l2 u2 : Nat) (w : World) (e1 : Hid (n1 = x.length)) (e2 : Hid (n2 = y.length)) (hi1 : u1 ≤ w.heap.size) (hi2 : u2 ≤ w.heap.size)
  (hx : IntsAt w l1 u1 a1 n1 (fun i => x.getD i 0)) (hy : IntsAt w l2 u2 a2 n2 (fun i => y.getD i 0)) (hb1 : n1 ≤ 1000000000) (hb2 : n2 ≤ 1000000000) :
  Calls Try.prog 23 #[.slice a1 n1 c1, .slice a2 n2 c2] w fun e w' => e = .returned (.bool (decide (x = y))) ∧ Below w.heap.size w w' := by
 obtain ⟨b, hbb⟩ : ∃ b, decide (x = y) = b := ⟨_, rfl⟩
 rw [hbb]
 by_cases cn : n1 = n2
 ·subst cn
  have hb0 := Below.refl w.heap.size w
  go_enter Try.func23, Try.ntmps23
  go_wp2
  go_loopw [13] (fun is wr => ∃ k : Nat, k ≤ n1 ∧ is = .int .i64 (k : Int) ∧ Hid (∀ i, i < k → x.getD i 0 = y.getD i 0) ∧ Below w.heap.size w wr) (fun is _ => n1 - (intOf is).toNat)
  case atStart => exact ⟨0, by omega, rfl, hide (fun i hi => absurd hi (by omega)), hb0⟩
  case round =>
   clear hb0
   obtain ⟨k, hk, rfl, hall, hb⟩ := hrel
   obtain ⟨w1, rfl⟩ : ∃ w1 : World, w1 = wr := ⟨_, rfl⟩
   by_cases ck : k < n1
   ·have hci : (k : Int) < (n1 : Int) := by omega
    obtain ⟨g1, hg1, hz1, d1⟩ := IntsAt.cell (IntsAt.below hx hb hi1) ck
    obtain ⟨g2, hg2, hz2, d2⟩ := IntsAt.cell (IntsAt.below hy hb hi2) ck
    subst hg1 hg2
    obtain ⟨u, hu⟩ : ∃ u, x.getD k 0 = u := ⟨_, rfl⟩
    obtain ⟨v, hv⟩ : ∃ v, y.getD k 0 = v := ⟨_, rfl⟩
    rw [hu] at d1
    rw [hv] at d2
    by_cases ce : u = v
    ·subst ce
     have hall2 : Hid (∀ i, i < k + 1 → x.getD i 0 = y.getD i 0) := hide fun i hi => by
      by_cases q : i < k
      ·exact unhide hall i q
      ·obtain rfl : i = k := by omega
       rw [hu, hv]
     clear hu hv
     go_wp2
     go_quiet (fail)
     go_wp2
     go_roundw
     case rel => first | exact ⟨k + 1, by omega, by first | rfl | go_num, hall2, by (repeat' first | with_reducible (first | exact Below.refl _ _ | assumption | refine gr_alloc ?_ _ | refine below_drewN ?_ _ | refine below_drew ?_ | refine gr_call ?_ (by assumption) | refine Below.setCell ?_ ?_ _) | go_size | omega | (simp; omega))⟩ | ((repeat apply Exists.intro); exact ⟨⟨k + 1, by omega, by first | rfl | go_num, hall2, by (repeat' first | with_reducible (first | exact Below.refl _ _ | assumption | refine gr_alloc ?_ _ | refine below_drewN ?_ _ | refine below_drew ?_ | refine gr_call ?_ (by assumption) | refine Below.setCell ?_ ?_ _) | go_size | omega | (simp; omega))⟩, rfl⟩)
     case measure => simp [intOf]; omega
    ·have HB : Hid (b = false) := hide (by rw [← hbb, decide_eq_false_iff_not]; intro e; subst e; exact ce (hu.symm.trans hv))
     have ce1 : (u != v) = true := by simpa using ce
     have ce2 : (v != u) = true := by simp; exact fun e => ce e.symm
     clear hu hv ce hbb
     go_wp2
     go_quiet (fail)
     go_wp2
     go_ret
     exact ⟨by rw [unhide HB]; rfl, by (repeat' first | with_reducible (first | exact Below.refl _ _ | assumption | refine gr_alloc ?_ _ | refine below_drewN ?_ _ | refine below_drew ?_ | refine gr_call ?_ (by assumption) | refine Below.setCell ?_ ?_ _) | go_size | omega | (simp; omega))⟩
   ·obtain rfl : k = n1 := by omega
    have HB : Hid (b = true) := hide (by rw [← hbb, decide_eq_true_iff]; exact ints_eq ((unhide e1).symm.trans (unhide e2)) (fun i hi => unhide hall i (by have := unhide e1; omega)))
    clear hbb
    go_wp2
    go_ret
    exact ⟨by rw [unhide HB]; rfl, hb⟩
 ·have HB : Hid (b = false) := hide (by rw [← hbb, decide_eq_false_iff_not]; intro e; subst e; exact cn ((unhide e1).trans (unhide e2).symm))
  have cn1 : ((n1 : Int) != (n2 : Int)) = true := by simp; omega
  clear hbb
  go_enter Try.func23, Try.ntmps23
  go_wp2
  go_ret
  exact ⟨by rw [unhide HB]; rfl, Below.refl _ _⟩
end Go.Proofs.Ytaeabefbohlcpaa
