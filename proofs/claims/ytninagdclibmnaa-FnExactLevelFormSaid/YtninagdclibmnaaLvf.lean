/-
  LevelForm on both sides.
-/
import Derived.Test.YtninagdclibmnaaLv
import Derived.Test.YtninagdclibmnaaRoots
import Derived.Test.YtninagdclibmnaaPr
namespace Go.Proofs.Ytninagdclibmnaa
open Go.RowKit
set_option linter.unusedVariables false
set_option linter.unusedSimpArgs false
attribute [local go_sem] q2 q3 q4 q5 q6 q7 q8 q9 q10 q11 q12

def hasN (f : Nat → Int) (r : Int) : Nat → Bool
  | 0 => false
  | k + 1 => hasN f r k || (f k == r)
theorem has_yes {f : Nat → Int} {r : Int} {i : Nat} (h : f i = r) : ∀ n, i < n → hasN f r n = true
  | n + 1, hi => by
    rw [hasN]
    by_cases q : i < n
    · rw [has_yes h n q]; rfl
    · obtain rfl : i = n := by omega
      rw [h]; simp
theorem has_iff {f : Nat → Int} {r : Int} : ∀ n, hasN f r n = true ↔ ∃ i, i < n ∧ f i = r
  | 0 => by simp [hasN]
  | n + 1 => by
    rw [hasN, Bool.or_eq_true, has_iff n]
    constructor
    · rintro (⟨i, h1, h2⟩ | h)
      · exact ⟨i, by omega, h2⟩
      · exact ⟨n, by omega, by simpa using h⟩
    · rintro ⟨i, h1, h2⟩
      by_cases q : i < n
      · exact .inl ⟨i, q, h2⟩
      · obtain rfl : i = n := by omega
        exact .inr (by simpa using h2)
theorem flN_in {α : Type} {p : Nat → Bool} {e : Nat → α} {j : Nat} (hp : p j = true) : ∀ k, j < k → e j ∈ flN p e k
  | k + 1, h => by
    rw [flN]
    by_cases q : j < k
    · split
      · exact List.mem_append_left _ (flN_in hp k q)
      · exact flN_in hp k q
    · obtain rfl : j = k := by omega
      rw [if_pos hp]; simp
/-- Is r a root? -/
def rtB (D n r : Int) : Bool := decide (0 ≤ r) && (decide (r < 2 * n) && ((r * r - D) % (4 * n) == 0))
theorem has_root (D n r : Int) (hn : 1 ≤ n) : hasN (fun i => (flN (rtP D n) (fun k => (k : Int)) (2 * n).toNat).getD i 0) r (flN (rtP D n) (fun k => (k : Int)) (2 * n).toNat).length = rtB D n r := by
  rw [Bool.eq_iff_iff, has_iff]
  have hx : (∃ i, i < (flN (rtP D n) (fun k => (k : Int)) (2 * n).toNat).length ∧ (flN (rtP D n) (fun k => (k : Int)) (2 * n).toNat).getD i 0 = r) ↔ r ∈ flN (rtP D n) (fun k => (k : Int)) (2 * n).toNat := by
    rw [List.mem_iff_getElem]
    constructor
    · rintro ⟨i, h1, h2⟩
      exact ⟨i, h1, by rw [List.getD_eq_getElem?_getD, List.getElem?_eq_getElem h1] at h2; exact h2⟩
    · rintro ⟨i, h1, h2⟩
      exact ⟨i, h1, by rw [List.getD_eq_getElem?_getD, List.getElem?_eq_getElem h1]; exact h2⟩
  rw [hx]
  unfold rtB
  simp only [Bool.and_eq_true, decide_eq_true_eq, beq_iff_eq]
  constructor
  · intro h
    obtain ⟨j, h1, h2, h3⟩ := flN_mem h
    unfold rtP at h2
    rw [beq_iff_eq] at h2
    subst h3
    exact ⟨by omega, by omega, h2⟩
  · rintro ⟨h1, h2, h3⟩
    obtain ⟨j, rfl⟩ := Int.eq_ofNat_of_zero_le h1
    exact flN_in (e := fun k => (k : Int)) (by unfold rtP; rw [beq_iff_eq]; exact h3) _ (by omega)
def lfO (F : T3) (n r : Int) : Bool := hasB F.1 F.2.1 F.2.2 n && rtB (dT F) n r
noncomputable def lfX (F : T3) (n r : Int) : T3 := lvX (rdT F) n r
noncomputable def lfB (F : T3) (n r : Int) : Bool := lfO F n r && formB (lfX F n r).1 (lfX F n r).2.1 (lfX F n r).2.2
noncomputable def lfV (F : T3) (n r : Int) : T3 := if lfB F n r then lfX F n r else (0, 0, 0)

set_option maxHeartbeats 1000000 in
theorem l1Has_i (a : Option Addr) (lo hi nn cc : Nat) (f : Nat → Int) (r : Int) (w : World) (hn : nn ≤ 1000000000) (h : IntsAt w lo hi a nn f) :
    Calls Try.prog 87 #[.slice a nn cc, .int .i64 r] w fun e w' => e = .returned (.bool (hasN f r nn)) ∧ Below w.heap.size w w' := by
  go_enter Try.func87, Try.ntmps87
  go_wp2
  go_loopw [9] (fun is wr => ∃ i : Nat, i ≤ nn ∧ is = .int .i64 (i : Int) ∧ Hid (hasN f r i = false) ∧ Below w.heap.size w wr) (fun is _ => nn - (intOf is).toNat)
  case atStart => exact ⟨0, by omega, rfl, hide rfl, Below.refl _ _⟩
  case round =>
    obtain ⟨i, hi, rfl, HO, hb⟩ := hrel
    obtain ⟨wl, rfl⟩ : ∃ wl : World, wl = wr := ⟨_, rfl⟩
    by_cases q : i < nn
    · have hci : (i : Int) < (nn : Int) := by omega
      rcases h with h | ⟨g, cap, G, rfl, hg1, hg2, hcap, hr, hG⟩
      · omega
      have hr2 := hr.of_block (hb.block g hr.lt)
      have c0 := hr2.cell (i := i) (by omega)
      rw [hG i q] at c0
      have HG := hide hG
      clear hG hr hr2
      obtain ⟨x, hx⟩ : ∃ x, x = f i := ⟨_, rfl⟩
      rw [← hx] at c0
      by_cases qx : x = r
      · have HT := hide (has_yes (hx.symm.trans qx) nn q)
        subst qx
        clear hx
        go_wp2
        go_ret
        exact ⟨by rw [unhide HT]; rfl, hb⟩
      · have HT : Hid (hasN f r (i + 1) = false) := hide (by rw [hasN, unhide HO, ← hx]; simpa using qx)
        clear hx
        go_wp2
        go_roundw
        case rel => first | exact ⟨i + 1, by omega, by first | rfl | go_num, HT, hb⟩ | ((repeat apply Exists.intro); exact ⟨⟨i + 1, by omega, by first | rfl | go_num, HT, hb⟩, rfl⟩)
        case measure => (simp [intOf] <;> omega)
    · have e : i = nn := by omega
      have HE : Hid (hasN f r nn = false) := hide (by rw [← e]; exact unhide HO)
      have hci : ¬ (i : Int) < (nn : Int) := by omega
      go_wp2
      go_ret
      exact ⟨by rw [unhide HE]; rfl, hb⟩
theorem lv_rwi (A X : T3) (n r d : Int) (w : World) (h0 : RedC A.1 A.2.1 A.2.2) (h1 : 1 ≤ n) (h2 : n ≤ 30) (h3 : 0 ≤ r) (h4 : r < 2 * n) (hd : discI A.1 A.2.1 A.2.2 = d) (h5 : (r * r - d) % (4 * n) = 0) (hX : X = lvX A n r) :
    Calls Try.prog 93 #[frm A, .int .i64 n, .int .i64 r] w fun e w' => e = .returned (.tuple #[frm X, .bool (formB X.1 X.2.1 X.2.2)]) ∧ Below w.heap.size w w' := by
  subst hX hd; exact levelForm_v A.1 A.2.1 A.2.2 n r w h0 h1 h2 h3 h4 h5
theorem lv_rws (F X : T3) (n r d : Int) (w : World) (h0 : Frm d F) (h1 : 1 ≤ n) (h2 : n ≤ 30) (h3 : 0 ≤ r) (h4 : r < 2 * n) (h5 : (r * r - d) % (4 * n) = 0) (hX : X = lvX (rdT F) n r) :
    Calls Try.prog 90 #[frm F, .int .i64 n, .int .i64 r] w fun e w' => e = .returned (frm X) ∧ Below w.heap.size w w' := by
  subst hX
  have e : discI (rdT F).1 (rdT F).2.1 (rdT F).2.2 = d := (rd_d h0.i.cl).trans h0.i.d
  exact lvMake_v F.1 F.2.1 F.2.2 (rdT F).1 (rdT F).2.1 (rdT F).2.2 n r w h0.i.cl.ok ⟨rfl, rfl, rfl⟩ (rd_rc h0.i.cl) h1 h2 h3 h4 (by rw [e]; exact h5)

set_option maxRecDepth 100000 in
set_option maxHeartbeats 1500000 in
theorem implLevelForm_v (F : T3) (n r : Int) (w : World) (i0 : I64T F) (ir : I64 r) : Calls Try.prog 42 #[frm F, .int .i64 n, .int .i64 r] w fun e w' => e = .returned (.tuple #[frm (lfV F n r), .bool (lfB F n r)]) ∧ Below w.heap.size w w' := by
  cases k0 : hasB F.1 F.2.1 F.2.2 n
  · skip
    have HV : Hid ((.tuple #[frm (lfV F n r), .bool (lfB F n r)] : Value) = .tuple #[.agg #[.int .i64 0, .int .i64 0, .int .i64 0], .bool false]) := hide (by simp [lfV, lfB, lfO, rtB, *])
    go_enter Try.func42, Try.ntmps42
    go_wp2_with fail
    refine (hasLevel_a (F.1) (F.2.1) (F.2.2) n _ i0.1 i0.2.1 i0.2.2).mono ?_
    rintro en w1 ⟨rfl, hb1⟩
    have hcs9 := cells_calls hb1 [⟨w.heap.size, 0, none⟩, ⟨w.heap.size, 1, none⟩, ⟨w.heap.size, 2, none⟩, ⟨w.heap.size + 1, 0, none⟩, ⟨w.heap.size + 1, 1, none⟩, ⟨w.heap.size + 1, 2, none⟩] [.int .i64 (F.1), .int .i64 (F.2.1), .int .i64 (F.2.2), .int .i64 0, .int .i64 0, .int .i64 0] (by refine ⟨?_, ?_, ?_, ?_, ?_, ?_, trivial⟩ <;> (first | with_reducible assumption | ((repeat' first | with_reducible (first | assumption | refine cell_al _ ?_ | refine cell_eq _ ?_ | refine cell_ne _ ?_ ?_ | refine ex_set _ ?_ | refine ex_al _ ?_ | exact ⟨_, by assumption⟩) | (intro hh; injection hh with hh1 hh2; omega)); done) | go_simp))
    have hfs9 := frees_calls hb1 [⟨w.heap.size + 1, 0, none⟩, ⟨w.heap.size + 1, 1, none⟩, ⟨w.heap.size + 1, 2, none⟩] (by refine ⟨?_, ?_, ?_, trivial⟩ <;> first | with_reducible assumption | omega | (simp; omega) | (simp; done)) (by refine ⟨?_, ?_, ?_, trivial⟩ <;> (first | with_reducible assumption | ((repeat' first | with_reducible (first | assumption | refine frz_al _ ?_ ?_ | refine frz_set _ ?_) | omega | (simp; omega)); done) | go_simp))
    have hzs9 := blocks_calls hb1 [w.heap.size, w.heap.size + 1] (by refine ⟨?_, ?_, trivial⟩ <;> first | with_reducible assumption | omega | (simp; omega) | (simp; done))
    try clear c00 c01 c02
    try clear c10 c11 c12 f10 f11 f12
    obtain ⟨c00, c01, c02, c10, c11, c12, -⟩ := hcs9
    obtain ⟨f10, f11, f12, -⟩ := hfs9
    obtain ⟨z0, z1, -⟩ := hzs9
    have hs1 := hb1.size
    have o10 := z0
    have o11 := z1
    rw [k0]
    skip
    go_wp2
    refine bodyPost_ret (v := .tuple #[.agg #[.int .i64 0, .int .i64 0, .int .i64 0], .bool false]) (by simp [results, Try.results42, go_sem, *]) rfl ?_
    exact ⟨by rw [unhide HV] <;> rfl, by (repeat' first | with_reducible (first | exact Below.refl _ _ | assumption | refine gr_alloc ?_ _ | refine below_drewN ?_ _ | refine below_drew ?_ | refine gr_call ?_ (by assumption) | refine Below.setCell ?_ ?_ _) | go_size | omega | (simp; omega))⟩
  · have hcf := has_facts k0
    have hq := frm_of (F := F) hcf.1
    have hd := class_disc hcf.1
    have hr0 : RedC (rdT F).1 (rdT F).2.1 (rdT F).2.2 := rd_rc hq.i.cl
    have hdr : discI (rdT F).1 (rdT F).2.1 (rdT F).2.2 = dT F := rd_d hq.i.cl
    have hn1 := hcf.2.1
    have hn2 := hcf.2.2.1
    have hdT : discI F.1 F.2.1 F.2.2 = dT F := rfl
    obtain ⟨d, hdd⟩ : ∃ d, d = dT F := ⟨_, rfl⟩
    rw [hdT, ← hdd] at hd
    rw [← hdd] at hdr
    have hp4 := disc_par F.1 F.2.1 F.2.2
    rw [hdT, ← hdd] at hp4
    have hd3 : d ≤ -3 := by omega
    clear hp4
    clear hdT
    replace hdd := hide hdd
    have hq0 : InD d F := by rw [unhide hdd]; exact hq.i
    have hqf := hq.f
    by_cases k1 : r < 0
    · have k1' : ¬ 0 ≤ r := by omega
      have HV : Hid ((.tuple #[frm (lfV F n r), .bool (lfB F n r)] : Value) = .tuple #[.agg #[.int .i64 0, .int .i64 0, .int .i64 0], .bool false]) := hide (by simp [lfV, lfB, lfO, rtB, *])
      go_enter Try.func42, Try.ntmps42
      go_wp2_with fail
      refine (hasLevel_a (F.1) (F.2.1) (F.2.2) n _ i0.1 i0.2.1 i0.2.2).mono ?_
      rintro en w1 ⟨rfl, hb1⟩
      have hcs9 := cells_calls hb1 [⟨w.heap.size, 0, none⟩, ⟨w.heap.size, 1, none⟩, ⟨w.heap.size, 2, none⟩, ⟨w.heap.size + 1, 0, none⟩, ⟨w.heap.size + 1, 1, none⟩, ⟨w.heap.size + 1, 2, none⟩] [.int .i64 (F.1), .int .i64 (F.2.1), .int .i64 (F.2.2), .int .i64 0, .int .i64 0, .int .i64 0] (by refine ⟨?_, ?_, ?_, ?_, ?_, ?_, trivial⟩ <;> (first | with_reducible assumption | ((repeat' first | with_reducible (first | assumption | refine cell_al _ ?_ | refine cell_eq _ ?_ | refine cell_ne _ ?_ ?_ | refine ex_set _ ?_ | refine ex_al _ ?_ | exact ⟨_, by assumption⟩) | (intro hh; injection hh with hh1 hh2; omega)); done) | go_simp))
      have hfs9 := frees_calls hb1 [⟨w.heap.size + 1, 0, none⟩, ⟨w.heap.size + 1, 1, none⟩, ⟨w.heap.size + 1, 2, none⟩] (by refine ⟨?_, ?_, ?_, trivial⟩ <;> first | with_reducible assumption | omega | (simp; omega) | (simp; done)) (by refine ⟨?_, ?_, ?_, trivial⟩ <;> (first | with_reducible assumption | ((repeat' first | with_reducible (first | assumption | refine frz_al _ ?_ ?_ | refine frz_set _ ?_) | omega | (simp; omega)); done) | go_simp))
      have hzs9 := blocks_calls hb1 [w.heap.size, w.heap.size + 1] (by refine ⟨?_, ?_, trivial⟩ <;> first | with_reducible assumption | omega | (simp; omega) | (simp; done))
      try clear c00 c01 c02
      try clear c10 c11 c12 f10 f11 f12
      obtain ⟨c00, c01, c02, c10, c11, c12, -⟩ := hcs9
      obtain ⟨f10, f11, f12, -⟩ := hfs9
      obtain ⟨z0, z1, -⟩ := hzs9
      have hs1 := hb1.size
      have o10 := z0
      have o11 := z1
      rw [k0]
      skip
      go_wp2
      refine bodyPost_ret (v := .tuple #[.agg #[.int .i64 0, .int .i64 0, .int .i64 0], .bool false]) (by simp [results, Try.results42, go_sem, *]) rfl ?_
      exact ⟨by rw [unhide HV] <;> rfl, by (repeat' first | with_reducible (first | exact Below.refl _ _ | assumption | refine gr_alloc ?_ _ | refine below_drewN ?_ _ | refine below_drew ?_ | refine gr_call ?_ (by assumption) | refine Below.setCell ?_ ?_ _) | go_size | omega | (simp; omega))⟩
    by_cases k2 : 2 * n ≤ r
    · have k2' : ¬ r < 2 * n := by omega
      have HV : Hid ((.tuple #[frm (lfV F n r), .bool (lfB F n r)] : Value) = .tuple #[.agg #[.int .i64 0, .int .i64 0, .int .i64 0], .bool false]) := hide (by simp [lfV, lfB, lfO, rtB, *])
      go_enter Try.func42, Try.ntmps42
      go_wp2_with fail
      refine (hasLevel_a (F.1) (F.2.1) (F.2.2) n _ i0.1 i0.2.1 i0.2.2).mono ?_
      rintro en w1 ⟨rfl, hb1⟩
      have hcs9 := cells_calls hb1 [⟨w.heap.size, 0, none⟩, ⟨w.heap.size, 1, none⟩, ⟨w.heap.size, 2, none⟩, ⟨w.heap.size + 1, 0, none⟩, ⟨w.heap.size + 1, 1, none⟩, ⟨w.heap.size + 1, 2, none⟩] [.int .i64 (F.1), .int .i64 (F.2.1), .int .i64 (F.2.2), .int .i64 0, .int .i64 0, .int .i64 0] (by refine ⟨?_, ?_, ?_, ?_, ?_, ?_, trivial⟩ <;> (first | with_reducible assumption | ((repeat' first | with_reducible (first | assumption | refine cell_al _ ?_ | refine cell_eq _ ?_ | refine cell_ne _ ?_ ?_ | refine ex_set _ ?_ | refine ex_al _ ?_ | exact ⟨_, by assumption⟩) | (intro hh; injection hh with hh1 hh2; omega)); done) | go_simp))
      have hfs9 := frees_calls hb1 [⟨w.heap.size + 1, 0, none⟩, ⟨w.heap.size + 1, 1, none⟩, ⟨w.heap.size + 1, 2, none⟩] (by refine ⟨?_, ?_, ?_, trivial⟩ <;> first | with_reducible assumption | omega | (simp; omega) | (simp; done)) (by refine ⟨?_, ?_, ?_, trivial⟩ <;> (first | with_reducible assumption | ((repeat' first | with_reducible (first | assumption | refine frz_al _ ?_ ?_ | refine frz_set _ ?_) | omega | (simp; omega)); done) | go_simp))
      have hzs9 := blocks_calls hb1 [w.heap.size, w.heap.size + 1] (by refine ⟨?_, ?_, trivial⟩ <;> first | with_reducible assumption | omega | (simp; omega) | (simp; done))
      try clear c00 c01 c02
      try clear c10 c11 c12 f10 f11 f12
      obtain ⟨c00, c01, c02, c10, c11, c12, -⟩ := hcs9
      obtain ⟨f10, f11, f12, -⟩ := hfs9
      obtain ⟨z0, z1, -⟩ := hzs9
      have hs1 := hb1.size
      have o10 := z0
      have o11 := z1
      rw [k0]
      skip
      go_wp2
      refine bodyPost_ret (v := .tuple #[.agg #[.int .i64 0, .int .i64 0, .int .i64 0], .bool false]) (by simp [results, Try.results42, go_sem, *]) rfl ?_
      exact ⟨by rw [unhide HV] <;> rfl, by (repeat' first | with_reducible (first | exact Below.refl _ _ | assumption | refine gr_alloc ?_ _ | refine below_drewN ?_ _ | refine below_drew ?_ | refine gr_call ?_ (by assumption) | refine Below.setCell ?_ ?_ _) | go_size | omega | (simp; omega))⟩
    have r0 : 0 ≤ r := by omega
    have r1 : r < 2 * n := by omega
    have rr : 0 ≤ r * r ∧ r * r ≤ 3600 := ⟨Int.mul_nonneg r0 r0, Int.le_trans (Int.mul_le_mul (show r ≤ 60 by omega) (show r ≤ 60 by omega) r0 (by omega)) (by omega)⟩
    have HT : (r * r - d).tmod (4 * n) = (r * r - d) % (4 * n) := rem_in (by omega) (by omega)
    by_cases k3 : (r * r - d) % (4 * n) = 0
    · rw [k3] at HT
      obtain ⟨X, hX⟩ : ∃ X, X = lfX F n r := ⟨_, rfl⟩
      have HX := hide hX
      clear hX
      have HO : Hid (lfO F n r = true) := hide (by unfold lfO rtB; rw [k0, ← unhide hdd, k3]; simp [r0, r1])
      cases k4 : formB X.1 X.2.1 X.2.2
      · have HV : Hid ((.tuple #[frm (lfV F n r), .bool (lfB F n r)] : Value) = .tuple #[.agg #[.int .i64 0, .int .i64 0, .int .i64 0], .bool false]) := hide (by
          have e1 : lfB F n r = false := by unfold lfB; rw [← unhide HX, k4]; simp
          unfold lfV; rw [e1]; rfl)
        go_enter Try.func42, Try.ntmps42
        go_wp2_with fail
        refine (hasLevel_a (F.1) (F.2.1) (F.2.2) n _ i0.1 i0.2.1 i0.2.2).mono ?_
        rintro en w1 ⟨rfl, hb1⟩
        have hcs9 := cells_calls hb1 [⟨w.heap.size, 0, none⟩, ⟨w.heap.size, 1, none⟩, ⟨w.heap.size, 2, none⟩, ⟨w.heap.size + 1, 0, none⟩, ⟨w.heap.size + 1, 1, none⟩, ⟨w.heap.size + 1, 2, none⟩] [.int .i64 (F.1), .int .i64 (F.2.1), .int .i64 (F.2.2), .int .i64 0, .int .i64 0, .int .i64 0] (by refine ⟨?_, ?_, ?_, ?_, ?_, ?_, trivial⟩ <;> (first | with_reducible assumption | ((repeat' first | with_reducible (first | assumption | refine cell_al _ ?_ | refine cell_eq _ ?_ | refine cell_ne _ ?_ ?_ | refine ex_set _ ?_ | refine ex_al _ ?_ | exact ⟨_, by assumption⟩) | (intro hh; injection hh with hh1 hh2; omega)); done) | go_simp))
        have hfs9 := frees_calls hb1 [⟨w.heap.size + 1, 0, none⟩, ⟨w.heap.size + 1, 1, none⟩, ⟨w.heap.size + 1, 2, none⟩] (by refine ⟨?_, ?_, ?_, trivial⟩ <;> first | with_reducible assumption | omega | (simp; omega) | (simp; done)) (by refine ⟨?_, ?_, ?_, trivial⟩ <;> (first | with_reducible assumption | ((repeat' first | with_reducible (first | assumption | refine frz_al _ ?_ ?_ | refine frz_set _ ?_) | omega | (simp; omega)); done) | go_simp))
        have hzs9 := blocks_calls hb1 [w.heap.size, w.heap.size + 1] (by refine ⟨?_, ?_, trivial⟩ <;> first | with_reducible assumption | omega | (simp; omega) | (simp; done))
        try clear c00 c01 c02
        try clear c10 c11 c12 f10 f11 f12
        obtain ⟨c00, c01, c02, c10, c11, c12, -⟩ := hcs9
        obtain ⟨f10, f11, f12, -⟩ := hfs9
        obtain ⟨z0, z1, -⟩ := hzs9
        have hs1 := hb1.size
        have o10 := z0
        have o11 := z1
        rw [k0]
        go_wp2_with fail
        refine (disc_D F _ hq0 hqf).mono ?_
        rintro en w2 ⟨rfl, hb2⟩
        have hcs9 := cells_calls hb2 [⟨w.heap.size, 0, none⟩, ⟨w.heap.size, 1, none⟩, ⟨w.heap.size, 2, none⟩, ⟨w.heap.size + 1, 0, none⟩, ⟨w.heap.size + 1, 1, none⟩, ⟨w.heap.size + 1, 2, none⟩] [.int .i64 (F.1), .int .i64 (F.2.1), .int .i64 (F.2.2), .int .i64 0, .int .i64 0, .int .i64 0] (by refine ⟨?_, ?_, ?_, ?_, ?_, ?_, trivial⟩ <;> (first | with_reducible assumption | ((repeat' first | with_reducible (first | assumption | refine cell_al _ ?_ | refine cell_eq _ ?_ | refine cell_ne _ ?_ ?_ | refine ex_set _ ?_ | refine ex_al _ ?_ | exact ⟨_, by assumption⟩) | (intro hh; injection hh with hh1 hh2; omega)); done) | go_simp))
        have hfs9 := frees_calls hb2 [⟨w.heap.size + 1, 0, none⟩, ⟨w.heap.size + 1, 1, none⟩, ⟨w.heap.size + 1, 2, none⟩] (by refine ⟨?_, ?_, ?_, trivial⟩ <;> first | with_reducible assumption | omega | (simp; omega) | (simp; done)) (by refine ⟨?_, ?_, ?_, trivial⟩ <;> (first | with_reducible assumption | ((repeat' first | with_reducible (first | assumption | refine frz_al _ ?_ ?_ | refine frz_set _ ?_) | omega | (simp; omega)); done) | go_simp))
        have hzs9 := blocks_calls hb2 [w.heap.size, w.heap.size + 1] (by refine ⟨?_, ?_, trivial⟩ <;> first | with_reducible assumption | omega | (simp; omega) | (simp; done))
        try clear c00 c01 c02
        try clear c10 c11 c12 f10 f11 f12
        obtain ⟨c00, c01, c02, c10, c11, c12, -⟩ := hcs9
        obtain ⟨f10, f11, f12, -⟩ := hfs9
        obtain ⟨z0, z1, -⟩ := hzs9
        have hs2 := hb2.size
        have o20 := z0
        have o21 := z1
        go_wp2_with fail
        refine (reduced_D F _ hq0).mono ?_
        rintro en w3 ⟨rfl, hb3⟩
        have hcs9 := cells_calls hb3 [⟨w.heap.size, 0, none⟩, ⟨w.heap.size, 1, none⟩, ⟨w.heap.size, 2, none⟩, ⟨w.heap.size + 1, 0, none⟩, ⟨w.heap.size + 1, 1, none⟩, ⟨w.heap.size + 1, 2, none⟩] [.int .i64 (F.1), .int .i64 (F.2.1), .int .i64 (F.2.2), .int .i64 0, .int .i64 0, .int .i64 0] (by refine ⟨?_, ?_, ?_, ?_, ?_, ?_, trivial⟩ <;> (first | with_reducible assumption | ((repeat' first | with_reducible (first | assumption | refine cell_al _ ?_ | refine cell_eq _ ?_ | refine cell_ne _ ?_ ?_ | refine ex_set _ ?_ | refine ex_al _ ?_ | exact ⟨_, by assumption⟩) | (intro hh; injection hh with hh1 hh2; omega)); done) | go_simp))
        have hfs9 := frees_calls hb3 [⟨w.heap.size + 1, 0, none⟩, ⟨w.heap.size + 1, 1, none⟩, ⟨w.heap.size + 1, 2, none⟩] (by refine ⟨?_, ?_, ?_, trivial⟩ <;> first | with_reducible assumption | omega | (simp; omega) | (simp; done)) (by refine ⟨?_, ?_, ?_, trivial⟩ <;> (first | with_reducible assumption | ((repeat' first | with_reducible (first | assumption | refine frz_al _ ?_ ?_ | refine frz_set _ ?_) | omega | (simp; omega)); done) | go_simp))
        have hzs9 := blocks_calls hb3 [w.heap.size, w.heap.size + 1] (by refine ⟨?_, ?_, trivial⟩ <;> first | with_reducible assumption | omega | (simp; omega) | (simp; done))
        try clear c00 c01 c02
        try clear c10 c11 c12 f10 f11 f12
        obtain ⟨c00, c01, c02, c10, c11, c12, -⟩ := hcs9
        obtain ⟨f10, f11, f12, -⟩ := hfs9
        obtain ⟨z0, z1, -⟩ := hzs9
        have hs3 := hb3.size
        have o30 := z0
        have o31 := z1
        go_wp2_with fail
        refine (lv_rwi (rdT F) X n r d _ hr0 hn1 hn2 r0 r1 hdr k3 (unhide HX)).mono ?_
        rintro en w4 ⟨rfl, hb4⟩
        have hcs9 := cells_calls hb4 [⟨w.heap.size, 0, none⟩, ⟨w.heap.size, 1, none⟩, ⟨w.heap.size, 2, none⟩, ⟨w.heap.size + 1, 0, none⟩, ⟨w.heap.size + 1, 1, none⟩, ⟨w.heap.size + 1, 2, none⟩] [.int .i64 (F.1), .int .i64 (F.2.1), .int .i64 (F.2.2), .int .i64 0, .int .i64 0, .int .i64 0] (by refine ⟨?_, ?_, ?_, ?_, ?_, ?_, trivial⟩ <;> (first | with_reducible assumption | ((repeat' first | with_reducible (first | assumption | refine cell_al _ ?_ | refine cell_eq _ ?_ | refine cell_ne _ ?_ ?_ | refine ex_set _ ?_ | refine ex_al _ ?_ | exact ⟨_, by assumption⟩) | (intro hh; injection hh with hh1 hh2; omega)); done) | go_simp))
        have hfs9 := frees_calls hb4 [⟨w.heap.size + 1, 0, none⟩, ⟨w.heap.size + 1, 1, none⟩, ⟨w.heap.size + 1, 2, none⟩] (by refine ⟨?_, ?_, ?_, trivial⟩ <;> first | with_reducible assumption | omega | (simp; omega) | (simp; done)) (by refine ⟨?_, ?_, ?_, trivial⟩ <;> (first | with_reducible assumption | ((repeat' first | with_reducible (first | assumption | refine frz_al _ ?_ ?_ | refine frz_set _ ?_) | omega | (simp; omega)); done) | go_simp))
        have hzs9 := blocks_calls hb4 [w.heap.size, w.heap.size + 1] (by refine ⟨?_, ?_, trivial⟩ <;> first | with_reducible assumption | omega | (simp; omega) | (simp; done))
        try clear c00 c01 c02
        try clear c10 c11 c12 f10 f11 f12
        obtain ⟨c00, c01, c02, c10, c11, c12, -⟩ := hcs9
        obtain ⟨f10, f11, f12, -⟩ := hfs9
        obtain ⟨z0, z1, -⟩ := hzs9
        have hs4 := hb4.size
        have o40 := z0
        have o41 := z1
        rw [k4]
        go_wp2
        refine bodyPost_ret (v := .tuple #[.agg #[.int .i64 0, .int .i64 0, .int .i64 0], .bool false]) (by simp [results, Try.results42, go_sem, *]) rfl ?_
        exact ⟨by rw [unhide HV] <;> rfl, by (repeat' first | with_reducible (first | exact Below.refl _ _ | assumption | refine gr_alloc ?_ _ | refine below_drewN ?_ _ | refine below_drew ?_ | refine gr_call ?_ (by assumption) | refine Below.setCell ?_ ?_ _) | go_size | omega | (simp; omega))⟩
      · have HV : Hid ((.tuple #[frm (lfV F n r), .bool (lfB F n r)] : Value) = .tuple #[frm X, .bool true]) := hide (by
          have e1 : lfB F n r = true := by unfold lfB; rw [unhide HO, ← unhide HX, k4]; rfl
          unfold lfV; rw [e1, if_pos rfl, ← unhide HX])
        go_enter Try.func42, Try.ntmps42
        go_wp2_with fail
        refine (hasLevel_a (F.1) (F.2.1) (F.2.2) n _ i0.1 i0.2.1 i0.2.2).mono ?_
        rintro en w1 ⟨rfl, hb1⟩
        have hcs9 := cells_calls hb1 [⟨w.heap.size, 0, none⟩, ⟨w.heap.size, 1, none⟩, ⟨w.heap.size, 2, none⟩, ⟨w.heap.size + 1, 0, none⟩, ⟨w.heap.size + 1, 1, none⟩, ⟨w.heap.size + 1, 2, none⟩] [.int .i64 (F.1), .int .i64 (F.2.1), .int .i64 (F.2.2), .int .i64 0, .int .i64 0, .int .i64 0] (by refine ⟨?_, ?_, ?_, ?_, ?_, ?_, trivial⟩ <;> (first | with_reducible assumption | ((repeat' first | with_reducible (first | assumption | refine cell_al _ ?_ | refine cell_eq _ ?_ | refine cell_ne _ ?_ ?_ | refine ex_set _ ?_ | refine ex_al _ ?_ | exact ⟨_, by assumption⟩) | (intro hh; injection hh with hh1 hh2; omega)); done) | go_simp))
        have hfs9 := frees_calls hb1 [⟨w.heap.size + 1, 0, none⟩, ⟨w.heap.size + 1, 1, none⟩, ⟨w.heap.size + 1, 2, none⟩] (by refine ⟨?_, ?_, ?_, trivial⟩ <;> first | with_reducible assumption | omega | (simp; omega) | (simp; done)) (by refine ⟨?_, ?_, ?_, trivial⟩ <;> (first | with_reducible assumption | ((repeat' first | with_reducible (first | assumption | refine frz_al _ ?_ ?_ | refine frz_set _ ?_) | omega | (simp; omega)); done) | go_simp))
        have hzs9 := blocks_calls hb1 [w.heap.size, w.heap.size + 1] (by refine ⟨?_, ?_, trivial⟩ <;> first | with_reducible assumption | omega | (simp; omega) | (simp; done))
        try clear c00 c01 c02
        try clear c10 c11 c12 f10 f11 f12
        obtain ⟨c00, c01, c02, c10, c11, c12, -⟩ := hcs9
        obtain ⟨f10, f11, f12, -⟩ := hfs9
        obtain ⟨z0, z1, -⟩ := hzs9
        have hs1 := hb1.size
        have o10 := z0
        have o11 := z1
        rw [k0]
        go_wp2_with fail
        refine (disc_D F _ hq0 hqf).mono ?_
        rintro en w2 ⟨rfl, hb2⟩
        have hcs9 := cells_calls hb2 [⟨w.heap.size, 0, none⟩, ⟨w.heap.size, 1, none⟩, ⟨w.heap.size, 2, none⟩, ⟨w.heap.size + 1, 0, none⟩, ⟨w.heap.size + 1, 1, none⟩, ⟨w.heap.size + 1, 2, none⟩] [.int .i64 (F.1), .int .i64 (F.2.1), .int .i64 (F.2.2), .int .i64 0, .int .i64 0, .int .i64 0] (by refine ⟨?_, ?_, ?_, ?_, ?_, ?_, trivial⟩ <;> (first | with_reducible assumption | ((repeat' first | with_reducible (first | assumption | refine cell_al _ ?_ | refine cell_eq _ ?_ | refine cell_ne _ ?_ ?_ | refine ex_set _ ?_ | refine ex_al _ ?_ | exact ⟨_, by assumption⟩) | (intro hh; injection hh with hh1 hh2; omega)); done) | go_simp))
        have hfs9 := frees_calls hb2 [⟨w.heap.size + 1, 0, none⟩, ⟨w.heap.size + 1, 1, none⟩, ⟨w.heap.size + 1, 2, none⟩] (by refine ⟨?_, ?_, ?_, trivial⟩ <;> first | with_reducible assumption | omega | (simp; omega) | (simp; done)) (by refine ⟨?_, ?_, ?_, trivial⟩ <;> (first | with_reducible assumption | ((repeat' first | with_reducible (first | assumption | refine frz_al _ ?_ ?_ | refine frz_set _ ?_) | omega | (simp; omega)); done) | go_simp))
        have hzs9 := blocks_calls hb2 [w.heap.size, w.heap.size + 1] (by refine ⟨?_, ?_, trivial⟩ <;> first | with_reducible assumption | omega | (simp; omega) | (simp; done))
        try clear c00 c01 c02
        try clear c10 c11 c12 f10 f11 f12
        obtain ⟨c00, c01, c02, c10, c11, c12, -⟩ := hcs9
        obtain ⟨f10, f11, f12, -⟩ := hfs9
        obtain ⟨z0, z1, -⟩ := hzs9
        have hs2 := hb2.size
        have o20 := z0
        have o21 := z1
        go_wp2_with fail
        refine (reduced_D F _ hq0).mono ?_
        rintro en w3 ⟨rfl, hb3⟩
        have hcs9 := cells_calls hb3 [⟨w.heap.size, 0, none⟩, ⟨w.heap.size, 1, none⟩, ⟨w.heap.size, 2, none⟩, ⟨w.heap.size + 1, 0, none⟩, ⟨w.heap.size + 1, 1, none⟩, ⟨w.heap.size + 1, 2, none⟩] [.int .i64 (F.1), .int .i64 (F.2.1), .int .i64 (F.2.2), .int .i64 0, .int .i64 0, .int .i64 0] (by refine ⟨?_, ?_, ?_, ?_, ?_, ?_, trivial⟩ <;> (first | with_reducible assumption | ((repeat' first | with_reducible (first | assumption | refine cell_al _ ?_ | refine cell_eq _ ?_ | refine cell_ne _ ?_ ?_ | refine ex_set _ ?_ | refine ex_al _ ?_ | exact ⟨_, by assumption⟩) | (intro hh; injection hh with hh1 hh2; omega)); done) | go_simp))
        have hfs9 := frees_calls hb3 [⟨w.heap.size + 1, 0, none⟩, ⟨w.heap.size + 1, 1, none⟩, ⟨w.heap.size + 1, 2, none⟩] (by refine ⟨?_, ?_, ?_, trivial⟩ <;> first | with_reducible assumption | omega | (simp; omega) | (simp; done)) (by refine ⟨?_, ?_, ?_, trivial⟩ <;> (first | with_reducible assumption | ((repeat' first | with_reducible (first | assumption | refine frz_al _ ?_ ?_ | refine frz_set _ ?_) | omega | (simp; omega)); done) | go_simp))
        have hzs9 := blocks_calls hb3 [w.heap.size, w.heap.size + 1] (by refine ⟨?_, ?_, trivial⟩ <;> first | with_reducible assumption | omega | (simp; omega) | (simp; done))
        try clear c00 c01 c02
        try clear c10 c11 c12 f10 f11 f12
        obtain ⟨c00, c01, c02, c10, c11, c12, -⟩ := hcs9
        obtain ⟨f10, f11, f12, -⟩ := hfs9
        obtain ⟨z0, z1, -⟩ := hzs9
        have hs3 := hb3.size
        have o30 := z0
        have o31 := z1
        go_wp2_with fail
        refine (lv_rwi (rdT F) X n r d _ hr0 hn1 hn2 r0 r1 hdr k3 (unhide HX)).mono ?_
        rintro en w4 ⟨rfl, hb4⟩
        have hcs9 := cells_calls hb4 [⟨w.heap.size, 0, none⟩, ⟨w.heap.size, 1, none⟩, ⟨w.heap.size, 2, none⟩, ⟨w.heap.size + 1, 0, none⟩, ⟨w.heap.size + 1, 1, none⟩, ⟨w.heap.size + 1, 2, none⟩] [.int .i64 (F.1), .int .i64 (F.2.1), .int .i64 (F.2.2), .int .i64 0, .int .i64 0, .int .i64 0] (by refine ⟨?_, ?_, ?_, ?_, ?_, ?_, trivial⟩ <;> (first | with_reducible assumption | ((repeat' first | with_reducible (first | assumption | refine cell_al _ ?_ | refine cell_eq _ ?_ | refine cell_ne _ ?_ ?_ | refine ex_set _ ?_ | refine ex_al _ ?_ | exact ⟨_, by assumption⟩) | (intro hh; injection hh with hh1 hh2; omega)); done) | go_simp))
        have hfs9 := frees_calls hb4 [⟨w.heap.size + 1, 0, none⟩, ⟨w.heap.size + 1, 1, none⟩, ⟨w.heap.size + 1, 2, none⟩] (by refine ⟨?_, ?_, ?_, trivial⟩ <;> first | with_reducible assumption | omega | (simp; omega) | (simp; done)) (by refine ⟨?_, ?_, ?_, trivial⟩ <;> (first | with_reducible assumption | ((repeat' first | with_reducible (first | assumption | refine frz_al _ ?_ ?_ | refine frz_set _ ?_) | omega | (simp; omega)); done) | go_simp))
        have hzs9 := blocks_calls hb4 [w.heap.size, w.heap.size + 1] (by refine ⟨?_, ?_, trivial⟩ <;> first | with_reducible assumption | omega | (simp; omega) | (simp; done))
        try clear c00 c01 c02
        try clear c10 c11 c12 f10 f11 f12
        obtain ⟨c00, c01, c02, c10, c11, c12, -⟩ := hcs9
        obtain ⟨f10, f11, f12, -⟩ := hfs9
        obtain ⟨z0, z1, -⟩ := hzs9
        have hs4 := hb4.size
        have o40 := z0
        have o41 := z1
        rw [k4]
        go_wp2
        refine bodyPost_ret (v := .tuple #[frm X, .bool true]) (by simp [results, Try.results42, go_sem, *]) rfl ?_
        exact ⟨by rw [unhide HV] <;> rfl, by (repeat' first | with_reducible (first | exact Below.refl _ _ | assumption | refine gr_alloc ?_ _ | refine below_drewN ?_ _ | refine below_drew ?_ | refine gr_call ?_ (by assumption) | refine Below.setCell ?_ ?_ _) | go_size | omega | (simp; omega))⟩
    · have k3' : ¬ (r * r - dT F) % (4 * n) = 0 := by rw [← unhide hdd]; exact k3
      have HV : Hid ((.tuple #[frm (lfV F n r), .bool (lfB F n r)] : Value) = .tuple #[.agg #[.int .i64 0, .int .i64 0, .int .i64 0], .bool false]) := hide (by simp [lfV, lfB, lfO, rtB, *])
      have k5 : ((r * r - d) % (4 * n) != 0) = true := by simpa using k3
      go_enter Try.func42, Try.ntmps42
      go_wp2_with fail
      refine (hasLevel_a (F.1) (F.2.1) (F.2.2) n _ i0.1 i0.2.1 i0.2.2).mono ?_
      rintro en w1 ⟨rfl, hb1⟩
      have hcs9 := cells_calls hb1 [⟨w.heap.size, 0, none⟩, ⟨w.heap.size, 1, none⟩, ⟨w.heap.size, 2, none⟩, ⟨w.heap.size + 1, 0, none⟩, ⟨w.heap.size + 1, 1, none⟩, ⟨w.heap.size + 1, 2, none⟩] [.int .i64 (F.1), .int .i64 (F.2.1), .int .i64 (F.2.2), .int .i64 0, .int .i64 0, .int .i64 0] (by refine ⟨?_, ?_, ?_, ?_, ?_, ?_, trivial⟩ <;> (first | with_reducible assumption | ((repeat' first | with_reducible (first | assumption | refine cell_al _ ?_ | refine cell_eq _ ?_ | refine cell_ne _ ?_ ?_ | refine ex_set _ ?_ | refine ex_al _ ?_ | exact ⟨_, by assumption⟩) | (intro hh; injection hh with hh1 hh2; omega)); done) | go_simp))
      have hfs9 := frees_calls hb1 [⟨w.heap.size + 1, 0, none⟩, ⟨w.heap.size + 1, 1, none⟩, ⟨w.heap.size + 1, 2, none⟩] (by refine ⟨?_, ?_, ?_, trivial⟩ <;> first | with_reducible assumption | omega | (simp; omega) | (simp; done)) (by refine ⟨?_, ?_, ?_, trivial⟩ <;> (first | with_reducible assumption | ((repeat' first | with_reducible (first | assumption | refine frz_al _ ?_ ?_ | refine frz_set _ ?_) | omega | (simp; omega)); done) | go_simp))
      have hzs9 := blocks_calls hb1 [w.heap.size, w.heap.size + 1] (by refine ⟨?_, ?_, trivial⟩ <;> first | with_reducible assumption | omega | (simp; omega) | (simp; done))
      try clear c00 c01 c02
      try clear c10 c11 c12 f10 f11 f12
      obtain ⟨c00, c01, c02, c10, c11, c12, -⟩ := hcs9
      obtain ⟨f10, f11, f12, -⟩ := hfs9
      obtain ⟨z0, z1, -⟩ := hzs9
      have hs1 := hb1.size
      have o10 := z0
      have o11 := z1
      rw [k0]
      go_wp2_with fail
      refine (disc_D F _ hq0 hqf).mono ?_
      rintro en w2 ⟨rfl, hb2⟩
      have hcs9 := cells_calls hb2 [⟨w.heap.size, 0, none⟩, ⟨w.heap.size, 1, none⟩, ⟨w.heap.size, 2, none⟩, ⟨w.heap.size + 1, 0, none⟩, ⟨w.heap.size + 1, 1, none⟩, ⟨w.heap.size + 1, 2, none⟩] [.int .i64 (F.1), .int .i64 (F.2.1), .int .i64 (F.2.2), .int .i64 0, .int .i64 0, .int .i64 0] (by refine ⟨?_, ?_, ?_, ?_, ?_, ?_, trivial⟩ <;> (first | with_reducible assumption | ((repeat' first | with_reducible (first | assumption | refine cell_al _ ?_ | refine cell_eq _ ?_ | refine cell_ne _ ?_ ?_ | refine ex_set _ ?_ | refine ex_al _ ?_ | exact ⟨_, by assumption⟩) | (intro hh; injection hh with hh1 hh2; omega)); done) | go_simp))
      have hfs9 := frees_calls hb2 [⟨w.heap.size + 1, 0, none⟩, ⟨w.heap.size + 1, 1, none⟩, ⟨w.heap.size + 1, 2, none⟩] (by refine ⟨?_, ?_, ?_, trivial⟩ <;> first | with_reducible assumption | omega | (simp; omega) | (simp; done)) (by refine ⟨?_, ?_, ?_, trivial⟩ <;> (first | with_reducible assumption | ((repeat' first | with_reducible (first | assumption | refine frz_al _ ?_ ?_ | refine frz_set _ ?_) | omega | (simp; omega)); done) | go_simp))
      have hzs9 := blocks_calls hb2 [w.heap.size, w.heap.size + 1] (by refine ⟨?_, ?_, trivial⟩ <;> first | with_reducible assumption | omega | (simp; omega) | (simp; done))
      try clear c00 c01 c02
      try clear c10 c11 c12 f10 f11 f12
      obtain ⟨c00, c01, c02, c10, c11, c12, -⟩ := hcs9
      obtain ⟨f10, f11, f12, -⟩ := hfs9
      obtain ⟨z0, z1, -⟩ := hzs9
      have hs2 := hb2.size
      have o20 := z0
      have o21 := z1
      go_wp2
      refine bodyPost_ret (v := .tuple #[.agg #[.int .i64 0, .int .i64 0, .int .i64 0], .bool false]) (by simp [results, Try.results42, go_sem, *]) rfl ?_
      exact ⟨by rw [unhide HV] <;> rfl, by (repeat' first | with_reducible (first | exact Below.refl _ _ | assumption | refine gr_alloc ?_ _ | refine below_drewN ?_ _ | refine below_drew ?_ | refine gr_call ?_ (by assumption) | refine Below.setCell ?_ ?_ _) | go_size | omega | (simp; omega))⟩

set_option maxRecDepth 100000 in
set_option maxHeartbeats 1500000 in
theorem specLevelForm_v (F : T3) (n r : Int) (w : World) : Calls Try.prog 41 #[frm F, .int .i64 n, .int .i64 r] w fun e w' => e = .returned (.tuple #[frm (lfV F n r), .bool (lfB F n r)]) ∧ Below w.heap.size w w' := by
  cases k0 : hasB F.1 F.2.1 F.2.2 n
  · skip
    have HV : Hid ((.tuple #[frm (lfV F n r), .bool (lfB F n r)] : Value) = .tuple #[.agg #[.int .i64 0, .int .i64 0, .int .i64 0], .bool false]) := hide (by simp [lfV, lfB, lfO, rtB, *])
    go_enter Try.func41, Try.ntmps41
    go_wp2_with fail
    refine (lvForm_a (F.1) (F.2.1) (F.2.2) n _).mono ?_
    rintro en w1 ⟨rfl, hb1⟩
    have hcs9 := cells_calls hb1 [⟨w.heap.size, 0, none⟩, ⟨w.heap.size, 1, none⟩, ⟨w.heap.size, 2, none⟩, ⟨w.heap.size + 1, 0, none⟩, ⟨w.heap.size + 1, 1, none⟩, ⟨w.heap.size + 1, 2, none⟩] [.int .i64 (F.1), .int .i64 (F.2.1), .int .i64 (F.2.2), .int .i64 0, .int .i64 0, .int .i64 0] (by refine ⟨?_, ?_, ?_, ?_, ?_, ?_, trivial⟩ <;> (first | with_reducible assumption | ((repeat' first | with_reducible (first | assumption | refine cell_al _ ?_ | refine cell_eq _ ?_ | refine cell_ne _ ?_ ?_ | refine ex_set _ ?_ | refine ex_al _ ?_ | exact ⟨_, by assumption⟩) | (intro hh; injection hh with hh1 hh2; omega)); done) | go_simp))
    have hfs9 := frees_calls hb1 [⟨w.heap.size + 1, 0, none⟩, ⟨w.heap.size + 1, 1, none⟩, ⟨w.heap.size + 1, 2, none⟩] (by refine ⟨?_, ?_, ?_, trivial⟩ <;> first | with_reducible assumption | omega | (simp; omega) | (simp; done)) (by refine ⟨?_, ?_, ?_, trivial⟩ <;> (first | with_reducible assumption | ((repeat' first | with_reducible (first | assumption | refine frz_al _ ?_ ?_ | refine frz_set _ ?_) | omega | (simp; omega)); done) | go_simp))
    have hzs9 := blocks_calls hb1 [w.heap.size, w.heap.size + 1] (by refine ⟨?_, ?_, trivial⟩ <;> first | with_reducible assumption | omega | (simp; omega) | (simp; done))
    try clear c00 c01 c02
    try clear c10 c11 c12 f10 f11 f12
    obtain ⟨c00, c01, c02, c10, c11, c12, -⟩ := hcs9
    obtain ⟨f10, f11, f12, -⟩ := hfs9
    obtain ⟨z0, z1, -⟩ := hzs9
    have hs1 := hb1.size
    have o10 := z0
    have o11 := z1
    rw [k0]
    skip
    go_wp2
    refine bodyPost_ret (v := .tuple #[.agg #[.int .i64 0, .int .i64 0, .int .i64 0], .bool false]) (by simp [results, Try.results41, go_sem, *]) rfl ?_
    exact ⟨by rw [unhide HV] <;> rfl, by (repeat' first | with_reducible (first | exact Below.refl _ _ | assumption | refine gr_alloc ?_ _ | refine below_drewN ?_ _ | refine below_drew ?_ | refine gr_call ?_ (by assumption) | refine Below.setCell ?_ ?_ _) | go_size | omega | (simp; omega))⟩
  · have hcf := has_facts k0
    have hq := frm_of (F := F) hcf.1
    have hd := class_disc hcf.1
    have hr0 : RedC (rdT F).1 (rdT F).2.1 (rdT F).2.2 := rd_rc hq.i.cl
    have hdr : discI (rdT F).1 (rdT F).2.1 (rdT F).2.2 = dT F := rd_d hq.i.cl
    have hn1 := hcf.2.1
    have hn2 := hcf.2.2.1
    have hdT : discI F.1 F.2.1 F.2.2 = dT F := rfl
    obtain ⟨d, hdd⟩ : ∃ d, d = dT F := ⟨_, rfl⟩
    rw [hdT, ← hdd] at hd
    rw [← hdd] at hdr
    have hp4 := disc_par F.1 F.2.1 F.2.2
    rw [hdT, ← hdd] at hp4
    have hd3 : d ≤ -3 := by omega
    clear hp4
    clear hdT
    replace hdd := hide hdd
    have hq0 : InD d F := by rw [unhide hdd]; exact hq.i
    have hqf := hq.f
    have hqd : Frm d F := ⟨hq0, hqf⟩
    have hlen : (flN (rtP d n) (fun k => (k : Int)) (2 * n).toNat).length ≤ 1000000000 := by have := flN_len (rtP d n) (fun k => (k : Int)) (2 * n).toNat; omega
    cases k3 : rtB d n r
    · have k3' : rtB (dT F) n r = false := by rw [← unhide hdd]; exact k3
      have HV : Hid ((.tuple #[frm (lfV F n r), .bool (lfB F n r)] : Value) = .tuple #[.agg #[.int .i64 0, .int .i64 0, .int .i64 0], .bool false]) := hide (by simp [lfV, lfB, lfO, *])
      go_enter Try.func41, Try.ntmps41
      go_wp2_with fail
      refine (lvForm_a (F.1) (F.2.1) (F.2.2) n _).mono ?_
      rintro en w1 ⟨rfl, hb1⟩
      have hcs9 := cells_calls hb1 [⟨w.heap.size, 0, none⟩, ⟨w.heap.size, 1, none⟩, ⟨w.heap.size, 2, none⟩, ⟨w.heap.size + 1, 0, none⟩, ⟨w.heap.size + 1, 1, none⟩, ⟨w.heap.size + 1, 2, none⟩] [.int .i64 (F.1), .int .i64 (F.2.1), .int .i64 (F.2.2), .int .i64 0, .int .i64 0, .int .i64 0] (by refine ⟨?_, ?_, ?_, ?_, ?_, ?_, trivial⟩ <;> (first | with_reducible assumption | ((repeat' first | with_reducible (first | assumption | refine cell_al _ ?_ | refine cell_eq _ ?_ | refine cell_ne _ ?_ ?_ | refine ex_set _ ?_ | refine ex_al _ ?_ | exact ⟨_, by assumption⟩) | (intro hh; injection hh with hh1 hh2; omega)); done) | go_simp))
      have hfs9 := frees_calls hb1 [⟨w.heap.size + 1, 0, none⟩, ⟨w.heap.size + 1, 1, none⟩, ⟨w.heap.size + 1, 2, none⟩] (by refine ⟨?_, ?_, ?_, trivial⟩ <;> first | with_reducible assumption | omega | (simp; omega) | (simp; done)) (by refine ⟨?_, ?_, ?_, trivial⟩ <;> (first | with_reducible assumption | ((repeat' first | with_reducible (first | assumption | refine frz_al _ ?_ ?_ | refine frz_set _ ?_) | omega | (simp; omega)); done) | go_simp))
      have hzs9 := blocks_calls hb1 [w.heap.size, w.heap.size + 1] (by refine ⟨?_, ?_, trivial⟩ <;> first | with_reducible assumption | omega | (simp; omega) | (simp; done))
      try clear c00 c01 c02
      try clear c10 c11 c12 f10 f11 f12
      obtain ⟨c00, c01, c02, c10, c11, c12, -⟩ := hcs9
      obtain ⟨f10, f11, f12, -⟩ := hfs9
      obtain ⟨z0, z1, -⟩ := hzs9
      have hs1 := hb1.size
      have o10 := z0
      have o11 := z1
      rw [k0]
      go_wp2_with fail
      refine (foDisc_D F _ hq0 hqf).mono ?_
      rintro en w2 ⟨rfl, hb2⟩
      have hcs9 := cells_calls hb2 [⟨w.heap.size, 0, none⟩, ⟨w.heap.size, 1, none⟩, ⟨w.heap.size, 2, none⟩, ⟨w.heap.size + 1, 0, none⟩, ⟨w.heap.size + 1, 1, none⟩, ⟨w.heap.size + 1, 2, none⟩] [.int .i64 (F.1), .int .i64 (F.2.1), .int .i64 (F.2.2), .int .i64 0, .int .i64 0, .int .i64 0] (by refine ⟨?_, ?_, ?_, ?_, ?_, ?_, trivial⟩ <;> (first | with_reducible assumption | ((repeat' first | with_reducible (first | assumption | refine cell_al _ ?_ | refine cell_eq _ ?_ | refine cell_ne _ ?_ ?_ | refine ex_set _ ?_ | refine ex_al _ ?_ | exact ⟨_, by assumption⟩) | (intro hh; injection hh with hh1 hh2; omega)); done) | go_simp))
      have hfs9 := frees_calls hb2 [⟨w.heap.size + 1, 0, none⟩, ⟨w.heap.size + 1, 1, none⟩, ⟨w.heap.size + 1, 2, none⟩] (by refine ⟨?_, ?_, ?_, trivial⟩ <;> first | with_reducible assumption | omega | (simp; omega) | (simp; done)) (by refine ⟨?_, ?_, ?_, trivial⟩ <;> (first | with_reducible assumption | ((repeat' first | with_reducible (first | assumption | refine frz_al _ ?_ ?_ | refine frz_set _ ?_) | omega | (simp; omega)); done) | go_simp))
      have hzs9 := blocks_calls hb2 [w.heap.size, w.heap.size + 1] (by refine ⟨?_, ?_, trivial⟩ <;> first | with_reducible assumption | omega | (simp; omega) | (simp; done))
      try clear c00 c01 c02
      try clear c10 c11 c12 f10 f11 f12
      obtain ⟨c00, c01, c02, c10, c11, c12, -⟩ := hcs9
      obtain ⟨f10, f11, f12, -⟩ := hfs9
      obtain ⟨z0, z1, -⟩ := hzs9
      have hs2 := hb2.size
      have o20 := z0
      have o21 := z1
      go_wp2_with fail
      refine (lvRoots_a d n _ (by omega) (by omega) hn1 hn2).mono ?_
      rintro en w3 ⟨la, lc, rfl, hil, hb3⟩
      have hcs9 := cells_calls hb3 [⟨w.heap.size, 0, none⟩, ⟨w.heap.size, 1, none⟩, ⟨w.heap.size, 2, none⟩, ⟨w.heap.size + 1, 0, none⟩, ⟨w.heap.size + 1, 1, none⟩, ⟨w.heap.size + 1, 2, none⟩] [.int .i64 (F.1), .int .i64 (F.2.1), .int .i64 (F.2.2), .int .i64 0, .int .i64 0, .int .i64 0] (by refine ⟨?_, ?_, ?_, ?_, ?_, ?_, trivial⟩ <;> (first | with_reducible assumption | ((repeat' first | with_reducible (first | assumption | refine cell_al _ ?_ | refine cell_eq _ ?_ | refine cell_ne _ ?_ ?_ | refine ex_set _ ?_ | refine ex_al _ ?_ | exact ⟨_, by assumption⟩) | (intro hh; injection hh with hh1 hh2; omega)); done) | go_simp))
      have hfs9 := frees_calls hb3 [⟨w.heap.size + 1, 0, none⟩, ⟨w.heap.size + 1, 1, none⟩, ⟨w.heap.size + 1, 2, none⟩] (by refine ⟨?_, ?_, ?_, trivial⟩ <;> first | with_reducible assumption | omega | (simp; omega) | (simp; done)) (by refine ⟨?_, ?_, ?_, trivial⟩ <;> (first | with_reducible assumption | ((repeat' first | with_reducible (first | assumption | refine frz_al _ ?_ ?_ | refine frz_set _ ?_) | omega | (simp; omega)); done) | go_simp))
      have hzs9 := blocks_calls hb3 [w.heap.size, w.heap.size + 1] (by refine ⟨?_, ?_, trivial⟩ <;> first | with_reducible assumption | omega | (simp; omega) | (simp; done))
      try clear c00 c01 c02
      try clear c10 c11 c12 f10 f11 f12
      obtain ⟨c00, c01, c02, c10, c11, c12, -⟩ := hcs9
      obtain ⟨f10, f11, f12, -⟩ := hfs9
      obtain ⟨z0, z1, -⟩ := hzs9
      have hs3 := hb3.size
      have hia := (IL.ints hil).2
      go_wp2_with fail
      refine (l1Has_i la _ _ _ lc _ r _ hlen hia).mono ?_
      rintro en w4 ⟨rfl, hb4⟩
      rw [has_root d n r hn1]
      have hcs9 := cells_calls hb4 [⟨w.heap.size, 0, none⟩, ⟨w.heap.size, 1, none⟩, ⟨w.heap.size, 2, none⟩, ⟨w.heap.size + 1, 0, none⟩, ⟨w.heap.size + 1, 1, none⟩, ⟨w.heap.size + 1, 2, none⟩] [.int .i64 (F.1), .int .i64 (F.2.1), .int .i64 (F.2.2), .int .i64 0, .int .i64 0, .int .i64 0] (by refine ⟨?_, ?_, ?_, ?_, ?_, ?_, trivial⟩ <;> (first | with_reducible assumption | ((repeat' first | with_reducible (first | assumption | refine cell_al _ ?_ | refine cell_eq _ ?_ | refine cell_ne _ ?_ ?_ | refine ex_set _ ?_ | refine ex_al _ ?_ | exact ⟨_, by assumption⟩) | (intro hh; injection hh with hh1 hh2; omega)); done) | go_simp))
      have hfs9 := frees_calls hb4 [⟨w.heap.size + 1, 0, none⟩, ⟨w.heap.size + 1, 1, none⟩, ⟨w.heap.size + 1, 2, none⟩] (by refine ⟨?_, ?_, ?_, trivial⟩ <;> first | with_reducible assumption | omega | (simp; omega) | (simp; done)) (by refine ⟨?_, ?_, ?_, trivial⟩ <;> (first | with_reducible assumption | ((repeat' first | with_reducible (first | assumption | refine frz_al _ ?_ ?_ | refine frz_set _ ?_) | omega | (simp; omega)); done) | go_simp))
      have hzs9 := blocks_calls hb4 [w.heap.size, w.heap.size + 1] (by refine ⟨?_, ?_, trivial⟩ <;> first | with_reducible assumption | omega | (simp; omega) | (simp; done))
      try clear c00 c01 c02
      try clear c10 c11 c12 f10 f11 f12
      obtain ⟨c00, c01, c02, c10, c11, c12, -⟩ := hcs9
      obtain ⟨f10, f11, f12, -⟩ := hfs9
      obtain ⟨z0, z1, -⟩ := hzs9
      have hs4 := hb4.size
      rw [k3]
      go_wp2
      refine bodyPost_ret (v := .tuple #[.agg #[.int .i64 0, .int .i64 0, .int .i64 0], .bool false]) (by simp [results, Try.results41, go_sem, *]) rfl ?_
      exact ⟨by rw [unhide HV] <;> rfl, by (repeat' first | with_reducible (first | exact Below.refl _ _ | assumption | refine gr_alloc ?_ _ | refine below_drewN ?_ _ | refine below_drew ?_ | refine gr_call ?_ (by assumption) | refine Below.setCell ?_ ?_ _) | go_size | omega | (simp; omega))⟩
    · have k4 := k3
      unfold rtB at k4
      simp only [Bool.and_eq_true, decide_eq_true_eq, beq_iff_eq] at k4
      obtain ⟨r0, r1, r2⟩ := k4
      obtain ⟨X, hX⟩ : ∃ X, X = lfX F n r := ⟨_, rfl⟩
      have HX := hide hX
      clear hX
      have HO : Hid (lfO F n r = true) := hide (by unfold lfO; rw [k0, ← unhide hdd, k3]; rfl)
      cases k4 : formB X.1 X.2.1 X.2.2
      · have HV : Hid ((.tuple #[frm (lfV F n r), .bool (lfB F n r)] : Value) = .tuple #[.agg #[.int .i64 0, .int .i64 0, .int .i64 0], .bool false]) := hide (by
          have e1 : lfB F n r = false := by unfold lfB; rw [← unhide HX, k4]; simp
          unfold lfV; rw [e1]; rfl)
        go_enter Try.func41, Try.ntmps41
        go_wp2_with fail
        refine (lvForm_a (F.1) (F.2.1) (F.2.2) n _).mono ?_
        rintro en w1 ⟨rfl, hb1⟩
        have hcs9 := cells_calls hb1 [⟨w.heap.size, 0, none⟩, ⟨w.heap.size, 1, none⟩, ⟨w.heap.size, 2, none⟩, ⟨w.heap.size + 1, 0, none⟩, ⟨w.heap.size + 1, 1, none⟩, ⟨w.heap.size + 1, 2, none⟩] [.int .i64 (F.1), .int .i64 (F.2.1), .int .i64 (F.2.2), .int .i64 0, .int .i64 0, .int .i64 0] (by refine ⟨?_, ?_, ?_, ?_, ?_, ?_, trivial⟩ <;> (first | with_reducible assumption | ((repeat' first | with_reducible (first | assumption | refine cell_al _ ?_ | refine cell_eq _ ?_ | refine cell_ne _ ?_ ?_ | refine ex_set _ ?_ | refine ex_al _ ?_ | exact ⟨_, by assumption⟩) | (intro hh; injection hh with hh1 hh2; omega)); done) | go_simp))
        have hfs9 := frees_calls hb1 [⟨w.heap.size + 1, 0, none⟩, ⟨w.heap.size + 1, 1, none⟩, ⟨w.heap.size + 1, 2, none⟩] (by refine ⟨?_, ?_, ?_, trivial⟩ <;> first | with_reducible assumption | omega | (simp; omega) | (simp; done)) (by refine ⟨?_, ?_, ?_, trivial⟩ <;> (first | with_reducible assumption | ((repeat' first | with_reducible (first | assumption | refine frz_al _ ?_ ?_ | refine frz_set _ ?_) | omega | (simp; omega)); done) | go_simp))
        have hzs9 := blocks_calls hb1 [w.heap.size, w.heap.size + 1] (by refine ⟨?_, ?_, trivial⟩ <;> first | with_reducible assumption | omega | (simp; omega) | (simp; done))
        try clear c00 c01 c02
        try clear c10 c11 c12 f10 f11 f12
        obtain ⟨c00, c01, c02, c10, c11, c12, -⟩ := hcs9
        obtain ⟨f10, f11, f12, -⟩ := hfs9
        obtain ⟨z0, z1, -⟩ := hzs9
        have hs1 := hb1.size
        have o10 := z0
        have o11 := z1
        rw [k0]
        go_wp2_with fail
        refine (foDisc_D F _ hq0 hqf).mono ?_
        rintro en w2 ⟨rfl, hb2⟩
        have hcs9 := cells_calls hb2 [⟨w.heap.size, 0, none⟩, ⟨w.heap.size, 1, none⟩, ⟨w.heap.size, 2, none⟩, ⟨w.heap.size + 1, 0, none⟩, ⟨w.heap.size + 1, 1, none⟩, ⟨w.heap.size + 1, 2, none⟩] [.int .i64 (F.1), .int .i64 (F.2.1), .int .i64 (F.2.2), .int .i64 0, .int .i64 0, .int .i64 0] (by refine ⟨?_, ?_, ?_, ?_, ?_, ?_, trivial⟩ <;> (first | with_reducible assumption | ((repeat' first | with_reducible (first | assumption | refine cell_al _ ?_ | refine cell_eq _ ?_ | refine cell_ne _ ?_ ?_ | refine ex_set _ ?_ | refine ex_al _ ?_ | exact ⟨_, by assumption⟩) | (intro hh; injection hh with hh1 hh2; omega)); done) | go_simp))
        have hfs9 := frees_calls hb2 [⟨w.heap.size + 1, 0, none⟩, ⟨w.heap.size + 1, 1, none⟩, ⟨w.heap.size + 1, 2, none⟩] (by refine ⟨?_, ?_, ?_, trivial⟩ <;> first | with_reducible assumption | omega | (simp; omega) | (simp; done)) (by refine ⟨?_, ?_, ?_, trivial⟩ <;> (first | with_reducible assumption | ((repeat' first | with_reducible (first | assumption | refine frz_al _ ?_ ?_ | refine frz_set _ ?_) | omega | (simp; omega)); done) | go_simp))
        have hzs9 := blocks_calls hb2 [w.heap.size, w.heap.size + 1] (by refine ⟨?_, ?_, trivial⟩ <;> first | with_reducible assumption | omega | (simp; omega) | (simp; done))
        try clear c00 c01 c02
        try clear c10 c11 c12 f10 f11 f12
        obtain ⟨c00, c01, c02, c10, c11, c12, -⟩ := hcs9
        obtain ⟨f10, f11, f12, -⟩ := hfs9
        obtain ⟨z0, z1, -⟩ := hzs9
        have hs2 := hb2.size
        have o20 := z0
        have o21 := z1
        go_wp2_with fail
        refine (lvRoots_a d n _ (by omega) (by omega) hn1 hn2).mono ?_
        rintro en w3 ⟨la, lc, rfl, hil, hb3⟩
        have hcs9 := cells_calls hb3 [⟨w.heap.size, 0, none⟩, ⟨w.heap.size, 1, none⟩, ⟨w.heap.size, 2, none⟩, ⟨w.heap.size + 1, 0, none⟩, ⟨w.heap.size + 1, 1, none⟩, ⟨w.heap.size + 1, 2, none⟩] [.int .i64 (F.1), .int .i64 (F.2.1), .int .i64 (F.2.2), .int .i64 0, .int .i64 0, .int .i64 0] (by refine ⟨?_, ?_, ?_, ?_, ?_, ?_, trivial⟩ <;> (first | with_reducible assumption | ((repeat' first | with_reducible (first | assumption | refine cell_al _ ?_ | refine cell_eq _ ?_ | refine cell_ne _ ?_ ?_ | refine ex_set _ ?_ | refine ex_al _ ?_ | exact ⟨_, by assumption⟩) | (intro hh; injection hh with hh1 hh2; omega)); done) | go_simp))
        have hfs9 := frees_calls hb3 [⟨w.heap.size + 1, 0, none⟩, ⟨w.heap.size + 1, 1, none⟩, ⟨w.heap.size + 1, 2, none⟩] (by refine ⟨?_, ?_, ?_, trivial⟩ <;> first | with_reducible assumption | omega | (simp; omega) | (simp; done)) (by refine ⟨?_, ?_, ?_, trivial⟩ <;> (first | with_reducible assumption | ((repeat' first | with_reducible (first | assumption | refine frz_al _ ?_ ?_ | refine frz_set _ ?_) | omega | (simp; omega)); done) | go_simp))
        have hzs9 := blocks_calls hb3 [w.heap.size, w.heap.size + 1] (by refine ⟨?_, ?_, trivial⟩ <;> first | with_reducible assumption | omega | (simp; omega) | (simp; done))
        try clear c00 c01 c02
        try clear c10 c11 c12 f10 f11 f12
        obtain ⟨c00, c01, c02, c10, c11, c12, -⟩ := hcs9
        obtain ⟨f10, f11, f12, -⟩ := hfs9
        obtain ⟨z0, z1, -⟩ := hzs9
        have hs3 := hb3.size
        have hia := (IL.ints hil).2
        go_wp2_with fail
        refine (l1Has_i la _ _ _ lc _ r _ hlen hia).mono ?_
        rintro en w4 ⟨rfl, hb4⟩
        rw [has_root d n r hn1]
        have hcs9 := cells_calls hb4 [⟨w.heap.size, 0, none⟩, ⟨w.heap.size, 1, none⟩, ⟨w.heap.size, 2, none⟩, ⟨w.heap.size + 1, 0, none⟩, ⟨w.heap.size + 1, 1, none⟩, ⟨w.heap.size + 1, 2, none⟩] [.int .i64 (F.1), .int .i64 (F.2.1), .int .i64 (F.2.2), .int .i64 0, .int .i64 0, .int .i64 0] (by refine ⟨?_, ?_, ?_, ?_, ?_, ?_, trivial⟩ <;> (first | with_reducible assumption | ((repeat' first | with_reducible (first | assumption | refine cell_al _ ?_ | refine cell_eq _ ?_ | refine cell_ne _ ?_ ?_ | refine ex_set _ ?_ | refine ex_al _ ?_ | exact ⟨_, by assumption⟩) | (intro hh; injection hh with hh1 hh2; omega)); done) | go_simp))
        have hfs9 := frees_calls hb4 [⟨w.heap.size + 1, 0, none⟩, ⟨w.heap.size + 1, 1, none⟩, ⟨w.heap.size + 1, 2, none⟩] (by refine ⟨?_, ?_, ?_, trivial⟩ <;> first | with_reducible assumption | omega | (simp; omega) | (simp; done)) (by refine ⟨?_, ?_, ?_, trivial⟩ <;> (first | with_reducible assumption | ((repeat' first | with_reducible (first | assumption | refine frz_al _ ?_ ?_ | refine frz_set _ ?_) | omega | (simp; omega)); done) | go_simp))
        have hzs9 := blocks_calls hb4 [w.heap.size, w.heap.size + 1] (by refine ⟨?_, ?_, trivial⟩ <;> first | with_reducible assumption | omega | (simp; omega) | (simp; done))
        try clear c00 c01 c02
        try clear c10 c11 c12 f10 f11 f12
        obtain ⟨c00, c01, c02, c10, c11, c12, -⟩ := hcs9
        obtain ⟨f10, f11, f12, -⟩ := hfs9
        obtain ⟨z0, z1, -⟩ := hzs9
        have hs4 := hb4.size
        rw [k3]
        go_wp2_with fail
        refine (lv_rws F X n r d _ hqd hn1 hn2 r0 r1 r2 (unhide HX)).mono ?_
        rintro en w5 ⟨rfl, hb5⟩
        have hcs9 := cells_calls hb5 [⟨w.heap.size, 0, none⟩, ⟨w.heap.size, 1, none⟩, ⟨w.heap.size, 2, none⟩, ⟨w.heap.size + 1, 0, none⟩, ⟨w.heap.size + 1, 1, none⟩, ⟨w.heap.size + 1, 2, none⟩] [.int .i64 (F.1), .int .i64 (F.2.1), .int .i64 (F.2.2), .int .i64 0, .int .i64 0, .int .i64 0] (by refine ⟨?_, ?_, ?_, ?_, ?_, ?_, trivial⟩ <;> (first | with_reducible assumption | ((repeat' first | with_reducible (first | assumption | refine cell_al _ ?_ | refine cell_eq _ ?_ | refine cell_ne _ ?_ ?_ | refine ex_set _ ?_ | refine ex_al _ ?_ | exact ⟨_, by assumption⟩) | (intro hh; injection hh with hh1 hh2; omega)); done) | go_simp))
        have hfs9 := frees_calls hb5 [⟨w.heap.size + 1, 0, none⟩, ⟨w.heap.size + 1, 1, none⟩, ⟨w.heap.size + 1, 2, none⟩] (by refine ⟨?_, ?_, ?_, trivial⟩ <;> first | with_reducible assumption | omega | (simp; omega) | (simp; done)) (by refine ⟨?_, ?_, ?_, trivial⟩ <;> (first | with_reducible assumption | ((repeat' first | with_reducible (first | assumption | refine frz_al _ ?_ ?_ | refine frz_set _ ?_) | omega | (simp; omega)); done) | go_simp))
        have hzs9 := blocks_calls hb5 [w.heap.size, w.heap.size + 1] (by refine ⟨?_, ?_, trivial⟩ <;> first | with_reducible assumption | omega | (simp; omega) | (simp; done))
        try clear c00 c01 c02
        try clear c10 c11 c12 f10 f11 f12
        obtain ⟨c00, c01, c02, c10, c11, c12, -⟩ := hcs9
        obtain ⟨f10, f11, f12, -⟩ := hfs9
        obtain ⟨z0, z1, -⟩ := hzs9
        have hs5 := hb5.size
        have o50 := z0
        have o51 := z1
        go_wp2_with fail
        refine (foGood_a X.1 X.2.1 X.2.2 _).mono ?_
        rintro en w6 ⟨rfl, hb6⟩
        have hcs9 := cells_calls hb6 [⟨w.heap.size, 0, none⟩, ⟨w.heap.size, 1, none⟩, ⟨w.heap.size, 2, none⟩, ⟨w.heap.size + 1, 0, none⟩, ⟨w.heap.size + 1, 1, none⟩, ⟨w.heap.size + 1, 2, none⟩] [.int .i64 (F.1), .int .i64 (F.2.1), .int .i64 (F.2.2), .int .i64 0, .int .i64 0, .int .i64 0] (by refine ⟨?_, ?_, ?_, ?_, ?_, ?_, trivial⟩ <;> (first | with_reducible assumption | ((repeat' first | with_reducible (first | assumption | refine cell_al _ ?_ | refine cell_eq _ ?_ | refine cell_ne _ ?_ ?_ | refine ex_set _ ?_ | refine ex_al _ ?_ | exact ⟨_, by assumption⟩) | (intro hh; injection hh with hh1 hh2; omega)); done) | go_simp))
        have hfs9 := frees_calls hb6 [⟨w.heap.size + 1, 0, none⟩, ⟨w.heap.size + 1, 1, none⟩, ⟨w.heap.size + 1, 2, none⟩] (by refine ⟨?_, ?_, ?_, trivial⟩ <;> first | with_reducible assumption | omega | (simp; omega) | (simp; done)) (by refine ⟨?_, ?_, ?_, trivial⟩ <;> (first | with_reducible assumption | ((repeat' first | with_reducible (first | assumption | refine frz_al _ ?_ ?_ | refine frz_set _ ?_) | omega | (simp; omega)); done) | go_simp))
        have hzs9 := blocks_calls hb6 [w.heap.size, w.heap.size + 1] (by refine ⟨?_, ?_, trivial⟩ <;> first | with_reducible assumption | omega | (simp; omega) | (simp; done))
        try clear c00 c01 c02
        try clear c10 c11 c12 f10 f11 f12
        obtain ⟨c00, c01, c02, c10, c11, c12, -⟩ := hcs9
        obtain ⟨f10, f11, f12, -⟩ := hfs9
        obtain ⟨z0, z1, -⟩ := hzs9
        have hs6 := hb6.size
        have o60 := z0
        have o61 := z1
        rw [k4]
        go_wp2
        refine bodyPost_ret (v := .tuple #[.agg #[.int .i64 0, .int .i64 0, .int .i64 0], .bool false]) (by simp [results, Try.results41, go_sem, *]) rfl ?_
        exact ⟨by rw [unhide HV] <;> rfl, by (repeat' first | with_reducible (first | exact Below.refl _ _ | assumption | refine gr_alloc ?_ _ | refine below_drewN ?_ _ | refine below_drew ?_ | refine gr_call ?_ (by assumption) | refine Below.setCell ?_ ?_ _) | go_size | omega | (simp; omega))⟩
      · have HV : Hid ((.tuple #[frm (lfV F n r), .bool (lfB F n r)] : Value) = .tuple #[frm X, .bool true]) := hide (by
          have e1 : lfB F n r = true := by unfold lfB; rw [unhide HO, ← unhide HX, k4]; rfl
          unfold lfV; rw [e1, if_pos rfl, ← unhide HX])
        go_enter Try.func41, Try.ntmps41
        go_wp2_with fail
        refine (lvForm_a (F.1) (F.2.1) (F.2.2) n _).mono ?_
        rintro en w1 ⟨rfl, hb1⟩
        have hcs9 := cells_calls hb1 [⟨w.heap.size, 0, none⟩, ⟨w.heap.size, 1, none⟩, ⟨w.heap.size, 2, none⟩, ⟨w.heap.size + 1, 0, none⟩, ⟨w.heap.size + 1, 1, none⟩, ⟨w.heap.size + 1, 2, none⟩] [.int .i64 (F.1), .int .i64 (F.2.1), .int .i64 (F.2.2), .int .i64 0, .int .i64 0, .int .i64 0] (by refine ⟨?_, ?_, ?_, ?_, ?_, ?_, trivial⟩ <;> (first | with_reducible assumption | ((repeat' first | with_reducible (first | assumption | refine cell_al _ ?_ | refine cell_eq _ ?_ | refine cell_ne _ ?_ ?_ | refine ex_set _ ?_ | refine ex_al _ ?_ | exact ⟨_, by assumption⟩) | (intro hh; injection hh with hh1 hh2; omega)); done) | go_simp))
        have hfs9 := frees_calls hb1 [⟨w.heap.size + 1, 0, none⟩, ⟨w.heap.size + 1, 1, none⟩, ⟨w.heap.size + 1, 2, none⟩] (by refine ⟨?_, ?_, ?_, trivial⟩ <;> first | with_reducible assumption | omega | (simp; omega) | (simp; done)) (by refine ⟨?_, ?_, ?_, trivial⟩ <;> (first | with_reducible assumption | ((repeat' first | with_reducible (first | assumption | refine frz_al _ ?_ ?_ | refine frz_set _ ?_) | omega | (simp; omega)); done) | go_simp))
        have hzs9 := blocks_calls hb1 [w.heap.size, w.heap.size + 1] (by refine ⟨?_, ?_, trivial⟩ <;> first | with_reducible assumption | omega | (simp; omega) | (simp; done))
        try clear c00 c01 c02
        try clear c10 c11 c12 f10 f11 f12
        obtain ⟨c00, c01, c02, c10, c11, c12, -⟩ := hcs9
        obtain ⟨f10, f11, f12, -⟩ := hfs9
        obtain ⟨z0, z1, -⟩ := hzs9
        have hs1 := hb1.size
        have o10 := z0
        have o11 := z1
        rw [k0]
        go_wp2_with fail
        refine (foDisc_D F _ hq0 hqf).mono ?_
        rintro en w2 ⟨rfl, hb2⟩
        have hcs9 := cells_calls hb2 [⟨w.heap.size, 0, none⟩, ⟨w.heap.size, 1, none⟩, ⟨w.heap.size, 2, none⟩, ⟨w.heap.size + 1, 0, none⟩, ⟨w.heap.size + 1, 1, none⟩, ⟨w.heap.size + 1, 2, none⟩] [.int .i64 (F.1), .int .i64 (F.2.1), .int .i64 (F.2.2), .int .i64 0, .int .i64 0, .int .i64 0] (by refine ⟨?_, ?_, ?_, ?_, ?_, ?_, trivial⟩ <;> (first | with_reducible assumption | ((repeat' first | with_reducible (first | assumption | refine cell_al _ ?_ | refine cell_eq _ ?_ | refine cell_ne _ ?_ ?_ | refine ex_set _ ?_ | refine ex_al _ ?_ | exact ⟨_, by assumption⟩) | (intro hh; injection hh with hh1 hh2; omega)); done) | go_simp))
        have hfs9 := frees_calls hb2 [⟨w.heap.size + 1, 0, none⟩, ⟨w.heap.size + 1, 1, none⟩, ⟨w.heap.size + 1, 2, none⟩] (by refine ⟨?_, ?_, ?_, trivial⟩ <;> first | with_reducible assumption | omega | (simp; omega) | (simp; done)) (by refine ⟨?_, ?_, ?_, trivial⟩ <;> (first | with_reducible assumption | ((repeat' first | with_reducible (first | assumption | refine frz_al _ ?_ ?_ | refine frz_set _ ?_) | omega | (simp; omega)); done) | go_simp))
        have hzs9 := blocks_calls hb2 [w.heap.size, w.heap.size + 1] (by refine ⟨?_, ?_, trivial⟩ <;> first | with_reducible assumption | omega | (simp; omega) | (simp; done))
        try clear c00 c01 c02
        try clear c10 c11 c12 f10 f11 f12
        obtain ⟨c00, c01, c02, c10, c11, c12, -⟩ := hcs9
        obtain ⟨f10, f11, f12, -⟩ := hfs9
        obtain ⟨z0, z1, -⟩ := hzs9
        have hs2 := hb2.size
        have o20 := z0
        have o21 := z1
        go_wp2_with fail
        refine (lvRoots_a d n _ (by omega) (by omega) hn1 hn2).mono ?_
        rintro en w3 ⟨la, lc, rfl, hil, hb3⟩
        have hcs9 := cells_calls hb3 [⟨w.heap.size, 0, none⟩, ⟨w.heap.size, 1, none⟩, ⟨w.heap.size, 2, none⟩, ⟨w.heap.size + 1, 0, none⟩, ⟨w.heap.size + 1, 1, none⟩, ⟨w.heap.size + 1, 2, none⟩] [.int .i64 (F.1), .int .i64 (F.2.1), .int .i64 (F.2.2), .int .i64 0, .int .i64 0, .int .i64 0] (by refine ⟨?_, ?_, ?_, ?_, ?_, ?_, trivial⟩ <;> (first | with_reducible assumption | ((repeat' first | with_reducible (first | assumption | refine cell_al _ ?_ | refine cell_eq _ ?_ | refine cell_ne _ ?_ ?_ | refine ex_set _ ?_ | refine ex_al _ ?_ | exact ⟨_, by assumption⟩) | (intro hh; injection hh with hh1 hh2; omega)); done) | go_simp))
        have hfs9 := frees_calls hb3 [⟨w.heap.size + 1, 0, none⟩, ⟨w.heap.size + 1, 1, none⟩, ⟨w.heap.size + 1, 2, none⟩] (by refine ⟨?_, ?_, ?_, trivial⟩ <;> first | with_reducible assumption | omega | (simp; omega) | (simp; done)) (by refine ⟨?_, ?_, ?_, trivial⟩ <;> (first | with_reducible assumption | ((repeat' first | with_reducible (first | assumption | refine frz_al _ ?_ ?_ | refine frz_set _ ?_) | omega | (simp; omega)); done) | go_simp))
        have hzs9 := blocks_calls hb3 [w.heap.size, w.heap.size + 1] (by refine ⟨?_, ?_, trivial⟩ <;> first | with_reducible assumption | omega | (simp; omega) | (simp; done))
        try clear c00 c01 c02
        try clear c10 c11 c12 f10 f11 f12
        obtain ⟨c00, c01, c02, c10, c11, c12, -⟩ := hcs9
        obtain ⟨f10, f11, f12, -⟩ := hfs9
        obtain ⟨z0, z1, -⟩ := hzs9
        have hs3 := hb3.size
        have hia := (IL.ints hil).2
        go_wp2_with fail
        refine (l1Has_i la _ _ _ lc _ r _ hlen hia).mono ?_
        rintro en w4 ⟨rfl, hb4⟩
        rw [has_root d n r hn1]
        have hcs9 := cells_calls hb4 [⟨w.heap.size, 0, none⟩, ⟨w.heap.size, 1, none⟩, ⟨w.heap.size, 2, none⟩, ⟨w.heap.size + 1, 0, none⟩, ⟨w.heap.size + 1, 1, none⟩, ⟨w.heap.size + 1, 2, none⟩] [.int .i64 (F.1), .int .i64 (F.2.1), .int .i64 (F.2.2), .int .i64 0, .int .i64 0, .int .i64 0] (by refine ⟨?_, ?_, ?_, ?_, ?_, ?_, trivial⟩ <;> (first | with_reducible assumption | ((repeat' first | with_reducible (first | assumption | refine cell_al _ ?_ | refine cell_eq _ ?_ | refine cell_ne _ ?_ ?_ | refine ex_set _ ?_ | refine ex_al _ ?_ | exact ⟨_, by assumption⟩) | (intro hh; injection hh with hh1 hh2; omega)); done) | go_simp))
        have hfs9 := frees_calls hb4 [⟨w.heap.size + 1, 0, none⟩, ⟨w.heap.size + 1, 1, none⟩, ⟨w.heap.size + 1, 2, none⟩] (by refine ⟨?_, ?_, ?_, trivial⟩ <;> first | with_reducible assumption | omega | (simp; omega) | (simp; done)) (by refine ⟨?_, ?_, ?_, trivial⟩ <;> (first | with_reducible assumption | ((repeat' first | with_reducible (first | assumption | refine frz_al _ ?_ ?_ | refine frz_set _ ?_) | omega | (simp; omega)); done) | go_simp))
        have hzs9 := blocks_calls hb4 [w.heap.size, w.heap.size + 1] (by refine ⟨?_, ?_, trivial⟩ <;> first | with_reducible assumption | omega | (simp; omega) | (simp; done))
        try clear c00 c01 c02
        try clear c10 c11 c12 f10 f11 f12
        obtain ⟨c00, c01, c02, c10, c11, c12, -⟩ := hcs9
        obtain ⟨f10, f11, f12, -⟩ := hfs9
        obtain ⟨z0, z1, -⟩ := hzs9
        have hs4 := hb4.size
        rw [k3]
        go_wp2_with fail
        refine (lv_rws F X n r d _ hqd hn1 hn2 r0 r1 r2 (unhide HX)).mono ?_
        rintro en w5 ⟨rfl, hb5⟩
        have hcs9 := cells_calls hb5 [⟨w.heap.size, 0, none⟩, ⟨w.heap.size, 1, none⟩, ⟨w.heap.size, 2, none⟩, ⟨w.heap.size + 1, 0, none⟩, ⟨w.heap.size + 1, 1, none⟩, ⟨w.heap.size + 1, 2, none⟩] [.int .i64 (F.1), .int .i64 (F.2.1), .int .i64 (F.2.2), .int .i64 0, .int .i64 0, .int .i64 0] (by refine ⟨?_, ?_, ?_, ?_, ?_, ?_, trivial⟩ <;> (first | with_reducible assumption | ((repeat' first | with_reducible (first | assumption | refine cell_al _ ?_ | refine cell_eq _ ?_ | refine cell_ne _ ?_ ?_ | refine ex_set _ ?_ | refine ex_al _ ?_ | exact ⟨_, by assumption⟩) | (intro hh; injection hh with hh1 hh2; omega)); done) | go_simp))
        have hfs9 := frees_calls hb5 [⟨w.heap.size + 1, 0, none⟩, ⟨w.heap.size + 1, 1, none⟩, ⟨w.heap.size + 1, 2, none⟩] (by refine ⟨?_, ?_, ?_, trivial⟩ <;> first | with_reducible assumption | omega | (simp; omega) | (simp; done)) (by refine ⟨?_, ?_, ?_, trivial⟩ <;> (first | with_reducible assumption | ((repeat' first | with_reducible (first | assumption | refine frz_al _ ?_ ?_ | refine frz_set _ ?_) | omega | (simp; omega)); done) | go_simp))
        have hzs9 := blocks_calls hb5 [w.heap.size, w.heap.size + 1] (by refine ⟨?_, ?_, trivial⟩ <;> first | with_reducible assumption | omega | (simp; omega) | (simp; done))
        try clear c00 c01 c02
        try clear c10 c11 c12 f10 f11 f12
        obtain ⟨c00, c01, c02, c10, c11, c12, -⟩ := hcs9
        obtain ⟨f10, f11, f12, -⟩ := hfs9
        obtain ⟨z0, z1, -⟩ := hzs9
        have hs5 := hb5.size
        have o50 := z0
        have o51 := z1
        go_wp2_with fail
        refine (foGood_a X.1 X.2.1 X.2.2 _).mono ?_
        rintro en w6 ⟨rfl, hb6⟩
        have hcs9 := cells_calls hb6 [⟨w.heap.size, 0, none⟩, ⟨w.heap.size, 1, none⟩, ⟨w.heap.size, 2, none⟩, ⟨w.heap.size + 1, 0, none⟩, ⟨w.heap.size + 1, 1, none⟩, ⟨w.heap.size + 1, 2, none⟩] [.int .i64 (F.1), .int .i64 (F.2.1), .int .i64 (F.2.2), .int .i64 0, .int .i64 0, .int .i64 0] (by refine ⟨?_, ?_, ?_, ?_, ?_, ?_, trivial⟩ <;> (first | with_reducible assumption | ((repeat' first | with_reducible (first | assumption | refine cell_al _ ?_ | refine cell_eq _ ?_ | refine cell_ne _ ?_ ?_ | refine ex_set _ ?_ | refine ex_al _ ?_ | exact ⟨_, by assumption⟩) | (intro hh; injection hh with hh1 hh2; omega)); done) | go_simp))
        have hfs9 := frees_calls hb6 [⟨w.heap.size + 1, 0, none⟩, ⟨w.heap.size + 1, 1, none⟩, ⟨w.heap.size + 1, 2, none⟩] (by refine ⟨?_, ?_, ?_, trivial⟩ <;> first | with_reducible assumption | omega | (simp; omega) | (simp; done)) (by refine ⟨?_, ?_, ?_, trivial⟩ <;> (first | with_reducible assumption | ((repeat' first | with_reducible (first | assumption | refine frz_al _ ?_ ?_ | refine frz_set _ ?_) | omega | (simp; omega)); done) | go_simp))
        have hzs9 := blocks_calls hb6 [w.heap.size, w.heap.size + 1] (by refine ⟨?_, ?_, trivial⟩ <;> first | with_reducible assumption | omega | (simp; omega) | (simp; done))
        try clear c00 c01 c02
        try clear c10 c11 c12 f10 f11 f12
        obtain ⟨c00, c01, c02, c10, c11, c12, -⟩ := hcs9
        obtain ⟨f10, f11, f12, -⟩ := hfs9
        obtain ⟨z0, z1, -⟩ := hzs9
        have hs6 := hb6.size
        have o60 := z0
        have o61 := z1
        rw [k4]
        go_wp2_with fail
        refine (lv_rws F X n r d _ hqd hn1 hn2 r0 r1 r2 (unhide HX)).mono ?_
        rintro en w7 ⟨rfl, hb7⟩
        have hcs9 := cells_calls hb7 [⟨w.heap.size, 0, none⟩, ⟨w.heap.size, 1, none⟩, ⟨w.heap.size, 2, none⟩, ⟨w.heap.size + 1, 0, none⟩, ⟨w.heap.size + 1, 1, none⟩, ⟨w.heap.size + 1, 2, none⟩] [.int .i64 (F.1), .int .i64 (F.2.1), .int .i64 (F.2.2), .int .i64 0, .int .i64 0, .int .i64 0] (by refine ⟨?_, ?_, ?_, ?_, ?_, ?_, trivial⟩ <;> (first | with_reducible assumption | ((repeat' first | with_reducible (first | assumption | refine cell_al _ ?_ | refine cell_eq _ ?_ | refine cell_ne _ ?_ ?_ | refine ex_set _ ?_ | refine ex_al _ ?_ | exact ⟨_, by assumption⟩) | (intro hh; injection hh with hh1 hh2; omega)); done) | go_simp))
        have hfs9 := frees_calls hb7 [⟨w.heap.size + 1, 0, none⟩, ⟨w.heap.size + 1, 1, none⟩, ⟨w.heap.size + 1, 2, none⟩] (by refine ⟨?_, ?_, ?_, trivial⟩ <;> first | with_reducible assumption | omega | (simp; omega) | (simp; done)) (by refine ⟨?_, ?_, ?_, trivial⟩ <;> (first | with_reducible assumption | ((repeat' first | with_reducible (first | assumption | refine frz_al _ ?_ ?_ | refine frz_set _ ?_) | omega | (simp; omega)); done) | go_simp))
        have hzs9 := blocks_calls hb7 [w.heap.size, w.heap.size + 1] (by refine ⟨?_, ?_, trivial⟩ <;> first | with_reducible assumption | omega | (simp; omega) | (simp; done))
        try clear c00 c01 c02
        try clear c10 c11 c12 f10 f11 f12
        obtain ⟨c00, c01, c02, c10, c11, c12, -⟩ := hcs9
        obtain ⟨f10, f11, f12, -⟩ := hfs9
        obtain ⟨z0, z1, -⟩ := hzs9
        have hs7 := hb7.size
        have o70 := z0
        have o71 := z1
        go_wp2
        refine bodyPost_ret (v := .tuple #[frm X, .bool true]) (by simp [results, Try.results41, go_sem, *]) rfl ?_
        exact ⟨by rw [unhide HV] <;> rfl, by (repeat' first | with_reducible (first | exact Below.refl _ _ | assumption | refine gr_alloc ?_ _ | refine below_drewN ?_ _ | refine below_drew ?_ | refine gr_call ?_ (by assumption) | refine Below.setCell ?_ ?_ _) | go_size | omega | (simp; omega))⟩
end Go.Proofs.Ytninagdclibmnaa
