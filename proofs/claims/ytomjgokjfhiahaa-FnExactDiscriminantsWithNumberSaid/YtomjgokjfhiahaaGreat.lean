/-
  GreatestNumber on both sides, and the law's walk.
-/
import Derived.Test.YtomjgokjfhiahaaPrim
namespace Go.Proofs.Ytomjgokjfhiahaa
open Go.RowKit
set_option linter.unusedVariables false
set_option linter.unusedSimpArgs false
attribute [local go_sem] q2 q3 q4 q5 q6 q7 q8 q9 q10 q11 q12

theorem IntsAt.cell {w : World} {lo hi n : Nat} {a : Option Addr} {f : Nat → Int} (h : IntsAt w lo hi a n f) {i : Nat} (hi' : i < n) : ∃ g, a = some ⟨g, 0, none⟩ ∧ g < w.heap.size ∧ w.cell? ⟨g, i, none⟩ = some (.int .i64 (f i)) := by
  rcases h with h | ⟨g, cap, F, ha, h1, h2, h3, r, e⟩
  · omega
  · exact ⟨g, ha, r.lt, by rw [r.cell (i := i) (by omega), e i hi']⟩
def rgB (lo hi : Int) : Bool := inB lo (-2000) hi && decide (hi ≤ -3)
theorem rg_true {lo hi : Int} (h : rgB lo hi = true) : -2000 ≤ lo ∧ lo ≤ hi ∧ hi ≤ -3 := by
  unfold rgB at h; simp at h
  have := inB_true h.1
  exact ⟨this.1, this.2, h.2⟩
/-- The class number. -/
def hN (d : Int) : Int := ((rfL d).length : Int)
theorem hN_bd {d : Int} (h : negB d = true) : 0 ≤ hN d ∧ hN d ≤ 676 := by
  obtain ⟨h0, h1⟩ := neg_true h
  have := rfL_len h0 h1
  unfold hN; omega
def gnK (ds : List Int) : Nat → Int × Int
  | 0 => (0, 0)
  | k + 1 => if (gnK ds k).1 ≤ hN (ds.getD k 0) then (hN (ds.getD k 0), ds.getD k 0) else gnK ds k
theorem gn_yes {ds : List Int} {k : Nat} {m a : Int} (h : gnK ds k = (m, a)) (c : m ≤ hN (ds.getD k 0)) : gnK ds (k + 1) = (hN (ds.getD k 0), ds.getD k 0) := by
  rw [gnK, h, if_pos c]
theorem gn_no {ds : List Int} {k : Nat} {m a : Int} (h : gnK ds k = (m, a)) (c : ¬ m ≤ hN (ds.getD k 0)) : gnK ds (k + 1) = (m, a) := by
  rw [gnK, h, if_neg c]
def gnM (lo hi : Int) : Int := if rgB lo hi then (gnK (dcL lo hi) (dcL lo hi).length).1 else 0
def gnA (lo hi : Int) : Int := if rgB lo hi then (gnK (dcL lo hi) (dcL lo hi).length).2 else 0
def gnO (lo hi : Int) : Bool := decide (0 < gnM lo hi)
theorem getD_mem {ds : List Int} {k : Nat} (h : k < ds.length) : ds.getD k 0 ∈ ds := by
  rw [List.getD_eq_getElem?_getD, List.getElem?_eq_getElem h]; exact List.getElem_mem h
theorem retw {a b a' b' : Int} {c c' : Bool} (h1 : a = a') (h2 : b = b') (h3 : c = c') : Ending.returned (.tuple #[.int .i64 a, .int .i64 b, .bool c]) = .returned (.tuple #[.int .i64 a', .int .i64 b', .bool c']) := by rw [h1, h2, h3]

set_option maxRecDepth 100000 in
set_option maxHeartbeats 1000000 in
theorem isRange_a (lo hi : Int) (w : World) :
    Calls Try.prog 92 #[.int .i64 lo, .int .i64 hi] w fun e w' => e = .returned (.bool (rgB lo hi)) ∧ w = w' := by
  by_cases k0 : -2000 ≤ lo
  · by_cases k1 : lo ≤ hi
    · by_cases k2 : hi ≤ -3
      · go_enter Try.func92, Try.ntmps92
        go_wp2
        go_returns
        exact ⟨ret_bool (by simp [rgB, inB, k0, k1, k2] <;> (try (intros; omega))), rfl⟩
      · go_enter Try.func92, Try.ntmps92
        go_wp2
        go_returns
        exact ⟨ret_bool (by simp [rgB, inB, k0, k1, k2] <;> (try (intros; omega))), rfl⟩
    · go_enter Try.func92, Try.ntmps92
      go_wp2
      go_returns
      exact ⟨ret_bool (by simp [rgB, inB, k0, k1] <;> (try (intros; omega))), rfl⟩
  · go_enter Try.func92, Try.ntmps92
    go_wp2
    go_returns
    exact ⟨ret_bool (by simp [rgB, inB, k0] <;> (try (intros; omega))), rfl⟩

set_option maxRecDepth 100000 in
set_option maxHeartbeats 1000000 in
theorem tbRange_a (lo hi : Int) (w : World) :
    Calls Try.prog 89 #[.int .i64 lo, .int .i64 hi] w fun e w' => e = .returned (.bool (rgB lo hi)) ∧ w = w' := by
  cases k0 : inB lo (-2000) hi
  · go_enter Try.func89, Try.ntmps89
    go_wp2_with (go_at_call 69; refine (l1In_any _ _ _ _).mono ?_; rintro e w' ⟨rfl, rfl⟩)
    go_returns
    exact ⟨ret_bool (by simp [rgB, k0] <;> (try (intros; omega))), rfl⟩
  · by_cases k1 : hi ≤ -3
    · go_enter Try.func89, Try.ntmps89
      go_wp2_with (go_at_call 69; refine (l1In_any _ _ _ _).mono ?_; rintro e w' ⟨rfl, rfl⟩)
      go_returns
      exact ⟨ret_bool (by simp [rgB, k0, k1] <;> (try (intros; omega))), rfl⟩
    · go_enter Try.func89, Try.ntmps89
      go_wp2_with (go_at_call 69; refine (l1In_any _ _ _ _).mono ?_; rintro e w' ⟨rfl, rfl⟩)
      go_returns
      exact ⟨ret_bool (by simp [rgB, k0, k1] <;> (try (intros; omega))), rfl⟩

set_option maxRecDepth 100000 in
set_option maxHeartbeats 4000000 in
theorem implGreatestNumber_a (lo hi : Int) (w : World) :
    Calls Try.prog 40 #[.int .i64 lo, .int .i64 hi] w fun e w' => e = .returned (.tuple #[.int .i64 (gnM lo hi), .int .i64 (gnA lo hi), .bool (gnO lo hi)]) ∧ Below w.heap.size w w' := by
  cases h : rgB lo hi
  · have e1 : gnM lo hi = 0 := by simp [gnM, h]
    have e2 : gnA lo hi = 0 := by simp [gnA, h]
    have e3 : gnO lo hi = false := by simp [gnO, e1]
    have E1 := hide e1
    have E2 := hide e2
    have E3 := hide e3
    clear e1 e2 e3
    go_enter Try.func40, Try.ntmps40
    go_wp2_with (go_at_call 92; refine (isRange_a _ _ _).mono ?_; rintro e w' ⟨rfl, rfl⟩)
    go_returns
    exact ⟨retw (unhide E1).symm (unhide E2).symm (unhide E3).symm, by (repeat' (first | (with_reducible exact Below.refl _ _) | (with_reducible assumption) | (with_reducible refine gr_alloc ?_ _) | (with_reducible refine below_drewN ?_ _) | (with_reducible refine below_drew ?_) | (with_reducible refine gr_call ?_ (by assumption)) | (with_reducible refine Below.setCell ?_ ?_ _) | go_size | omega | (simp; omega)))⟩
  · obtain ⟨r0, r1, r2⟩ := rg_true h
    have HC : Calls Try.prog 93 #[.int .i64 lo, .int .i64 hi] w (RetIL w (dcL lo hi)) := discsIn_a lo hi w r0 r2
    have hlen := dcL_len (lo := lo) (hi := hi) r0 r2
    have HM := fun x hx => dcL_mem (lo := lo) (hi := hi) (x := x) hx
    have e1 : gnM lo hi = (gnK (dcL lo hi) (dcL lo hi).length).1 := by simp [gnM, h]
    have e2 : gnA lo hi = (gnK (dcL lo hi) (dcL lo hi).length).2 := by simp [gnA, h]
    have E1 := hide e1
    have E2 := hide e2
    clear e1 e2
    generalize dcL lo hi = ds at *
    go_enter Try.func40, Try.ntmps40
    go_wp2_with (first | (go_at_call 92; refine (isRange_a _ _ _).mono ?_; rintro e w' ⟨rfl, rfl⟩) | (go_at_call 93; refine HC.mono ?_; rintro e wA ⟨a0, c0, rfl, hlA, hbA⟩))
    have hF0 := hlA.ints.2
    clear HC
    go_loopw [7, 8, 20] (fun ms zs is wr => ∃ (k : Nat) (m a : Int), k ≤ ds.length ∧ is = .int .i64 (k : Int) ∧ ms = .int .i64 m ∧ zs = .int .i64 a ∧ gnK ds k = (m, a) ∧ 0 ≤ m ∧ m ≤ 676 ∧ Below w.heap.size w wr ∧ IntsAt wr w.heap.size wA.heap.size a0 ds.length (fun i => ds.getD i 0) ∧ wA.heap.size ≤ wr.heap.size) (fun _ _ is _ => ds.length - (intOf is).toNat)
    case atStart => exact ⟨0, 0, 0, by omega, rfl, rfl, rfl, rfl, by omega, by omega, hbA, hF0, Nat.le_refl _⟩
    case round =>
      obtain ⟨k, m, a, hk, rfl, rfl, rfl, hg, m0, m1, hb, hI, hzA⟩ := hrel
      obtain ⟨w1, rfl⟩ : ∃ w1 : World, w1 = wr := ⟨_, rfl⟩
      have HG := hide hg
      clear hg
      have hz := hb.size
      by_cases c : k < ds.length
      · have hci : (k : Int) < (ds.length : Int) := by omega
        obtain ⟨g0, hga, hg2, c0⟩ := hI.cell c
        have hx := HM _ (getD_mem c)
        obtain ⟨hx0, hx1⟩ := neg_true hx
        obtain ⟨hn0, hn1⟩ := hN_bd hx
        subst hga
        by_cases cm : m ≤ hN (ds.getD k 0)
        · have hn := gn_yes (unhide HG) cm
          have HN := hide hn
          clear hn
          generalize hxx : ds.getD k 0 = x at *
          have XX := hide hxx
          clear hxx
          have hlen : ((rfL x).length : Int) = hN x := rfl
          have tt : m ≤ ((rfL x).length : Int) := by rw [hlen]; omega
          clear hlen
          go_wp2_with (go_at_call 94; refine (reducedForms_a _ _ hx0 hx1).mono ?_; rintro e w2 ⟨a2, c2, rfl, hl2, hb2⟩)
          go_roundw
          case rel => first | exact ⟨k + 1, hN x, x, by omega, by first | rfl | go_num, rfl, rfl, unhide HN, by omega, by omega, hb.trans (hb2.mono hb.size), hI.below (hb2) (by have := hzA; omega), by have := hb2.size; omega⟩ | ((repeat apply Exists.intro); exact ⟨⟨k + 1, hN x, x, by omega, by first | rfl | go_num, rfl, rfl, unhide HN, by omega, by omega, hb.trans (hb2.mono hb.size), hI.below (hb2) (by have := hzA; omega), by have := hb2.size; omega⟩, rfl⟩)
          case measure => simp [intOf]; omega
        · have hn := gn_no (unhide HG) cm
          have HN := hide hn
          clear hn
          generalize hxx : ds.getD k 0 = x at *
          have XX := hide hxx
          clear hxx
          have hlen : ((rfL x).length : Int) = hN x := rfl
          have tt : ((rfL x).length : Int) < m := by rw [hlen]; omega
          clear hlen
          go_wp2_with (go_at_call 94; refine (reducedForms_a _ _ hx0 hx1).mono ?_; rintro e w2 ⟨a2, c2, rfl, hl2, hb2⟩)
          go_roundw
          case rel => first | exact ⟨k + 1, m, a, by omega, by first | rfl | go_num, rfl, rfl, unhide HN, by omega, by omega, hb.trans (hb2.mono hb.size), hI.below (hb2) (by have := hzA; omega), by have := hb2.size; omega⟩ | ((repeat apply Exists.intro); exact ⟨⟨k + 1, m, a, by omega, by first | rfl | go_num, rfl, rfl, unhide HN, by omega, by omega, hb.trans (hb2.mono hb.size), hI.below (hb2) (by have := hzA; omega), by have := hb2.size; omega⟩, rfl⟩)
          case measure => simp [intOf]; omega
      · obtain rfl : k = ds.length := by omega
        have f1 : gnM lo hi = m := by rw [unhide E1, unhide HG]
        have f2 : gnA lo hi = a := by rw [unhide E2, unhide HG]
        have F1 := hide f1
        have F2 := hide f2
        clear f1 f2
        by_cases cz : 0 < m
        all_goals
          go_wp2
          go_returns
          exact ⟨retw (unhide F1).symm (unhide F2).symm (by unfold gnO; rw [unhide F1]; simp; omega), hb⟩

set_option maxRecDepth 100000 in
set_option maxHeartbeats 4000000 in
theorem specGreatestNumber_a (lo hi : Int) (w : World) :
    Calls Try.prog 39 #[.int .i64 lo, .int .i64 hi] w fun e w' => e = .returned (.tuple #[.int .i64 (gnM lo hi), .int .i64 (gnA lo hi), .bool (gnO lo hi)]) ∧ Below w.heap.size w w' := by
  cases h : rgB lo hi
  · have e1 : gnM lo hi = 0 := by simp [gnM, h]
    have e2 : gnA lo hi = 0 := by simp [gnA, h]
    have e3 : gnO lo hi = false := by simp [gnO, e1]
    have E1 := hide e1
    have E2 := hide e2
    have E3 := hide e3
    clear e1 e2 e3
    go_enter Try.func39, Try.ntmps39
    go_wp2_with (go_at_call 89; refine (tbRange_a _ _ _).mono ?_; rintro e w' ⟨rfl, rfl⟩)
    go_returns
    exact ⟨retw (unhide E1).symm (unhide E2).symm (unhide E3).symm, by (repeat' (first | (with_reducible exact Below.refl _ _) | (with_reducible assumption) | (with_reducible refine gr_alloc ?_ _) | (with_reducible refine below_drewN ?_ _) | (with_reducible refine below_drew ?_) | (with_reducible refine gr_call ?_ (by assumption)) | (with_reducible refine Below.setCell ?_ ?_ _) | go_size | omega | (simp; omega)))⟩
  · obtain ⟨r0, r1, r2⟩ := rg_true h
    have HC : Calls Try.prog 90 #[.int .i64 lo, .int .i64 hi] w (RetIL w (dcL lo hi)) := tbDiscs_a lo hi w r0 r2
    have hlen := dcL_len (lo := lo) (hi := hi) r0 r2
    have HM := fun x hx => dcL_mem (lo := lo) (hi := hi) (x := x) hx
    have e1 : gnM lo hi = (gnK (dcL lo hi) (dcL lo hi).length).1 := by simp [gnM, h]
    have e2 : gnA lo hi = (gnK (dcL lo hi) (dcL lo hi).length).2 := by simp [gnA, h]
    have E1 := hide e1
    have E2 := hide e2
    clear e1 e2
    generalize dcL lo hi = ds at *
    go_enter Try.func39, Try.ntmps39
    go_wp2_with (first | (go_at_call 89; refine (tbRange_a _ _ _).mono ?_; rintro e w' ⟨rfl, rfl⟩) | (go_at_call 90; refine HC.mono ?_; rintro e wA ⟨a0, c0, rfl, hlA, hbA⟩))
    have hF0 := hlA.ints.2
    clear HC
    go_loopw [7, 8, 20] (fun ms zs is wr => ∃ (k : Nat) (m a : Int), k ≤ ds.length ∧ is = .int .i64 (k : Int) ∧ ms = .int .i64 m ∧ zs = .int .i64 a ∧ gnK ds k = (m, a) ∧ 0 ≤ m ∧ m ≤ 676 ∧ Below w.heap.size w wr ∧ IntsAt wr w.heap.size wA.heap.size a0 ds.length (fun i => ds.getD i 0) ∧ wA.heap.size ≤ wr.heap.size) (fun _ _ is _ => ds.length - (intOf is).toNat)
    case atStart => exact ⟨0, 0, 0, by omega, rfl, rfl, rfl, rfl, by omega, by omega, hbA, hF0, Nat.le_refl _⟩
    case round =>
      obtain ⟨k, m, a, hk, rfl, rfl, rfl, hg, m0, m1, hb, hI, hzA⟩ := hrel
      obtain ⟨w1, rfl⟩ : ∃ w1 : World, w1 = wr := ⟨_, rfl⟩
      have HG := hide hg
      clear hg
      have hz := hb.size
      by_cases c : k < ds.length
      · have hci : (k : Int) < (ds.length : Int) := by omega
        obtain ⟨g0, hga, hg2, c0⟩ := hI.cell c
        have hx := HM _ (getD_mem c)
        obtain ⟨hx0, hx1⟩ := neg_true hx
        obtain ⟨hn0, hn1⟩ := hN_bd hx
        subst hga
        by_cases cm : m ≤ hN (ds.getD k 0)
        · have hn := gn_yes (unhide HG) cm
          have HN := hide hn
          clear hn
          generalize hxx : ds.getD k 0 = x at *
          have XX := hide hxx
          clear hxx
          have hlen : ((rfL x).length : Int) = hN x := rfl
          have tt : m ≤ ((rfL x).length : Int) := by rw [hlen]; omega
          clear hlen
          go_wp2_with (go_at_call 91; refine (reList_a _ _ hx0 hx1).mono ?_; rintro e w2 ⟨a2, c2, rfl, hl2, hb2⟩)
          go_roundw
          case rel => first | exact ⟨k + 1, hN x, x, by omega, by first | rfl | go_num, rfl, rfl, unhide HN, by omega, by omega, hb.trans (hb2.mono hb.size), hI.below (hb2) (by have := hzA; omega), by have := hb2.size; omega⟩ | ((repeat apply Exists.intro); exact ⟨⟨k + 1, hN x, x, by omega, by first | rfl | go_num, rfl, rfl, unhide HN, by omega, by omega, hb.trans (hb2.mono hb.size), hI.below (hb2) (by have := hzA; omega), by have := hb2.size; omega⟩, rfl⟩)
          case measure => simp [intOf]; omega
        · have hn := gn_no (unhide HG) cm
          have HN := hide hn
          clear hn
          generalize hxx : ds.getD k 0 = x at *
          have XX := hide hxx
          clear hxx
          have hlen : ((rfL x).length : Int) = hN x := rfl
          have tt : ((rfL x).length : Int) < m := by rw [hlen]; omega
          clear hlen
          go_wp2_with (go_at_call 91; refine (reList_a _ _ hx0 hx1).mono ?_; rintro e w2 ⟨a2, c2, rfl, hl2, hb2⟩)
          go_roundw
          case rel => first | exact ⟨k + 1, m, a, by omega, by first | rfl | go_num, rfl, rfl, unhide HN, by omega, by omega, hb.trans (hb2.mono hb.size), hI.below (hb2) (by have := hzA; omega), by have := hb2.size; omega⟩ | ((repeat apply Exists.intro); exact ⟨⟨k + 1, m, a, by omega, by first | rfl | go_num, rfl, rfl, unhide HN, by omega, by omega, hb.trans (hb2.mono hb.size), hI.below (hb2) (by have := hzA; omega), by have := hb2.size; omega⟩, rfl⟩)
          case measure => simp [intOf]; omega
      · obtain rfl : k = ds.length := by omega
        have f1 : gnM lo hi = m := by rw [unhide E1, unhide HG]
        have f2 : gnA lo hi = a := by rw [unhide E2, unhide HG]
        have F1 := hide f1
        have F2 := hide f2
        clear f1 f2
        by_cases cz : 0 < m
        all_goals
          go_wp2
          go_returns
          exact ⟨retw (unhide F1).symm (unhide F2).symm (by unfold gnO; rw [unhide F1]; simp; omega), hb⟩

set_option maxRecDepth 100000 in
set_option maxHeartbeats 2000000 in
theorem lawGreatestNumber (lo hi : Int) (w : World) :
    Calls Try.prog 10 #[.int .i64 lo, .int .i64 hi] w fun e w' => e = .returned (.bool true) ∧ Below w.heap.size w w' := by
  go_enter Try.func10, Try.ntmps10
  go_wp2_with (first | (go_at_call 39; refine (specGreatestNumber_a _ _ _).mono ?_; rintro e w1 ⟨rfl, hb⟩; obtain ⟨hc, hf⟩ := bcell hb; have hl := lt_keep hb; have hs := hb.size) | (go_at_call 40; refine (implGreatestNumber_a _ _ _).mono ?_; rintro e w1 ⟨rfl, hb⟩; obtain ⟨hc, hf⟩ := bcell hb; have hl := lt_keep hb; have hs := hb.size))
  go_returns
  refine ⟨rfl, ?_⟩
  (repeat' (first | (with_reducible exact Below.refl _ _) | (with_reducible assumption) | (with_reducible refine gr_alloc ?_ _) | (with_reducible refine below_drewN ?_ _) | (with_reducible refine below_drew ?_) | (with_reducible refine gr_call ?_ (by assumption)) | (with_reducible refine Below.setCell ?_ ?_ _) | go_size | omega | (simp; omega)))
end Go.Proofs.Ytomjgokjfhiahaa
