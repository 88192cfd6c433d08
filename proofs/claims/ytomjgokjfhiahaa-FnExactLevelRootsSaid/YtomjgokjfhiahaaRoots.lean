/-
  Roots of a discriminant: rootsOfDiscriminant, lvRoots, LevelRoots on both sides, the law's walk.
-/
import Derived.Test.YtomjgokjfhiahaaLevel
import Derived.Test.YtomjgokjfhiahaaFilter
namespace Go.Proofs.Ytomjgokjfhiahaa
open Go.RowKit
set_option linter.unusedVariables false
set_option linter.unusedSimpArgs false
attribute [local go_sem] q2 q3 q4 q5 q6 q7 q8 q9 q10 q11 q12

def rtP (d n : Int) (k : Nat) : Bool := ((k : Int) * (k : Int) - d) % (4 * n) == 0
def rtL (d n : Int) : List Int := flN (rtP d n) (fun k => (k : Int)) (2 * n).toNat
theorem rt_sq {k : Nat} {n : Int} (h : (k : Int) < 2 * n) (hn : n ≤ 30) : 0 ≤ (k : Int) * (k : Int) ∧ (k : Int) * (k : Int) ≤ 3600 := by
  have := mul_bd (a := (k : Int)) (b := (k : Int)) (A := 60) (B := 60) (by omega) (by omega) (by omega)
  exact ⟨Int.mul_nonneg (by omega) (by omega), by omega⟩

set_option maxRecDepth 100000 in
set_option maxHeartbeats 2000000 in
theorem roots_a (d n : Int) (w : World) (h0 : -2000 ≤ d) (h1 : d ≤ -3) (h2 : 1 ≤ n) (h3 : n ≤ 30) :
    Calls Try.prog 84 #[.int .i64 d, .int .i64 n] w (RetIL w (flN (rtP d n) (fun k => (k : Int)) (2 * n).toNat)) := by
  go_enter Try.func84, Try.ntmps84
  go_wp2
  go_loopw [5, 6] (fun ls xs wr => ∃ (k : Nat) (a : Option Addr) (c : Nat), k ≤ (2 * n).toNat ∧ xs = .int .i64 ((k : Int)) ∧ ls = .slice a (flN (rtP d n) (fun k => (k : Int)) k).length c ∧ IL wr w.heap.size (.slice a (flN (rtP d n) (fun k => (k : Int)) k).length c) (flN (rtP d n) (fun k => (k : Int)) k) ∧ Below w.heap.size w wr) (fun _ xs _ => (2 * n).toNat - (intOf xs).toNat)
  case atStart => exact ⟨0, some ⟨w.heap.size, 0, none⟩, 0, by omega, congrArg (Value.int .i64) (by omega), rfl, IL.made w _ (Nat.le_refl _), (Below.refl _ _).alloc (Nat.le_refl _) _⟩
  case round =>
    obtain ⟨k, a, c, hk, rfl, rfl, hl, hb⟩ := hrel
    obtain ⟨w1, rfl⟩ : ∃ w1 : World, w1 = wr := ⟨_, rfl⟩
    have hz := hb.size
    have hL := flN_len (rtP d n) (fun k => (k : Int)) k
    by_cases c1 : k < (2 * n).toNat
    · have hlt : (k : Int) < 2 * n := by omega
      obtain ⟨q1, q2⟩ := rt_sq hlt h3
      cases hp : (rtP d n) k
      · have el := flN_no (e := (fun k => (k : Int))) hp
        have EL := hide el
        have hp2 : (((k : Int) * (k : Int) - d) % (4 * n) == 0) = false := hp
        clear el
        go_wp2_with fail
        go_roundw
        case rel => first | exact ⟨k + 1, a, c, by omega, congrArg (Value.int .i64) (by omega), by rw [unhide EL], by rw [unhide EL]; exact hl, hb⟩ | ((repeat apply Exists.intro); exact ⟨⟨k + 1, a, c, by omega, congrArg (Value.int .i64) (by omega), by rw [unhide EL], by rw [unhide EL]; exact hl, hb⟩, rfl⟩)
        case measure => simp [intOf]; omega
      · have el := flN_yes (e := (fun k => (k : Int))) hp
        have EL := hide el
        have hp2 : (((k : Int) * (k : Int) - d) % (4 * n) == 0) = true := hp
        clear el
        go_wp2_with (first | fail | (at_builtin; refine app_int _ rfl (.tmp 23) (.tmp 25) rfl w.heap.size (.slice a (flN (rtP d n) (fun k => (k : Int)) k).length c) (flN (rtP d n) (fun k => (k : Int)) k) ((k : Int)) w1.heap.size rfl rfl (hl.alloc _) (by simp) (by omega) (by simp; omega) ?_; intro g cap w2 hown hgrow hat hlt))
        go_roundw
        case rel =>
          refine ⟨k + 1, some ⟨g, 0, none⟩, cap, by omega, congrArg (Value.int .i64) (by omega), ?_, ?_, (hb.alloc hz _).grown hgrow (by simp; omega) (fun k hk => (hl.lt k hk).1)⟩
          · rw [unhide EL]; simp
          · rw [unhide EL]; simpa using hown
        case measure => simp [intOf]; omega
    · skip
      obtain rfl : k = (2 * n).toNat := by omega
      go_wp2
      go_ret
      exact ⟨a, c, rfl, hl, hb⟩

set_option maxRecDepth 100000 in
set_option maxHeartbeats 2000000 in
theorem lvRoots_a (d n : Int) (w : World) (h0 : -2000 ≤ d) (h1 : d ≤ -3) (h2 : 1 ≤ n) (h3 : n ≤ 30) :
    Calls Try.prog 81 #[.int .i64 d, .int .i64 n] w (RetIL w (flN (rtP d n) (fun k => (k : Int)) (2 * n).toNat)) := by
  go_enter Try.func81, Try.ntmps81
  go_wp2
  go_loopw [5, 6] (fun ls xs wr => ∃ (k : Nat) (a : Option Addr) (c : Nat), k ≤ (2 * n).toNat ∧ xs = .int .i64 ((k : Int)) ∧ ls = .slice a (flN (rtP d n) (fun k => (k : Int)) k).length c ∧ IL wr w.heap.size (.slice a (flN (rtP d n) (fun k => (k : Int)) k).length c) (flN (rtP d n) (fun k => (k : Int)) k) ∧ Below w.heap.size w wr) (fun _ xs _ => (2 * n).toNat - (intOf xs).toNat)
  case atStart => exact ⟨0, none, 0, by omega, congrArg (Value.int .i64) (by omega), rfl, IL.nil _ _, Below.refl _ _⟩
  case round =>
    obtain ⟨k, a, c, hk, rfl, rfl, hl, hb⟩ := hrel
    obtain ⟨w1, rfl⟩ : ∃ w1 : World, w1 = wr := ⟨_, rfl⟩
    have hz := hb.size
    have hL := flN_len (rtP d n) (fun k => (k : Int)) k
    by_cases c1 : k < (2 * n).toNat
    · have hlt : (k : Int) < 2 * n := by omega
      obtain ⟨q1, q2⟩ := rt_sq hlt h3
      cases hp : (rtP d n) k
      · have el := flN_no (e := (fun k => (k : Int))) hp
        have EL := hide el
        have hp2 : (((k : Int) * (k : Int) - d) % (4 * n) == 0) = false := hp
        clear el
        go_wp2_with fail
        go_roundw
        case rel => first | exact ⟨k + 1, a, c, by omega, congrArg (Value.int .i64) (by omega), by rw [unhide EL], by rw [unhide EL]; exact hl, hb⟩ | ((repeat apply Exists.intro); exact ⟨⟨k + 1, a, c, by omega, congrArg (Value.int .i64) (by omega), by rw [unhide EL], by rw [unhide EL]; exact hl, hb⟩, rfl⟩)
        case measure => simp [intOf]; omega
      · have el := flN_yes (e := (fun k => (k : Int))) hp
        have EL := hide el
        have hp2 : (((k : Int) * (k : Int) - d) % (4 * n) == 0) = true := hp
        clear el
        go_wp2_with (first | fail | (at_builtin; refine app_int _ rfl (.tmp 22) (.tmp 24) rfl w.heap.size (.slice a (flN (rtP d n) (fun k => (k : Int)) k).length c) (flN (rtP d n) (fun k => (k : Int)) k) ((k : Int)) w1.heap.size rfl rfl (hl.alloc _) (by simp) (by omega) (by simp; omega) ?_; intro g cap w2 hown hgrow hat hlt))
        go_roundw
        case rel =>
          refine ⟨k + 1, some ⟨g, 0, none⟩, cap, by omega, congrArg (Value.int .i64) (by omega), ?_, ?_, (hb.alloc hz _).grown hgrow (by simp; omega) (fun k hk => (hl.lt k hk).1)⟩
          · rw [unhide EL]; simp
          · rw [unhide EL]; simpa using hown
        case measure => simp [intOf]; omega
    · skip
      obtain rfl : k = (2 * n).toNat := by omega
      go_wp2
      go_ret
      exact ⟨a, c, rfl, hl, hb⟩

def lrOk (d n : Int) : Bool := negB d && levB d n
def lrL (d n : Int) : List Int := if lrOk d n then rtL d n else []
theorem lr_len (d n : Int) : (lrL d n).length ≤ 1000000000 := by
  unfold lrL
  split
  · rename_i h
    unfold lrOk at h; simp at h
    have := lev_true h.2
    have := flN_len (rtP d n) (fun k => (k : Int)) (2 * n).toNat
    unfold rtL; omega
  · simp

set_option maxRecDepth 100000 in
set_option maxHeartbeats 2000000 in
theorem implLevelRoots_a (d n : Int) (w : World) :
    Calls Try.prog 27 #[.int .i64 d, .int .i64 n] w (RetInts w (lrL d n).length (fun i => (lrL d n).getD i 0) (lrOk d n)) := by
  cases k0 : negB d
  · have hk : lrOk d n = false := by simp [lrOk, k0]
    have hL : lrL d n = [] := by simp [lrL, hk]
    have HL := hide hL
    have HK := hide hk
    clear hL hk
    go_enter Try.func27, Try.ntmps27
    go_wp2_with (first | (go_at_call 82; refine (isNegativeDisc_a _ _).mono ?_; rintro e w' ⟨rfl, rfl⟩) | (go_at_call 83; refine (isLevel_a _ _ _ (by first | assumption | omega)).mono ?_; rintro e w' ⟨rfl, nq, rfl⟩) | (go_at_call 84; refine (roots_a _ _ _ (by first | assumption | omega) (by first | assumption | omega) (by first | assumption | omega) (by first | assumption | omega)).mono ?_; rintro e w1 ⟨ar, cr, rfl, hl, hb⟩))
    go_ret2
    exact ⟨_, _, by rw [unhide HL, unhide HK]; rfl, .inl (by rw [unhide HL]; rfl), by (repeat' (first | (with_reducible exact Below.refl _ _) | (with_reducible assumption) | (with_reducible refine gr_alloc ?_ _) | (with_reducible refine below_drewN ?_ _) | (with_reducible refine below_drew ?_) | (with_reducible refine gr_call ?_ (by assumption)) | (with_reducible refine Below.setCell ?_ ?_ _) | go_size | omega | (simp; omega)))⟩
  · obtain ⟨d0, d1⟩ := neg_true k0
    cases k1 : levB d n
    · have hk : lrOk d n = false := by simp [lrOk, k1]
      have hL : lrL d n = [] := by simp [lrL, hk]
      have HL := hide hL
      have HK := hide hk
      clear hL hk
      go_enter Try.func27, Try.ntmps27
      go_wp2_with (first | (go_at_call 82; refine (isNegativeDisc_a _ _).mono ?_; rintro e w' ⟨rfl, rfl⟩) | (go_at_call 83; refine (isLevel_a _ _ _ (by first | assumption | omega)).mono ?_; rintro e w' ⟨rfl, nq, rfl⟩) | (go_at_call 84; refine (roots_a _ _ _ (by first | assumption | omega) (by first | assumption | omega) (by first | assumption | omega) (by first | assumption | omega)).mono ?_; rintro e w1 ⟨ar, cr, rfl, hl, hb⟩))
      go_ret2
      exact ⟨_, _, by rw [unhide HL, unhide HK]; rfl, .inl (by rw [unhide HL]; rfl), by (repeat' (first | (with_reducible exact Below.refl _ _) | (with_reducible assumption) | (with_reducible refine gr_alloc ?_ _) | (with_reducible refine below_drewN ?_ _) | (with_reducible refine below_drew ?_) | (with_reducible refine gr_call ?_ (by assumption)) | (with_reducible refine Below.setCell ?_ ?_ _) | go_size | omega | (simp; omega)))⟩
    · have hk : lrOk d n = true := by simp [lrOk, k0, k1]
      have hL : lrL d n = rtL d n := by simp [lrL, hk]
      obtain ⟨n0, n1⟩ := lev_true k1
      have HL := hide hL
      have HK := hide hk
      clear hL hk
      go_enter Try.func27, Try.ntmps27
      go_wp2_with (first | (go_at_call 82; refine (isNegativeDisc_a _ _).mono ?_; rintro e w' ⟨rfl, rfl⟩) | (go_at_call 83; refine (isLevel_a _ _ _ (by first | assumption | omega)).mono ?_; rintro e w' ⟨rfl, nq, rfl⟩) | (go_at_call 84; refine (roots_a _ _ _ (by first | assumption | omega) (by first | assumption | omega) (by first | assumption | omega) (by first | assumption | omega)).mono ?_; rintro e w1 ⟨ar, cr, rfl, hl, hb⟩))
      go_ret2
      refine ⟨ar, cr, by rw [unhide HL, unhide HK]; rfl, ?_, by (repeat' (first | (with_reducible exact Below.refl _ _) | (with_reducible assumption) | (with_reducible refine gr_alloc ?_ _) | (with_reducible refine below_drewN ?_ _) | (with_reducible refine below_drew ?_) | (with_reducible refine gr_call ?_ (by assumption)) | (with_reducible refine Below.setCell ?_ ?_ _) | go_size | omega | (simp; omega)))⟩
      rw [unhide HL]
      exact (hl.ints.2).weak (by simp) (by simp)

set_option maxRecDepth 100000 in
set_option maxHeartbeats 2000000 in
theorem specLevelRoots_a (d n : Int) (w : World) :
    Calls Try.prog 26 #[.int .i64 d, .int .i64 n] w (RetInts w (lrL d n).length (fun i => (lrL d n).getD i 0) (lrOk d n)) := by
  cases k0 : negB d
  · have hk : lrOk d n = false := by simp [lrOk, k0]
    have hL : lrL d n = [] := by simp [lrL, hk]
    have HL := hide hL
    have HK := hide hk
    clear hL hk
    go_enter Try.func26, Try.ntmps26
    go_wp2_with (first | (go_at_call 79; refine (reDisc_a _ _).mono ?_; rintro e w' ⟨rfl, rfl⟩) | (go_at_call 80; refine (lvGood_a _ _ _ (by first | assumption | omega)).mono ?_; rintro e w' ⟨rfl, nq, rfl⟩) | (go_at_call 81; refine (lvRoots_a _ _ _ (by first | assumption | omega) (by first | assumption | omega) (by first | assumption | omega) (by first | assumption | omega)).mono ?_; rintro e w1 ⟨ar, cr, rfl, hl, hb⟩))
    go_ret2
    exact ⟨_, _, by rw [unhide HL, unhide HK]; rfl, .inl (by rw [unhide HL]; rfl), by (repeat' (first | (with_reducible exact Below.refl _ _) | (with_reducible assumption) | (with_reducible refine gr_alloc ?_ _) | (with_reducible refine below_drewN ?_ _) | (with_reducible refine below_drew ?_) | (with_reducible refine gr_call ?_ (by assumption)) | (with_reducible refine Below.setCell ?_ ?_ _) | go_size | omega | (simp; omega)))⟩
  · obtain ⟨d0, d1⟩ := neg_true k0
    cases k1 : levB d n
    · have hk : lrOk d n = false := by simp [lrOk, k1]
      have hL : lrL d n = [] := by simp [lrL, hk]
      have HL := hide hL
      have HK := hide hk
      clear hL hk
      go_enter Try.func26, Try.ntmps26
      go_wp2_with (first | (go_at_call 79; refine (reDisc_a _ _).mono ?_; rintro e w' ⟨rfl, rfl⟩) | (go_at_call 80; refine (lvGood_a _ _ _ (by first | assumption | omega)).mono ?_; rintro e w' ⟨rfl, nq, rfl⟩) | (go_at_call 81; refine (lvRoots_a _ _ _ (by first | assumption | omega) (by first | assumption | omega) (by first | assumption | omega) (by first | assumption | omega)).mono ?_; rintro e w1 ⟨ar, cr, rfl, hl, hb⟩))
      go_ret2
      exact ⟨_, _, by rw [unhide HL, unhide HK]; rfl, .inl (by rw [unhide HL]; rfl), by (repeat' (first | (with_reducible exact Below.refl _ _) | (with_reducible assumption) | (with_reducible refine gr_alloc ?_ _) | (with_reducible refine below_drewN ?_ _) | (with_reducible refine below_drew ?_) | (with_reducible refine gr_call ?_ (by assumption)) | (with_reducible refine Below.setCell ?_ ?_ _) | go_size | omega | (simp; omega)))⟩
    · have hk : lrOk d n = true := by simp [lrOk, k0, k1]
      have hL : lrL d n = rtL d n := by simp [lrL, hk]
      obtain ⟨n0, n1⟩ := lev_true k1
      have HL := hide hL
      have HK := hide hk
      clear hL hk
      go_enter Try.func26, Try.ntmps26
      go_wp2_with (first | (go_at_call 79; refine (reDisc_a _ _).mono ?_; rintro e w' ⟨rfl, rfl⟩) | (go_at_call 80; refine (lvGood_a _ _ _ (by first | assumption | omega)).mono ?_; rintro e w' ⟨rfl, nq, rfl⟩) | (go_at_call 81; refine (lvRoots_a _ _ _ (by first | assumption | omega) (by first | assumption | omega) (by first | assumption | omega) (by first | assumption | omega)).mono ?_; rintro e w1 ⟨ar, cr, rfl, hl, hb⟩))
      go_ret2
      refine ⟨ar, cr, by rw [unhide HL, unhide HK]; rfl, ?_, by (repeat' (first | (with_reducible exact Below.refl _ _) | (with_reducible assumption) | (with_reducible refine gr_alloc ?_ _) | (with_reducible refine below_drewN ?_ _) | (with_reducible refine below_drew ?_) | (with_reducible refine gr_call ?_ (by assumption)) | (with_reducible refine Below.setCell ?_ ?_ _) | go_size | omega | (simp; omega)))⟩
      rw [unhide HL]
      exact (hl.ints.2).weak (by simp) (by simp)

set_option maxHeartbeats 2000000 in
theorem lawLevelRoots (d n : Int) (w : World) :
    Calls Try.prog 7 #[.int .i64 d, .int .i64 n] w fun e w' => e = .returned (.bool true) ∧ Below w.heap.size w w' := by
  have hn : (lrL d n).length ≤ 1000000000 := lr_len d n
  generalize hN : (lrL d n).length = N at *
  generalize hF : (fun i => (lrL d n).getD i 0) = f at *
  generalize hO : lrOk d n = ok at *
  go_enter Try.func7, Try.ntmps7
  have HN := hide hN
  have HF := hide hF
  have HO := hide hO
  clear hN hF hO
  go_wp2_with fail
  have c1 := specLevelRoots_a d n w
  rw [unhide HN, unhide HF, unhide HO] at c1
  refine c1.mono ?_
  clear c1
  rintro e w1 ⟨a1, d1, rfl, i1, b1⟩
  go_wp2_with fail
  have c2 := implLevelRoots_a d n w1
  rw [unhide HN, unhide HF, unhide HO] at c2
  refine c2.mono ?_
  clear c2
  rintro e w2 ⟨a2, d2, rfl, i2, b2⟩
  have s1 := b1.size
  have s2 := b2.size
  have j1 := i1.below b2 (Nat.le_refl _)
  go_wp2_with fail
  refine (eqIntS_any a2 a1 _ _ _ _ N d2 d1 f w2 hn i2 j1).mono ?_
  rintro e w3 ⟨rfl, k3, rfl⟩
  go_wp2_with fail
  refine (markIntS_any a2 w1.heap.size w2.heap.size N d2 1 f (w2.drewN k3) hn (by omega) i2).mono ?_
  rintro e w4 ⟨rfl, i4, h4, s4, b4⟩
  have s4' : w4.heap.size = w2.heap.size := s4
  have S4 := hide s4'
  clear s4 s4'
  go_wp2_with fail
  refine (heldIntS_any a2 w1.heap.size w2.heap.size N d2 1 w4 hn (by omega) i4).mono ?_
  rintro e w5 ⟨rfl, rfl⟩
  go_wp2_with fail
  have c3 := implLevelRoots_a d n w4
  rw [unhide HN, unhide HF, unhide HO] at c3
  refine c3.mono ?_
  clear c3
  rintro e w6 ⟨a6, d6, rfl, i6, b6⟩
  have hs : w1.heap.size ≤ w4.heap.size := by have := unhide S4; omega
  have k1 : IntsAt w6 w.heap.size w1.heap.size a1 N f := (j1.keep (w' := w4) (fun k _ h2 => h4 k h2)).below b6 hs
  have k2 : IntsAt w6 w1.heap.size w2.heap.size a2 N (fun i => ((1 : Nat) : Int) + i) := i4.below b6 (by have := unhide S4; omega)
  go_wp2_with fail
  refine (eqIntS_any a6 a1 _ _ _ _ N d6 d1 f w6 hn i6 k1).mono ?_
  rintro e w7 ⟨rfl, k7, rfl⟩
  go_wp2_with fail
  refine (heldIntS_any a2 w1.heap.size w2.heap.size N d2 1 (w6.drewN k7) hn (by omega) k2).mono ?_
  rintro e w8 ⟨rfl, rfl⟩
  go_wp2
  go_ret
  exact ⟨rfl, below_drewN (((b1.trans (b2.mono s1)).trans ((below_drewN (Below.refl _ _) k3).trans (b4.mono s1))).trans (b6.mono (by omega))) k7⟩
end Go.Proofs.Ytomjgokjfhiahaa
