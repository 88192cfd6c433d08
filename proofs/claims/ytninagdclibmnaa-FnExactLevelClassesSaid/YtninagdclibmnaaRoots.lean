/-
  Roots of a discriminant: rootsOfDiscriminant, lvRoots, LevelRoots on both sides, the law's walk.
-/
import Derived.Test.YtninagdclibmnaaLevel
import Derived.Test.YtninagdclibmnaaFilter
namespace Go.Proofs.Ytninagdclibmnaa
open Go.RowKit
set_option linter.unusedVariables false
set_option linter.unusedSimpArgs false
attribute [local go_sem] q2 q3 q4 q5 q6 q7 q8 q9 q10 q11 q12

def rtP (d n : Int) (k : Nat) : Bool := ((k : Int) * (k : Int) - d) % (4 * n) == 0
def rtL (d n : Int) : List Int := flN (rtP d n) (fun k => (k : Int)) (2 * n).toNat
theorem rt_sq {k : Nat} {n : Int} (h : (k : Int) < 2 * n) (hn : n ≤ 30) : 0 ≤ (k : Int) * (k : Int) ∧ (k : Int) * (k : Int) ≤ 3600 := by
  have := mul_bd (a := (k : Int)) (b := (k : Int)) (A := 60) (B := 60) (by omega) (by omega) (by omega)
  exact ⟨Int.mul_nonneg (by omega) (by omega), by omega⟩

set_option maxRecDepth 100000 in
set_option maxHeartbeats 2000000 in
theorem roots_a (d n : Int) (w : World) (h0 : -2000 ≤ d) (h1 : d ≤ -3) (h2 : 1 ≤ n) (h3 : n ≤ 30) :
    Calls Try.prog 137 #[.int .i64 d, .int .i64 n] w (RetIL w (flN (rtP d n) (fun k => (k : Int)) (2 * n).toNat)) := by
  go_enter Try.func137, Try.ntmps137
  go_wp2
  go_loopw [5, 6] (fun ls xs wr => ∃ (k : Nat) (a : Option Addr) (c : Nat), k ≤ (2 * n).toNat ∧ xs = .int .i64 ((k : Int)) ∧ ls = .slice a (flN (rtP d n) (fun k => (k : Int)) k).length c ∧ IL wr w.heap.size (.slice a (flN (rtP d n) (fun k => (k : Int)) k).length c) (flN (rtP d n) (fun k => (k : Int)) k) ∧ Below w.heap.size w wr) (fun _ xs _ => (2 * n).toNat - (intOf xs).toNat)
  case atStart => exact ⟨0, some ⟨w.heap.size, 0, none⟩, 0, by omega, congrArg (Value.int .i64) (by omega), rfl, IL.made w _ (Nat.le_refl _), (Below.refl _ _).alloc (Nat.le_refl _) _⟩
  case round =>
    obtain ⟨k, a, c, hk, rfl, rfl, hl, hb⟩ := hrel
    obtain ⟨w1, rfl⟩ : ∃ w1 : World, w1 = wr := ⟨_, rfl⟩
    have hz := hb.size
    have hL := flN_len (rtP d n) (fun k => (k : Int)) k
    by_cases c1 : k < (2 * n).toNat
    · have hlt : (k : Int) < 2 * n := by omega
      obtain ⟨q1, q2⟩ := rt_sq hlt h3
      cases hp : (rtP d n) k
      · have el := flN_no (e := (fun k => (k : Int))) hp
        have EL := hide el
        have hp2 : (((k : Int) * (k : Int) - d) % (4 * n) == 0) = false := hp
        clear el
        go_wp2_with fail
        go_roundw
        case rel => first | exact ⟨k + 1, a, c, by omega, congrArg (Value.int .i64) (by omega), by rw [unhide EL], by rw [unhide EL]; exact hl, hb⟩ | ((repeat apply Exists.intro); exact ⟨⟨k + 1, a, c, by omega, congrArg (Value.int .i64) (by omega), by rw [unhide EL], by rw [unhide EL]; exact hl, hb⟩, rfl⟩)
        case measure => simp [intOf]; omega
      · have el := flN_yes (e := (fun k => (k : Int))) hp
        have EL := hide el
        have hp2 : (((k : Int) * (k : Int) - d) % (4 * n) == 0) = true := hp
        clear el
        go_wp2_with (first | fail | (at_builtin; refine app_int _ rfl (.tmp 23) (.tmp 25) rfl w.heap.size (.slice a (flN (rtP d n) (fun k => (k : Int)) k).length c) (flN (rtP d n) (fun k => (k : Int)) k) ((k : Int)) w1.heap.size rfl rfl (hl.alloc _) (by simp) (by omega) (by simp; omega) ?_; intro g cap w2 hown hgrow hat hlt))
        go_roundw
        case rel =>
          refine ⟨k + 1, some ⟨g, 0, none⟩, cap, by omega, congrArg (Value.int .i64) (by omega), ?_, ?_, (hb.alloc hz _).grown hgrow (by simp; omega) (fun k hk => (hl.lt k hk).1)⟩
          · rw [unhide EL, List.length_append]; rfl
          · rw [unhide EL, List.length_append]; exact hown
        case measure => simp [intOf]; omega
    · skip
      obtain rfl : k = (2 * n).toNat := by omega
      go_wp2
      go_ret
      exact ⟨a, c, rfl, hl, hb⟩

set_option maxRecDepth 100000 in
set_option maxHeartbeats 2000000 in
theorem lvRoots_a (d n : Int) (w : World) (h0 : -2000 ≤ d) (h1 : d ≤ -3) (h2 : 1 ≤ n) (h3 : n ≤ 30) :
    Calls Try.prog 88 #[.int .i64 d, .int .i64 n] w (RetIL w (flN (rtP d n) (fun k => (k : Int)) (2 * n).toNat)) := by
  go_enter Try.func88, Try.ntmps88
  go_wp2
  go_loopw [5, 6] (fun ls xs wr => ∃ (k : Nat) (a : Option Addr) (c : Nat), k ≤ (2 * n).toNat ∧ xs = .int .i64 ((k : Int)) ∧ ls = .slice a (flN (rtP d n) (fun k => (k : Int)) k).length c ∧ IL wr w.heap.size (.slice a (flN (rtP d n) (fun k => (k : Int)) k).length c) (flN (rtP d n) (fun k => (k : Int)) k) ∧ Below w.heap.size w wr) (fun _ xs _ => (2 * n).toNat - (intOf xs).toNat)
  case atStart => exact ⟨0, none, 0, by omega, congrArg (Value.int .i64) (by omega), rfl, IL.nil _ _, Below.refl _ _⟩
  case round =>
    obtain ⟨k, a, c, hk, rfl, rfl, hl, hb⟩ := hrel
    obtain ⟨w1, rfl⟩ : ∃ w1 : World, w1 = wr := ⟨_, rfl⟩
    have hz := hb.size
    have hL := flN_len (rtP d n) (fun k => (k : Int)) k
    by_cases c1 : k < (2 * n).toNat
    · have hlt : (k : Int) < 2 * n := by omega
      obtain ⟨q1, q2⟩ := rt_sq hlt h3
      cases hp : (rtP d n) k
      · have el := flN_no (e := (fun k => (k : Int))) hp
        have EL := hide el
        have hp2 : (((k : Int) * (k : Int) - d) % (4 * n) == 0) = false := hp
        clear el
        go_wp2_with fail
        go_roundw
        case rel => first | exact ⟨k + 1, a, c, by omega, congrArg (Value.int .i64) (by omega), by rw [unhide EL], by rw [unhide EL]; exact hl, hb⟩ | ((repeat apply Exists.intro); exact ⟨⟨k + 1, a, c, by omega, congrArg (Value.int .i64) (by omega), by rw [unhide EL], by rw [unhide EL]; exact hl, hb⟩, rfl⟩)
        case measure => simp [intOf]; omega
      · have el := flN_yes (e := (fun k => (k : Int))) hp
        have EL := hide el
        have hp2 : (((k : Int) * (k : Int) - d) % (4 * n) == 0) = true := hp
        clear el
        go_wp2_with (first | fail | (at_builtin; refine app_int _ rfl (.tmp 22) (.tmp 24) rfl w.heap.size (.slice a (flN (rtP d n) (fun k => (k : Int)) k).length c) (flN (rtP d n) (fun k => (k : Int)) k) ((k : Int)) w1.heap.size rfl rfl (hl.alloc _) (by simp) (by omega) (by simp; omega) ?_; intro g cap w2 hown hgrow hat hlt))
        go_roundw
        case rel =>
          refine ⟨k + 1, some ⟨g, 0, none⟩, cap, by omega, congrArg (Value.int .i64) (by omega), ?_, ?_, (hb.alloc hz _).grown hgrow (by simp; omega) (fun k hk => (hl.lt k hk).1)⟩
          · rw [unhide EL, List.length_append]; rfl
          · rw [unhide EL, List.length_append]; exact hown
        case measure => simp [intOf]; omega
    · skip
      obtain rfl : k = (2 * n).toNat := by omega
      go_wp2
      go_ret
      exact ⟨a, c, rfl, hl, hb⟩

def lrOk (d n : Int) : Bool := negB d && levB d n
def lrL (d n : Int) : List Int := if lrOk d n then rtL d n else []
theorem lr_len (d n : Int) : (lrL d n).length ≤ 1000000000 := by
  unfold lrL
  split
  · rename_i h
    unfold lrOk at h; simp at h
    have := lev_true h.2
    have := flN_len (rtP d n) (fun k => (k : Int)) (2 * n).toNat
    unfold rtL; omega
  · simp

set_option maxRecDepth 100000 in
set_option maxHeartbeats 2000000 in
theorem implLevelRoots_a (d n : Int) (w : World) :
    Calls Try.prog 97 #[.int .i64 d, .int .i64 n] w (RetInts w (lrL d n).length (fun i => (lrL d n).getD i 0) (lrOk d n)) := by
  cases k0 : negB d
  · have hk : lrOk d n = false := by simp [lrOk, k0]
    have hL : lrL d n = [] := by simp [lrL, hk]
    have HL := hide hL
    have HK := hide hk
    clear hL hk
    go_enter Try.func97, Try.ntmps97
    go_wp2_with (first | (go_at_call 136; refine (isNegativeDisc_a _ _).mono ?_; rintro e w' ⟨rfl, rfl⟩) | (go_at_call 131; refine (isLevel_a _ _ _ (by first | assumption | omega)).mono ?_; rintro e w' ⟨rfl, nq, rfl⟩) | (go_at_call 137; refine (roots_a _ _ _ (by first | assumption | omega) (by first | assumption | omega) (by first | assumption | omega) (by first | assumption | omega)).mono ?_; rintro e w1 ⟨ar, cr, rfl, hl, hb⟩))
    go_ret2
    exact ⟨_, _, by rw [unhide HL, unhide HK]; rfl, .inl (by rw [unhide HL]; rfl), by (repeat' (first | (with_reducible exact Below.refl _ _) | (with_reducible assumption) | (with_reducible refine gr_alloc ?_ _) | (with_reducible refine below_drewN ?_ _) | (with_reducible refine below_drew ?_) | (with_reducible refine gr_call ?_ (by assumption)) | (with_reducible refine Below.setCell ?_ ?_ _) | go_size | omega | (simp; omega)))⟩
  · obtain ⟨d0, d1⟩ := neg_true k0
    cases k1 : levB d n
    · have hk : lrOk d n = false := by simp [lrOk, k1]
      have hL : lrL d n = [] := by simp [lrL, hk]
      have HL := hide hL
      have HK := hide hk
      clear hL hk
      go_enter Try.func97, Try.ntmps97
      go_wp2_with (first | (go_at_call 136; refine (isNegativeDisc_a _ _).mono ?_; rintro e w' ⟨rfl, rfl⟩) | (go_at_call 131; refine (isLevel_a _ _ _ (by first | assumption | omega)).mono ?_; rintro e w' ⟨rfl, nq, rfl⟩) | (go_at_call 137; refine (roots_a _ _ _ (by first | assumption | omega) (by first | assumption | omega) (by first | assumption | omega) (by first | assumption | omega)).mono ?_; rintro e w1 ⟨ar, cr, rfl, hl, hb⟩))
      go_ret2
      exact ⟨_, _, by rw [unhide HL, unhide HK]; rfl, .inl (by rw [unhide HL]; rfl), by (repeat' (first | (with_reducible exact Below.refl _ _) | (with_reducible assumption) | (with_reducible refine gr_alloc ?_ _) | (with_reducible refine below_drewN ?_ _) | (with_reducible refine below_drew ?_) | (with_reducible refine gr_call ?_ (by assumption)) | (with_reducible refine Below.setCell ?_ ?_ _) | go_size | omega | (simp; omega)))⟩
    · have hk : lrOk d n = true := by simp [lrOk, k0, k1]
      have hL : lrL d n = rtL d n := by simp [lrL, hk]
      obtain ⟨n0, n1⟩ := lev_true k1
      have HL := hide hL
      have HK := hide hk
      clear hL hk
      go_enter Try.func97, Try.ntmps97
      go_wp2_with (first | (go_at_call 136; refine (isNegativeDisc_a _ _).mono ?_; rintro e w' ⟨rfl, rfl⟩) | (go_at_call 131; refine (isLevel_a _ _ _ (by first | assumption | omega)).mono ?_; rintro e w' ⟨rfl, nq, rfl⟩) | (go_at_call 137; refine (roots_a _ _ _ (by first | assumption | omega) (by first | assumption | omega) (by first | assumption | omega) (by first | assumption | omega)).mono ?_; rintro e w1 ⟨ar, cr, rfl, hl, hb⟩))
      go_ret2
      refine ⟨ar, cr, by rw [unhide HL, unhide HK]; rfl, ?_, by (repeat' (first | (with_reducible exact Below.refl _ _) | (with_reducible assumption) | (with_reducible refine gr_alloc ?_ _) | (with_reducible refine below_drewN ?_ _) | (with_reducible refine below_drew ?_) | (with_reducible refine gr_call ?_ (by assumption)) | (with_reducible refine Below.setCell ?_ ?_ _) | go_size | omega | (simp; omega)))⟩
      rw [unhide HL]
      exact (hl.ints.2).weak (by simp) (by simp)

end Go.Proofs.Ytninagdclibmnaa
