/-
  Slices of integers that lie in blocks of the call's own, and the laws' helpers over them: equal, mark, held.
-/
import Derived.Test.YtfoofbcmaljmoaaDoorProg
import Derived.Test.YtfoofbcmaljmoaaDoorBase
import Derived.Deep.OwnRows
import Derived.Deep.Draws
import Derived.Deep.QuietTactic
import Derived.BigQuiet
namespace Go.Proofs.YtfoofbcmaljmoaaDoor
open Go.RowKit
set_option linter.unusedVariables false
set_option linter.unusedSimpArgs false

/-- A slice of n integers f 0, f 1, .. that lies at the head of an own block in lo .. hi-1 (or has no element). -/
def IntsAt (w : World) (lo hi : Nat) (a : Option Addr) (n : Nat) (f : Nat → Int) : Prop :=
  n = 0 ∨ ∃ g cap F, a = some ⟨g, 0, none⟩ ∧ lo ≤ g ∧ g < hi ∧ n ≤ cap ∧ w.rowIs g 3 cap F ∧ ∀ i, i < n → F i = .int .i64 (f i)

theorem IntsAt.keep {w w' : World} {lo hi : Nat} {a : Option Addr} {n : Nat} {f : Nat → Int} (h : IntsAt w lo hi a n f) (hk : ∀ k, lo ≤ k → k < hi → w'.heap[k]? = w.heap[k]?) : IntsAt w' lo hi a n f := by
  rcases h with h | ⟨g, cap, F, ha, h1, h2, h3, h4, h5⟩
  · exact .inl h
  · exact .inr ⟨g, cap, F, ha, h1, h2, h3, h4.of_block (hk g h1 h2), h5⟩
theorem IntsAt.below {w w' : World} {lo hi B : Nat} {a : Option Addr} {n : Nat} {f : Nat → Int} (h : IntsAt w lo hi a n f) (hb : Below B w w') (hB : hi ≤ B) : IntsAt w' lo hi a n f :=
  h.keep fun k _ h2 => hb.block k (by omega)
theorem IntsAt.weak {w : World} {lo hi lo' hi' : Nat} {a : Option Addr} {n : Nat} {f : Nat → Int} (h : IntsAt w lo hi a n f) (h1 : lo' ≤ lo) (h2 : hi ≤ hi') : IntsAt w lo' hi' a n f := by
  rcases h with h | ⟨g, cap, F, ha, g1, g2, r⟩
  · exact .inl h
  · exact .inr ⟨g, cap, F, ha, by omega, by omega, r⟩
theorem IntsAt.congr {w : World} {lo hi : Nat} {a : Option Addr} {n : Nat} {f f' : Nat → Int} (h : IntsAt w lo hi a n f) (e : ∀ i, i < n → f i = f' i) : IntsAt w lo hi a n f' := by
  rcases h with h | ⟨g, cap, F, ha, h1, h2, h3, h4, h5⟩
  · exact .inl h
  · exact .inr ⟨g, cap, F, ha, h1, h2, h3, h4, fun i hi => by rw [h5 i hi, e i hi]⟩

theorem below_drewN {B : Nat} {a w : World} (h : Below B a w) (n : Nat) : Below B a (w.drewN n) := ⟨h.os, h.tape, h.output, h.size, h.block⟩

set_option maxHeartbeats 1000000 in
theorem eqIntS_nil (a1 a2 : Option Addr) (c1 c2 : Nat) (w : World) :
    Calls Tryd.prog 18 #[.slice a1 0 c1, .slice a2 0 c2] w fun e w' => e = .returned (.bool true) ∧ ∃ k, w' = w.drewN k := by
  go_enter Tryd.func18, Tryd.ntmps18
  go_wp2
  refine wp_loop_rounds 1 ?_
  rw [rounds_succ]
  go_wp2
  go_ret
  exact ⟨rfl, 0, rfl⟩

set_option maxHeartbeats 1000000 in
theorem eqIntS_row (g1 g2 n c1 c2 cap1 cap2 : Nat) (F1 F2 : Nat → Value) (f : Nat → Int) (w : World) (hn : n ≤ 1000000000) (h1 : n ≤ cap1) (h2 : n ≤ cap2)
    (r1 : w.rowIs g1 3 cap1 F1) (r2 : w.rowIs g2 3 cap2 F2) (e1 : ∀ i, i < n → F1 i = .int .i64 (f i)) (e2 : ∀ i, i < n → F2 i = .int .i64 (f i)) :
    Calls Tryd.prog 18 #[.slice (some ⟨g1, 0, none⟩) n c1, .slice (some ⟨g2, 0, none⟩) n c2] w fun e w' => e = .returned (.bool true) ∧ ∃ k, w' = w.drewN k := by
  have E1 := hide e1
  have E2 := hide e2
  clear e1 e2
  go_enter Tryd.func18, Tryd.ntmps18
  go_wp2
  go_loopw [5] (fun is wr => ∃ i k : Nat, i ≤ n ∧ is = .int .i64 (i : Int) ∧ wr = w.drewN k) (fun is _ => n - (intOf is).toNat)
  case atStart => exact ⟨0, 0, by omega, rfl, rfl⟩
  case round =>
    obtain ⟨i, k, hi, rfl, rfl⟩ := hrel
    by_cases c : i < n
    · have hc1 := r1.cell (i := i) (by omega)
      have hc2 := r2.cell (i := i) (by omega)
      rw [unhide E1 i c] at hc1
      rw [unhide E2 i c] at hc2
      have hci : (i : Int) < (n : Int) := by omega
      have hi0 : (0 : Int) ≤ (i : Int) := by omega
      go_wp2
      go_quiet (fail)
      go_wp2
      go_roundw
      case rel => exact ⟨i + 1, _, by omega, by go_num, rfl⟩
      case measure => simp [intOf]; omega
    · go_wp2
      go_ret
      exact ⟨rfl, k, rfl⟩

theorem eqIntS_any (a1 a2 : Option Addr) (l1 u1 l2 u2 n c1 c2 : Nat) (f : Nat → Int) (w : World) (hn : n ≤ 1000000000) (h1 : IntsAt w l1 u1 a1 n f) (h2 : IntsAt w l2 u2 a2 n f) :
    Calls Tryd.prog 18 #[.slice a1 n c1, .slice a2 n c2] w fun e w' => e = .returned (.bool true) ∧ ∃ k, w' = w.drewN k := by
  rcases h1 with rfl | ⟨g1, k1, F1, rfl, _, _, q1, r1, e1⟩
  · exact eqIntS_nil _ _ _ _ _
  · rcases h2 with rfl | ⟨g2, k2, F2, rfl, _, _, q2, r2, e2⟩
    · exact eqIntS_nil _ _ _ _ _
    · exact eqIntS_row g1 g2 n c1 c2 k1 k2 F1 F2 f w hn q1 q2 r1 r2 e1 e2

set_option maxHeartbeats 1000000 in
theorem markIntS_nil (a : Option Addr) (c : Nat) (k : Int) (w : World) :
    Calls Tryd.prog 19 #[.slice a 0 c, .int .i64 k] w fun e w' => e = .returned (.int .i64 k) ∧ w = w' := by
  go_enter Tryd.func19, Tryd.ntmps19
  go_wp2
  refine wp_loop_rounds 1 ?_
  rw [rounds_succ]
  go_wp2
  go_ret
  exact ⟨rfl, rfl⟩
set_option maxHeartbeats 1000000 in
theorem markIntS_row (g n c cap k : Nat) (F : Nat → Value) (w : World) (hn : n ≤ 1000000000) (hk : k ≤ 1000000000) (h1 : n ≤ cap) (r : w.rowIs g 3 cap F) :
    Calls Tryd.prog 19 #[.slice (some ⟨g, 0, none⟩) n c, .int .i64 (k : Int)] w fun e w' => e = .returned (.int .i64 ((k : Int) + n)) ∧ w'.rowIs g 3 cap (fun i => if i < n then .int .i64 ((k : Int) + i) else F i) ∧ w.grownBy w' (some g) ∧ w'.heap.size = w.heap.size := by
  go_enter Tryd.func19, Tryd.ntmps19
  go_wp2
  go_loopw [1, 5] (fun ks is wr => ∃ i : Nat, i ≤ n ∧ is = .int .i64 (i : Int) ∧ ks = .int .i64 ((k : Int) + i) ∧ wr.rowIs g 3 cap (fun j => if j < i then .int .i64 ((k : Int) + j) else F j) ∧ w.grownBy wr (some g) ∧ wr.heap.size = w.heap.size) (fun _ is _ => n - (intOf is).toNat)
  case atStart => exact ⟨0, by omega, rfl, congrArg (Value.int .i64) (by omega), r.congr (fun j _ => by simp), ⟨rfl, rfl, rfl, Nat.le_refl _, fun _ _ _ => rfl⟩, rfl⟩
  case round =>
    obtain ⟨i, hi, rfl, rfl, hr, hg, hs⟩ := hrel
    by_cases c : i < n
    · have hc := hr.cell (i := i) (by omega)
      have hf := hr.frozen i
      have hci : (i : Int) < (n : Int) := by omega
      have HS := hide hs
      clear hs
      go_wp2
      go_roundw
      case rel =>
        refine ⟨i + 1, by omega, by go_num, congrArg (Value.int .i64) (by omega), (hr.set _ _).congr (fun j _ => ?_), ⟨hg.os, hg.tape, hg.output, by simpa [World.setCell] using hg.size, fun j hj hne => (Below.heap_setCell _ _ _ _ (fun e => hne (by rw [e]))).trans (hg.block j hj hne)⟩, by simpa [World.setCell] using unhide HS⟩
        by_cases e : j = i
        · subst e; simp
        · simp only [if_neg e]
          by_cases e2 : j < i
          · rw [if_pos e2, if_pos (by omega)]
          · rw [if_neg e2, if_neg (by omega)]
      case measure => simp [intOf]; omega
    · have hin : i = n := by omega
      have HN := hide hin
      have HS := hide hs
      clear hin hs
      go_wp2
      go_ret
      exact ⟨ret_int (by rw [unhide HN]), hr.congr (fun j _ => by rw [unhide HN]), hg, unhide HS⟩

/-- What is left of the slice, and of the world, behind a mark. -/
theorem markIntS_any (a : Option Addr) (lo hi n c k : Nat) (f : Nat → Int) (w : World) (hn : n ≤ 1000000000) (hk : k ≤ 1000000000) (h : IntsAt w lo hi a n f) :
    Calls Tryd.prog 19 #[.slice a n c, .int .i64 (k : Int)] w fun e w' => e = .returned (.int .i64 ((k : Int) + n)) ∧ IntsAt w' lo hi a n (fun i => (k : Int) + i) ∧ (∀ j, j < lo → w'.heap[j]? = w.heap[j]?) ∧ w'.heap.size = w.heap.size ∧ Below lo w w' := by
  rcases h with rfl | ⟨g, cap, F, rfl, hlo, hhi, q, r, e⟩
  · refine (markIntS_nil a c k w).mono ?_
    rintro e w' ⟨rfl, rfl⟩
    exact ⟨ret_int (by omega), .inl rfl, fun _ _ => rfl, rfl, Below.refl _ _⟩
  · refine (markIntS_row g n c cap k F w hn hk q r).mono ?_
    rintro e w' ⟨rfl, hr, hg, hs⟩
    refine ⟨rfl, .inr ⟨g, cap, _, rfl, hlo, hhi, q, hr, fun i hi => by simp [hi]⟩, fun j hj => ?_, hs, ⟨hg.os, hg.tape, hg.output, hg.size, fun j hj => ?_⟩⟩
    all_goals
      have := r.lt
      exact hg.block j (by omega) (fun e => by cases e; omega)

set_option maxHeartbeats 1000000 in
theorem heldIntS_nil (a : Option Addr) (c : Nat) (k : Int) (w : World) :
    Calls Tryd.prog 20 #[.slice a 0 c, .int .i64 k] w fun e w' => e = .returned (.int .i64 k) ∧ w = w' := by
  go_enter Tryd.func20, Tryd.ntmps20
  go_wp2
  refine wp_loop_rounds 1 ?_
  rw [rounds_succ]
  go_wp2
  go_ret
  exact ⟨rfl, rfl⟩
set_option maxHeartbeats 1000000 in
theorem heldIntS_row (g n c cap k : Nat) (F : Nat → Value) (w : World) (hn : n ≤ 1000000000) (hk : k ≤ 1000000000) (h1 : n ≤ cap) (r : w.rowIs g 3 cap F) (e : ∀ i, i < n → F i = .int .i64 ((k : Int) + i)) :
    Calls Tryd.prog 20 #[.slice (some ⟨g, 0, none⟩) n c, .int .i64 (k : Int)] w fun e w' => e = .returned (.int .i64 ((k : Int) + n)) ∧ w = w' := by
  have E := hide e
  clear e
  go_enter Tryd.func20, Tryd.ntmps20
  go_wp2
  go_loop [1, 5] (fun ks is => ∃ i : Nat, i ≤ n ∧ is = .int .i64 (i : Int) ∧ ks = .int .i64 ((k : Int) + i)) (fun _ is => n - (intOf is).toNat)
  case atStart => exact ⟨0, by omega, rfl, congrArg (Value.int .i64) (by omega)⟩
  case round =>
    obtain ⟨i, hi, rfl, rfl⟩ := hrel
    by_cases c : i < n
    · have hc := r.cell (i := i) (by omega)
      rw [unhide E i c] at hc
      have hci : (i : Int) < (n : Int) := by omega
      go_wp2
      go_round
      case rel => exact ⟨i + 1, by omega, by go_num, congrArg (Value.int .i64) (by omega)⟩
      case measure => simp [intOf]; omega
    · have hin : i = n := by omega
      have HN := hide hin
      clear hin
      go_wp2
      go_ret
      exact ⟨ret_int (by rw [unhide HN]), rfl⟩
theorem heldIntS_any (a : Option Addr) (lo hi n c k : Nat) (w : World) (hn : n ≤ 1000000000) (hk : k ≤ 1000000000) (h : IntsAt w lo hi a n (fun i => (k : Int) + i)) :
    Calls Tryd.prog 20 #[.slice a n c, .int .i64 (k : Int)] w fun e w' => e = .returned (.int .i64 ((k : Int) + n)) ∧ w = w' := by
  rcases h with rfl | ⟨g, cap, F, rfl, hlo, hhi, q, r, e⟩
  · refine (heldIntS_nil a c k w).mono ?_
    rintro e w' ⟨rfl, rfl⟩
    exact ⟨ret_int (by omega), rfl⟩
  · exact heldIntS_row g n c cap k F w hn hk q r e

/-- A pair of a slice of the call's own and a bool. -/
def RetInts (w : World) (n : Nat) (f : Nat → Int) (ok : Bool) (e : Ending) (w' : World) : Prop :=
  ∃ a c, e = .returned (.tuple #[.slice a n c, .bool ok]) ∧ IntsAt w' w.heap.size w'.heap.size a n f ∧ Below w.heap.size w w'
end Go.Proofs.YtfoofbcmaljmoaaDoor
