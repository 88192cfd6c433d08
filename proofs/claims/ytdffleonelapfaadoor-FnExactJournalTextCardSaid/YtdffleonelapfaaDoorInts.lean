/-
  Slices of integers that lie in blocks of the call's own, and the laws' helpers over them: equal, mark, held.
-/
import Derived.Test.YtdffleonelapfaaDoorProg
import Derived.Test.YtdffleonelapfaaDoorBase
import Derived.Deep.OwnRows
import Derived.Deep.Draws
import Derived.Deep.QuietTactic
import Derived.BigQuiet
namespace Go.Proofs.YtdffleonelapfaaDoor
open Go.RowKit
set_option linter.unusedVariables false
set_option linter.unusedSimpArgs false

/-- A slice of n integers f 0, f 1, .. that lies at the head of an own block in lo .. hi-1 (or has no element). -/
def IntsAt (w : World) (lo hi : Nat) (a : Option Addr) (n : Nat) (f : Nat → Int) : Prop :=
  n = 0 ∨ ∃ g cap F, a = some ⟨g, 0, none⟩ ∧ lo ≤ g ∧ g < hi ∧ n ≤ cap ∧ w.rowIs g 3 cap F ∧ ∀ i, i < n → F i = .int .i64 (f i)

theorem IntsAt.keep {w w' : World} {lo hi : Nat} {a : Option Addr} {n : Nat} {f : Nat → Int} (h : IntsAt w lo hi a n f) (hk : ∀ k, lo ≤ k → k < hi → w'.heap[k]? = w.heap[k]?) : IntsAt w' lo hi a n f := by
  rcases h with h | ⟨g, cap, F, ha, h1, h2, h3, h4, h5⟩
  · exact .inl h
  · exact .inr ⟨g, cap, F, ha, h1, h2, h3, h4.of_block (hk g h1 h2), h5⟩
theorem IntsAt.below {w w' : World} {lo hi B : Nat} {a : Option Addr} {n : Nat} {f : Nat → Int} (h : IntsAt w lo hi a n f) (hb : Below B w w') (hB : hi ≤ B) : IntsAt w' lo hi a n f :=
  h.keep fun k _ h2 => hb.block k (by omega)
theorem IntsAt.weak {w : World} {lo hi lo' hi' : Nat} {a : Option Addr} {n : Nat} {f : Nat → Int} (h : IntsAt w lo hi a n f) (h1 : lo' ≤ lo) (h2 : hi ≤ hi') : IntsAt w lo' hi' a n f := by
  rcases h with h | ⟨g, cap, F, ha, g1, g2, r⟩
  · exact .inl h
  · exact .inr ⟨g, cap, F, ha, by omega, by omega, r⟩
theorem IntsAt.congr {w : World} {lo hi : Nat} {a : Option Addr} {n : Nat} {f f' : Nat → Int} (h : IntsAt w lo hi a n f) (e : ∀ i, i < n → f i = f' i) : IntsAt w lo hi a n f' := by
  rcases h with h | ⟨g, cap, F, ha, h1, h2, h3, h4, h5⟩
  · exact .inl h
  · exact .inr ⟨g, cap, F, ha, h1, h2, h3, h4, fun i hi => by rw [h5 i hi, e i hi]⟩

theorem below_drewN {B : Nat} {a w : World} (h : Below B a w) (n : Nat) : Below B a (w.drewN n) := ⟨h.os, h.tape, h.output, h.size, h.block⟩

set_option maxHeartbeats 1000000 in
theorem eqIntS_nil (a1 a2 : Option Addr) (c1 c2 : Nat) (w : World) :
    Calls Tryd.prog 29 #[.slice a1 0 c1, .slice a2 0 c2] w fun e w' => e = .returned (.bool true) ∧ ∃ k, w' = w.drewN k := by
  go_enter Tryd.func29, Tryd.ntmps29
  go_wp2
  refine wp_loop_rounds 1 ?_
  rw [rounds_succ]
  go_wp2
  go_ret
  exact ⟨rfl, 0, rfl⟩

set_option maxHeartbeats 1000000 in
theorem eqIntS_row (g1 g2 n c1 c2 cap1 cap2 : Nat) (F1 F2 : Nat → Value) (f : Nat → Int) (w : World) (hn : n ≤ 1000000000) (h1 : n ≤ cap1) (h2 : n ≤ cap2)
    (r1 : w.rowIs g1 3 cap1 F1) (r2 : w.rowIs g2 3 cap2 F2) (e1 : ∀ i, i < n → F1 i = .int .i64 (f i)) (e2 : ∀ i, i < n → F2 i = .int .i64 (f i)) :
    Calls Tryd.prog 29 #[.slice (some ⟨g1, 0, none⟩) n c1, .slice (some ⟨g2, 0, none⟩) n c2] w fun e w' => e = .returned (.bool true) ∧ ∃ k, w' = w.drewN k := by
  have E1 := hide e1
  have E2 := hide e2
  clear e1 e2
  go_enter Tryd.func29, Tryd.ntmps29
  go_wp2
  go_loopw [5] (fun is wr => ∃ i k : Nat, i ≤ n ∧ is = .int .i64 (i : Int) ∧ wr = w.drewN k) (fun is _ => n - (intOf is).toNat)
  case atStart => exact ⟨0, 0, by omega, rfl, rfl⟩
  case round =>
    obtain ⟨i, k, hi, rfl, rfl⟩ := hrel
    by_cases c : i < n
    · have hc1 := r1.cell (i := i) (by omega)
      have hc2 := r2.cell (i := i) (by omega)
      rw [unhide E1 i c] at hc1
      rw [unhide E2 i c] at hc2
      have hci : (i : Int) < (n : Int) := by omega
      have hi0 : (0 : Int) ≤ (i : Int) := by omega
      go_wp2
      go_quiet (fail)
      go_wp2
      go_roundw
      case rel => exact ⟨i + 1, _, by omega, by go_num, rfl⟩
      case measure => simp [intOf]; omega
    · go_wp2
      go_ret
      exact ⟨rfl, k, rfl⟩

theorem eqIntS_any (a1 a2 : Option Addr) (l1 u1 l2 u2 n c1 c2 : Nat) (f : Nat → Int) (w : World) (hn : n ≤ 1000000000) (h1 : IntsAt w l1 u1 a1 n f) (h2 : IntsAt w l2 u2 a2 n f) :
    Calls Tryd.prog 29 #[.slice a1 n c1, .slice a2 n c2] w fun e w' => e = .returned (.bool true) ∧ ∃ k, w' = w.drewN k := by
  rcases h1 with rfl | ⟨g1, k1, F1, rfl, _, _, q1, r1, e1⟩
  · exact eqIntS_nil _ _ _ _ _
  · rcases h2 with rfl | ⟨g2, k2, F2, rfl, _, _, q2, r2, e2⟩
    · exact eqIntS_nil _ _ _ _ _
    · exact eqIntS_row g1 g2 n c1 c2 k1 k2 F1 F2 f w hn q1 q2 r1 r2 e1 e2

/-- A pair of a slice of the call's own and a bool. -/
def RetInts (w : World) (n : Nat) (f : Nat → Int) (ok : Bool) (e : Ending) (w' : World) : Prop :=
  ∃ a c, e = .returned (.tuple #[.slice a n c, .bool ok]) ∧ IntsAt w' w.heap.size w'.heap.size a n f ∧ Below w.heap.size w w'
end Go.Proofs.YtdffleonelapfaaDoor
