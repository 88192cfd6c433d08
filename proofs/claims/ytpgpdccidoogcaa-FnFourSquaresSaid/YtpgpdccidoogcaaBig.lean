/-
  big, sameInts.
-/
import Derived.Test.YtpgpdccidoogcaaDsq
namespace Go.Proofs.Ytpgpdccidoogcaa
open Go.RowKit
set_option linter.unusedVariables false
set_option linter.unusedSimpArgs false
attribute [local go_sem] q2 q3 q4 q5 q6 q7 q8 q9 q10 q11 q12

theorem big_a (v1 v2 : Value) (n1 n2 : Nat) (w : World) (h1 : ArgB w v1 n1) (h2 : ArgB w v2 n2) (m1 : n1 ≤ 9223372036854775807) (m2 : n2 ≤ 9223372036854775807) :
    Calls Try.prog 5 #[v1, v2] w fun e w' => ∃ t : Bool, e = .returned (.bool t) ∧ w = w' := by
  obtain ⟨a1, c1, rfl⟩ := h1.len
  obtain ⟨a2, c2, rfl⟩ := h2.len
  by_cases q : 1048576 < (n1 : Int)
  · go_enter Try.func5, Try.ntmps5
    go_wp2
    go_ret
    first | exact ⟨_, rfl, rfl⟩ | exact rfl | simp
  · by_cases q2 : 1048576 - (n1 : Int) < (n2 : Int)
    · go_enter Try.func5, Try.ntmps5
      go_wp2
      go_ret
      first | exact ⟨_, rfl, rfl⟩ | exact rfl | simp
    · go_enter Try.func5, Try.ntmps5
      go_wp2
      go_ret
      first | exact ⟨_, rfl, rfl⟩ | exact rfl | simp
theorem sameInts_nil (a1 a2 : Option Addr) (c1 c2 : Nat) (w : World) :
    Calls Try.prog 27 #[.slice a1 0 c1, .slice a2 0 c2] w fun e w' => e = .returned (.bool true) ∧ ∃ k, w' = w.drewN k := by
  go_enter Try.func27, Try.ntmps27
  go_wp2
  refine wp_loop_rounds 1 ?_
  rw [rounds_succ]
  go_wp2
  go_ret
  exact ⟨rfl, 0, rfl⟩

set_option maxHeartbeats 1000000 in
theorem sameInts_row (g1 g2 n c1 c2 cap1 cap2 : Nat) (F1 F2 : Nat → Value) (f : Nat → Int) (w : World) (hn : n ≤ 1000000000) (h1 : n ≤ cap1) (h2 : n ≤ cap2)
    (r1 : w.rowIs g1 3 cap1 F1) (r2 : w.rowIs g2 3 cap2 F2) (e1 : ∀ i, i < n → F1 i = .int .i64 (f i)) (e2 : ∀ i, i < n → F2 i = .int .i64 (f i)) :
    Calls Try.prog 27 #[.slice (some ⟨g1, 0, none⟩) n c1, .slice (some ⟨g2, 0, none⟩) n c2] w fun e w' => e = .returned (.bool true) ∧ ∃ k, w' = w.drewN k := by
  have E1 := hide e1
  have E2 := hide e2
  clear e1 e2
  go_enter Try.func27, Try.ntmps27
  go_wp2
  go_loopw [13] (fun is wr => ∃ i k : Nat, i ≤ n ∧ is = .int .i64 (i : Int) ∧ wr = w.drewN k) (fun is _ => n - (intOf is).toNat)
  case atStart => exact ⟨0, 0, by omega, rfl, rfl⟩
  case round =>
    obtain ⟨i, k, hi, rfl, rfl⟩ := hrel
    by_cases c : i < n
    · have hc1 := r1.cell (i := i) (by omega)
      have hc2 := r2.cell (i := i) (by omega)
      rw [unhide E1 i c] at hc1
      rw [unhide E2 i c] at hc2
      have hci : (i : Int) < (n : Int) := by omega
      have hi0 : (0 : Int) ≤ (i : Int) := by omega
      go_wp2
      go_quiet (fail)
      go_wp2
      go_roundw
      case rel => exact ⟨i + 1, _, by omega, by go_num, rfl⟩
      case measure => simp [intOf]; omega
    · go_wp2
      go_ret
      exact ⟨rfl, k, rfl⟩

theorem sameInts_any (a1 a2 : Option Addr) (l1 u1 l2 u2 n c1 c2 : Nat) (f : Nat → Int) (w : World) (hn : n ≤ 1000000000) (h1 : IntsAt w l1 u1 a1 n f) (h2 : IntsAt w l2 u2 a2 n f) :
    Calls Try.prog 27 #[.slice a1 n c1, .slice a2 n c2] w fun e w' => e = .returned (.bool true) ∧ ∃ k, w' = w.drewN k := by
  rcases h1 with rfl | ⟨g1, k1, F1, rfl, _, _, q1, r1, e1⟩
  · exact sameInts_nil _ _ _ _ _
  · rcases h2 with rfl | ⟨g2, k2, F2, rfl, _, _, q2, r2, e2⟩
    · exact sameInts_nil _ _ _ _ _
    · exact sameInts_row g1 g2 n c1 c2 k1 k2 F1 F2 f w hn q1 q2 r1 r2 e1 e2

end Go.Proofs.Ytpgpdccidoogcaa
