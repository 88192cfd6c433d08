/-
  Marks in a slice of entries.
-/
import Derived.Test.YtligbfegafkpjaaToE
import Derived.Test.YtligbfegafkpjaaStrL
namespace Go.Proofs.Ytligbfegafkpjaa
open Go.RowKit
set_option linter.unusedVariables false
set_option linter.unusedSimpArgs false
attribute [local go_sem] q2 q3 q4 q5 q6 q7 q8 q9 q10 q11 q12

theorem _root_.Go.World.grownBy.setB {w w' : World} {g : Nat} (h : w.grownBy w' (some g)) (o : Nat) (v : Value) : w.grownBy (w'.setCell ⟨g, o, none⟩ v) (some g) :=
  ⟨h.os, h.tape, h.output, by simpa [World.setCell] using h.size, fun j hj hne => (Below.heap_setCell _ _ _ _ (fun e => hne (by rw [e]))).trans (h.block j hj hne)⟩

set_option maxRecDepth 100000 in
set_option maxHeartbeats 4000000 in
theorem markEntryS_a (g n c k : Nat) (F0 : Nat → Value) (w : World) (hn : n ≤ 10000000) (h0 : 1 ≤ k) (hk : k ≤ 10000000) (h : w.rowIs g 67 (n * 4) F0) :
    Calls Try.prog 26 #[.slice (some ⟨g, 0, none⟩) n c, .int .i64 (k : Int)] w fun e w' => e = .returned (.int .i64 ((k : Int) + 4 * n)) ∧ w.grownBy w' (some g) := by
  go_enter Try.func26, Try.ntmps26
  go_wp2
  go_loopw [1, 5] (fun ks is wr => ∃ (ix : Nat) (F : Nat → Value), ix ≤ n ∧ is = .int .i64 (ix : Int) ∧ ks = .int .i64 ((k : Int) + 4 * ix) ∧ wr.rowIs g 67 (n * 4) F ∧ w.grownBy wr (some g)) (fun _ is _ => n - (intOf is).toNat)
  case atStart => exact ⟨0, _, by omega, rfl, congrArg (Value.int .i64) (by omega), h, ⟨rfl, rfl, rfl, Nat.le_refl _, fun _ _ _ => rfl⟩⟩
  case round =>
    obtain ⟨ix, F, hi, rfl, rfl, hr, hg⟩ := hrel
    obtain ⟨wl, rfl⟩ : ∃ wl : World, wl = wr := ⟨_, rfl⟩
    by_cases q : ix < n
    · have hci : (ix : Int) < (n : Int) := by omega
      go_wp2_with fail
      refine (markText_z _ (k + 4 * ix) (by omega) _ (by omega) (by omega)).mono ?_
      rintro e w1 ⟨rfl, hb1⟩
      have hr1 := hr.of_block (hb1.block g hr.lt)
      have hg1 : w.grownBy w1 (some g) := ⟨hb1.os.trans hg.os, hb1.tape.trans hg.tape, hb1.output.trans hg.output, Nat.le_trans hg.size hb1.size, fun j hj hne => (hb1.block j (Nat.lt_of_lt_of_le hj hg.size)).trans (hg.block j hj hne)⟩
      clear hr hg hb1
      have d0 := hr1.cell (i := ix * 4) (by omega)
      have f0 := hr1.frozen (ix * 4)
      have d1 := hr1.cell (i := ix * 4 + 1) (by omega)
      have f1 := hr1.frozen (ix * 4 + 1)
      have d2 := hr1.cell (i := ix * 4 + 2) (by omega)
      have f2 := hr1.frozen (ix * 4 + 2)
      have d3 := hr1.cell (i := ix * 4 + 3) (by omega)
      have f3 := hr1.frozen (ix * 4 + 3)
      go_wp2
      go_roundw
      case rel =>
        exact ⟨ix + 1, _, by omega, by first | rfl | go_num, congrArg (Value.int .i64) (by omega), ((((hr1.set _ _).set _ _).set _ _).set _ _), (((hg1.setB _ _).setB _ _).setB _ _).setB _ _⟩
      case measure => simp [intOf]; omega
    · have hin : ix = n := by omega
      have HN := hide hin
      clear hin
      go_wp2
      go_ret
      exact ⟨ret_int (by rw [unhide HN]), hg⟩
end Go.Proofs.Ytligbfegafkpjaa
