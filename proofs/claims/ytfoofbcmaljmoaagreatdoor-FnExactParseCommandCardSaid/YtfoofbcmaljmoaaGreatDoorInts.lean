/- Plain arithmetic: integer square roots, with no program in sight. Small lemmas on walks that every later text uses. The walks of impl.root and spec.nuRoot, isSquare and nuSquare: both return the integer square root. Slices of integers that lie in blocks of the call's own, and the laws' helpers over them: equal, mark, held. -/
import Derived.WalkKit
import Derived.WalkSpells
import Derived.WalkLawsBesides
import Derived.Test.YtfoofbcmaljmoaaGreatDoorProg
import Derived.Deep.OwnRows
import Derived.Deep.Draws
import Derived.Deep.QuietTactic
import Derived.BigQuiet
namespace Go.Proofs.YtfoofbcmaljmoaaGreatDoor

end Go.Proofs.YtfoofbcmaljmoaaGreatDoor
namespace Go.Proofs.YtfoofbcmaljmoaaGreatDoor
open Go.RowKit
set_option linter.unusedVariables false
set_option linter.unusedSimpArgs false

theorem hide {p : Prop} (h : p) : Hid p := h
theorem unhide {p : Prop} (h : Hid p) : p := h
theorem ret_int {k : IntKind} {a b : Int} (h : a = b) : Ending.returned (.int k a) = .returned (.int k b) := by rw [h]
theorem ret_bool {a b : Bool} (h : a = b) : Ending.returned (.bool a) = .returned (.bool b) := by rw [h]
theorem bcell {W w1 : World} (hb : Below W.heap.size W w1) : (∀ b o, b < W.heap.size → w1.cell? ⟨b, o, none⟩ = W.cell? ⟨b, o, none⟩) ∧ (∀ b o, b < W.heap.size → w1.frozen? ⟨b, o, none⟩ = W.frozen? ⟨b, o, none⟩) :=
 ⟨fun b o h => hb.cell (p := ⟨b, o, none⟩) h, fun b o h => hb.frozen (p := ⟨b, o, none⟩) h⟩
def inB (n lo hi : Int) : Bool := decide (lo ≤ n) && decide (n ≤ hi)
theorem inB_true {n lo hi : Int} (h : inB n lo hi = true) : lo ≤ n ∧ n ≤ hi := by unfold inB at h; simpa using h
theorem inB_false {n lo hi : Int} (h : inB n lo hi = false) : ¬ (lo ≤ n ∧ n ≤ hi) := by unfold inB at h; simpa using h

end Go.Proofs.YtfoofbcmaljmoaaGreatDoor
namespace Go.Proofs.YtfoofbcmaljmoaaGreatDoor
open Go.RowKit
set_option linter.unusedVariables false
set_option linter.unusedSimpArgs false

set_option maxHeartbeats 400000 in
theorem l1In_any (n lo hi : Int) (w : World) :
  Calls Tryz.prog 14 #[.int .i64 n, .int .i64 lo, .int .i64 hi] w fun e w' => e = .returned (.bool (inB n lo hi)) ∧ w = w' := by
 go_enter Tryz.func14, Tryz.ntmps14
 go_wp2
 all_goals (go_ret; exact ⟨ret_bool (by simp [inB]; try omega), rfl⟩)

end Go.Proofs.YtfoofbcmaljmoaaGreatDoor
namespace Go.Proofs.YtfoofbcmaljmoaaGreatDoor
open Go.RowKit
set_option linter.unusedVariables false
set_option linter.unusedSimpArgs false

def IntsAt (w : World) (lo hi : Nat) (a : Option Addr) (n : Nat) (f : Nat → Int) : Prop :=
 n = 0 ∨ ∃ g cap F, a = some ⟨g, 0, none⟩ ∧ lo ≤ g ∧ g < hi ∧ n ≤ cap ∧ w.rowIs g 3 cap F ∧ ∀ i, i < n → F i = .int .i64 (f i)

theorem IntsAt.keep {w w' : World} {lo hi : Nat} {a : Option Addr} {n : Nat} {f : Nat → Int} (h : IntsAt w lo hi a n f) (hk : ∀ k, lo ≤ k → k < hi → w'.heap[k]? = w.heap[k]?) : IntsAt w' lo hi a n f := by
 rcases h with h | ⟨g, cap, F, ha, h1, h2, h3, h4, h5⟩
 ·exact .inl h
 ·exact .inr ⟨g, cap, F, ha, h1, h2, h3, h4.of_block (hk g h1 h2), h5⟩
theorem IntsAt.below {w w' : World} {lo hi B : Nat} {a : Option Addr} {n : Nat} {f : Nat → Int} (h : IntsAt w lo hi a n f) (hb : Below B w w') (hB : hi ≤ B) : IntsAt w' lo hi a n f :=
 h.keep fun k _ h2 => hb.block k (by omega)
theorem below_drewN {B : Nat} {a w : World} (h : Below B a w) (n : Nat) : Below B a (w.drewN n) := ⟨h.os, h.tape, h.output, h.size, h.block⟩

end Go.Proofs.YtfoofbcmaljmoaaGreatDoor
