/-
  Rows that come in: szRow, toRow, eqRow.
-/
import Derived.Test.YtfoofbcmaljmoaaDoorRow
import Derived.Test.YtfoofbcmaljmoaaDoorStB
namespace Go.Proofs.YtfoofbcmaljmoaaDoor
open Go.RowKit
set_option linter.unusedVariables false
set_option linter.unusedSimpArgs false
attribute [local go_sem] q2 q3 q4 q5 q6 q7 q8 q9 q10 q11 q12

/-- A row whose factors lie in a block of their own. -/
def RowP (r : RowV) (n : Nat) (z : Nat → Int) (w : World) (v : Value) : Prop := ∃ g : Nat, v = rwv r (.slice (some ⟨g, 0, none⟩) n n) ∧ RowI w g n z ∧ g < w.heap.size
theorem RowI.set {w : World} {g n b o : Nat} {z : Nat → Int} {u : Value} (h : RowI w g n z) (hb : b ≠ g) : RowI (w.setCell ⟨b, o, none⟩ u) g n z := World.rowIs.of_block h (Below.heap_setCell _ _ _ _ (fun e => hb e.symm))
theorem RowP.st {r : RowV} {n : Nat} {z : Nat → Int} : StB (RowP r n z) := fun W w' v hb ⟨g, h1, h2, h3⟩ => ⟨g, h1, h2.below hb, Nat.lt_of_lt_of_le h3 hb.size⟩
set_option maxRecDepth 100000 in
set_option maxHeartbeats 2000000 in
theorem eqRow_a (r : RowV) (g1 g2 n c1 c2 : Nat) (z : Nat → Int) (w : World) (hn : n ≤ 2000000) (h1 : RowI w g1 n z) (h2 : RowI w g2 n z) :
    Calls Tryd.prog 6 #[rwv r (.slice (some ⟨g1, 0, none⟩) n c1), rwv r (.slice (some ⟨g2, 0, none⟩) n c2)] w fun e w' => e = .returned (.bool true) ∧ Below w.heap.size w w' := by
  have H1 := hide h1
  have H2 := hide h2
  clear h1 h2
  go_enter Tryd.func6, Tryd.ntmps6
  go_wp2_with fail
  refine (eqIntS_any _ _ _ _ _ _ n c1 c2 z _ (by omega) (RowI.at ((unhide H1).below byGG) (Nat.zero_le _)) (RowI.at ((unhide H2).below byGG) (Nat.zero_le _))).mono ?_
  rintro en w' ⟨rfl, nq, rfl⟩
  go_wp2
  go_ret
  exact ⟨rfl, byGG⟩
end Go.Proofs.YtfoofbcmaljmoaaDoor
