/-
  Predicates of a world and a value that every callee keeps.
-/
import Derived.Test.YtfoofbcmaljmoaaDoorRule
namespace Go.Proofs.YtfoofbcmaljmoaaDoor
open Go.RowKit
set_option linter.unusedVariables false
set_option linter.unusedSimpArgs false

def StB (P : World → Value → Prop) : Prop := ∀ W w' v, Below W.heap.size W w' → P W v → P w' v
theorem Kd.st (k : Kd) : StB k.ok := fun W w' v hb h => Kd.ok_below hb h
end Go.Proofs.YtfoofbcmaljmoaaDoor
