/-
  The texts of forms on both sides.
-/
import Derived.Test.YtfoofbcmaljmoaaDoorIto
namespace Go.Proofs.YtfoofbcmaljmoaaDoor
open Go.RowKit
set_option linter.unusedVariables false
set_option linter.unusedSimpArgs false
attribute [local go_sem] q2 q3 q4 q5 q6 q7 q8 q9 q10 q11 q12

end Go.Proofs.YtfoofbcmaljmoaaDoor
