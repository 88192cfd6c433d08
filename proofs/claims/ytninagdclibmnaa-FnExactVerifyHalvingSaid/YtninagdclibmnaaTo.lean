/-
  A form, taken over.
-/
import Derived.Test.YtninagdclibmnaaGp
import Derived.Test.YtninagdclibmnaaOwn
namespace Go.Proofs.Ytninagdclibmnaa
open Go.RowKit
set_option linter.unusedVariables false
set_option linter.unusedSimpArgs false
attribute [local go_sem] q2 q3 q4 q5 q6 q7 q8 q9 q10 q11 q12

theorem toForm_w (F : T3) (w : World) : Calls Try.prog 17 #[frm F] w fun e w' => e = .returned (frm F) ∧ Below w.heap.size w w' := by
  go_enter Try.func17, Try.ntmps17
  go_wp2
  refine bodyPost_ret (v := frm F) (by simp [results, Try.results17, go_sem, *]) rfl ?_
  exact ⟨rfl, byGG⟩
end Go.Proofs.Ytninagdclibmnaa
