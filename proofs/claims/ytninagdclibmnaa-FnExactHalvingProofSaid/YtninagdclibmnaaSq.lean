/-
  Squares by name.
-/
import Derived.Test.YtninagdclibmnaaDpB
import Derived.Test.YtninagdclibmnaaGsq
namespace Go.Proofs.Ytninagdclibmnaa
open Go.RowKit
set_option linter.unusedVariables false
set_option linter.unusedSimpArgs false
attribute [local go_sem] q2 q3 q4 q5 q6 q7 q8 q9 q10 q11 q12

theorem sq_rwi {D : Int} (F S : T3) (t : Int) (w : World) (h0 : InD D F) (h1 : 0 ≤ t) (h2 : t ≤ 1000000) (hs : S = sqN (rdT F) t.toNat) :
    Calls Try.prog 64 #[frm F, .int .i64 t] w fun e w' => e = .returned (frm S) ∧ Below w.heap.size w w' := by
  subst hs; exact square_D F t w h0 h1 h2
theorem sq_rws {D : Int} (F S : T3) (t : Int) (w : World) (h0 : InD D F) (h1 : 0 ≤ t) (h2 : t ≤ 1000000) (hs : S = sqN (rdT F) t.toNat) :
    Calls Try.prog 62 #[frm F, .int .i64 t] w fun e w' => e = .returned (frm S) ∧ Below w.heap.size w w' := by
  subst hs; exact dlSquare_D F t w h0 h1 h2
end Go.Proofs.Ytninagdclibmnaa
