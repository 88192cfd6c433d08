/-
  Squares by name. Quotient powers by name.
-/
import Derived.Test.YtninagdclibmnaaDpB
import Derived.Test.YtninagdclibmnaaGsq
import Derived.Test.YtninagdclibmnaaGqu
namespace Go.Proofs.Ytninagdclibmnaa
open Go.RowKit
set_option linter.unusedVariables false
set_option linter.unusedSimpArgs false
attribute [local go_sem] q2 q3 q4 q5 q6 q7 q8 q9 q10 q11 q12

theorem sq_rwi {D : Int} (F S : T3) (t : Int) (w : World) (h0 : InD D F) (h1 : 0 ≤ t) (h2 : t ≤ 1000000) (hs : S = sqN (rdT F) t.toNat) :
    Calls Try.prog 64 #[frm F, .int .i64 t] w fun e w' => e = .returned (frm S) ∧ Below w.heap.size w w' := by
  subst hs; exact square_D F t w h0 h1 h2
theorem sq_rws {D : Int} (F S : T3) (t : Int) (w : World) (h0 : InD D F) (h1 : 0 ≤ t) (h2 : t ≤ 1000000) (hs : S = sqN (rdT F) t.toNat) :
    Calls Try.prog 62 #[frm F, .int .i64 t] w fun e w' => e = .returned (frm S) ∧ Below w.heap.size w w' := by
  subst hs; exact dlSquare_D F t w h0 h1 h2
end Go.Proofs.Ytninagdclibmnaa
namespace Go.Proofs.Ytninagdclibmnaa
open Go.RowKit
set_option linter.unusedVariables false
set_option linter.unusedSimpArgs false
attribute [local go_sem] q2 q3 q4 q5 q6 q7 q8 q9 q10 q11 q12

theorem qu_rw {D : Int} (F P : T3) (t l : Int) (w : World) (h0 : Frm D F) (h1 : 0 ≤ t) (h2 : t ≤ 1000000) (h3 : 2 ≤ l) (h4 : l ≤ 1000) (hp : P = quD D F t l) :
    Calls Try.prog 69 #[frm F, .int .i64 t, .int .i64 l] w fun e w' => e = .returned (frm P) ∧ Below w.heap.size w w' := by
  subst hp; exact quotientPower_D F t l w h0 h1 h2 h3 h4
theorem dq_rw {D : Int} (F P : T3) (t l : Int) (w : World) (h0 : Frm D F) (h1 : 0 ≤ t) (h2 : t ≤ 1000000) (h3 : 2 ≤ l) (h4 : l ≤ 1000) (hp : P = quD D F t l) :
    Calls Try.prog 68 #[frm F, .int .i64 t, .int .i64 l] w fun e w' => ∃ v, e = .returned v ∧ TupE (frm P) w' v ∧ Below w.heap.size w w' := by
  subst hp; exact (dlQuotient_D F t l w h0 h1 h2 h3 h4).mono fun e w' ⟨r, he, hb⟩ => ⟨_, he, ⟨r, rfl⟩, hb⟩
end Go.Proofs.Ytninagdclibmnaa
