/-
  The composite over triples, on both sides.
-/
import Derived.Test.YtninagdclibmnaaGb
import Derived.Test.YtninagdclibmnaaMul
namespace Go.Proofs.Ytninagdclibmnaa
open Go.RowKit
set_option linter.unusedVariables false
set_option linter.unusedSimpArgs false
attribute [local go_sem] q2 q3 q4 q5 q6 q7 q8 q9 q10 q11 q12

theorem compose_D {D : Int} (F G : T3) (w : World) (h : InD D F) (h2 : InD D G) : Calls Try.prog 72 #[frm F, frm G] w fun e w' => e = .returned (frm (cmp F G)) ∧ Below w.heap.size w w' :=
  (compose_r F.1 F.2.1 F.2.2 G.1 G.2.1 G.2.2 w h.cl h2.cl (h2.d.trans h.d.symm)).mono fun e w' ⟨u, v, k, he, hc, hb⟩ => ⟨by rw [cp_of hc]; exact he, hb⟩
theorem coMul_D {D : Int} (F G : T3) (w : World) (h : InD D F) (h2 : InD D G) : Calls Try.prog 66 #[frm F, frm G] w fun e w' => e = .returned (frm (cmp F G)) ∧ Below w.heap.size w w' :=
  (coMul_r F.1 F.2.1 F.2.2 G.1 G.2.1 G.2.2 w h.cl h2.cl (h2.d.trans h.d.symm)).mono fun e w' ⟨u, v, k, he, hc, hb⟩ => ⟨by rw [cp_of hc]; exact he, hb⟩
end Go.Proofs.Ytninagdclibmnaa
