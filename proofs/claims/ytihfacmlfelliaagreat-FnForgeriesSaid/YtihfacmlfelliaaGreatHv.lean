/- Powers and composites by name. Halving challenges on both sides. Halving: one fold on both sides. -/
import Derived.Test.YtihfacmlfelliaaGreatDpB
import Derived.Test.YtihfacmlfelliaaGreatGpw
import Derived.Test.YtihfacmlfelliaaGreatPw
namespace Go.Proofs.YtihfacmlfelliaaGreat
open Go.RowKit
set_option linter.unusedVariables false
set_option linter.unusedSimpArgs false
attribute [local go_sem] q2 q3 q4 q5 q6 q7 q8 q9 q10 q11 q12

theorem eq3_res (X Y : T3) (w : World) : (if X.1 = Y.1 then if X.2.1 = Y.2.1 then if X.2.2 = Y.2.2 then Result.ok (Next.value (Value.bool true)) w else Result.ok (Next.value (Value.bool false)) w else Result.ok (Next.value (Value.bool false)) w else Result.ok (Next.value (Value.bool false)) w) = Result.ok (Next.value (Value.bool (eqT X Y))) w := by
 unfold eqT
 by_cases h1 : X.1 = Y.1
 ·by_cases h2 : X.2.1 = Y.2.1
  ·by_cases h3 : X.2.2 = Y.2.2
   ·simp [h1, h2, h3]
   ·simp [h1, h2, h3]
  ·simp [h1, h2]
 ·simp [h1]
theorem pw_rwi {D : Int} (F X : T3) (k : Int) (w : World) (h0 : Frm D F) (h1 : 0 ≤ k) (h2 : k ≤ 1000000) (hX : X = pwD D F k) :
  Calls Tryz.prog 36 #[frm F, .int .i64 k] w fun e w' => e = .returned (frm X) ∧ Below w.heap.size w w' := by
 subst hX; exact powerForm_D F k w h0 h1 h2
theorem pw_rws {D : Int} (F X : T3) (k : Int) (w : World) (h0 : Frm D F) (h1 : 0 ≤ k) (h2 : k ≤ 1000000) (hX : X = pwD D F k) :
  Calls Tryz.prog 49 #[frm F, .int .i64 k] w fun e w' => e = .returned (frm X) ∧ Below w.heap.size w w' := by
 subst hX; exact coPower_D F k w h0 h1 h2
theorem cm_rwi {D : Int} (F G X : T3) (w : World) (h0 : InD D F) (h1 : InD D G) (hX : X = cmp F G) :
  Calls Tryz.prog 30 #[frm F, frm G] w fun e w' => e = .returned (frm X) ∧ Below w.heap.size w w' := by
 subst hX; exact compose_D F G w h0 h1
theorem cm_rws {D : Int} (F G X : T3) (w : World) (h0 : InD D F) (h1 : InD D G) (hX : X = cmp F G) :
  Calls Tryz.prog 43 #[frm F, frm G] w fun e w' => e = .returned (frm X) ∧ Below w.heap.size w w' := by
 subst hX; exact coMul_D F G w h0 h1
theorem rd_rwi {D : Int} (F X : T3) (w : World) (h0 : InD D F) (hX : X = rdT F) :
  Calls Tryz.prog 53 #[frm F] w fun e w' => e = .returned (frm X) ∧ Below w.heap.size w w' := by
 subst hX; exact reduced_D F w h0
theorem rd_rws {D : Int} (F X : T3) (w : World) (h0 : InD D F) (hX : X = rdT F) :
  Calls Tryz.prog 40 #[frm F] w fun e w' => e = .returned (frm X) ∧ Below w.heap.size w w' := by
 subst hX; exact reClass_D F w h0

theorem pm_rwi (t m E : Int) (w : World) (h0 : 0 ≤ t ∧ t ≤ 1000000) (h1 : 1 ≤ m) (h2 : m ≤ 1000000) (hE : E = pmI 2 t m) :
  Calls Tryz.prog 52 #[.int .i64 2, .int .i64 t, .int .i64 m] w fun e w' => e = .returned (.int .i64 E) ∧ w = w' := by
 subst hE; exact power_i 2 t m w (by omega) h0 h1 h2
theorem ch_rxi (F G : T3) (t L : Int) (w : World) (h0 : Frm (dT F) F) (h1 : Frm (dT F) G) (h2 : 0 ≤ t) (h3 : t ≤ 1000000) (hL : L = dpL F G t) :
  Calls Tryz.prog 32 #[frm F, frm G, .int .i64 t] w fun e w' => e = .returned (.int .i64 L) ∧ Below w.heap.size w w' := by
 subst hL; exact ch_rwi F G t w h0 h1 h2 h3

theorem ch_rxs (F G : T3) (t L : Int) (w : World) (h0 : Frm (dT F) F) (h1 : Frm (dT F) G) (h2 : 0 ≤ t) (h3 : t ≤ 1000000) (hL : L = dpL F G t) :
  Calls Tryz.prog 45 #[frm F, frm G, .int .i64 t] w fun e w' => e = .returned (.int .i64 L) ∧ Below w.heap.size w w' := by
 subst hL; exact ch_rws F G t w h0 h1 h2 h3

end Go.Proofs.YtihfacmlfelliaaGreat
namespace Go.Proofs.YtihfacmlfelliaaGreat
open Go.RowKit
set_option linter.unusedVariables false
set_option linter.unusedSimpArgs false
attribute [local go_sem] q2 q3 q4 q5 q6 q7 q8 q9 q10 q11 q12

end Go.Proofs.YtihfacmlfelliaaGreat
namespace Go.Proofs.YtihfacmlfelliaaGreat
open Go.RowKit
set_option linter.unusedVariables false
set_option linter.unusedSimpArgs false
attribute [local go_sem] q2 q3 q4 q5 q6 q7 q8 q9 q10 q11 q12

end Go.Proofs.YtihfacmlfelliaaGreat
