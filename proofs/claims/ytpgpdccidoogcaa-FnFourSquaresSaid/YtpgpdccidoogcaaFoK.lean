/-
  Plain: sums of two and of four squares and the divisors, up to 10000, in three products.
-/
import Derived.Test.YtpgpdccidoogcaaFoP
namespace Go.Proofs.Ytpgpdccidoogcaa
set_option linter.unusedVariables false
set_option linter.unusedSimpArgs false

def kF (M : Nat) : Bool :=
  (Th * ((Th * ((Th * (Th * 1 % M)) % M)) % M) % M == 1 + 8 * Wg u4) && (Th * (Th * 1 % M) % M + 4 * Wg (ur 3) == 1 + 4 * Wg (ur 1))
set_option maxRecDepth 100000 in
theorem kF_true : kF (Bg ^ 10001) = true := by decide +kernel
end Go.Proofs.Ytpgpdccidoogcaa
