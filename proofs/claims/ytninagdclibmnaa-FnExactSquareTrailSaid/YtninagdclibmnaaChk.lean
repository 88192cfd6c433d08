/-
  Plain: for every number up to 30 and all residues of the coefficients a point of size at most 5 serves: checked by the kernel.
-/
namespace Go.Proofs.Ytninagdclibmnaa
def ptsL : List (Nat × Nat) := [(0, 1), (1, 0), (1, 1), (1, 2), (2, 1), (1, 3), (2, 3), (3, 1), (3, 2), (1, 4), (3, 4), (4, 1), (4, 3), (1, 5), (2, 5), (3, 5), (4, 5), (5, 1), (5, 2), (5, 3), (5, 4)]
def chk1 (m a b c : Nat) : Bool := !(Nat.gcd (Nat.gcd (Nat.gcd a b) c) m == 1) || ptsL.any fun p => Nat.gcd (a * p.1 * p.1 + b * p.1 * p.2 + c * p.2 * p.2) m == 1
def chkM (m : Nat) : Bool := (List.range m).all fun a => (List.range m).all fun b => (List.range m).all fun c => chk1 m a b c
theorem chk_all : ((List.range 31).all chkM) = true := by decide +kernel
end Go.Proofs.Ytninagdclibmnaa
