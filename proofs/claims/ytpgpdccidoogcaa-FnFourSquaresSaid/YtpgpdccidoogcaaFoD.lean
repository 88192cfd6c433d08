/-
  The divisors of a number.
-/
import Derived.Test.YtpgpdccidoogcaaDiv
import Derived.Test.YtpgpdccidoogcaaAbs
import Derived.Test.YtpgpdccidoogcaaWorld
namespace Go.Proofs.Ytpgpdccidoogcaa
open Go.RowKit
set_option linter.unusedVariables false
set_option linter.unusedSimpArgs false
attribute [local go_sem] q2 q3 q4 q5 q6 q7 q8 q9 q10 q11 q12

theorem IntsAt.low {w : World} {lo lo' hi n : Nat} {a : Option Addr} {f : Nat → Int} (h : IntsAt w lo hi a n f) (h1 : lo' ≤ lo) : IntsAt w lo' hi a n f := by
  rcases h with h | ⟨g, cap, F, ha, g1, g2, r⟩
  · exact .inl h
  · exact .inr ⟨g, cap, F, ha, by omega, g2, r⟩
theorem implDivisorsA (n : Int) (D : List Int) (w : World) (hn : 0 < n ∧ n ≤ 10000) (hD : D = divsN n.toNat) : Calls Try.prog 9 #[.int .i64 n] w fun e w' => ∃ a c, e = .returned (.tuple #[.slice a D.length c, .bool true]) ∧ IntsAt w' w.heap.size w'.heap.size a D.length (fun i => D.getD i 0) ∧ Below w.heap.size w w' := by
  obtain ⟨m, rfl⟩ := Int.eq_ofNat_of_zero_le (show 0 ≤ n by omega)
  rw [Int.toNat_natCast] at hD
  subst hD
  have hnum : allB [(m : Int)] (-1000000) 1000000 = true := by simp [allB, inB]; omega
  have hm0 : ¬ (m : Int) = 0 := by omega
  have hi64 : I64 (m : Int) := by unfold I64; omega
  have habs : absI (m : Int) = (m : Int) := by unfold absI; omega
  go_enter Try.func9, Try.ntmps9
  go_wp2_with (go_at_call 32; refine (areNumbers_any [(m : Int)] _ _ _ (i64_list (by simp only [List.mem_cons, List.not_mem_nil, or_false, forall_eq_or_imp, forall_eq]; exact hi64)) (by simp) (cells_new _ _ _ _ _ rfl (by simp))).mono ?_; rintro e w1 ⟨rfl, rfl⟩; rw [hnum])
  refine (abs_any (m : Int) _ hi64).mono ?_
  rintro e w1 ⟨rfl, rfl⟩
  rw [habs]
  go_wp2_with fail
  refine (implDivisors_any m _ (by omega) (by omega)).mono ?_
  rintro e w2 ⟨a, c, rfl, hil, hb⟩
  obtain ⟨_, hI⟩ := hil.ints
  go_wp2
  go_ret2
  exact ⟨a, c, rfl, hI.low (by simp), (gr_alloc (Below.refl _ _) _).trans (hb.mono (by simp))⟩
end Go.Proofs.Ytpgpdccidoogcaa
