/-
  Matrices compared; products within bounds; copy as a step of a drawn region.
-/
import Derived.Test.YtjknkgmmgdfjiaaTw
namespace Go.Proofs.Ytjknkgmmgdfjiaa
open Go.RowKit
set_option linter.unusedVariables false
set_option linter.unusedSimpArgs false
attribute [local go_sem] q2 q3 q4 q5 q6 q7 q8 q9 q10 q11 q12

set_option maxRecDepth 100000 in
set_option maxHeartbeats 1000000 in
theorem less_a (p q r s p2 q2 r2 s2 : Int) (w : World) :
    Calls Try.prog 47 #[.agg #[.int .i64 p, .int .i64 q, .int .i64 r, .int .i64 s], .agg #[.int .i64 p2, .int .i64 q2, .int .i64 r2, .int .i64 s2]] w fun e w' => e = .returned (.bool (ltM (p, q, r, s) (p2, q2, r2, s2))) ∧ Below w.heap.size w w' := by
  by_cases e0 : p = p2
  · subst e0
    by_cases e1 : q = q2
    · subst e1
      by_cases e2 : r = r2
      · subst e2
        go_enter Try.func47, Try.ntmps47
        go_wp2
        go_returns
        refine ⟨ret_bool (by simp [ltM]), ?_⟩
        (repeat' first | with_reducible (first | exact Below.refl _ _ | assumption | refine gr_alloc ?_ _ | refine below_drewN ?_ _ | refine below_drew ?_ | refine gr_call ?_ (by assumption) | refine Below.setCell ?_ ?_ _) | go_size | omega | (simp; omega))
      · have k2 : (r != r2) = true := by simpa using e2
        go_enter Try.func47, Try.ntmps47
        go_wp2
        go_returns
        refine ⟨ret_bool (by simp [ltM, e2]), ?_⟩
        (repeat' first | with_reducible (first | exact Below.refl _ _ | assumption | refine gr_alloc ?_ _ | refine below_drewN ?_ _ | refine below_drew ?_ | refine gr_call ?_ (by assumption) | refine Below.setCell ?_ ?_ _) | go_size | omega | (simp; omega))
    · have k1 : (q != q2) = true := by simpa using e1
      go_enter Try.func47, Try.ntmps47
      go_wp2
      go_returns
      refine ⟨ret_bool (by simp [ltM, e1]), ?_⟩
      (repeat' first | with_reducible (first | exact Below.refl _ _ | assumption | refine gr_alloc ?_ _ | refine below_drewN ?_ _ | refine below_drew ?_ | refine gr_call ?_ (by assumption) | refine Below.setCell ?_ ?_ _) | go_size | omega | (simp; omega))
  · have k0 : (p != p2) = true := by simpa using e0
    go_enter Try.func47, Try.ntmps47
    go_wp2
    go_returns
    refine ⟨ret_bool (by simp [ltM, e0]), ?_⟩
    (repeat' first | with_reducible (first | exact Below.refl _ _ | assumption | refine gr_alloc ?_ _ | refine below_drewN ?_ _ | refine below_drew ?_ | refine gr_call ?_ (by assumption) | refine Below.setCell ?_ ?_ _) | go_size | omega | (simp; omega))

set_option maxRecDepth 100000 in
set_option maxHeartbeats 1000000 in
theorem reLess_a (p q r s p2 q2 r2 s2 : Int) (w : World) :
    Calls Try.prog 36 #[.agg #[.int .i64 p, .int .i64 q, .int .i64 r, .int .i64 s], .agg #[.int .i64 p2, .int .i64 q2, .int .i64 r2, .int .i64 s2]] w fun e w' => e = .returned (.bool (ltM (p, q, r, s) (p2, q2, r2, s2))) ∧ Below w.heap.size w w' := by
  by_cases e0 : p = p2
  · subst e0
    by_cases e1 : q = q2
    · subst e1
      by_cases e2 : r = r2
      · subst e2
        go_enter Try.func36, Try.ntmps36
        go_wp2
        go_returns
        refine ⟨ret_bool (by simp [ltM]), ?_⟩
        (repeat' first | with_reducible (first | exact Below.refl _ _ | assumption | refine gr_alloc ?_ _ | refine below_drewN ?_ _ | refine below_drew ?_ | refine gr_call ?_ (by assumption) | refine Below.setCell ?_ ?_ _) | go_size | omega | (simp; omega))
      · have k2 : (r != r2) = true := by simpa using e2
        go_enter Try.func36, Try.ntmps36
        go_wp2
        go_returns
        refine ⟨ret_bool (by simp [ltM, e2]), ?_⟩
        (repeat' first | with_reducible (first | exact Below.refl _ _ | assumption | refine gr_alloc ?_ _ | refine below_drewN ?_ _ | refine below_drew ?_ | refine gr_call ?_ (by assumption) | refine Below.setCell ?_ ?_ _) | go_size | omega | (simp; omega))
    · have k1 : (q != q2) = true := by simpa using e1
      go_enter Try.func36, Try.ntmps36
      go_wp2
      go_returns
      refine ⟨ret_bool (by simp [ltM, e1]), ?_⟩
      (repeat' first | with_reducible (first | exact Below.refl _ _ | assumption | refine gr_alloc ?_ _ | refine below_drewN ?_ _ | refine below_drew ?_ | refine gr_call ?_ (by assumption) | refine Below.setCell ?_ ?_ _) | go_size | omega | (simp; omega))
  · have k0 : (p != p2) = true := by simpa using e0
    go_enter Try.func36, Try.ntmps36
    go_wp2
    go_returns
    refine ⟨ret_bool (by simp [ltM, e0]), ?_⟩
    (repeat' first | with_reducible (first | exact Below.refl _ _ | assumption | refine gr_alloc ?_ _ | refine below_drewN ?_ _ | refine below_drew ?_ | refine gr_call ?_ (by assumption) | refine Below.setCell ?_ ?_ _) | go_size | omega | (simp; omega))

theorem wrap_sum2 {u v : Int} (hu : -1000000000000000000 ≤ u ∧ u ≤ 1000000000000000000) (hv : -1000000000000000000 ≤ v ∧ v ≤ 1000000000000000000) : wrap64 (wrap64 u + wrap64 v) = u + v := by unfold wrap64; omega
/-- A product of matrices whose entries are within bounds. -/
theorem mm_in {p q r s p2 q2 r2 s2 M N : Int} (hM : 0 ≤ M) (hMN : M * N ≤ 1000000000000000000) (hp : -M ≤ p ∧ p ≤ M) (hq : -M ≤ q ∧ q ≤ M) (hr : -M ≤ r ∧ r ≤ M) (hs : -M ≤ s ∧ s ≤ M)
    (hp2 : -N ≤ p2 ∧ p2 ≤ N) (hq2 : -N ≤ q2 ∧ q2 ≤ N) (hr2 : -N ≤ r2 ∧ r2 ≤ N) (hs2 : -N ≤ s2 ∧ s2 ≤ N) :
    (mmP p q r s p2 q2 r2 s2, mmQ p q r s p2 q2 r2 s2, mmR p q r s p2 q2 r2 s2, mmS p q r s p2 q2 r2 s2) = mM (p, q, r, s) (p2, q2, r2, s2) := by
  have f : ∀ {x y : Int}, -M ≤ x ∧ x ≤ M → -N ≤ y ∧ y ≤ N → -1000000000000000000 ≤ x * y ∧ x * y ≤ 1000000000000000000 := fun {x y} hx hy => by
    have := pr_bdM hM hx hy
    omega
  unfold mmP mmQ mmR mmS mM
  rw [wrap_sum2 (f hp hp2) (f hq hr2), wrap_sum2 (f hp hq2) (f hq hs2), wrap_sum2 (f hr hp2) (f hs hr2), wrap_sum2 (f hr hq2) (f hs hs2)]
theorem mm_bd {p q r s p2 q2 r2 s2 M N : Int} (hM : 0 ≤ M) (hp : -M ≤ p ∧ p ≤ M) (hq : -M ≤ q ∧ q ≤ M) (hr : -M ≤ r ∧ r ≤ M) (hs : -M ≤ s ∧ s ≤ M)
    (hp2 : -N ≤ p2 ∧ p2 ≤ N) (hq2 : -N ≤ q2 ∧ q2 ≤ N) (hr2 : -N ≤ r2 ∧ r2 ≤ N) (hs2 : -N ≤ s2 ∧ s2 ≤ N) :
    ∀ x, x = (mM (p, q, r, s) (p2, q2, r2, s2)).1 ∨ x = (mM (p, q, r, s) (p2, q2, r2, s2)).2.1 ∨ x = (mM (p, q, r, s) (p2, q2, r2, s2)).2.2.1 ∨ x = (mM (p, q, r, s) (p2, q2, r2, s2)).2.2.2 → -(2 * (M * N)) ≤ x ∧ x ≤ 2 * (M * N) := by
  have f : ∀ {x y : Int}, -M ≤ x ∧ x ≤ M → -N ≤ y ∧ y ≤ N → -(M * N) ≤ x * y ∧ x * y ≤ M * N := fun {x y} hx hy => pr_bdM hM hx hy
  have a1 := f hp hp2
  have a2 := f hq hr2
  have a3 := f hp hq2
  have a4 := f hq hs2
  have a5 := f hr hp2
  have a6 := f hs hr2
  have a7 := f hr hq2
  have a8 := f hs hs2
  unfold mM
  rintro x (rfl | rfl | rfl | rfl) <;> simp only <;> constructor <;> omega
/-- copy within the call's own list, as a step of a drawn region. -/
theorem step_copyM {ops : Array Oper} {o : Oper} {a : Act} {w : World} {K : Act → World → Prop} {Q : Exit → Act → World → Prop} {E : Prop} (hgd : o.guard = none) (d s : Operand)
    (ho : o.op = .call { callee := .builtin .copy, args := #[d, s], argTypes := #[39, 39] }) (lo g n c k : Nat) (ms : List M4) (dp : Option Addr) (dLen dCap sLen sCap : Nat)
    (hd : a.eval d = .slice dp dLen dCap) (hs : a.eval s = .slice (some ⟨g, k * 4, none⟩) sLen sCap) (h1 : dLen = ms.length - (k + 1)) (h2 : sLen = ms.length - k)
    (h : ML w lo (.slice (some ⟨g, 0, none⟩) n c) ms) (hk : k < ms.length) (hdp : k + 1 < ms.length → dp = some ⟨g, (k + 1) * 4, none⟩)
    (hK : ∀ w', ML w' lo (.slice (some ⟨g, 0, none⟩) n c) (shM ms k) → w.grownBy w' (some g) → K (a.put o.dst (goInt dLen)) w') :
    if Region.wanted o (yielded ops a.tmps) = true then Oper.wp Try.prog o a w K Q else E := by
  have hw : Region.wanted o (yielded ops a.tmps) = true := by simp [Region.wanted, hgd]
  rw [if_pos hw]
  subst h1
  subst h2
  obtain ⟨w', hrun, hm, hg⟩ := h.copied hk dp dCap sCap o.type hdp
  unfold Oper.wp
  simp [execOp, ho, resolve, invoke, builtin, hd, hs, hrun, Result.andThen]
  exact hK w' hm hg
end Go.Proofs.Ytjknkgmmgdfjiaa
