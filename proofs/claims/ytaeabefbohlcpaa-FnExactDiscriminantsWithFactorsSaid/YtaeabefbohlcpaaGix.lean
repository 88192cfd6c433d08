/- A table of indices in memory. Where a form stands: grIndex. -/
import Derived.Test.YtaeabefbohlcpaaMpf
import Derived.Test.YtaeabefbohlcpaaOwn
namespace Go.Proofs.Ytaeabefbohlcpaa
open Go.RowKit
set_option linter.unusedVariables false
set_option linter.unusedSimpArgs false
attribute [local go_sem] q2 q3 q4 q5 q6 q7 q8 q9 q10 q11 q12

def trwL (T : Nat → Nat → Nat) (n i : Nat) : List Int := (List.range n).map fun j => ((T i j : Nat) : Int)
theorem trwL_len (T : Nat → Nat → Nat) (n i : Nat) : (trwL T n i).length = n := by simp [trwL]
theorem trwL_at (T : Nat → Nat → Nat) {n i j : Nat} (h : j < n) : (trwL T n i).getD j 0 = ((T i j : Nat) : Int) := by simp [trwL, List.getD_eq_getElem?_getD, List.getElem?_map, List.getElem?_range, h]
structure TX (w : World) (HI : Nat) (S : World → Prop) (wr : World) (g n i : Nat) (T : Nat → Nat → Nat) (gs : Nat → Nat) (vs : List Value) : Prop where
 out : wr.ownsRow w.heap.size 22 1 (.slice (some ⟨g, 0, none⟩) n n) n vs
 ptr : ∀ i', i' < i → vs.getD i' undef = .slice (some ⟨gs i', 0, none⟩) n n
 row : ∀ i', i' < i → IL wr w.heap.size (.slice (some ⟨gs i', 0, none⟩) n n) (trwL T n i')
 bel : Below w.heap.size w wr
 src : S wr
 hi : HI ≤ wr.heap.size
 gh : HI ≤ g
theorem TX.grown {w : World} {HI g n i : Nat} {S : World → Prop} {wr w2 : World} {T : Nat → Nat → Nat} {gs : Nat → Nat} {vs : List Value} {row : Option Nat} (h : TX w HI S wr g n i T gs vs) (hK : Kept w.heap.size HI S) (hg : wr.grownBy w2 row)
  (h1 : ∀ b, row = some b → HI ≤ b ∧ w.heap.size ≤ b ∧ b ≠ g ∧ ∀ i', i' < i → gs i' ≠ b) : TX w HI S w2 g n i T gs vs := by
 refine ⟨World.ownsRow.kept h.out hg (.inr fun e => (h1 _ e.symm).2.2.1 rfl), h.ptr, fun i' hi' => World.ownsRow.kept (h.row i' hi') hg (.inr fun e => (h1 _ e.symm).2.2.2 i' hi' rfl), h.bel.grown hg h.bel.size (fun k hk => (h1 k hk).2.1), hK _ _ (fun k k1 k2 => hg.block k (Nat.lt_of_lt_of_le k2 h.hi) (fun e => ?_)) h.src, Nat.le_trans h.hi hg.size, h.gh⟩
 have := (h1 k e.symm).1
 omega
theorem TX.call {w : World} {HI g n i : Nat} {S : World → Prop} {wr w2 : World} {T : Nat → Nat → Nat} {gs : Nat → Nat} {vs : List Value} (h : TX w HI S wr g n i T gs vs) (hK : Kept w.heap.size HI S) (hb : Below wr.heap.size wr w2) : TX w HI S w2 g n i T gs vs :=
 h.grown hK (bel_grown hb) (fun b e => by cases e)
theorem TX.put {w : World} {HI g n i gi : Nat} {S : World → Prop} {wr : World} {T : Nat → Nat → Nat} {gs : Nat → Nat} {vs : List Value} (h : TX w HI S wr g n i T gs vs) (hK : Kept w.heap.size HI S) (hi : i < n) (hne : ∀ i', i' < i → gs i' ≠ g) :
  TX w HI S (wr.setCell ⟨g, i, none⟩ (.slice (some ⟨gi, 0, none⟩) n n)) g n i T gs (vs.set i (.slice (some ⟨gi, 0, none⟩) n n)) ∧ wr.grownBy (wr.setCell ⟨g, i, none⟩ (.slice (some ⟨gi, 0, none⟩) n n)) (some g) := by
 obtain ⟨q1, q2⟩ := World.ownsRow.stored h.out i (.slice (some ⟨gi, 0, none⟩) n n)
 have hlo := (World.ownsRow.lt h.out g rfl).1
 refine ⟨⟨q1, fun i' hi' => ?_, fun i' hi' => World.ownsRow.kept (h.row i' hi') q2 (.inr fun e => ?_), h.bel.grown q2 h.bel.size (fun k hk => by cases hk; exact hlo), hK _ _ (fun k k1 k2 => q2.block k (Nat.lt_of_lt_of_le k2 h.hi) (fun e => ?_)) h.src, Nat.le_trans h.hi q2.size, h.gh⟩, q2⟩
 ·rw [List.getD_eq_getElem?_getD, List.getElem?_set, if_neg (by omega), ← List.getD_eq_getElem?_getD]
  exact h.ptr i' hi'
 ·simp only [Value.ownBlock, Option.some.injEq] at e
  exact hne i' hi' e
 ·simp only [Option.some.injEq] at e
  have := h.gh
  omega
theorem TX.next {w : World} {HI g n i gi : Nat} {S : World → Prop} {wr : World} {T : Nat → Nat → Nat} {gs : Nat → Nat} {vs : List Value} (h : TX w HI S wr g n i T gs vs) (hi : i < n) (hp : vs.getD i undef = .slice (some ⟨gi, 0, none⟩) n n) (hr : IL wr w.heap.size (.slice (some ⟨gi, 0, none⟩) n n) (trwL T n i)) :
  TX w HI S wr g n (i + 1) T (fun k => if k = i then gi else gs k) vs := by
 refine ⟨h.out, fun i' hi' => ?_, fun i' hi' => ?_, h.bel, h.src, h.hi, h.gh⟩
 ·by_cases e : i' = i
  ·subst e; rw [if_pos rfl]; exact hp
  ·rw [if_neg e]; exact h.ptr i' (by omega)
 ·by_cases e : i' = i
  ·subst e; rw [if_pos rfl]; exact hr
  ·rw [if_neg e]; exact h.row i' (by omega)
theorem TX.ne {w : World} {HI g n i : Nat} {S : World → Prop} {wr : World} {T : Nat → Nat → Nat} {gs : Nat → Nat} {vs : List Value} (h : TX w HI S wr g n i T gs vs) : ∀ i', i' < i → gs i' ≠ g := by
 intro i' hi' e
 have hr := h.row i' hi'
 rw [e] at hr
 rcases hr.2 with ⟨q1, q2⟩ | ⟨g1, cap, cur, q1, q2, q3, q4⟩
 ·cases q1
 ·rcases h.out.2 with ⟨p1, p2⟩ | ⟨g2, cap2, cur2, p1, p2, p3, p4⟩
  ·cases p1
  ·simp only [Value.slice.injEq, Option.some.injEq, Addr.mk.injEq] at q1 p1
   obtain ⟨⟨rfl, -⟩, -⟩ := q1
   obtain ⟨⟨rfl, -⟩, -⟩ := p1
   rw [q3] at p3
   simp only [Option.some.injEq, Obj.cells.injEq] at p3
   exact absurd p3.2.1 (by decide)
theorem TX.lt {w : World} {HI g n i : Nat} {S : World → Prop} {wr : World} {T : Nat → Nat → Nat} {gs : Nat → Nat} {vs : List Value} (h : TX w HI S wr g n i T gs vs) : ∀ i', i' < i → gs i' < wr.heap.size := fun i' hi' => (World.ownsRow.lt (h.row i' hi') (gs i') rfl).2
def tabS (HI g n : Nat) (T : Nat → Nat → Nat) (W : World) : Prop := g < HI ∧ ∀ i, i < n → ∃ gi, gi < HI ∧ W.cell? ⟨g, i, none⟩ = some (.slice (some ⟨gi, 0, none⟩) n n) ∧ ∀ j, j < n → W.cell? ⟨gi, j, none⟩ = some (.int .i64 ((T i j : Nat) : Int))
theorem tab_kept {HI g n : Nat} {T : Nat → Nat → Nat} : Kept 0 HI (tabS HI g n T) := by
 intro w w' hk h
 obtain ⟨h0, h1⟩ := h
 refine ⟨h0, fun i hi => ?_⟩
 obtain ⟨gi, q1, q2, q3⟩ := h1 i hi
 exact ⟨gi, q1, (World.cell?_of_block (hk g (Nat.zero_le _) h0)).trans q2, fun j hj => (World.cell?_of_block (hk gi (Nat.zero_le _) q1)).trans (q3 j hj)⟩
theorem TX.tab {w : World} {HI g n : Nat} {S : World → Prop} {wr : World} {T : Nat → Nat → Nat} {gs : Nat → Nat} {vs : List Value} (h : TX w HI S wr g n n T gs vs) : tabS wr.heap.size g n T wr := by
 refine ⟨(World.ownsRow.lt h.out g rfl).2, fun i hi => ⟨gs i, h.lt i hi, ?_, fun j hj => ?_⟩⟩
 ·have hl := h.out.1
  rw [World.ownsRow.cellAt h.out i (by omega), List.getElem?_eq_getElem (by omega)]
  have := h.ptr i hi
  rw [List.getD_eq_getElem?_getD, List.getElem?_eq_getElem (by omega)] at this
  exact congrArg some this
 ·rw [IL.cellAt (h.row i hi) (by rw [trwL_len]; exact hj), trwL_at T hj]
end Go.Proofs.Ytaeabefbohlcpaa
namespace Go.Proofs.Ytaeabefbohlcpaa
open Go.RowKit
set_option linter.unusedVariables false
set_option linter.unusedSimpArgs false
attribute [local go_sem] q2 q3 q4 q5 q6 q7 q8 q9 q10 q11 q12

theorem tri_ne {p q r x y z : Int} (h : ¬ (p, q, r) = (x, y, z)) : ¬ p = x ∨ (p = x ∧ ¬ q = y) ∨ (p = x ∧ q = y ∧ ¬ r = z) := by
 by_cases e0 : p = x
 ·by_cases e1 : q = y
  ·by_cases e2 : r = z
   ·subst e0 e1 e2; exact absurd rfl h
   ·exact .inr (.inr ⟨e0, e1, e2⟩)
  ·exact .inr (.inl ⟨e0, e1⟩)
 ·exact .inl e0
set_option maxRecDepth 100000 in
set_option maxHeartbeats 4000000 in
theorem grIndex_a (fs : List (Int × Int × Int)) (a : Option Addr) (c lo hi r : Nat) (x y z : Int) (w : World) (hF : FAt w lo hi a fs) (hhi : hi ≤ w.heap.size) (hr : r < fs.length) (he : fs.getD r (0, 0, 0) = (x, y, z)) (hn : fs.Nodup) (hl : fs.length ≤ 100000) :
  Calls Try.prog 66 #[.slice a fs.length c, .agg #[.int .i64 x, .int .i64 y, .int .i64 z]] w fun e w' => e = .returned (.int .i64 (r : Int)) ∧ Below w.heap.size w w' := by
 have HNE : Hid (∀ k, k < r → ¬ fs.getD k (0, 0, 0) = (x, y, z)) := hide fun k hk e => by
  rw [← he] at e
  simp only [List.getD_eq_getElem?_getD, List.getElem?_eq_getElem hr, List.getElem?_eq_getElem (show k < fs.length by omega), Option.getD_some] at e
  exact List.pairwise_iff_getElem.1 hn k r (by omega) hr hk e
 have HE := hide he
 clear he hn
 go_enter Try.func66, Try.ntmps66
 go_wp2
 go_loopw [9] (fun is wr => ∃ k : Nat, is = .int .i64 (k : Int) ∧ k ≤ r ∧ Ri3 wr w.heap.size x y z ∧ Below w.heap.size w wr) (fun is _ => r + 1 - (intOf is).toNat)
 case atStart => exact ⟨0, rfl, by omega, Ri3.m (by go_simp) (by go_simp) (by go_simp), byGG⟩
 case round =>
  obtain ⟨k, rfl, hk, ⟨c00, c01, c02, hz0⟩, hb⟩ := hrel
  obtain ⟨w1, rfl⟩ : ∃ w1 : World, w1 = wr := ⟨_, rfl⟩
  have hci : (k : Int) < (fs.length : Int) := by omega
  obtain ⟨g0, hg0, hg2, e0, e1, e2⟩ := FAt.cells (hF.below hb hhi) (show k < fs.length by omega)
  by_cases ck : k = r
  ·subst ck
   rw [unhide HE] at e0 e1 e2
   subst hg0
   go_wp2
   go_ret
   exact ⟨rfl, byGG⟩
  ·have hne := unhide HNE k (by omega)
   generalize fs.getD k (0, 0, 0) = X at *
   obtain ⟨p, q, t⟩ := X
   simp only at e0 e1 e2
   have hcs := tri_ne hne
   subst hg0
   clear hne
   rcases hcs with n1 | ⟨n0, n1⟩ | ⟨n0, n2, n1⟩
   all_goals
    go_wp2
    go_roundw
    case rel => first | exact ⟨k + 1, by first | rfl | go_num, by omega, Ri3.m (by first | assumption | go_simp) (by first | assumption | go_simp) (by first | assumption | go_simp), byGG⟩ | ((repeat apply Exists.intro); exact ⟨⟨k + 1, by first | rfl | go_num, by omega, Ri3.m (by first | assumption | go_simp) (by first | assumption | go_simp) (by first | assumption | go_simp), byGG⟩, rfl⟩)
    case measure => simp [intOf]; omega
end Go.Proofs.Ytaeabefbohlcpaa
