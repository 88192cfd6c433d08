/- Lists of characters. -/
import Derived.Test.YtaeabefbohlcpaaFan
import Derived.Test.YtaeabefbohlcpaaLevel
namespace Go.Proofs.Ytaeabefbohlcpaa
open Go.RowKit
set_option linter.unusedVariables false
set_option linter.unusedSimpArgs false
attribute [local go_sem] q2 q3 q4 q5 q6 q7 q8 q9 q10 q11 q12

def srcV (LO HI : Nat) (a : Option Addr) (vs : List Value) (W : World) : Prop := vs = [] ∨ ∃ g, a = some ⟨g, 0, none⟩ ∧ LO ≤ g ∧ g < HI ∧ ∀ j, j < vs.length → W.cell? ⟨g, j, none⟩ = some (vs.getD j undef)
theorem srcV_kept {LO HI : Nat} {a : Option Addr} {vs : List Value} : Kept LO HI (srcV LO HI a vs) := by
 intro w w' hk h
 rcases h with h | ⟨g, ha, h1, h2, h3⟩
 ·exact .inl h
 ·exact .inr ⟨g, ha, h1, h2, fun j hj => (World.cell?_of_block (hk g h1 h2)).trans (h3 j hj)⟩
theorem srcV_of {w : World} {lo n c sz : Nat} {T : TypeId} {a : Option Addr} {vs : List Value} (h : w.ownsRow lo T sz (.slice a n c) n vs) : srcV lo w.heap.size a vs w := by
 have hl := h.1
 by_cases q : vs = []
 ·exact .inl q
 ·have hn : 0 < n := by
   rcases Nat.eq_zero_or_pos n with z | z
   ·subst z; rw [Nat.zero_mul] at hl; exact absurd (List.eq_nil_of_length_eq_zero hl) q
   ·exact z
  obtain ⟨g, cap, e⟩ : ∃ g cap, Value.slice a n c = .slice (some ⟨g, 0, none⟩) n cap := by
   rcases h.2 with ⟨h1, h2⟩ | ⟨g, cap, cur, h1, _⟩
   ·omega
   ·exact ⟨g, cap, h1⟩
  simp only [Value.slice.injEq] at e
  obtain ⟨rfl, -, rfl⟩ := e
  refine .inr ⟨g, rfl, (World.ownsRow.lt h g rfl).1, (World.ownsRow.lt h g rfl).2, fun j hj => ?_⟩
  rw [World.ownsRow.cellAt h j (by omega), List.getElem?_eq_getElem hj, List.getD_eq_getElem?_getD, List.getElem?_eq_getElem hj]; rfl
theorem srcV_at {LO HI : Nat} {a : Option Addr} {vs : List Value} {W : World} (h : srcV LO HI a vs W) (hn : 0 < vs.length) : ∃ g, a = some ⟨g, 0, none⟩ ∧ LO ≤ g ∧ g < HI ∧ ∀ j, j < vs.length → W.cell? ⟨g, j, none⟩ = some (vs.getD j undef) := by
 rcases h with h | h
 ·subst h; exact absurd hn (by simp)
 ·exact h
def RetV (T : TypeId) (sz : Nat) (w : World) (n : Nat) (vs : List Value) (e : Ending) (w' : World) : Prop := ∃ a c, e = .returned (.slice a n c) ∧ w'.ownsRow w.heap.size T sz (.slice a n c) n vs ∧ Below w.heap.size w w'
theorem SD.ret {T : TypeId} {sz n c LO HI : Nat} {w wr : World} {S : World → Prop} {a : Option Addr} {vs : List Value} (h : SD T sz w LO HI S wr (.slice a n c) n vs) {en : Ending} (he : en = .returned (.slice a n c)) : RetV T sz w n vs en wr := ⟨a, c, he, h.own, h.bel⟩
def chV (zs : List (Int × Int)) : List Value := zs.flatMap fun z => [.int .i64 z.1, .int .i64 z.2]
theorem chV_len (zs : List (Int × Int)) : (chV zs).length = zs.length * 2 := by
 induction zs with
 | nil => rfl
 | cons z zs ih =>
  have e : chV (z :: zs) = .int .i64 z.1 :: .int .i64 z.2 :: chV zs := rfl
  rw [e, List.length_cons, List.length_cons, ih, List.length_cons]; omega
theorem chV_app (zs ys : List (Int × Int)) : chV (zs ++ ys) = chV zs ++ chV ys := by unfold chV; rw [List.flatMap_append]
theorem chV_at : ∀ (zs : List (Int × Int)) (i : Nat), i < zs.length → (chV zs).getD (i * 2) undef = .int .i64 (zs.getD i (0, 0)).1 ∧ (chV zs).getD (i * 2 + 1) undef = .int .i64 (zs.getD i (0, 0)).2
 | [], i, h => by simp at h
 | z :: zs, 0, h => ⟨rfl, rfl⟩
 | z :: zs, i + 1, h => by
  have := chV_at zs i (by simp at h; omega)
  have e : (chV (z :: zs)) = .int .i64 z.1 :: .int .i64 z.2 :: chV zs := rfl
  rw [e, show (i + 1) * 2 = i * 2 + 1 + 1 by omega]
  exact this
theorem chV_one (zs : List (Int × Int)) : ∀ u ∈ chV zs, u.oneCell' = true := by
 intro u hu
 unfold chV at hu
 rw [List.mem_flatMap] at hu
 obtain ⟨e, _, he⟩ := hu
 simp only [List.mem_cons, List.not_mem_nil, or_false] at he
 rcases he with rfl | rfl <;> rfl
theorem Try.infoCh : (Try.prog.info? 70).map (fun i => (i.zero, i.size, i.bytes)) = some (some (.agg #[.int .i64 0, .int .i64 0]), 2, 16) := by kernel_rfl
theorem news_ch1 {w : World} {B : Nat} {k p : Int} (h0 : w.cell? ⟨B, 0, none⟩ = some (.int .i64 k)) (h1 : w.cell? ⟨B, 1, none⟩ = some (.int .i64 p)) : ∀ j u, (chV [(k, p)])[j]? = some u → w.cell? ((⟨B, 0, none⟩ : Addr).add j) = some u := by
 intro j u hu
 match j with
 | 0 => simp [chV] at hu; subst hu; simpa [Addr.add] using h0
 | 1 => simp [chV] at hu; subst hu; simpa [Addr.add] using h1
 | j + 2 => simp [chV] at hu
theorem news_ch2 {w : World} {B : Nat} {k p k2 p2 : Int} (h0 : w.cell? ⟨B, 0, none⟩ = some (.int .i64 k)) (h1 : w.cell? ⟨B, 1, none⟩ = some (.int .i64 p)) (h2 : w.cell? ⟨B, 2, none⟩ = some (.int .i64 k2)) (h3 : w.cell? ⟨B, 3, none⟩ = some (.int .i64 p2)) : ∀ j u, (chV [(k, p), (k2, p2)])[j]? = some u → w.cell? ((⟨B, 0, none⟩ : Addr).add j) = some u := by
 intro j u hu
 match j with
 | 0 => simp [chV] at hu; subst hu; simpa [Addr.add] using h0
 | 1 => simp [chV] at hu; subst hu; simpa [Addr.add] using h1
 | 2 => simp [chV] at hu; subst hu; simpa [Addr.add] using h2
 | 3 => simp [chV] at hu; subst hu; simpa [Addr.add] using h3
 | j + 4 => simp [chV] at hu
theorem app_ch (w : World) {ops : Array Oper} {rest : List Oper} {o : Oper} {a : Act} {Q : Exit → Act → World → Prop} (hgd : o.guard = none) (s x : Operand)
  (ho : o.op = .call { callee := .builtin .append, args := #[s, x], argTypes := #[67, 67] })
  (lo : Nat) (v : Value) (n m : Nat) (zs news : List (Int × Int)) (B : Nat) (hs : a.eval s = v) (hx : a.eval x = .slice (some ⟨B, 0, none⟩) m m)
  (hown : w.ownsRow lo 70 2 v n (chV zs)) (hm : news.length = m) (hm0 : m ≤ 10) (hB : ∀ j u, (chV news)[j]? = some u → w.cell? ((⟨B, 0, none⟩ : Addr).add j) = some u) (hlen : n ≤ 1000000000) (hlo : lo ≤ w.heap.size)
  (h : ∀ g cap w', w'.ownsRow lo 70 2 (.slice (some ⟨g, 0, none⟩) (n + m) cap) (n + m) (chV (zs ++ news)) → w.grownBy w' v.ownBlock → (v.ownBlock = some g ∨ g = w.heap.size) → g < w'.heap.size →
   wpList Try.prog ops Q rest (a.put o.dst (.slice (some ⟨g, 0, none⟩) (n + m) cap)) w') (hm1 : 1 ≤ m) : wpList Try.prog ops Q (o :: rest) a w := by
 obtain ⟨i0, hi, hz0, hz1, hz2⟩ := info_parts Try.infoCh
 refine wpList_append_lies w hgd s x 67 ho lo 70 i0 (.agg #[.int .i64 0, .int .i64 0]) 2 16 Try.underlying67 hi hz0 hz1 hz2 rfl (by decide) v n _ hs hown ⟨B, 0, none⟩ m m (chV news) hx (by rw [chV_len, hm]) hB (chV_one _) hm1 (by unfold maxLen; omega) (by omega) hlo _ rfl ?_
 intro g cap w' h1 h2 h3 h4
 refine h g cap w' ?_ h2 h3 h4
 rw [chV_app]; exact h1
theorem neg_mod {d : Int} (h : negB d = true) : d % 4 ≤ 1 := by
 unfold negB at h; simp at h; exact h.2
def chP (ps : List Nat) : Nat → List (Int × Int)
 | 0 => []
 | k + 1 => if 2 < ps.getD k 0 then chP ps k ++ [(1, (ps.getD k 0 : Int))] else chP ps k
theorem chP_len (ps : List Nat) : ∀ k, (chP ps k).length ≤ k
 | 0 => Nat.le_refl _
 | k + 1 => by
  have := chP_len ps k
  rw [chP]; split
  ·rw [List.length_append]; simp; omega
  ·omega
def chT (d : Int) : List (Int × Int) := if d % 2 ≠ 0 then [] else if (-d / 4) % 8 = 1 ∨ (-d / 4) % 8 = 5 ∨ (-d / 4) % 8 = 4 then [(2, 0)] else if (-d / 4) % 8 = 2 then [(4, 0)] else if (-d / 4) % 8 = 6 then [(3, 0)] else if (-d / 4) % 8 = 0 then [(2, 0), (3, 0)] else []
def chL (d : Int) : List (Int × Int) := chP (psL (-d).toNat) (psL (-d).toNat).length ++ chT d
theorem chL_len {d : Int} (h : -2000 ≤ d) (h1 : d ≤ -3) : (chL d).length ≤ 2002 := by
 unfold chL
 rw [List.length_append]
 have h2 := chP_len (psL (-d).toNat) (psL (-d).toNat).length
 have h3 : (psL (-d).toNat).length ≤ 2000 := by
  have q1 := (ps_dd (n := (-d).toNat) (by omega) _ (Nat.le_refl _)).len
  have q2 := fc_len (n := (-d).toNat) (by omega)
  unfold psL; omega
 have h4 : (chT d).length ≤ 2 := by unfold chT; (repeat' split) <;> simp
 omega
end Go.Proofs.Ytaeabefbohlcpaa
