/-
  Lists of entries that a call builds by append.
-/
import Derived.Deep.AppendLies
import Derived.Maps.AppendAt
import Derived.Deep.OwnRows
import Derived.Test.YtligbfegafkpjaaToE
namespace Go.Proofs.Ytligbfegafkpjaa
open Go.RowKit
set_option linter.unusedVariables false
set_option linter.unusedSimpArgs false
attribute [local go_sem] q2 q3 q4 q5 q6 q7 q8 q9 q10 q11 q12

def cE (e : Ent) : List Value := [.string e.n, .int .i64 e.f.1, .int .i64 e.f.2.1, .int .i64 e.f.2.2]
theorem cE_len (zs : List Ent) : (zs.flatMap cE).length = zs.length * 4 := by
  induction zs with
  | nil => rfl
  | cons z zs ih => rw [List.flatMap_cons, List.length_append, ih, List.length_cons]; show 4 + _ = _; omega
def ent0 : Ent := ⟨⟨#[]⟩, (0, 0, 0)⟩
def atE (zs : List Ent) (i : Nat) : Ent := zs.getD i ent0
theorem cE_get : ∀ (zs : List Ent) (i : Nat), i < zs.length * 4 → (zs.flatMap cE)[i]? = some (elE (atE zs) i)
  | [], i, h => by simp at h
  | z :: zs, i, h => by
    rw [List.length_cons] at h
    by_cases q : i < 4
    · have : i = 0 ∨ i = 1 ∨ i = 2 ∨ i = 3 := by omega
      rcases this with rfl | rfl | rfl | rfl <;> rfl
    · obtain ⟨k, rfl⟩ : ∃ k, i = k + 4 := ⟨i - 4, by omega⟩
      have e1 : ((z :: zs).flatMap cE)[k + 4]? = (zs.flatMap cE)[k]? := rfl
      have e2 : elE (atE (z :: zs)) (k + 4) = elE (atE zs) k := by
        have d : (k + 4) / 4 = k / 4 + 1 := by omega
        have m : (k + 4) % 4 = k % 4 := by omega
        unfold elE; rw [d, m]; rfl
      rw [e1, e2]
      exact cE_get zs k (by omega)
/-- The slice v holds just the entries zs; its block is an own one, from lo on. -/
def EL (w : World) (lo : Nat) (v : Value) (zs : List Ent) : Prop := w.ownsRow lo 67 4 v zs.length (zs.flatMap cE)
theorem EL.nil (w : World) (lo : Nat) : EL w lo (.slice none 0 0) [] := World.ownsRow_nil _ _ _ _
theorem EL.made (w : World) (lo : Nat) (h : lo ≤ w.heap.size) : EL (w.alloc (.cells #[] 67)) lo (.slice (some ⟨w.heap.size, 0, none⟩) 0 0) [] :=
  World.ownsRow_made w #[] 0 h (by decide) rfl
theorem EL.alloc {w : World} {lo : Nat} {v : Value} {zs : List Ent} (h : EL w lo v zs) (o : Obj) : EL (w.alloc o) lo v zs := World.ownsRow.alloc h o
theorem EL.kept {w w' : World} {lo : Nat} {v : Value} {zs : List Ent} {row : Option Nat} (h : EL w lo v zs) (hg : w.grownBy w' row) (hne : v.ownBlock = none ∨ v.ownBlock ≠ row) : EL w' lo v zs := World.ownsRow.kept h hg hne
theorem EL.lt {w : World} {lo : Nat} {v : Value} {zs : List Ent} (h : EL w lo v zs) : ∀ k, v.ownBlock = some k → lo ≤ k ∧ k < w.heap.size := World.ownsRow.lt h
theorem EL.below {w w' : World} {lo : Nat} {v : Value} {zs : List Ent} (h : EL w lo v zs) (hb : Below w.heap.size w w') : EL w' lo v zs :=
  h.kept (row := none) ⟨hb.os, hb.tape, hb.output, hb.size, fun k hk _ => hb.block k hk⟩ (by cases v.ownBlock <;> simp)
theorem EL.form {w : World} {lo : Nat} {v : Value} {zs : List Ent} (h : EL w lo v zs) : ∃ a c, v = .slice a zs.length c := by
  rcases h.2 with ⟨h1, h2⟩ | ⟨g, cap, cur, h1, _⟩
  · exact ⟨none, 0, by rw [h1, h2]⟩
  · exact ⟨_, _, h1⟩
def EntsAt (w : World) (lo hi : Nat) (a : Option Addr) (n : Nat) (E : Nat → Ent) : Prop :=
  n = 0 ∨ ∃ g cap F, a = some ⟨g, 0, none⟩ ∧ lo ≤ g ∧ g < hi ∧ n ≤ cap ∧ w.rowIs g 67 (cap * 4) F ∧ ∀ i, i < n * 4 → F i = elE E i
theorem EntsAt.keep {w w' : World} {lo hi : Nat} {a : Option Addr} {n : Nat} {f : Nat → Ent} (h : EntsAt w lo hi a n f) (hk : ∀ k, lo ≤ k → k < hi → w'.heap[k]? = w.heap[k]?) : EntsAt w' lo hi a n f := by
  rcases h with h | ⟨g, cap, F, ha, h1, h2, h3, h4, h5⟩
  · exact .inl h
  · exact .inr ⟨g, cap, F, ha, h1, h2, h3, h4.of_block (hk g h1 h2), h5⟩
theorem EntsAt.below {w w' : World} {lo hi B : Nat} {a : Option Addr} {n : Nat} {f : Nat → Ent} (h : EntsAt w lo hi a n f) (hb : Below B w w') (hB : hi ≤ B) : EntsAt w' lo hi a n f :=
  h.keep fun k _ h2 => hb.block k (by omega)
theorem EntsAt.low {w : World} {lo lo' hi n : Nat} {a : Option Addr} {f : Nat → Ent} (h : EntsAt w lo hi a n f) (h1 : lo' ≤ lo) : EntsAt w lo' hi a n f := by
  rcases h with h | ⟨g, cap, F, ha, g1, g2, r⟩
  · exact .inl h
  · exact .inr ⟨g, cap, F, ha, by omega, g2, r⟩
theorem EL.ents {w : World} {lo : Nat} {a : Option Addr} {n c : Nat} {zs : List Ent} (h : EL w lo (.slice a n c) zs) : n = zs.length ∧ EntsAt w lo w.heap.size a zs.length (atE zs) := by
  rcases h.2 with ⟨h1, h2⟩ | ⟨g, cap, cur, h1, h2, h3, h4, h5, h6, h7⟩
  · simp only [Value.slice.injEq] at h1
    exact ⟨by omega, .inl h2⟩
  · simp only [Value.slice.injEq] at h1
    obtain ⟨rfl, rfl, rfl⟩ := h1
    refine ⟨rfl, .inr ⟨g, c, fun i => cur.getD i undef, rfl, h2, (Array.getElem?_eq_some_iff.1 h3).1, h4, ⟨cur, h3, by omega, fun i hi => ?_⟩, fun i hi => ?_⟩⟩
    · rw [Array.getElem?_eq_getElem (by omega)]; simp [Array.getD, show i < cur.size from by omega]
    · have e : cur.toList[i]? = (zs.flatMap cE)[i]? := by
        rw [← h7, List.getElem?_take, if_pos (by omega)]
      rw [cE_get zs i hi] at e
      have hi2 : i < cur.size := by omega
      rw [Array.getElem?_toList, Array.getElem?_eq_getElem hi2] at e
      have e2 : cur[i] = elE (atE zs) i := by simpa using e
      show cur.getD i undef = _
      rw [← e2]
      simp [Array.getD, hi2]
theorem cE_one (zs : List Ent) : ∀ u ∈ zs.flatMap cE, u.oneCell' = true := by
  intro u hu
  rw [List.mem_flatMap] at hu
  obtain ⟨e, _, he⟩ := hu
  unfold cE at he
  simp only [List.mem_cons, List.not_mem_nil, or_false] at he
  rcases he with rfl | rfl | rfl | rfl <;> rfl
/-- append(v, z..) of the entries zs' that lie from ad on. -/
theorem app_ents (w : World) {ops : Array Oper} {rest : List Oper} {o : Oper} {a : Act} {Q : Exit → Act → World → Prop} (hgd : o.guard = none) (s x : Operand)
    (ho : o.op = .call { callee := .builtin .append, args := #[s, x], argTypes := #[45, 45] })
    (lo : Nat) (v : Value) (zs news : List Ent) (ad : Addr) (c : Nat) (hs : a.eval s = v) (hx : a.eval x = .slice (some ad) news.length c)
    (hown : EL w lo v zs) (hnews : ∀ j u, (news.flatMap cE)[j]? = some u → w.cell? (ad.add j) = some u) (hlen : zs.length + news.length ≤ 1000000000) (hlo : lo ≤ w.heap.size)
    (h : ∀ v' w', EL w' lo v' (zs ++ news) → w.grownBy w' v.ownBlock → (v'.ownBlock = v.ownBlock ∨ v'.ownBlock = some w.heap.size) →
      wpList Try.prog ops Q rest (a.put o.dst v') w') : wpList Try.prog ops Q (o :: rest) a w := by
  obtain ⟨i0, hi, hz0, hz1, hz2⟩ := info_parts Try.infoEnt
  refine wpList_append_own_at w hgd s x 45 ho lo 67 i0 (.agg #[.string ⟨#[]⟩, .int .i64 0, .int .i64 0, .int .i64 0]) 4 40 Try.underlying45 hi hz0 hz1 hz2 rfl (by decide) v zs.length _ hs hown ad news.length c (news.flatMap cE) hx (cE_len _) hnews (cE_one _) (by unfold maxLen; omega) (by omega) hlo ?_
  intro v' w' h2 h3 _ h5
  refine h v' w' ?_ h3 h5
  unfold EL
  rw [List.flatMap_append, List.length_append]
  exact h2
end Go.Proofs.Ytligbfegafkpjaa
