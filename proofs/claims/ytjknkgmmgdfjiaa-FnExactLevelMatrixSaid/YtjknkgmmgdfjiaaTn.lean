/-
  The turns of a reduced form: what the loop keeps.
-/
import Derived.Test.YtjknkgmmgdfjiaaAk
namespace Go.Proofs.Ytjknkgmmgdfjiaa
open Go.RowKit
set_option linter.unusedVariables false
set_option linter.unusedSimpArgs false
attribute [local go_sem] q2 q3 q4 q5 q6 q7 q8 q9 q10 q11 q12

def nM (m : M4) : M4 := (-m.1, -m.2.1, -m.2.2.1, -m.2.2.2)
theorem neg_snoc (K : List M4) (i : Nat) (hi : i < K.length) : K ++ (K.take i).map nM ++ [nM (K.getD i m40)] = K ++ (K.take (i + 1)).map nM := by
  rw [List.append_assoc, List.take_succ_eq_append_getElem hi, List.map_append, List.getD_eq_getElem?_getD, List.getElem?_eq_getElem hi]
  rfl
theorem neg_get (K : List M4) (i j : Nat) (hj : j < K.length) : (K ++ (K.take i).map nM).getD j m40 = K.getD j m40 := by
  rw [List.getD_eq_getElem?_getD, List.getD_eq_getElem?_getD, List.getElem?_append_left hj]
theorem neg_len (K : List M4) (i : Nat) (hi : i ≤ K.length) : (K ++ (K.take i).map nM).length = K.length + i := by
  rw [List.length_append, List.length_map, List.length_take]; omega
/-- The first matrices of a block. -/
def KAt (w : World) (B : Nat) (K : List M4) : Prop := ∀ i, i < K.length →
  w.cell? ⟨B, i * 4, none⟩ = some (.int .i64 (K.getD i m40).1) ∧ w.cell? ⟨B, i * 4 + 1, none⟩ = some (.int .i64 (K.getD i m40).2.1) ∧ w.cell? ⟨B, i * 4 + 2, none⟩ = some (.int .i64 (K.getD i m40).2.2.1) ∧ w.cell? ⟨B, i * 4 + 3, none⟩ = some (.int .i64 (K.getD i m40).2.2.2)
theorem KAt.of {w : World} {lo B n c : Nat} {K L : List M4} (h : ML w lo (.slice (some ⟨B, 0, none⟩) n c) L) (hl : K.length ≤ L.length) (hg : ∀ i, i < K.length → L.getD i m40 = K.getD i m40) : KAt w B K := fun i hi => by
  have := h.cells (i := i) (by omega)
  rw [hg i hi] at this
  exact this
theorem KAt.keep {w w' : World} {B : Nat} {K : List M4} (h : KAt w B K) (hB : w'.heap[B]? = w.heap[B]?) : KAt w' B K := fun i hi => by
  obtain ⟨c0, c1, c2, c3⟩ := h i hi
  have e := fun (j : Nat) => World.cell?_of_block (w := w) (w' := w') (a := ⟨B, j, none⟩) hB
  exact ⟨by rw [e]; exact c0, by rw [e]; exact c1, by rw [e]; exact c2, by rw [e]; exact c3⟩
/-- What the loop over the first turns leaves. -/
def TnRel (w0 w : World) (B : Nat) (K : List M4) (n i : Nat) (ls : Value) : Prop :=
  ∃ g c, ls = .slice (some ⟨g, 0, none⟩) (n + i) c ∧ ML w w0.heap.size (.slice (some ⟨g, 0, none⟩) (n + i) c) (K ++ (K.take i).map nM) ∧ KAt w B K ∧ B < w.heap.size ∧ Below w0.heap.size w0 w
theorem TnRel.start {w0 w : World} {B c n : Nat} {K : List M4} (h : ML w w0.heap.size (.slice (some ⟨B, 0, none⟩) n c) K) (hb : Below w0.heap.size w0 w) : TnRel w0 w B K n 0 (.slice (some ⟨B, 0, none⟩) n c) :=
  ⟨B, c, rfl, by simpa using h, KAt.of h (Nat.le_refl _) (fun _ _ => rfl), (h.lt B rfl).2, hb⟩
/-- One turn more: the negative is put behind. -/
theorem TnRel.next {w0 w wB w' : World} {B g c g' c' i n : Nat} {K : List M4} (h : ML w w0.heap.size (.slice (some ⟨g, 0, none⟩) (n + i) c) (K ++ (K.take i).map nM)) (hK : KAt w B K) (hB : B < w.heap.size) (hwB : wB.heap[B]? = w.heap[B]?) (hsz : w.heap.size ≤ wB.heap.size) (hi : i < K.length)
    (hn : ML w' w0.heap.size (.slice (some ⟨g', 0, none⟩) (n + i + 1) c') (K ++ (K.take i).map nM ++ [nM (K.getD i m40)])) (hg : wB.grownBy w' (some g)) (hat : some g = some g' ∨ (g' = wB.heap.size ∧ wB.grownBy w' none)) (hb : Below w0.heap.size w0 w') :
    TnRel w0 w' B K n (i + 1) (.slice (some ⟨g', 0, none⟩) (n + (i + 1)) c') := by
  rw [neg_snoc K i hi] at hn
  have hK' : KAt wB B K := hK.keep hwB
  have hB' : B < wB.heap.size := Nat.lt_of_lt_of_le hB hsz
  refine ⟨g', c', rfl, hn, ?_, Nat.lt_of_lt_of_le hB' hg.size, hb⟩
  rcases hat with e | ⟨_, e⟩
  · simp only [Option.some.injEq] at e
    subst e
    by_cases q : B = g
    · subst q
      exact KAt.of hn (by rw [neg_len K _ (by omega)]; omega) (fun j hj => neg_get K _ j hj)
    · exact hK'.keep (hg.block B hB' (by simpa using q))
  · exact hK'.keep (e.block B hB' (by simp))
theorem ML.oneAt {w : World} {lo B : Nat} (p q r s : Int) (hB : w.heap.size = B) (h : lo ≤ w.heap.size) : ML (w.alloc (.cells #[.int .i64 p, .int .i64 q, .int .i64 r, .int .i64 s] 30)) lo (.slice (some ⟨B, 0, none⟩) 1 1) [(p, q, r, s)] := by subst hB; exact ML.one p q r s h
/-- append of one turn's negative. -/
theorem app_turn (w : World) {ops : Array Oper} {rest : List Oper} {o : Oper} {a : Act} {Q : Exit → Act → World → Prop} (hgd : o.guard = none) (s x : Operand)
    (ho : o.op = .call { callee := .builtin .append, args := #[s, x], argTypes := #[39, 39] })
    (lo : Nat) (K : List M4) (n i g c : Nat) (x0 x1 x2 x3 : Int) (B : Nat) (hs : a.eval s = .slice (some ⟨g, 0, none⟩) (n + i) c) (hx : a.eval x = .slice (some ⟨B, 0, none⟩) 1 1)
    (hown : ML w lo (.slice (some ⟨g, 0, none⟩) (n + i) c) (K ++ (K.take i).map nM)) (hn : K.length = n) (hi : i < n) (hsm : n ≤ 3) (hB0 : w.cell? ⟨B, 0, none⟩ = some (.int .i64 x0)) (hB1 : w.cell? ⟨B, 1, none⟩ = some (.int .i64 x1)) (hB2 : w.cell? ⟨B, 2, none⟩ = some (.int .i64 x2)) (hB3 : w.cell? ⟨B, 3, none⟩ = some (.int .i64 x3)) (hlo : lo ≤ w.heap.size)
    (h : ∀ g' cap w', ML w' lo (.slice (some ⟨g', 0, none⟩) (n + i + 1) cap) (K ++ (K.take i).map nM ++ [(x0, x1, x2, x3)]) → w.grownBy w' (some g) → (some g = some g' ∨ (g' = w.heap.size ∧ w.grownBy w' none)) → g' < w'.heap.size →
      wpList Try.prog ops Q rest (a.put o.dst (.slice (some ⟨g', 0, none⟩) (n + i + 1) cap)) w') : wpList Try.prog ops Q (o :: rest) a w := by
  have hl := neg_len K i (by omega)
  rw [hn] at hl
  refine app_MLk w hgd s x ho lo _ _ x0 x1 x2 x3 B hs hx hown (by rw [hl]; omega) hB0 hB1 hB2 hB3 (by rw [hl]; omega) hlo ?_
  intro g' cap w' h1 h2 h3 h4
  rw [hl] at h1 ⊢
  exact h g' cap w' h1 h2 h3 h4
end Go.Proofs.Ytjknkgmmgdfjiaa
