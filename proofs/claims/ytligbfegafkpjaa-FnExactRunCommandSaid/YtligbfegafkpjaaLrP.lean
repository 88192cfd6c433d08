/-
  What a call's list answers to lgRun's steps.
-/
import Derived.Test.YtligbfegafkpjaaRn
namespace Go.Proofs.Ytligbfegafkpjaa
open Go.RowKit
set_option linter.unusedVariables false
set_option linter.unusedSimpArgs false
attribute [local go_sem] q2 q3 q4 q5 q6 q7 q8 q9 q10 q11 q12

def StB (P : World → Value → Prop) : Prop := ∀ W w' v, Below W.heap.size W w' → P W v → P w' v
theorem Kd.st (k : Kd) : StB k.ok := fun W w' v hb h => Kd.ok_below hb h
/-- A slice that just holds the entries zs, in a block of its own. -/
def SlE (lo : Nat) (zs : List Ent) (w : World) (v : Value) : Prop := ∃ g c : Nat, v = .slice (some ⟨g, 0, none⟩) zs.length c ∧ zs.length ≤ c ∧ EL w lo (.slice (some ⟨g, 0, none⟩) zs.length c) zs
/-- A slice, of whatever form, that just holds the entries zs. -/
def EnE (lo : Nat) (zs : List Ent) (w : World) (v : Value) : Prop := ∃ u, v = u ∧ EL w lo u zs
def SlcE (n : Nat) (E : Nat → Ent) (w : World) (v : Value) : Prop := ∃ g : Nat, v = .slice (some ⟨g, 0, none⟩) n n ∧ RowE w g n E ∧ g < w.heap.size
def TupE (lo : Nat) (zs : List Ent) (cd : Int) (w : World) (v : Value) : Prop := ∃ v1, v = .tuple #[v1, .int .i64 cd] ∧ EnE lo zs w v1
theorem SlE.st {lo : Nat} {zs : List Ent} : StB (SlE lo zs) := fun W w' v hb ⟨g, c, h1, h2, h3⟩ => ⟨g, c, h1, h2, h3.below hb⟩
theorem EnE.st {lo : Nat} {zs : List Ent} : StB (EnE lo zs) := fun W w' v hb ⟨u, h1, h2⟩ => ⟨u, h1, h2.below hb⟩
theorem SlcE.st {n : Nat} {E : Nat → Ent} : StB (SlcE n E) := fun W w' v hb ⟨g, h1, h2, h3⟩ => ⟨g, h1, h2.below hb, Nat.lt_of_lt_of_le h3 hb.size⟩
theorem TupE.st {lo : Nat} {zs : List Ent} {cd : Int} : StB (TupE lo zs cd) := fun W w' v hb ⟨v1, h1, h2⟩ => ⟨v1, h1, EnE.st W w' v1 hb h2⟩

theorem weS_congr {D D' : Nat → Ent} {e : Ent} : ∀ k, (∀ i, i < k → D i = D' i) → weS D e k = weS D' e k
  | 0, _ => rfl
  | k + 1, h => by
    rw [weS, weS, weS_congr k (fun i hi => h i (by omega)), h k (by omega)]
theorem weS_size (D : Nat → Ent) (e : Ent) : ∀ k, (weS D e k).1.length = k + (if (weS D e k).2 then 1 else 0)
  | 0 => rfl
  | k + 1 => by
    have ih := weS_size D e k
    rw [weS]
    split
    · rename_i q
      rw [q.1] at ih
      simp only [List.length_append, List.length_cons, List.length_nil, if_true]
      simp at ih
      omega
    · simp only [List.length_append, List.length_cons, List.length_nil]
      omega
theorem weL_size (D : Nat → Ent) (e : Ent) (m : Nat) : (weL D e m).length = m + 1 := by
  have h := weS_size D e m
  unfold weL
  split
  · rename_i q; rw [q] at h; simpa using h
  · rename_i q
    rw [if_neg q] at h
    rw [List.length_append, h]; rfl
theorem enL_congr {E E' : Nat → Ent} {a k : Nat} (h : ∀ i, i < k → E (a + i) = E' (a + i)) : enL E a k = enL E' a k := by
  unfold enL
  apply List.map_congr_left
  intro x hx
  rw [List.mem_range'_1] at hx
  have := h (x - a) (by omega)
  rw [show a + (x - a) = x by omega] at this
  exact this
/-- lgPut into a list that lacks the name. -/
theorem lgPut_zs (lo g c : Nat) (zs : List Ent) (nm : ByteArray) (x y z : Int) (W : List Ent) (w : World) (hz : EL w lo (.slice (some ⟨g, 0, none⟩) zs.length c) zs) (hn : zs.length ≤ 2000000) (hc : zs.length ≤ c) (hne : ∀ i, i < zs.length → (atE zs i).n ≠ nm)
    (lo' : Nat) (hlo : lo' ≤ w.heap.size) (hW : W = weL (atE zs) ⟨nm, (x, y, z)⟩ zs.length) :
    Calls Try.prog 69 #[.slice (some ⟨g, 0, none⟩) zs.length c, .agg #[.string nm, .int .i64 x, .int .i64 y, .int .i64 z]] w fun e w' => ∃ v, e = .returned v ∧ EnE lo' W w' v ∧ Below w.heap.size w w' := by
  obtain ⟨g', hg, ha⟩ := hz.ents.2.open
  have hat : ∀ i, i < zs.length → EntAt w g (i * 4) (atE zs i) := fun i hi => by
    have := (hg (by omega)).1
    cases this
    exact ha i hi
  refine (lgPut_a g zs.length c (atE zs) nm x y z w hat hn hc).mono ?_
  rintro e w' ⟨v, jx, rfl, h1, h2, h3, h4, hb⟩
  refine ⟨v, rfl, ⟨v, rfl, ?_⟩, hb⟩
  rw [hW, we_put h1 hne h2 h3]
  exact h4.low hlo
theorem lgPut_row (g n c : Nat) (E : Nat → Ent) (nm : ByteArray) (x y z : Int) (W : List Ent) (w : World) (hr : ∀ i, i < n → EntAt w g (i * 4) (E i)) (hn : n ≤ 2000000) (hc : n ≤ c) (hf : fd E nm n = none) (hW : W = weL (atE (woL E nm n)) ⟨nm, (x, y, z)⟩ (woL E nm n).length) :
    Calls Try.prog 69 #[.slice (some ⟨g, 0, none⟩) n c, .agg #[.string nm, .int .i64 x, .int .i64 y, .int .i64 z]] w fun e w' => ∃ v, e = .returned v ∧ EL w' w.heap.size v W ∧ Below w.heap.size w w' := by
  refine (lgPut_a g n c E nm x y z w hr hn hc).mono ?_
  rintro e w' ⟨v, jx, rfl, h1, h2, h3, h4, hb⟩
  refine ⟨v, rfl, ?_, hb⟩
  have hne := fd_no hf
  have hwo : woL E nm n = enL E 0 n := wo_none n hne
  have hE : ∀ i, i < n → atE (enL E 0 n) i = E i := fun i hi => by rw [enL_at _ _ _ _ hi, Nat.zero_add]
  rw [hW, hwo, enL_len, we_put (jx := jx) h1 (fun i hi => by rw [hE i hi]; exact hne i hi) (fun i hi => by rw [hE i (by omega)]; exact h2 i hi) (fun hj => by rw [hE jx hj]; exact h3 hj)]
  rw [enL_congr (E := atE (enL E 0 n)) (E' := E) (a := 0) (k := jx) (fun i hi => by rw [Nat.zero_add]; exact hE i (by omega)), enL_congr (E := atE (enL E 0 n)) (E' := E) (a := jx) (k := n - jx) (fun i hi => hE _ (by omega))]
  exact h4
/-- lgDrop of the entry with a name. -/
theorem lgDrop_row (g n c at' : Nat) (E : Nat → Ent) (nm : ByteArray) (L : List Ent) (w : World) (hr : ∀ i, i < n → EntAt w g (i * 4) (E i)) (hn : n ≤ 2000000) (hc : n ≤ c) (hi : Inc E n) (hf : fd E nm n = some at') (lo' : Nat) (hlo : lo' ≤ w.heap.size) (hL : L = woL E nm n) :
    Calls Try.prog 68 #[.slice (some ⟨g, 0, none⟩) n c, .int .i64 (at' : Int)] w fun e w' => ∃ v, e = .returned v ∧ SlE lo' L w' v ∧ Below w.heap.size w w' := by
  have hk := (fd_of hf).1
  have hL2 := hL.trans (wo_drop hi hf)
  have hlen : L.length = n - 1 := by rw [hL2, List.length_append, enL_len, enL_len]; omega
  refine (lgDrop_a g n c at' E w hr hn hc hk).mono ?_
  rintro e w' ⟨g', c', rfl, h1, h2, hb⟩
  refine ⟨_, rfl, ⟨g', c', by rw [hlen], by rw [hlen]; exact h1, ?_⟩, hb⟩
  rw [hlen, hL2]
  exact h2.low hlo
theorem wo_size_none {E : Nat → Ent} {nm : ByteArray} {n : Nat} (h : fd E nm n = none) : (woL E nm n).length = n := by rw [wo_none n (fd_no h), enL_len]
theorem wo_size_some {E : Nat → Ent} {nm : ByteArray} {n k : Nat} (hi : Inc E n) (h : fd E nm n = some k) : (woL E nm n).length + 1 = n := by
  have hk := (fd_of h).1
  rw [wo_drop hi h, List.length_append, enL_len, enL_len]; omega
theorem fd_two {E : Nat → Ent} {nm : ByteArray} {n : Nat} : (fdI E nm n = -1 ∧ fdB E nm n = false ∧ fd E nm n = none) ∨ ∃ k : Nat, fdI E nm n = (k : Int) ∧ fdB E nm n = true ∧ fd E nm n = some k ∧ k < n ∧ fdF E nm n = (E k).f := by
  cases h : fd E nm n with
  | none => exact .inl ⟨by unfold fdI; rw [h], by unfold fdB; rw [h]; rfl, rfl⟩
  | some k => exact .inr ⟨k, by unfold fdI; rw [h], by unfold fdB; rw [h]; rfl, rfl, (fd_of h).1, by unfold fdF; rw [h]⟩
end Go.Proofs.Ytligbfegafkpjaa
