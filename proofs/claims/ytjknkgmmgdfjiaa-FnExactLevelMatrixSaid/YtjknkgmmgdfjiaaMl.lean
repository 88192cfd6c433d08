/-
  Lists of matrices in one row of the call's own: reading, storing, shifting.
-/
import Derived.Test.YtjknkgmmgdfjiaaMatrixS
import Derived.Test.YtjknkgmmgdfjiaaAuk
import Derived.Laws.OwnMore
import Derived.Laws.CopyRow
import Derived.Laws.IdiomCopy
import Derived.Deep.RegionLaw
namespace Go.Proofs.Ytjknkgmmgdfjiaa
open Go.RowKit
set_option linter.unusedVariables false
set_option linter.unusedSimpArgs false

def c4 (m : M4) : List Int := [m.1, m.2.1, m.2.2.1, m.2.2.2]
def fl4 (ms : List M4) : List Int := ms.flatMap c4
theorem fl4_len (ms : List M4) : (fl4 ms).length = ms.length * 4 := by
  induction ms with
  | nil => rfl
  | cons z zs ih => unfold fl4 at *; rw [List.flatMap_cons, List.length_append, ih, List.length_cons]; show 4 + _ = _; omega
theorem fl4_app (ms ns : List M4) : fl4 (ms ++ ns) = fl4 ms ++ fl4 ns := by unfold fl4; exact List.flatMap_append
theorem fl4_one (m : M4) : fl4 [m] = [m.1, m.2.1, m.2.2.1, m.2.2.2] := rfl
theorem fl4_drop : ∀ (ms : List M4) (i : Nat), (fl4 ms).drop (i * 4) = fl4 (ms.drop i)
  | ms, 0 => by simp
  | [], i + 1 => by simp [fl4]
  | m :: ms, i + 1 => by
    have e : (i + 1) * 4 = i * 4 + 4 := by omega
    rw [e, List.drop_succ_cons, ← fl4_drop ms i]
    rfl
theorem fl4_take : ∀ (ms : List M4) (i : Nat), (fl4 ms).take (i * 4) = fl4 (ms.take i)
  | ms, 0 => by simp [fl4]
  | [], i + 1 => by simp [fl4]
  | m :: ms, i + 1 => by
    have e : (i + 1) * 4 = i * 4 + 4 := by omega
    rw [e, List.take_succ_cons]
    show m.1 :: m.2.1 :: m.2.2.1 :: m.2.2.2 :: (fl4 ms).take (i * 4) = _
    rw [fl4_take ms i]
    rfl
def m40 : M4 := (0, 0, 0, 0)
theorem fl4_get : ∀ (ms : List M4) (i : Nat), i < ms.length → (fl4 ms)[i * 4]? = some (ms.getD i m40).1 ∧ (fl4 ms)[i * 4 + 1]? = some (ms.getD i m40).2.1 ∧ (fl4 ms)[i * 4 + 2]? = some (ms.getD i m40).2.2.1 ∧ (fl4 ms)[i * 4 + 3]? = some (ms.getD i m40).2.2.2
  | [], i, h => by simp at h
  | m :: ms, 0, h => ⟨rfl, rfl, rfl, rfl⟩
  | m :: ms, i + 1, h => by
    have := fl4_get ms i (by simpa using h)
    have e : (i + 1) * 4 = i * 4 + 4 := by omega
    have e1 : i * 4 + 4 + 1 = i * 4 + 1 + 4 := by omega
    have e2 : i * 4 + 4 + 2 = i * 4 + 2 + 4 := by omega
    have e3 : i * 4 + 4 + 3 = i * 4 + 3 + 4 := by omega
    rw [e, e1, e2, e3]
    exact this
theorem fl4_set : ∀ (ms : List M4) (i : Nat) (p q r s : Int), ((((fl4 ms).set (i * 4) p).set (i * 4 + 1) q).set (i * 4 + 2) r).set (i * 4 + 3) s = fl4 (ms.set i (p, q, r, s))
  | [], i, p, q, r, s => by simp [fl4]
  | m :: ms, 0, p, q, r, s => rfl
  | m :: ms, i + 1, p, q, r, s => by
    have e : (i + 1) * 4 = i * 4 + 4 := by omega
    have e1 : i * 4 + 4 + 1 = i * 4 + 1 + 4 := by omega
    have e2 : i * 4 + 4 + 2 = i * 4 + 2 + 4 := by omega
    have e3 : i * 4 + 4 + 3 = i * 4 + 3 + 4 := by omega
    rw [e, e1, e2, e3]
    show m.1 :: m.2.1 :: m.2.2.1 :: m.2.2.2 :: ((((fl4 ms).set (i * 4) p).set (i * 4 + 1) q).set (i * 4 + 2) r).set (i * 4 + 3) s = _
    rw [fl4_set ms i p q r s]
    rfl
/-- The slice v holds just the matrices ms; its block is an own one, from lo on. -/
def ML (w : World) (lo : Nat) (v : Value) (ms : List M4) : Prop := MatrixL w lo v ms.length (fl4 ms)
theorem ML.nil (w : World) (lo : Nat) : ML w lo (.slice none 0 0) [] := MatrixL.nil w lo
theorem ML.made (w : World) (lo : Nat) (h : lo ≤ w.heap.size) : ML (w.alloc (.cells #[] 30)) lo (.slice (some ⟨w.heap.size, 0, none⟩) 0 0) [] := MatrixL.made w lo h
theorem ML.alloc {w : World} {lo : Nat} {v : Value} {ms : List M4} (h : ML w lo v ms) (o : Obj) : ML (w.alloc o) lo v ms := MatrixL.alloc h o
theorem ML.kept {w w' : World} {lo : Nat} {v : Value} {ms : List M4} {row : Option Nat} (h : ML w lo v ms) (hg : w.grownBy w' row) (hne : v.ownBlock = none ∨ v.ownBlock ≠ row) : ML w' lo v ms := MatrixL.kept h hg hne
theorem ML.lt {w : World} {lo : Nat} {v : Value} {ms : List M4} (h : ML w lo v ms) : ∀ k, v.ownBlock = some k → lo ≤ k ∧ k < w.heap.size := MatrixL.lt h
theorem ML.below {w w' : World} {lo : Nat} {v : Value} {ms : List M4} (h : ML w lo v ms) (hb : Below w.heap.size w w') : ML w' lo v ms := MatrixL.below h hb
theorem ML.cells {w : World} {lo g n c : Nat} {ms : List M4} (h : ML w lo (.slice (some ⟨g, 0, none⟩) n c) ms) {i : Nat} (hi : i < ms.length) :
    w.cell? ⟨g, i * 4, none⟩ = some (.int .i64 (ms.getD i m40).1) ∧ w.cell? ⟨g, i * 4 + 1, none⟩ = some (.int .i64 (ms.getD i m40).2.1) ∧ w.cell? ⟨g, i * 4 + 2, none⟩ = some (.int .i64 (ms.getD i m40).2.2.1) ∧ w.cell? ⟨g, i * 4 + 3, none⟩ = some (.int .i64 (ms.getD i m40).2.2.2) := by
  obtain ⟨hn, -⟩ := MatrixL.at h
  subst hn
  obtain ⟨g0, g1, g2, g3⟩ := fl4_get ms i hi
  unfold ML MatrixL at h
  refine ⟨?_, ?_, ?_, ?_⟩
  · rw [World.ownsRow.cellAt h _ (by omega), List.getElem?_map, g0]; rfl
  · rw [World.ownsRow.cellAt h _ (by omega), List.getElem?_map, g1]; rfl
  · rw [World.ownsRow.cellAt h _ (by omega), List.getElem?_map, g2]; rfl
  · rw [World.ownsRow.cellAt h _ (by omega), List.getElem?_map, g3]; rfl
theorem ML.frozen {w : World} {lo g n c : Nat} {ms : List M4} (h : ML w lo (.slice (some ⟨g, 0, none⟩) n c) ms) (j : Nat) : w.frozen? ⟨g, j, none⟩ = false := by
  obtain ⟨hn, -⟩ := MatrixL.at h
  subst hn
  unfold ML MatrixL at h
  exact World.ownsRow.frozenAt h j
/-- A matrix stored into the list. -/
theorem ML.stored {w : World} {lo g n c : Nat} {ms : List M4} (h : ML w lo (.slice (some ⟨g, 0, none⟩) n c) ms) (i : Nat) (p q r s : Int) :
    ML ((((w.setCell ⟨g, i * 4, none⟩ (.int .i64 p)).setCell ⟨g, i * 4 + 1, none⟩ (.int .i64 q)).setCell ⟨g, i * 4 + 2, none⟩ (.int .i64 r)).setCell ⟨g, i * 4 + 3, none⟩ (.int .i64 s)) lo (.slice (some ⟨g, 0, none⟩) n c) (ms.set i (p, q, r, s)) := by
  obtain ⟨hn, -⟩ := MatrixL.at h
  subst hn
  unfold ML MatrixL at h ⊢
  have a := (World.ownsRow.stored h (i * 4) (.int .i64 p)).1
  have b := (World.ownsRow.stored a (i * 4 + 1) (.int .i64 q)).1
  have d := (World.ownsRow.stored b (i * 4 + 2) (.int .i64 r)).1
  have e := (World.ownsRow.stored d (i * 4 + 3) (.int .i64 s)).1
  rw [List.length_set, ← fl4_set]
  simp only [List.map_set]
  exact e
/-- copy(list[k+1:], list[k:]): the rest shifted by one. -/
def shM (ms : List M4) (k : Nat) : List M4 := ms.take (k + 1) ++ (ms.drop k).take (ms.length - (k + 1))
theorem shM_len {ms : List M4} {k : Nat} (h : k < ms.length) : (shM ms k).length = ms.length := by
  unfold shM
  rw [List.length_append, List.length_take, List.length_take, List.length_drop]
  omega
theorem ML.copied {w : World} {lo g n c : Nat} {ms : List M4} (h : ML w lo (.slice (some ⟨g, 0, none⟩) n c) ms) {k : Nat} (hk : k < ms.length)
    (dp : Option Addr) (dCap sCap : Nat) (ty : TypeId) (hd : k + 1 < ms.length → dp = some ⟨g, (k + 1) * 4, none⟩) :
    ∃ w', (Builtin.copy_ #[39, 39] ty #[.slice dp (ms.length - (k + 1)) dCap, .slice (some ⟨g, k * 4, none⟩) (ms.length - k) sCap]).run Try.prog w = .ok (goInt (ms.length - (k + 1) : Nat)) w' ∧
      ML w' lo (.slice (some ⟨g, 0, none⟩) n c) (shM ms k) ∧ w.grownBy w' (some g) := by
  obtain ⟨hn, -⟩ := MatrixL.at h
  subst hn
  obtain ⟨i0, hi, hz0, hz1, hz2⟩ := info_parts Try.infoMatrix
  have hu := run_underlying Try.underlying39
  have hmin : Nat.min (ms.length - k) (ms.length - (k + 1)) = ms.length - (k + 1) := by simp only [Nat.min_def]; split <;> omega
  by_cases h0 : k + 1 < ms.length
  · have hdp := hd h0
    subst hdp
    obtain ⟨cs, hcs⟩ : ∃ cs, cs = (fl4 ((ms.drop k).take (ms.length - (k + 1)))).map (Value.int .i64) := ⟨_, rfl⟩
    have hcl : cs.length = (ms.length - (k + 1)) * 4 := by rw [hcs, List.length_map, fl4_len, List.length_take, List.length_drop]; omega
    have hsrc : ∀ j v, cs[j]? = some v → w.cell? ((⟨g, k * 4, none⟩ : Addr).add j) = some v := fun j v hj => by
      have hjl : j < cs.length := (List.getElem?_eq_some_iff.1 hj).1
      rw [Addr.add_lit, World.ownsRow.cellAt h _ (by omega), ← hj, hcs, ← fl4_take, ← fl4_drop, List.getElem?_map, List.getElem?_map, List.getElem?_take, if_pos (by omega), List.getElem?_drop]
    have hl := run_loadCells_list (P := Try.prog) w ⟨g, k * 4, none⟩ cs hsrc
    have h1 : ∀ v ∈ cs, v.oneCell' = true := fun v hv => by
      rw [hcs, List.mem_map] at hv
      obtain ⟨z, _, rfl⟩ := hv
      rfl
    rcases h.2 with ⟨h', _⟩ | ⟨g', cap', cur, h', hb, hg, hnc, hcm, hsz, htake⟩
    · simp at h'
    · simp only [Value.slice.injEq, Option.some.injEq, Addr.mk.injEq, and_true, true_and] at h'
      obtain ⟨rfl, rfl⟩ := h'
      have hst := run_storeCells_at Try.prog g ((k + 1) * 4) 30 cs 0 cur w hg (by omega) h1
      simp only [Nat.add_zero] at hst
      obtain ⟨nx, hnx⟩ : ∃ nx, nx = cur.toList.take ((k + 1) * 4) ++ cs ++ cur.toList.drop ((k + 1) * 4 + cs.length) := ⟨_, rfl⟩
      rw [← hnx] at hst
      have hcur : cur.toList.length = c * 4 := by simpa using hsz
      have hnl : nx.length = c * 4 := by
        rw [hnx, List.length_append, List.length_append, List.length_take, List.length_drop]
        omega
      have htk : nx.take (ms.length * 4) = (fl4 (shM ms k)).map (Value.int .i64) := by
        have e1 : cur.toList.take ((k + 1) * 4) = (fl4 (ms.take (k + 1))).map (Value.int .i64) := by
          rw [← fl4_take, List.map_take, ← htake, List.take_take]
          congr 1
          omega
        rw [hnx, List.take_append_of_le_length (by rw [List.length_append, List.length_take]; omega), List.take_of_length_le (by rw [List.length_append, List.length_take]; omega), e1, hcs]
        unfold shM
        rw [fl4_app, List.map_append]
      refine ⟨w.setRow g nx.toArray, ?_, ?_, ?_⟩
      · rw [hcl] at hl
        simp [Builtin.copy_, hu, Builtin.lenOf, Builtin.firstCells, sizeOf, typeInfo, hi, hz1, hmin, hl, hst]
      · unfold ML MatrixL World.ownsRow
        rw [shM_len hk]
        refine ⟨by rw [List.length_map, fl4_len, shM_len hk], .inr ⟨g, c, nx.toArray, rfl, hb, setRow_heap w g cur _ _ _ hg, hnc, hcm, by simpa using hnl, by simpa using htk⟩⟩
      · exact ⟨rfl, rfl, rfl, by simp [World.setRow], fun j _ hj => setRow_other w g j _ (fun e => hj (by rw [e]))⟩
  · refine ⟨w, ?_, ?_, ?_⟩
    · have e0 : ms.length - (k + 1) = 0 := by omega
      have hl : ∀ (x : Addr), (loadCells x 0).run Try.prog w = .ok #[] w := fun x => by simpa using run_loadCells_list (P := Try.prog) w x [] (by simp)
      rw [e0] at hmin ⊢
      cases dp <;> simp [Builtin.copy_, hu, Builtin.lenOf, Builtin.firstCells, sizeOf, typeInfo, hi, hz1, hl, storeCells]
    · have e0 : ms.length - (k + 1) = 0 := by omega
      have e1 : shM ms k = ms := by unfold shM; rw [e0, List.take_of_length_le (by omega)]; simp
      rw [e1]
      exact h
    · exact ⟨rfl, rfl, rfl, Nat.le_refl _, fun _ _ _ => rfl⟩
end Go.Proofs.Ytjknkgmmgdfjiaa
