/-
  find, lgFind.
-/
import Derived.Test.YtligbfegafkpjaaElK
namespace Go.Proofs.Ytligbfegafkpjaa
open Go.RowKit
set_option linter.unusedVariables false
set_option linter.unusedSimpArgs false
attribute [local go_sem] q2 q3 q4 q5 q6 q7 q8 q9 q10 q11 q12

theorem bytes_toList {a b : ByteArray} (h : a.toList = b.toList) : a = b := by
  rw [ByteArray.toList_eq, ByteArray.toList_eq] at h
  exact ByteArray.ext (Array.toList_inj.1 h)
/-- The first place of a name among the first n entries. -/
def fd (E : Nat → Ent) (nm : ByteArray) (n : Nat) : Option Nat := (List.range n).find? (fun i => decide ((E i).n = nm))
def nf (E : Nat → Ent) (nm : ByteArray) (k : Nat) : Prop := ∀ i, i < k → ¬ (E i).n = nm
theorem fd_none {E : Nat → Ent} {nm : ByteArray} {n : Nat} (h : nf E nm n) : fd E nm n = none := by
  unfold fd
  rw [List.find?_eq_none]
  intro i hi
  rw [List.mem_range] at hi
  simp [h i hi]
theorem fd_some {E : Nat → Ent} {nm : ByteArray} {n k : Nat} (h : nf E nm k) (hk : k < n) (he : (E k).n = nm) : fd E nm n = some k := by
  unfold fd
  rw [List.find?_eq_some_iff_getElem]
  refine ⟨by simp [he], k, by simpa using hk, by simp, fun j hj => ?_⟩
  simp [h j (by omega)]
theorem nf_next {E : Nat → Ent} {nm : ByteArray} {k : Nat} (h : nf E nm k) (h2 : ¬ (E k).n = nm) : nf E nm (k + 1) := fun i hi => by
  rcases (show i < k ∨ i = k by omega) with q | rfl
  · exact h i q
  · exact h2
def fdF (E : Nat → Ent) (nm : ByteArray) (n : Nat) : Int × Int × Int := match fd E nm n with
  | some i => (E i).f
  | none => (0, 0, 0)
def fdB (E : Nat → Ent) (nm : ByteArray) (n : Nat) : Bool := (fd E nm n).isSome
def fdI (E : Nat → Ent) (nm : ByteArray) (n : Nat) : Int := match fd E nm n with
  | some i => (i : Int)
  | none => -1

set_option maxRecDepth 100000 in
set_option maxHeartbeats 4000000 in
theorem find_a (g n c : Nat) (E : Nat → Ent) (nm : ByteArray) (w : World) (hr : ∀ i, i < n → EntAt w g (i * 4) (E i)) (hn : n ≤ 2000000) :
    Calls Try.prog 74 #[.slice (some ⟨g, 0, none⟩) n c, .string nm] w fun e w' => e = .returned (.tuple #[.agg #[.int .i64 (fdF E nm n).1, .int .i64 (fdF E nm n).2.1, .int .i64 (fdF E nm n).2.2], .bool (fdB E nm n)]) ∧ Below w.heap.size w w' := by
  have HR := hide hr
  clear hr
  go_enter Try.func74, Try.ntmps74
  go_wp2
  go_loopw [10] (fun is wr => ∃ jx : Nat, jx ≤ n ∧ is = .int .i64 (jx : Int) ∧ Hid (nf E nm jx) ∧ wr.cell? ⟨w.heap.size, 0, none⟩ = some (.int .i64 0) ∧ wr.frozen? ⟨w.heap.size, 0, none⟩ = false ∧ wr.cell? ⟨w.heap.size, 1, none⟩ = some (.int .i64 0) ∧ wr.frozen? ⟨w.heap.size, 1, none⟩ = false ∧ wr.cell? ⟨w.heap.size, 2, none⟩ = some (.int .i64 0) ∧ wr.frozen? ⟨w.heap.size, 2, none⟩ = false ∧ Below w.heap.size w wr) (fun is _ => n - (intOf is).toNat)
  case atStart => exact ⟨0, by omega, rfl, hide (fun i hi => absurd hi (by omega)), byCT, byFT, byCT, byFT, byCT, byFT, byGG⟩
  case round =>
    obtain ⟨jx, hj, rfl, hg, r0, g0, r1, g1, r2, g2, hb⟩ := hrel
    obtain ⟨wl, rfl⟩ : ∃ wl : World, wl = wr := ⟨_, rfl⟩
    have hzl := hb.size
    by_cases q : jx < n
    · have hci : (jx : Int) < (n : Int) := by omega
      obtain ⟨c0, c1, c2, c3⟩ := (unhide HR jx q).below hb
      obtain ⟨en, hen⟩ : ∃ s, s = (E jx).n := ⟨_, rfl⟩
      obtain ⟨x, hx⟩ : ∃ x, x = (E jx).f.1 := ⟨_, rfl⟩
      obtain ⟨y, hy⟩ : ∃ x, x = (E jx).f.2.1 := ⟨_, rfl⟩
      obtain ⟨z, hz⟩ : ∃ x, x = (E jx).f.2.2 := ⟨_, rfl⟩
      rw [← hen] at c0
      rw [← hx] at c1
      rw [← hy] at c2
      rw [← hz] at c3
      have zb : w.heap.size < wl.heap.size := World.block_lt_of_cell? _ _ r0
      by_cases k : en = nm
      · have HX : Hid (fd E nm n = some jx) := hide (fd_some (unhide hg) q (by rw [← hen]; exact k))
        have h1 : Hid (fdF E nm n = (x, y, z)) := hide (by unfold fdF; rw [unhide HX]; exact Prod.ext hx.symm (Prod.ext hy.symm hz.symm))
        have h2 : Hid (fdB E nm n = true) := hide (by unfold fdB; rw [unhide HX]; rfl)
        clear hx hy hz hen HX
        have kb : (en.toList == nm.toList) = true := by rw [k]; simp
        clear k
        go_wp2
        refine bodyPost_ret (v := .tuple #[.agg #[.int .i64 x, .int .i64 y, .int .i64 z], .bool true]) (by simp [results, Try.results74, go_sem, *]) rfl ?_
        exact ⟨by rw [unhide h1, unhide h2], byGG⟩
      · have HN : Hid (nf E nm (jx + 1)) := hide (nf_next (unhide hg) (by rw [← hen]; exact k))
        have kb : (en.toList == nm.toList) = false := by
          rw [beq_eq_false_iff_ne]
          exact fun h => k (bytes_toList h)
        clear hx hy hz hen k
        go_wp2
        go_roundw
        case rel => exact ⟨jx + 1, by omega, by first | rfl | go_num, HN, byCT, byFT, byCT, byFT, byCT, byFT, byGG⟩
        case measure => simp [intOf]; omega
    · obtain rfl : jx = n := by omega
      have HX : Hid (fd E nm jx = none) := hide (fd_none (unhide hg))
      have h1 : Hid (fdF E nm jx = (0, 0, 0)) := hide (by unfold fdF; rw [unhide HX])
      have h2 : Hid (fdB E nm jx = false) := hide (by unfold fdB; rw [unhide HX]; rfl)
      clear HX
      go_wp2
      refine bodyPost_ret (v := .tuple #[.agg #[.int .i64 0, .int .i64 0, .int .i64 0], .bool false]) (by simp [results, Try.results74, go_sem, *]) rfl ?_
      exact ⟨by rw [unhide h1, unhide h2], byGG⟩

set_option maxRecDepth 100000 in
set_option maxHeartbeats 4000000 in
theorem lgFind_a (g n c : Nat) (E : Nat → Ent) (nm : ByteArray) (w : World) (hr : ∀ i, i < n → EntAt w g (i * 4) (E i)) (hn : n ≤ 2000000) :
    Calls Try.prog 67 #[.slice (some ⟨g, 0, none⟩) n c, .string nm] w fun e w' => e = .returned (.int .i64 (fdI E nm n)) ∧ Below w.heap.size w w' := by
  have HR := hide hr
  clear hr
  go_enter Try.func67, Try.ntmps67
  go_wp2
  go_loopw [9] (fun is wr => ∃ jx : Nat, jx ≤ n ∧ is = .int .i64 (jx : Int) ∧ Hid (nf E nm jx) ∧ Below w.heap.size w wr) (fun is _ => n - (intOf is).toNat)
  case atStart => exact ⟨0, by omega, rfl, hide (fun i hi => absurd hi (by omega)), byGG⟩
  case round =>
    obtain ⟨jx, hj, rfl, hg, hb⟩ := hrel
    obtain ⟨wl, rfl⟩ : ∃ wl : World, wl = wr := ⟨_, rfl⟩
    have hzl := hb.size
    by_cases q : jx < n
    · have hci : (jx : Int) < (n : Int) := by omega
      obtain ⟨c0, c1, c2, c3⟩ := (unhide HR jx q).below hb
      obtain ⟨en, hen⟩ : ∃ s, s = (E jx).n := ⟨_, rfl⟩
      obtain ⟨x, hx⟩ : ∃ x, x = (E jx).f.1 := ⟨_, rfl⟩
      obtain ⟨y, hy⟩ : ∃ x, x = (E jx).f.2.1 := ⟨_, rfl⟩
      obtain ⟨z, hz⟩ : ∃ x, x = (E jx).f.2.2 := ⟨_, rfl⟩
      rw [← hen] at c0
      rw [← hx] at c1
      rw [← hy] at c2
      rw [← hz] at c3
      skip
      by_cases k : en = nm
      · have HX : Hid (fd E nm n = some jx) := hide (fd_some (unhide hg) q (by rw [← hen]; exact k))
        have h1 : Hid (fdI E nm n = (jx : Int)) := hide (by unfold fdI; rw [unhide HX])
        clear hx hy hz hen HX
        have kb : (en.toList == nm.toList) = true := by rw [k]; simp
        clear k
        go_wp2
        refine bodyPost_ret (v := .int .i64 ((jx : Int))) (by simp [results, Try.results67, go_sem, *]) rfl ?_
        exact ⟨by rw [unhide h1], byGG⟩
      · have HN : Hid (nf E nm (jx + 1)) := hide (nf_next (unhide hg) (by rw [← hen]; exact k))
        have kb : (en.toList == nm.toList) = false := by
          rw [beq_eq_false_iff_ne]
          exact fun h => k (bytes_toList h)
        clear hx hy hz hen k
        go_wp2
        go_roundw
        case rel => exact ⟨jx + 1, by omega, by first | rfl | go_num, HN, byGG⟩
        case measure => simp [intOf]; omega
    · obtain rfl : jx = n := by omega
      have HX : Hid (fd E nm jx = none) := hide (fd_none (unhide hg))
      have h1 : Hid (fdI E nm jx = -1) := hide (by unfold fdI; rw [unhide HX])
      clear HX
      go_wp2
      refine bodyPost_ret (v := .int .i64 (-1)) (by simp [results, Try.results67, go_sem, *]) rfl ?_
      exact ⟨by rw [unhide h1], byGG⟩
end Go.Proofs.Ytligbfegafkpjaa
