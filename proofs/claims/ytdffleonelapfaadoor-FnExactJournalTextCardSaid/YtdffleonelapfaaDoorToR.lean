/-
  Rows that come in: szRow, toRow, eqRow.
-/
import Derived.Test.YtdffleonelapfaaDoorRow
namespace Go.Proofs.YtdffleonelapfaaDoor
open Go.RowKit
set_option linter.unusedVariables false
set_option linter.unusedSimpArgs false
attribute [local go_sem] q2 q3 q4 q5 q6 q7 q8 q9 q10 q11 q12

set_option maxRecDepth 100000 in
set_option maxHeartbeats 1000000 in
theorem szRow_a (r : RowV) (v : Value) (n : Nat) (l : Int) (z : Nat → Int) (w : World) (h : ArgI w v n z) (hn : n ≤ 9223372036854775807) (hl : 0 ≤ l ∧ l ≤ 1000000000) :
    Calls Tryd.prog 7 #[rwv r v, .int .i64 l] w fun e w' => e = .returned (.int .i64 (if l < n then -1 else l - n)) ∧ Below w.heap.size w w' := by
  have HA : Hid (ArgI (w.alloc (.cells #[.int .i64 r.d, .int .i64 r.num, v, .int .i64 r.ge, .int .i64 r.ex] 24)) v n z) := hide (h.below (below_alloc_self _ _))
  clear h
  obtain ⟨x, hx⟩ : ∃ x, (if l < (n : Int) then (-1 : Int) else l - n) = x := ⟨_, rfl⟩
  have hxx : x = -1 ∨ 0 ≤ x := by rw [← hx]; split <;> omega
  have hsz : ∀ W, ArgI W v n z → Calls Tryd.prog 23 #[v, .int .i64 l] W fun e w' => e = .returned (.int .i64 x) ∧ W = w' := fun W hW => by rw [← hx]; exact szIntS_a v n l z W hW hn hl
  rw [hx]
  clear hx
  have HZ := hide hsz
  clear hsz
  rcases hxx with hq | hq
  · have q0 : x < 0 := by omega
    have HQ := hide hq
    clear hq
    go_enter Tryd.func7, Tryd.ntmps7
    go_wp2_with (go_at_call 23; refine (unhide HZ _ (unhide HA)).mono ?_; rintro e w' ⟨rfl, rfl⟩)
    go_ret
    exact ⟨ret_int (by rw [unhide HQ]), byGG⟩
  · go_enter Tryd.func7, Tryd.ntmps7
    go_wp2_with (go_at_call 23; refine (unhide HZ _ (unhide HA)).mono ?_; rintro e w' ⟨rfl, rfl⟩)
    go_ret
    exact ⟨rfl, byGG⟩
/-- A row whose factors lie in a block of their own. -/
def RowP (r : RowV) (n : Nat) (z : Nat → Int) (w : World) (v : Value) : Prop := ∃ g : Nat, v = rwv r (.slice (some ⟨g, 0, none⟩) n n) ∧ RowI w g n z ∧ g < w.heap.size
theorem RowI.set {w : World} {g n b o : Nat} {z : Nat → Int} {u : Value} (h : RowI w g n z) (hb : b ≠ g) : RowI (w.setCell ⟨b, o, none⟩ u) g n z := World.rowIs.of_block h (Below.heap_setCell _ _ _ _ (fun e => hb e.symm))
def StB (P : World → Value → Prop) : Prop := ∀ W w' v, Below W.heap.size W w' → P W v → P w' v
theorem Kd.st (k : Kd) : StB k.ok := fun W w' v hb h => Kd.ok_below hb h
theorem RowP.st {r : RowV} {n : Nat} {z : Nat → Int} : StB (RowP r n z) := fun W w' v hb ⟨g, h1, h2, h3⟩ => ⟨g, h1, h2.below hb, Nat.lt_of_lt_of_le h3 hb.size⟩
set_option maxRecDepth 100000 in
set_option maxHeartbeats 2000000 in
theorem toRow_a (r : RowV) (v : Value) (n : Nat) (z : Nat → Int) (w : World) (h : ArgI w v n z) (hn : n ≤ 2000000) :
    Calls Tryd.prog 9 #[rwv r v] w fun e w' => ∃ v', e = .returned v' ∧ RowP r n z w' v' ∧ Below w.heap.size w w' := by
  obtain ⟨va, vc, rfl⟩ := h.len
  have HA := hide h
  clear h
  go_enter Tryd.func9, Tryd.ntmps9
  go_wp2_with fail
  refine (toIntS_a _ n z _ ((unhide HA).below byGG) hn).mono ?_
  rintro en w1 ⟨rfl, hr, hb1⟩
  have hcs9 := cells_calls hb1 [⟨w.heap.size, 0, none⟩, ⟨w.heap.size, 1, none⟩, ⟨w.heap.size, 2, none⟩, ⟨w.heap.size, 3, none⟩, ⟨w.heap.size, 4, none⟩, ⟨w.heap.size + 1, 0, none⟩, ⟨w.heap.size + 1, 1, none⟩, ⟨w.heap.size + 1, 2, none⟩, ⟨w.heap.size + 1, 3, none⟩, ⟨w.heap.size + 1, 4, none⟩, ⟨w.heap.size + 1 + 1, 0, none⟩, ⟨w.heap.size + 1 + 1, 1, none⟩, ⟨w.heap.size + 1 + 1, 2, none⟩, ⟨w.heap.size + 1 + 1, 3, none⟩, ⟨w.heap.size + 1 + 1, 4, none⟩] [.int .i64 r.d, .int .i64 r.num, .slice va n vc, .int .i64 r.ge, .int .i64 r.ex, .int .i64 0, .int .i64 0, .slice none 0 0, .int .i64 0, .int .i64 0, .int .i64 r.d, .int .i64 r.num, .slice none 0 0, .int .i64 0, .int .i64 0] (by refine ⟨?_, ?_, ?_, ?_, ?_, ?_, ?_, ?_, ?_, ?_, ?_, ?_, ?_, ?_, ?_, trivial⟩ <;> exact byCT)
  have hfs9 := frees_calls hb1 [⟨w.heap.size + 1, 0, none⟩, ⟨w.heap.size + 1, 1, none⟩, ⟨w.heap.size + 1, 2, none⟩, ⟨w.heap.size + 1, 3, none⟩, ⟨w.heap.size + 1, 4, none⟩, ⟨w.heap.size + 1 + 1, 0, none⟩, ⟨w.heap.size + 1 + 1, 1, none⟩, ⟨w.heap.size + 1 + 1, 2, none⟩, ⟨w.heap.size + 1 + 1, 3, none⟩, ⟨w.heap.size + 1 + 1, 4, none⟩] (by refine ⟨?_, ?_, ?_, ?_, ?_, ?_, ?_, ?_, ?_, ?_, trivial⟩ <;> first | with_reducible assumption | omega | (simp; omega) | (simp; done)) (by refine ⟨?_, ?_, ?_, ?_, ?_, ?_, ?_, ?_, ?_, ?_, trivial⟩ <;> exact byFT)
  have hzs9 := blocks_calls hb1 [w.heap.size, w.heap.size + 1, w.heap.size + 1 + 1] (by refine ⟨?_, ?_, ?_, trivial⟩ <;> first | with_reducible assumption | omega | (simp; omega) | (simp; done))
  try clear c00 c01 c02 c03 c04
  try clear c10 c11 c12 c13 c14 f10 f11 f12 f13 f14
  try clear c20 c21 c22 c23 c24 f20 f21 f22 f23 f24
  obtain ⟨c00, c01, c02, c03, c04, c10, c11, c12, c13, c14, c20, c21, c22, c23, c24, -⟩ := hcs9
  obtain ⟨f10, f11, f12, f13, f14, f20, f21, f22, f23, f24, -⟩ := hfs9
  obtain ⟨z0, z1, z2, -⟩ := hzs9
  have hs1 := hb1.size
  have HR := hide hr
  clear hr
  go_wp2
  refine bodyPost_ret (v := rwv r (.slice (some ⟨w.heap.size + 1 + 1 + 1, 0, none⟩) n n)) (by simp [results, Tryd.results9, go_sem, *]) rfl ?_
  refine ⟨_, rfl, ⟨_, rfl, ?_, ?_⟩, byGG⟩
  · (repeat' refine RowI.set ?_ (by first | omega | (simp; omega)))
    have h9 := unhide HR
    first | exact h9 | simpa using h9
  · have := World.rowIs.lt (unhide HR)
    simpa using this

set_option maxRecDepth 100000 in
set_option maxHeartbeats 2000000 in
theorem eqRow_a (r : RowV) (g1 g2 n c1 c2 : Nat) (z : Nat → Int) (w : World) (hn : n ≤ 2000000) (h1 : RowI w g1 n z) (h2 : RowI w g2 n z) :
    Calls Tryd.prog 11 #[rwv r (.slice (some ⟨g1, 0, none⟩) n c1), rwv r (.slice (some ⟨g2, 0, none⟩) n c2)] w fun e w' => e = .returned (.bool true) ∧ Below w.heap.size w w' := by
  have H1 := hide h1
  have H2 := hide h2
  clear h1 h2
  go_enter Tryd.func11, Tryd.ntmps11
  go_wp2_with fail
  refine (eqIntS_any _ _ _ _ _ _ n c1 c2 z _ (by omega) (RowI.at ((unhide H1).below byGG) (Nat.zero_le _)) (RowI.at ((unhide H2).below byGG) (Nat.zero_le _))).mono ?_
  rintro en w' ⟨rfl, nq, rfl⟩
  go_wp2
  go_ret
  exact ⟨rfl, byGG⟩
end Go.Proofs.YtdffleonelapfaaDoor
