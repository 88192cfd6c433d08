/-
  eqRow, markRow, heldRow.
-/
import Derived.Test.YtfoofbcmaljmoaaDoorRow
import Derived.Test.YtfoofbcmaljmoaaDoorToR
import Derived.Test.YtfoofbcmaljmoaaDoorLevel
namespace Go.Proofs.YtfoofbcmaljmoaaDoor
open Go.RowKit
set_option linter.unusedVariables false
set_option linter.unusedSimpArgs false
attribute [local go_sem] q2 q3 q4 q5 q6 q7 q8 q9 q10 q11 q12

def RetRowB (w : World) (r : RowV) (n : Nat) (f : Nat → Int) (ok : Bool) (e : Ending) (w' : World) : Prop :=
  ∃ a c, e = .returned (.tuple #[rwv r (.slice a n c), .bool ok]) ∧ IntsAt w' w.heap.size w'.heap.size a n f ∧ Below w.heap.size w w'
set_option maxHeartbeats 1000000 in
theorem eqRow_b (r : RowV) (a1 a2 : Option Addr) (l1 u1 l2 u2 n c1 c2 : Nat) (f : Nat → Int) (w : World) (hn : n ≤ 1000000000) (h1 : IntsAt w l1 u1 a1 n f) (h2 : IntsAt w l2 u2 a2 n f) (q1 : u1 ≤ w.heap.size) (q2 : u2 ≤ w.heap.size) :
    Calls Tryd.prog 6 #[rwv r (.slice a1 n c1), rwv r (.slice a2 n c2)] w fun e w' => e = .returned (.bool true) ∧ Below w.heap.size w w' := by
  have H1 := hide h1
  have H2 := hide h2
  clear h1 h2
  go_enter Tryd.func6, Tryd.ntmps6
  go_wp2_with fail
  refine (eqIntS_any _ _ _ _ _ _ n c1 c2 f _ hn ((unhide H1).below byGG q1) ((unhide H2).below byGG q2)).mono ?_
  rintro en w' ⟨rfl, nq, rfl⟩
  go_wp2
  go_ret
  exact ⟨rfl, byGG⟩
theorem markIntS_box (a : Option Addr) (lo hi n c k : Nat) (f : Nat → Int) (w : World) (hn : n ≤ 1000000000) (hk : k ≤ 1000000000) (h : IntsAt w lo hi a n f) :
    Calls Tryd.prog 19 #[.slice a n c, .int .i64 (k : Int)] w fun e w' => e = .returned (.int .i64 ((k : Int) + n)) ∧ IntsAt w' lo hi a n (fun i => (k : Int) + i) ∧ (∀ j, j < lo ∨ hi ≤ j → j < w.heap.size → w'.heap[j]? = w.heap[j]?) ∧ w'.heap.size = w.heap.size ∧ Below lo w w' := by
  rcases h with rfl | ⟨g, cap, F, rfl, hlo, hhi, q, r, e⟩
  · refine (markIntS_nil a c k w).mono ?_
    rintro e w' ⟨rfl, rfl⟩
    exact ⟨ret_int (by omega), .inl rfl, fun _ _ _ => rfl, rfl, Below.refl _ _⟩
  · refine (markIntS_row g n c cap k F w hn hk q r).mono ?_
    rintro e w' ⟨rfl, hr, hg, hs⟩
    have hg9 := r.lt
    refine ⟨rfl, .inr ⟨g, cap, _, rfl, hlo, hhi, q, hr, fun i hi => by simp [hi]⟩, fun j hj hj2 => hg.block j hj2 (fun e => by cases e; omega), hs, ⟨hg.os, hg.tape, hg.output, hg.size, fun j hj => hg.block j (by omega) (fun e => by cases e; omega)⟩⟩
set_option maxHeartbeats 1000000 in
theorem markRow_b (r : RowV) (a : Option Addr) (lo hi n c k : Nat) (f : Nat → Int) (w : World) (hn : n ≤ 700) (hk : k ≤ 1) (hlo : lo ≤ w.heap.size) (hhi : hi ≤ w.heap.size) (h : IntsAt w lo hi a n f) :
    Calls Tryd.prog 7 #[rwv r (.slice a n c), .int .i64 (k : Int)] w fun e w' => e = .returned (.int .i64 ((k : Int) + n)) ∧ IntsAt w' lo hi a n (fun i => (k : Int) + i) ∧ (∀ j, j < lo ∨ hi ≤ j → j < w.heap.size → w'.heap[j]? = w.heap[j]?) ∧ w.heap.size ≤ w'.heap.size ∧ Below lo w w' := by
  have H1 := hide (h.below (w' := (w.alloc (.cells #[.int .i64 r.d, .int .i64 r.num, .slice a n c, .int .i64 r.ge, .int .i64 r.ex] 24))) (below_alloc_self _ _) hhi)
  clear h
  go_enter Tryd.func7, Tryd.ntmps7
  go_wp2_with fail
  refine (markIntS_box a lo hi n c k f _ (by omega) (by omega) (unhide H1)).mono ?_
  rintro en w' ⟨rfl, i1, k1, s1, b1⟩
  have K1 := hide k1
  have S1 : w.heap.size + 1 = w'.heap.size := by simpa using s1.symm
  have S2 := hide S1
  clear k1 S1 s1
  go_wp2
  go_ret
  refine ⟨rfl, i1, fun j hj hj2 => ((unhide K1) j hj (by simp; omega)).trans ((below_alloc_self w _).block j hj2), by have := unhide S2; omega, ?_⟩
  exact Below.trans (Below.mono (below_alloc_self w _) hlo) b1
set_option maxHeartbeats 1000000 in
theorem heldRow_b (r : RowV) (a : Option Addr) (lo hi n c k : Nat) (w : World) (hn : n ≤ 700) (hk : k ≤ 1) (hhi : hi ≤ w.heap.size) (h : IntsAt w lo hi a n (fun i => (k : Int) + i)) :
    Calls Tryd.prog 8 #[rwv r (.slice a n c), .int .i64 (k : Int)] w fun e w' => e = .returned (.int .i64 ((k : Int) + n)) ∧ Below w.heap.size w w' := by
  have H1 := hide (h.below (w' := (w.alloc (.cells #[.int .i64 r.d, .int .i64 r.num, .slice a n c, .int .i64 r.ge, .int .i64 r.ex] 24))) (below_alloc_self _ _) hhi)
  clear h
  go_enter Tryd.func8, Tryd.ntmps8
  go_wp2_with fail
  refine (heldIntS_any a lo hi n c k _ (by omega) (by omega) (unhide H1)).mono ?_
  rintro en w' ⟨rfl, rfl⟩
  go_wp2
  go_ret
  exact ⟨rfl, byGG⟩
end Go.Proofs.YtfoofbcmaljmoaaDoor
