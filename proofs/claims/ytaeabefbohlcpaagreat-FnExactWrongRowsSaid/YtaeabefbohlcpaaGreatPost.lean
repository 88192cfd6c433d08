/- Rows that come in: szRow, toRow, eqRow. RowOf on both sides; eqRow, markRow, heldRow. The law FnExactRowOf. The last step of a law whose walk ends in a world in which nothing that was there has turned. -/
import Derived.Test.YtaeabefbohlcpaaGreatRwo
import Derived.Test.YtaeabefbohlcpaaGreatSd
import Derived.Test.YtaeabefbohlcpaaGreatRwt
import Derived.Test.YtaeabefbohlcpaaGreatLevel
import Derived.Below
import Derived.ChangeSame
import Derived.ProofKit
namespace Go.Proofs.YtaeabefbohlcpaaGreat
open Go.RowKit
set_option linter.unusedVariables false
set_option linter.unusedSimpArgs false
attribute [local go_sem] q2 q3 q4 q5 q6 q7 q8 q9 q10 q11 q12

def RowP (r : RowV) (n : Nat) (z : Nat → Int) (w : World) (v : Value) : Prop := ∃ g : Nat, v = rwv r (.slice (some ⟨g, 0, none⟩) n n) ∧ RowI w g n z ∧ g < w.heap.size
theorem RowI.set {w : World} {g n b o : Nat} {z : Nat → Int} {u : Value} (h : RowI w g n z) (hb : b ≠ g) : RowI (w.setCell ⟨b, o, none⟩ u) g n z := World.rowIs.of_block h (Below.heap_setCell _ _ _ _ (fun e => hb e.symm))
theorem RowP.st {r : RowV} {n : Nat} {z : Nat → Int} : StB (RowP r n z) := fun W w' v hb ⟨g, h1, h2, h3⟩ => ⟨g, h1, h2.below hb, Nat.lt_of_lt_of_le h3 hb.size⟩
end Go.Proofs.YtaeabefbohlcpaaGreat
namespace Go.Proofs.YtaeabefbohlcpaaGreat
open Go.RowKit
set_option linter.unusedVariables false
set_option linter.unusedSimpArgs false
attribute [local go_sem] q2 q3 q4 q5 q6 q7 q8 q9 q10 q11 q12

def RetRowB (w : World) (r : RowV) (n : Nat) (f : Nat → Int) (ok : Bool) (e : Ending) (w' : World) : Prop :=
 ∃ a c, e = .returned (.tuple #[rwv r (.slice a n c), .bool ok]) ∧ IntsAt w' w.heap.size w'.heap.size a n f ∧ Below w.heap.size w w'
set_option maxHeartbeats 2000000 in
theorem implRow_y (d : Int) (w : World) (r : RowV) (n : Nat) (f : Nat → Int) (ok : Bool) (hok : negB d = ok)
  (h1 : ok = true → ∀ W, Calls Tryz.prog 26 #[.int .i64 d] W (RetRowI W r n f)) (h0 : ok = false → n = 0 ∧ r = ⟨0, 0, 0, 0⟩) :
  Calls Tryz.prog 7 #[.int .i64 d] w (RetRowB w r n f ok) := by
 cases ok
 ·obtain ⟨rfl, rfl⟩ := h0 rfl
  clear h1 h0
  have HC : Hid (∀ W, Calls Tryz.prog 25 #[.int .i64 d] W fun e w' => e = .returned (.bool false) ∧ W = w') := hide fun W => by rw [← hok]; exact isNegativeDisc_a d W
  clear hok
  go_enter Tryz.func7, Tryz.ntmps7
  go_wp2_with fail
  refine ((unhide HC) _).mono ?_
  rintro e w1 ⟨rfl, rfl⟩
  go_wp2
  refine bodyPost_ret (v := .tuple #[rwv ⟨0, 0, 0, 0⟩ (.slice none 0 0), .bool false]) (by simp [results, Tryz.results7, go_sem]) rfl ?_
  exact ⟨none, 0, rfl, .inl rfl, byGG⟩
 ·have HC : Hid (∀ W, Calls Tryz.prog 25 #[.int .i64 d] W fun e w' => e = .returned (.bool true) ∧ W = w') := hide fun W => by rw [← hok]; exact isNegativeDisc_a d W
  have H1 := hide (h1 rfl)
  clear hok h1 h0
  go_enter Tryz.func7, Tryz.ntmps7
  go_wp2_with fail
  refine ((unhide HC) _).mono ?_
  rintro e w0 ⟨rfl, rfl⟩
  go_wp2_with fail
  refine ((unhide H1) _).mono ?_
  rintro e w1 ⟨a1, d1, rfl, hO1, hb1⟩
  have hs1 := hb1.size
  simp only [World.size_alloc] at hs1 hO1
  have z1 : w.heap.size < w1.heap.size := by omega
  have y0 := cell_call hb1 (a := ⟨w.heap.size, 0, none⟩) (v := .int .i64 0) (by go_simp)
  have x0 := frz_call hb1 (a := ⟨w.heap.size, 0, none⟩) (by simp) (by go_simp)
  have y1 := cell_call hb1 (a := ⟨w.heap.size, 1, none⟩) (v := .int .i64 0) (by go_simp)
  have x1 := frz_call hb1 (a := ⟨w.heap.size, 1, none⟩) (by simp) (by go_simp)
  have y2 := cell_call hb1 (a := ⟨w.heap.size, 2, none⟩) (v := .slice none 0 0) (by go_simp)
  have x2 := frz_call hb1 (a := ⟨w.heap.size, 2, none⟩) (by simp) (by go_simp)
  have y3 := cell_call hb1 (a := ⟨w.heap.size, 3, none⟩) (v := .int .i64 0) (by go_simp)
  have x3 := frz_call hb1 (a := ⟨w.heap.size, 3, none⟩) (by simp) (by go_simp)
  have y4 := cell_call hb1 (a := ⟨w.heap.size, 4, none⟩) (v := .int .i64 0) (by go_simp)
  have x4 := frz_call hb1 (a := ⟨w.heap.size, 4, none⟩) (by simp) (by go_simp)
  go_wp2
  have k0 : (((((w1.setCell ⟨w.heap.size, 0, none⟩ (.int .i64 r.d)).setCell ⟨w.heap.size, 1, none⟩ (.int .i64 r.num)).setCell ⟨w.heap.size, 2, none⟩ (.slice a1 n d1)).setCell ⟨w.heap.size, 3, none⟩ (.int .i64 r.ge)).setCell ⟨w.heap.size, 4, none⟩ (.int .i64 r.ex)).cell? ⟨w.heap.size, 0, none⟩ = some (.int .i64 r.d) := byCT
  have k1 : (((((w1.setCell ⟨w.heap.size, 0, none⟩ (.int .i64 r.d)).setCell ⟨w.heap.size, 1, none⟩ (.int .i64 r.num)).setCell ⟨w.heap.size, 2, none⟩ (.slice a1 n d1)).setCell ⟨w.heap.size, 3, none⟩ (.int .i64 r.ge)).setCell ⟨w.heap.size, 4, none⟩ (.int .i64 r.ex)).cell? ⟨w.heap.size, 1, none⟩ = some (.int .i64 r.num) := byCT
  have k2 : (((((w1.setCell ⟨w.heap.size, 0, none⟩ (.int .i64 r.d)).setCell ⟨w.heap.size, 1, none⟩ (.int .i64 r.num)).setCell ⟨w.heap.size, 2, none⟩ (.slice a1 n d1)).setCell ⟨w.heap.size, 3, none⟩ (.int .i64 r.ge)).setCell ⟨w.heap.size, 4, none⟩ (.int .i64 r.ex)).cell? ⟨w.heap.size, 2, none⟩ = some (.slice a1 n d1) := byCT
  have k3 : (((((w1.setCell ⟨w.heap.size, 0, none⟩ (.int .i64 r.d)).setCell ⟨w.heap.size, 1, none⟩ (.int .i64 r.num)).setCell ⟨w.heap.size, 2, none⟩ (.slice a1 n d1)).setCell ⟨w.heap.size, 3, none⟩ (.int .i64 r.ge)).setCell ⟨w.heap.size, 4, none⟩ (.int .i64 r.ex)).cell? ⟨w.heap.size, 3, none⟩ = some (.int .i64 r.ge) := byCT
  have k4 : (((((w1.setCell ⟨w.heap.size, 0, none⟩ (.int .i64 r.d)).setCell ⟨w.heap.size, 1, none⟩ (.int .i64 r.num)).setCell ⟨w.heap.size, 2, none⟩ (.slice a1 n d1)).setCell ⟨w.heap.size, 3, none⟩ (.int .i64 r.ge)).setCell ⟨w.heap.size, 4, none⟩ (.int .i64 r.ex)).cell? ⟨w.heap.size, 4, none⟩ = some (.int .i64 r.ex) := byCT
  refine bodyPost_ret (v := .tuple #[rwv r (.slice a1 n d1), .bool true]) ?_ rfl ?_
  ·simp [results, Tryz.results7, go_sem, y0, y1, y2, y3, y4, k0, k1, k2, k3, k4]
  ·refine ⟨_, d1, rfl, ?_, byGG⟩
   refine IntsAt.weak (lo := w.heap.size + 1) (hi := w1.heap.size) (IntsAt.keep hO1 fun k k1 k2 => ?_) (by omega) (by simp [World.setCell])
   have hne : k ≠ w.heap.size := by omega
   exact (Below.heap_setCell _ _ _ _ hne).trans ((Below.heap_setCell _ _ _ _ hne).trans ((Below.heap_setCell _ _ _ _ hne).trans ((Below.heap_setCell _ _ _ _ hne).trans (Below.heap_setCell _ _ _ _ hne))))
set_option maxHeartbeats 2000000 in
theorem specRow_y (d : Int) (w : World) (r : RowV) (n : Nat) (f : Nat → Int) (ok : Bool) (hok : negB d = ok)
  (h1 : ok = true → ∀ W, Calls Tryz.prog 24 #[.int .i64 d] W (RetRowI W r n f)) (h0 : ok = false → n = 0 ∧ r = ⟨0, 0, 0, 0⟩) :
  Calls Tryz.prog 6 #[.int .i64 d] w (RetRowB w r n f ok) := by
 cases ok
 ·obtain ⟨rfl, rfl⟩ := h0 rfl
  clear h1 h0
  have HC : Hid (∀ W, Calls Tryz.prog 23 #[.int .i64 d] W fun e w' => e = .returned (.bool false) ∧ W = w') := hide fun W => by rw [← hok]; exact reDisc_a d W
  clear hok
  go_enter Tryz.func6, Tryz.ntmps6
  go_wp2_with fail
  refine ((unhide HC) _).mono ?_
  rintro e w1 ⟨rfl, rfl⟩
  go_wp2
  refine bodyPost_ret (v := .tuple #[rwv ⟨0, 0, 0, 0⟩ (.slice none 0 0), .bool false]) (by simp [results, Tryz.results6, go_sem]) rfl ?_
  exact ⟨none, 0, rfl, .inl rfl, byGG⟩
 ·have HC : Hid (∀ W, Calls Tryz.prog 23 #[.int .i64 d] W fun e w' => e = .returned (.bool true) ∧ W = w') := hide fun W => by rw [← hok]; exact reDisc_a d W
  have H1 := hide (h1 rfl)
  clear hok h1 h0
  go_enter Tryz.func6, Tryz.ntmps6
  go_wp2_with fail
  refine ((unhide HC) _).mono ?_
  rintro e w0 ⟨rfl, rfl⟩
  go_wp2_with fail
  refine ((unhide H1) _).mono ?_
  rintro e w1 ⟨a1, d1, rfl, hO1, hb1⟩
  have hs1 := hb1.size
  simp only [World.size_alloc] at hs1 hO1
  have z1 : w.heap.size < w1.heap.size := by omega
  have y0 := cell_call hb1 (a := ⟨w.heap.size, 0, none⟩) (v := .int .i64 0) (by go_simp)
  have x0 := frz_call hb1 (a := ⟨w.heap.size, 0, none⟩) (by simp) (by go_simp)
  have y1 := cell_call hb1 (a := ⟨w.heap.size, 1, none⟩) (v := .int .i64 0) (by go_simp)
  have x1 := frz_call hb1 (a := ⟨w.heap.size, 1, none⟩) (by simp) (by go_simp)
  have y2 := cell_call hb1 (a := ⟨w.heap.size, 2, none⟩) (v := .slice none 0 0) (by go_simp)
  have x2 := frz_call hb1 (a := ⟨w.heap.size, 2, none⟩) (by simp) (by go_simp)
  have y3 := cell_call hb1 (a := ⟨w.heap.size, 3, none⟩) (v := .int .i64 0) (by go_simp)
  have x3 := frz_call hb1 (a := ⟨w.heap.size, 3, none⟩) (by simp) (by go_simp)
  have y4 := cell_call hb1 (a := ⟨w.heap.size, 4, none⟩) (v := .int .i64 0) (by go_simp)
  have x4 := frz_call hb1 (a := ⟨w.heap.size, 4, none⟩) (by simp) (by go_simp)
  go_wp2
  have k0 : (((((w1.setCell ⟨w.heap.size, 0, none⟩ (.int .i64 r.d)).setCell ⟨w.heap.size, 1, none⟩ (.int .i64 r.num)).setCell ⟨w.heap.size, 2, none⟩ (.slice a1 n d1)).setCell ⟨w.heap.size, 3, none⟩ (.int .i64 r.ge)).setCell ⟨w.heap.size, 4, none⟩ (.int .i64 r.ex)).cell? ⟨w.heap.size, 0, none⟩ = some (.int .i64 r.d) := byCT
  have k1 : (((((w1.setCell ⟨w.heap.size, 0, none⟩ (.int .i64 r.d)).setCell ⟨w.heap.size, 1, none⟩ (.int .i64 r.num)).setCell ⟨w.heap.size, 2, none⟩ (.slice a1 n d1)).setCell ⟨w.heap.size, 3, none⟩ (.int .i64 r.ge)).setCell ⟨w.heap.size, 4, none⟩ (.int .i64 r.ex)).cell? ⟨w.heap.size, 1, none⟩ = some (.int .i64 r.num) := byCT
  have k2 : (((((w1.setCell ⟨w.heap.size, 0, none⟩ (.int .i64 r.d)).setCell ⟨w.heap.size, 1, none⟩ (.int .i64 r.num)).setCell ⟨w.heap.size, 2, none⟩ (.slice a1 n d1)).setCell ⟨w.heap.size, 3, none⟩ (.int .i64 r.ge)).setCell ⟨w.heap.size, 4, none⟩ (.int .i64 r.ex)).cell? ⟨w.heap.size, 2, none⟩ = some (.slice a1 n d1) := byCT
  have k3 : (((((w1.setCell ⟨w.heap.size, 0, none⟩ (.int .i64 r.d)).setCell ⟨w.heap.size, 1, none⟩ (.int .i64 r.num)).setCell ⟨w.heap.size, 2, none⟩ (.slice a1 n d1)).setCell ⟨w.heap.size, 3, none⟩ (.int .i64 r.ge)).setCell ⟨w.heap.size, 4, none⟩ (.int .i64 r.ex)).cell? ⟨w.heap.size, 3, none⟩ = some (.int .i64 r.ge) := byCT
  have k4 : (((((w1.setCell ⟨w.heap.size, 0, none⟩ (.int .i64 r.d)).setCell ⟨w.heap.size, 1, none⟩ (.int .i64 r.num)).setCell ⟨w.heap.size, 2, none⟩ (.slice a1 n d1)).setCell ⟨w.heap.size, 3, none⟩ (.int .i64 r.ge)).setCell ⟨w.heap.size, 4, none⟩ (.int .i64 r.ex)).cell? ⟨w.heap.size, 4, none⟩ = some (.int .i64 r.ex) := byCT
  refine bodyPost_ret (v := .tuple #[rwv r (.slice a1 n d1), .bool true]) ?_ rfl ?_
  ·simp [results, Tryz.results6, go_sem, y0, y1, y2, y3, y4, k0, k1, k2, k3, k4]
  ·refine ⟨_, d1, rfl, ?_, byGG⟩
   refine IntsAt.weak (lo := w.heap.size + 1) (hi := w1.heap.size) (IntsAt.keep hO1 fun k k1 k2 => ?_) (by omega) (by simp [World.setCell])
   have hne : k ≠ w.heap.size := by omega
   exact (Below.heap_setCell _ _ _ _ hne).trans ((Below.heap_setCell _ _ _ _ hne).trans ((Below.heap_setCell _ _ _ _ hne).trans ((Below.heap_setCell _ _ _ _ hne).trans (Below.heap_setCell _ _ _ _ hne))))

noncomputable def roV (d : Int) : RowV := if negB d then rowV d else ⟨0, 0, 0, 0⟩
noncomputable def roL (d : Int) : List Int := if negB d then rowFL d else []
theorem implRowOf_a (d : Int) (w : World) : Calls Tryz.prog 7 #[.int .i64 d] w (RetRowB w (roV d) (roL d).length (fun i => (roL d).getD i 0) (negB d)) :=
 implRow_y d w _ _ _ _ rfl (fun h W => by simp only [roV, roL, h]; exact rowOf_a d W h) (fun h => by simp [roV, roL, h])
theorem specRowOf_a (d : Int) (w : World) : Calls Tryz.prog 6 #[.int .i64 d] w (RetRowB w (roV d) (roL d).length (fun i => (roL d).getD i 0) (negB d)) :=
 specRow_y d w _ _ _ _ rfl (fun h W => by simp only [roV, roL, h]; exact tbRow_a d W h) (fun h => by simp [roV, roL, h])
theorem roL_len (d : Int) : (roL d).length ≤ 700 := by
 unfold roL
 cases h : negB d
 ·simp
 ·simpa using rowFL_len h
set_option maxHeartbeats 1000000 in
theorem eqRow_b (r : RowV) (a1 a2 : Option Addr) (l1 u1 l2 u2 n c1 c2 : Nat) (f : Nat → Int) (w : World) (hn : n ≤ 1000000000) (h1 : IntsAt w l1 u1 a1 n f) (h2 : IntsAt w l2 u2 a2 n f) (q1 : u1 ≤ w.heap.size) (q2 : u2 ≤ w.heap.size) :
  Calls Tryz.prog 8 #[rwv r (.slice a1 n c1), rwv r (.slice a2 n c2)] w fun e w' => e = .returned (.bool true) ∧ Below w.heap.size w w' := by
 have H1 := hide h1
 have H2 := hide h2
 clear h1 h2
 go_enter Tryz.func8, Tryz.ntmps8
 go_wp2_with fail
 refine (eqIntS_any _ _ _ _ _ _ n c1 c2 f _ hn ((unhide H1).below byGG q1) ((unhide H2).below byGG q2)).mono ?_
 rintro en w' ⟨rfl, nq, rfl⟩
 go_wp2
 go_ret
 exact ⟨rfl, byGG⟩
theorem markIntS_box (a : Option Addr) (lo hi n c k : Nat) (f : Nat → Int) (w : World) (hn : n ≤ 1000000000) (hk : k ≤ 1000000000) (h : IntsAt w lo hi a n f) :
  Calls Tryz.prog 21 #[.slice a n c, .int .i64 (k : Int)] w fun e w' => e = .returned (.int .i64 ((k : Int) + n)) ∧ IntsAt w' lo hi a n (fun i => (k : Int) + i) ∧ (∀ j, j < lo ∨ hi ≤ j → j < w.heap.size → w'.heap[j]? = w.heap[j]?) ∧ w'.heap.size = w.heap.size ∧ Below lo w w' := by
 rcases h with rfl | ⟨g, cap, F, rfl, hlo, hhi, q, r, e⟩
 ·refine (markIntS_nil a c k w).mono ?_
  rintro e w' ⟨rfl, rfl⟩
  exact ⟨ret_int (by omega), .inl rfl, fun _ _ _ => rfl, rfl, Below.refl _ _⟩
 ·refine (markIntS_row g n c cap k F w hn hk q r).mono ?_
  rintro e w' ⟨rfl, hr, hg, hs⟩
  have hg9 := r.lt
  refine ⟨rfl, .inr ⟨g, cap, _, rfl, hlo, hhi, q, hr, fun i hi => by simp [hi]⟩, fun j hj hj2 => hg.block j hj2 (fun e => by cases e; omega), hs, ⟨hg.os, hg.tape, hg.output, hg.size, fun j hj => hg.block j (by omega) (fun e => by cases e; omega)⟩⟩
set_option maxHeartbeats 1000000 in
theorem markRow_b (r : RowV) (a : Option Addr) (lo hi n c k : Nat) (f : Nat → Int) (w : World) (hn : n ≤ 700) (hk : k ≤ 1) (hlo : lo ≤ w.heap.size) (hhi : hi ≤ w.heap.size) (h : IntsAt w lo hi a n f) :
  Calls Tryz.prog 9 #[rwv r (.slice a n c), .int .i64 (k : Int)] w fun e w' => e = .returned (.int .i64 ((k : Int) + n)) ∧ IntsAt w' lo hi a n (fun i => (k : Int) + i) ∧ (∀ j, j < lo ∨ hi ≤ j → j < w.heap.size → w'.heap[j]? = w.heap[j]?) ∧ w.heap.size ≤ w'.heap.size ∧ Below lo w w' := by
 have H1 := hide (h.below (w' := (w.alloc (.cells #[.int .i64 r.d, .int .i64 r.num, .slice a n c, .int .i64 r.ge, .int .i64 r.ex] 24))) (below_alloc_self _ _) hhi)
 clear h
 go_enter Tryz.func9, Tryz.ntmps9
 go_wp2_with fail
 refine (markIntS_box a lo hi n c k f _ (by omega) (by omega) (unhide H1)).mono ?_
 rintro en w' ⟨rfl, i1, k1, s1, b1⟩
 have K1 := hide k1
 have S1 : w.heap.size + 1 = w'.heap.size := by simpa using s1.symm
 have S2 := hide S1
 clear k1 S1 s1
 go_wp2
 go_ret
 refine ⟨rfl, i1, fun j hj hj2 => ((unhide K1) j hj (by simp; omega)).trans ((below_alloc_self w _).block j hj2), by have := unhide S2; omega, ?_⟩
 exact Below.trans (Below.mono (below_alloc_self w _) hlo) b1
set_option maxHeartbeats 1000000 in
theorem heldRow_b (r : RowV) (a : Option Addr) (lo hi n c k : Nat) (w : World) (hn : n ≤ 700) (hk : k ≤ 1) (hhi : hi ≤ w.heap.size) (h : IntsAt w lo hi a n (fun i => (k : Int) + i)) :
  Calls Tryz.prog 10 #[rwv r (.slice a n c), .int .i64 (k : Int)] w fun e w' => e = .returned (.int .i64 ((k : Int) + n)) ∧ Below w.heap.size w w' := by
 have H1 := hide (h.below (w' := (w.alloc (.cells #[.int .i64 r.d, .int .i64 r.num, .slice a n c, .int .i64 r.ge, .int .i64 r.ex] 24))) (below_alloc_self _ _) hhi)
 clear h
 go_enter Tryz.func10, Tryz.ntmps10
 go_wp2_with fail
 refine (heldIntS_any a lo hi n c k _ (by omega) (by omega) (unhide H1)).mono ?_
 rintro en w' ⟨rfl, rfl⟩
 go_wp2
 go_ret
 exact ⟨rfl, byGG⟩
end Go.Proofs.YtaeabefbohlcpaaGreat
namespace Go.Proofs.YtaeabefbohlcpaaGreat
open Go.RowKit
set_option linter.unusedVariables false
set_option linter.unusedSimpArgs false
attribute [local go_sem] q2 q3 q4 q5 q6 q7 q8 q9 q10 q11 q12

structure RowBx (W : World) (b : Nat) (r : RowV) (v : Value) : Prop where
 q0 : W.cell? ⟨b, 0, none⟩ = some (.int .i64 r.d)
 q1 : W.cell? ⟨b, 1, none⟩ = some (.int .i64 r.num)
 q2 : W.cell? ⟨b, 2, none⟩ = some v
 q3 : W.cell? ⟨b, 3, none⟩ = some (.int .i64 r.ge)
 q4 : W.cell? ⟨b, 4, none⟩ = some (.int .i64 r.ex)
theorem RowBx.blk {w w' : World} {b : Nat} {r : RowV} {v : Value} (h : RowBx w b r v) (e : w'.heap[b]? = w.heap[b]?) : RowBx w' b r v := by
 have k : ∀ o, w'.cell? ⟨b, o, none⟩ = w.cell? ⟨b, o, none⟩ := fun o => by simp [World.cell?, e]
 exact ⟨(k 0).trans h.q0, (k 1).trans h.q1, (k 2).trans h.q2, (k 3).trans h.q3, (k 4).trans h.q4⟩
theorem RowBx.below {w w' : World} {b : Nat} {r : RowV} {v : Value} (h : RowBx w b r v) (hb : Below w.heap.size w w') : RowBx w' b r v :=
 ⟨cell_call hb h.q0, cell_call hb h.q1, cell_call hb h.q2, cell_call hb h.q3, cell_call hb h.q4⟩
theorem RowBx.new (w : World) (r : RowV) (v : Value) : RowBx (w.alloc (.cells #[.int .i64 r.d, .int .i64 r.num, v, .int .i64 r.ge, .int .i64 r.ex] 24)) w.heap.size r v := by
 constructor <;> go_simp
theorem al_trans {w w1 w2 : World} {o : Obj} {B : Nat} (h1 : Below B w w1) (s : B ≤ w1.heap.size) (h2 : Below (w1.alloc o).heap.size (w1.alloc o) w2) : Below B w w2 :=
 h1.trans (((below_alloc_self w1 o).trans (h2.mono (by simp))).mono s)
set_option maxHeartbeats 2000000 in
theorem lawRow_y (d : Int) (w : World) (r : RowV) (n : Nat) (f : Nat → Int) (ok : Bool) (hn : n ≤ 700)
  (HA : Hid (∀ W, Calls Tryz.prog 6 #[.int .i64 d] W (RetRowB W r n f ok))) (HB : Hid (∀ W, Calls Tryz.prog 7 #[.int .i64 d] W (RetRowB W r n f ok))) :
  Calls Tryz.prog 3 #[.int .i64 d] w fun e w' => e = .returned (.bool true) ∧ Below w.heap.size w w' := by
 go_enter Tryz.func3, Tryz.ntmps3
 go_wp2_with fail
 refine ((unhide HA) _).mono ?_
 rintro e w1 ⟨a1, d1, rfl, i1, b1⟩
 have s1 := b1.size
 go_wp2_with fail
 refine ((unhide HB) _).mono ?_
 rintro e w2 ⟨a2, d2, rfl, i2, b2⟩
 have s2 := b2.size
 simp only [World.size_alloc] at s2 i2
 have B3 := (RowBx.new w1 r (.slice a1 n d1)).below b2
 have J1 := hide ((i1.below (below_alloc_self _ _) (Nat.le_refl _)).below b2 (by simp))
 have J2 := hide i2
 clear i1 i2
 have B3' := hide B3
 have z1 : w1.heap.size < w2.heap.size := by omega
 have n1 : w2.heap.size ≠ w1.heap.size := by omega
 obtain ⟨y0, y1, y2, y3, y4⟩ := B3
 go_wp2_with fail
 refine (eqRow_b r a2 a1 _ _ _ _ n d2 d1 f _ (by omega) ((unhide J2).below (below_alloc_self _ _) (Nat.le_refl _)) ((unhide J1).below (below_alloc_self _ _) (by omega)) (by simp) (by simp; omega)).mono ?_
 rintro e w3 ⟨rfl, b3⟩
 have s3 := b3.size
 simp only [World.size_alloc] at s3
 have B5 := (RowBx.new w2 r (.slice a2 n d2)).below b3
 have B3b := hide (((unhide B3').below (below_alloc_self _ _)).below b3)
 have I1 := hide (((unhide J1).below (below_alloc_self _ _) (by omega)).below b3 (by simp; omega))
 have I2 := (((unhide J2).below (below_alloc_self _ _) (Nat.le_refl _)).below b3 (by simp))
 clear J1 J2 B3' y0 y1 y2 y3 y4
 have B5' := hide B5
 obtain ⟨y0, y1, y2, y3, y4⟩ := B5
 have I2' := hide I2
 clear I2
 go_wp2_with fail
 refine (markRow_b r a2 (w1.heap.size + 1) w2.heap.size n d2 1 f _ hn (by omega) (by omega) (by omega) (unhide I2')).mono ?_
 rintro e w4 ⟨rfl, i4, h4, s4, b4⟩
 have B5b := (unhide B5').blk (h4 _ (.inr (Nat.le_refl _)) (by omega))
 have B3c := (unhide B3b).blk (h4 _ (.inl (by omega)) (by omega))
 have I1b := hide ((unhide I1).keep (w' := w4) (fun k _ h2 => h4 k (.inl (by omega)) (by omega)))
 have I4 := hide i4
 clear i4 I1 B5' B3b I2' y0 y1 y2 y3 y4 h4
 have B3d := hide B3c
 have B5c := hide B5b
 obtain ⟨y0, y1, y2, y3, y4⟩ := B5b
 clear B3c
 go_wp2_with fail
 refine (heldRow_b r a2 (w1.heap.size + 1) w2.heap.size n d2 1 _ hn (by omega) (by omega) (unhide I4)).mono ?_
 rintro e w5 ⟨rfl, b5⟩
 have s5 := b5.size
 clear y0 y1 y2 y3 y4
 have B3e := hide ((unhide B3d).below b5)
 have B5e := hide ((unhide B5c).below b5)
 have I1c := hide ((unhide I1b).below b5 (by omega))
 have I4b := hide ((unhide I4).below b5 (by omega))
 clear B3d B5c I1b I4
 go_wp2_with fail
 refine ((unhide HB) _).mono ?_
 rintro e w6 ⟨a6, d6, rfl, i6, b6⟩
 have s6 := b6.size
 have B3f := ((unhide B3e).below b6)
 have B5f := hide ((unhide B5e).below b6)
 have I1d := hide ((unhide I1c).below b6 (by omega))
 have I4c := hide ((unhide I4b).below b6 (by omega))
 have I6 := hide i6
 clear i6 B3e B5e I1c I4b
 have n2 : w6.heap.size ≠ w1.heap.size := by omega
 have z6 : w1.heap.size < w6.heap.size := by omega
 obtain ⟨y0, y1, y2, y3, y4⟩ := B3f
 go_wp2_with fail
 refine (eqRow_b r a6 a1 _ _ _ _ n d6 d1 f _ (by omega) ((unhide I6).below (below_alloc_self _ _) (Nat.le_refl _)) ((unhide I1d).below (below_alloc_self _ _) (by omega)) (by simp) (by simp; omega)).mono ?_
 rintro e w7 ⟨rfl, b7⟩
 have s7 := b7.size
 simp only [World.size_alloc] at s7
 clear y0 y1 y2 y3 y4
 have B5g := ((unhide B5f).below (below_alloc_self _ _)).below b7
 have I4d := hide (((unhide I4c).below (below_alloc_self _ _) (by omega)).below b7 (by simp; omega))
 clear B5f I4c n2 z6
 obtain ⟨y0, y1, y2, y3, y4⟩ := B5g
 go_wp2_with fail
 refine (heldRow_b r a2 (w1.heap.size + 1) w2.heap.size n d2 1 _ hn (by omega) (by omega) (unhide I4d)).mono ?_
 rintro e w8 ⟨rfl, b8⟩
 go_wp2
 go_ret
 refine ⟨rfl, ?_⟩
 have c2 := al_trans b1 s1 b2
 have c3 := al_trans c2 (by omega) b3
 have c5 := c3.trans (b4.mono (by omega))
 have c6 := c5.trans (b5.mono (by omega))
 have c7 := c6.trans (b6.mono (by omega))
 have c8 := al_trans c7 (by omega) b7
 exact c8.trans (b8.mono (by omega))
theorem lawRowOf (d : Int) (w : World) :
  Calls Tryz.prog 3 #[.int .i64 d] w fun e w' => e = .returned (.bool true) ∧ Below w.heap.size w w' :=
 lawRow_y d w (roV d) (roL d).length (fun i => (roL d).getD i 0) (negB d) (roL_len d) (hide fun W => specRowOf_a d W) (hide fun W => implRowOf_a d W)
end Go.Proofs.YtaeabefbohlcpaaGreat
namespace Go.Proofs.YtaeabefbohlcpaaGreat
open Go.RowKit Go.WideShapes Go.ChangeShapes
set_option linter.unusedVariables false

theorem post_of_below {H : Type} {enc : TypeId × Value → H} {P : Program} {f : Func} {s : ChangeSpec} {apart fresh handsOn again : Bool} {W W' : World} {args : Array Value} {v : Value} {ds gs : List (DataW H)} {before pa pv : List MemPlace}
  (hW : DataW.Whole enc P f.params.toList s.vars apart W args.toList ds gs before)
  (hres : ∀ (b : Nat) (sp : Nat → Bool) (hd : Bool), DataW.TrodAll enc P W' b sp hd f.resultTypes.toList (v.resultList f.resultTypes.size) (s.fn H (ds ++ gs)).results [])
  (hargs : ∀ sp : Nat → Bool, (∀ p ∈ before, sp p.block = true) → DataW.TrodAll enc P W' 0 sp true f.params.toList args.toList (s.fn H (ds ++ gs)).args pa)
  (hvars : ∀ sp : Nat → Bool, (∀ p ∈ before, sp p.block = true) → DataW.TrodVars enc P W' sp s.vars (s.fn H (ds ++ gs)).vars pv)
  (hps : before = pa ++ pv) (hb : Below W.heap.size W W')
  (hok : ∀ (j : Nat) (t : TypeId) (r : Value), f.resultTypes[j]? = some t → (v.resultList f.resultTypes.size)[j]? = some r → Value.okWide P W' .any 0 t r) :
  s.post enc P f apart fresh handsOn again W args v W' := by
 have hlt : ∀ p ∈ before, p.block < W.heap.size := fun p hp => hW.lt p hp
 have hold : ∀ p ∈ before, (fun b => decide (b < W.heap.size)) p.block = true := fun p hp => by simpa using hlt p hp
 refine ⟨ds, gs, before, [], pa, pv, hW, hres _ _ _, hargs _ hold, hvars _ hold, World.keptBut_mono (fun p hp => ⟨hp, ?_⟩) (hb.frame (· ∈ before)), fun _ => ?_⟩
 ·rw [hps, List.mem_append] at hp
  exact Or.inr hp
 ·obtain ⟨_, _, _, _, _, hz, hn⟩ := hW
  refine ⟨hok, _, _, ([] ++ pa) ++ pv, ⟨[] ++ pa, pv, trodAll_append (hargs _ (fun _ _ => rfl)) (hres _ _ _), hvars _ (fun _ _ => rfl), rfl, ?_, ?_⟩, ?_⟩
  ·intro b off hp
   have hin : MemPlace.cell b off ∈ before := by rw [hps]; simpa using hp
   rw [hb.frozen (hlt _ hin)]
   exact hz b off hin
  ·intro ha
   have := hn ha
   rw [hps] at this
   simpa using this
  ·intro p hp _
   rw [hps]
   simpa using hp
end Go.Proofs.YtaeabefbohlcpaaGreat
