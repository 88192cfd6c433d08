/- Lists of rows that come in: szRowS. Lists of rows that come in: toRowS. WrongRows over rows that came in. The law FnExactWrongRows. An argument that is a row, opened: its numbers, its factors. A list of rows that comes in, opened. -/
import Derived.Test.YtaeabefbohlcpaaGreatNum
import Derived.Test.YtaeabefbohlcpaaGreatLevel
import Derived.Test.YtaeabefbohlcpaaGreatConv
import Derived.Test.YtaeabefbohlcpaaGreatRed
import Derived.Test.YtaeabefbohlcpaaGreatDrp
import Derived.Test.YtaeabefbohlcpaaGreatPt
import Derived.Test.YtaeabefbohlcpaaGreatRule
import Derived.Test.YtaeabefbohlcpaaGreatOwn
import Derived.Test.YtaeabefbohlcpaaGreatSub
import Derived.Test.YtaeabefbohlcpaaGreatCmp
import Derived.Test.YtaeabefbohlcpaaGreatStep
import Derived.Test.YtaeabefbohlcpaaGreatReduceI
import Derived.Test.YtaeabefbohlcpaaGreatReduceS
import Derived.Test.YtaeabefbohlcpaaGreatRd
import Derived.Test.YtaeabefbohlcpaaGreatFp
import Derived.Test.YtaeabefbohlcpaaGreatInv
import Derived.Test.YtaeabefbohlcpaaGreatCpl
import Derived.Test.YtaeabefbohlcpaaGreatCpw
import Derived.Test.YtaeabefbohlcpaaGreatCps
import Derived.Test.YtaeabefbohlcpaaGreatGp
import Derived.Test.YtaeabefbohlcpaaGreatGi
import Derived.Test.YtaeabefbohlcpaaGreatGrp
import Derived.Test.YtaeabefbohlcpaaGreatRfl
import Derived.Test.YtaeabefbohlcpaaGreatFac
import Derived.Test.YtaeabefbohlcpaaGreatOs
import Derived.Test.YtaeabefbohlcpaaGreatUnw
import Derived.Test.YtaeabefbohlcpaaGreatCmpI
import Derived.Test.YtaeabefbohlcpaaGreatCou
import Derived.Test.YtaeabefbohlcpaaGreatSd
import Derived.Test.YtaeabefbohlcpaaGreatFaw
import Derived.Test.YtaeabefbohlcpaaGreatFap
import Derived.Test.YtaeabefbohlcpaaGreatFan
import Derived.Test.YtaeabefbohlcpaaGreatJac
import Derived.Test.YtaeabefbohlcpaaGreatJas
import Derived.Test.YtaeabefbohlcpaaGreatChv
import Derived.Test.YtaeabefbohlcpaaGreatChi
import Derived.Test.YtaeabefbohlcpaaGreatChs
import Derived.Test.YtaeabefbohlcpaaGreatPtg
import Derived.Test.YtaeabefbohlcpaaGreatFpg
import Derived.Test.YtaeabefbohlcpaaGreatGnv
import Derived.Test.YtaeabefbohlcpaaGreatGrq
import Derived.Test.YtaeabefbohlcpaaGreatGrt
import Derived.Test.YtaeabefbohlcpaaGreatIvp
import Derived.Test.YtaeabefbohlcpaaGreatIvi
import Derived.Test.YtaeabefbohlcpaaGreatIvs
import Derived.Test.YtaeabefbohlcpaaGreatGix
import Derived.Test.YtaeabefbohlcpaaGreatGtt
import Derived.Test.YtaeabefbohlcpaaGreatGx
import Derived.Test.YtaeabefbohlcpaaGreatGng
import Derived.Test.YtaeabefbohlcpaaGreatGns
import Derived.Test.YtaeabefbohlcpaaGreatRwo
import Derived.Test.YtaeabefbohlcpaaGreatRwt
import Derived.Test.YtaeabefbohlcpaaGreatPost
import Derived.Test.YtaeabefbohlcpaaGreatWrongRowsP0
import Derived.Lib.SmallJoins
import Derived.Deep.Slices
import Derived.Carry
import Derived.ProofKit
namespace Go.Proofs.YtaeabefbohlcpaaGreat
open Go.RowKit
set_option linter.unusedVariables false
set_option linter.unusedSimpArgs false
attribute [local go_sem] q2 q3 q4 q5 q6 q7 q8 q9 q10 q11 q12

structure RowA where
 r : RowV
 v : Value
 n : Nat
 z : Nat → Int
def RowAt (w : World) (b o : Nat) (e : RowA) : Prop := w.cell? ⟨b, o, none⟩ = some (.int .i64 e.r.d) ∧ w.cell? ⟨b, o + 1, none⟩ = some (.int .i64 e.r.num) ∧ w.cell? ⟨b, o + 2, none⟩ = some e.v ∧ w.cell? ⟨b, o + 3, none⟩ = some (.int .i64 e.r.ge) ∧ w.cell? ⟨b, o + 4, none⟩ = some (.int .i64 e.r.ex)
theorem RowAt.below {w w' : World} {b o : Nat} {e : RowA} (h : RowAt w b o e) (hb : Below w.heap.size w w') : RowAt w' b o e := ⟨cell_call hb h.1, cell_call hb h.2.1, cell_call hb h.2.2.1, cell_call hb h.2.2.2.1, cell_call hb h.2.2.2.2⟩
def ArgW (w : World) (v : Value) (n : Nat) (E : Nat → RowA) : Prop :=
 (n = 0 ∧ ∃ a c, v = .slice a 0 c) ∨ ∃ b off c : Nat, v = .slice (some ⟨b, off, none⟩) n c ∧ b < w.heap.size ∧ ∀ i, i < n → RowAt w b (off + i * 5) (E i) ∧ ArgI w (E i).v (E i).n (E i).z
theorem ArgW.below {w w' : World} {v : Value} {n : Nat} {E : Nat → RowA} (h : ArgW w v n E) (hb : Below w.heap.size w w') : ArgW w' v n E := by
 rcases h with h | ⟨b, off, c, h1, h2, h3⟩
 ·exact .inl h
 ·exact .inr ⟨b, off, c, h1, Nat.lt_of_lt_of_le h2 hb.size, fun i hi => ⟨(h3 i hi).1.below hb, (h3 i hi).2.below hb⟩⟩
theorem ArgW.len {w : World} {v : Value} {n : Nat} {E : Nat → RowA} (h : ArgW w v n E) : ∃ a c, v = .slice a n c := by
 rcases h with ⟨h, a, c, h2⟩ | ⟨b, off, c, h1, _⟩
 ·exact ⟨a, c, by rw [h]; exact h2⟩
 ·exact ⟨_, _, h1⟩
theorem ArgW.cells {w : World} {a : Option Addr} {n c : Nat} {E : Nat → RowA} (h : ArgW w (.slice a n c) n E) (hn : 0 < n) : ∃ b off, a = some ⟨b, off, none⟩ ∧ ∀ i, i < n → RowAt w b (off + i * 5) (E i) ∧ ArgI w (E i).v (E i).n (E i).z := by
 rcases h with ⟨h, _⟩ | ⟨b, off, c', h1, _, h3⟩
 ·omega
 ·simp only [Value.slice.injEq] at h1
  exact ⟨b, off, h1.1, h3⟩
def sumW (E : Nat → RowA) : Nat → Nat
 | 0 => 0
 | i + 1 => sumW E i + (E i).n
theorem sumW_le (E : Nat → RowA) {n : Nat} : ∀ {i : Nat}, i ≤ n → sumW E i ≤ sumW E n := by
 induction n with
 | zero =>
  intro i hi
  obtain rfl : i = 0 := by omega
  exact Nat.le_refl _
 | succ n ih =>
  intro i hi
  by_cases e : i = n + 1
  ·subst e; exact Nat.le_refl _
  ·have := ih (i := i) (by omega); simp only [sumW]; omega
theorem sumW_at (E : Nat → RowA) {n i : Nat} (hi : i < n) : (E i).n ≤ sumW E n := by
 have := sumW_le E (show i + 1 ≤ n by omega); simp only [sumW] at this; omega
theorem mkK_sum {E : Nat → RowA} {t : Nat → TR} {n : Nat} (h : ∀ i, i < n → (t i).zs.length = (E i).n) : ∀ i, i ≤ n → mkK t i = 1 + 4 * i + sumW E i
 | 0, _ => by simp [mkK, sumW]
 | i + 1, hi => by
  have e := mkK_sum h i (by omega)
  have e2 := h i (by omega)
  simp only [mkK, sumW]; rw [e, e2]; omega
set_option maxRecDepth 100000 in
set_option maxHeartbeats 4000000 in
theorem szRowS_a (v : Value) (n : Nat) (E : Nat → RowA) (w : World) (h : ArgW w v n E) (hn : n ≤ 9223372036854775807) (hE : ∀ i, i < n → (E i).n ≤ 9223372036854775807) :
  Calls Tryz.prog 16 #[v, .int .i64 1048576] w fun e w' => ∃ x : Int, e = .returned (.int .i64 x) ∧ (x < 0 ∨ (0 ≤ x ∧ n + sumW E n ≤ 1048576)) ∧ Below w.heap.size w w' := by
 have HA := hide h
 obtain ⟨a, c, rfl⟩ := h.len
 clear h
 by_cases q0 : 1048576 < n
 ·have hci : (1048576 : Int) - (n : Int) < 0 := by omega
  go_enter Tryz.func16, Tryz.ntmps16
  go_wp2
  go_ret
  exact ⟨_, rfl, .inl (by omega), Below.refl _ _⟩
 ·have hci : ¬ (1048576 : Int) - (n : Int) < 0 := by omega
  go_enter Tryz.func16, Tryz.ntmps16
  go_wp2
  go_loopw [1, 5] (fun ls is wr => ∃ (ix : Nat) (l : Int), ix ≤ n ∧ is = .int .i64 (ix : Int) ∧ ls = .int .i64 l ∧ 0 ≤ l ∧ l ≤ 1048576 ∧ Hid (l = 1048576 - (n : Int) - (sumW E ix : Int)) ∧ Below w.heap.size w wr) (fun _ is _ => n - (intOf is).toNat)
  case atStart => exact ⟨0, _, by omega, rfl, rfl, by omega, by omega, hide (by simp [sumW]), Below.refl _ _⟩
  case round =>
   obtain ⟨ix, l, hi, rfl, rfl, l0, l1, hall, hb⟩ := hrel
   obtain ⟨wl, rfl⟩ : ∃ wl : World, wl = wr := ⟨_, rfl⟩
   by_cases q : ix < n
   ·have hci2 : (ix : Int) < (n : Int) := by omega
    obtain ⟨b, off, hv, hcs⟩ := ((unhide HA).below hb).cells (by omega)
    obtain ⟨⟨c0, c1, c2, c3, c4⟩, ha⟩ := hcs ix q
    have hE9 := hE ix q
    subst hv
    clear hcs
    by_cases q2 : l < ((E ix).n : Int)
    ·have HS : Hid (∀ W, Below wl.heap.size wl W → Calls Tryz.prog 31 #[rwv (E ix).r (E ix).v, .int .i64 l] W fun e w' => e = .returned (.int .i64 (-1)) ∧ Below W.heap.size W w') := hide fun W hbW => by
      have := szRow_a (E ix).r (E ix).v (E ix).n l (E ix).z W (ha.below hbW) hE9 (by omega)
      rw [if_pos q2] at this; exact this
     clear ha q2
     generalize E ix = e9 at *
     go_wp2_with (go_at_call 31; refine ((unhide HS) _ byGG).mono ?_; rintro e w3 ⟨rfl, hb3⟩)
     go_ret
     exact ⟨_, rfl, .inl (by omega), hb.trans (hb3.mono hb.size)⟩
    ·have HS : Hid (∀ W, Below wl.heap.size wl W → Calls Tryz.prog 31 #[rwv (E ix).r (E ix).v, .int .i64 l] W fun e w' => e = .returned (.int .i64 (l - (E ix).n)) ∧ Below W.heap.size W w') := hide fun W hbW => by
      have := szRow_a (E ix).r (E ix).v (E ix).n l (E ix).z W (ha.below hbW) hE9 (by omega)
      rw [if_neg q2] at this; exact this
     have HN : Hid (sumW E (ix + 1) = sumW E ix + (E ix).n) := hide rfl
     have q3 : ¬ l - ((E ix).n : Int) < 0 := by omega
     clear ha
     obtain ⟨e9, he9⟩ : ∃ e9, E ix = e9 := ⟨_, rfl⟩
     rw [he9] at c0 c1 c2 c3 c4 HS q3 hE9 q2 HN
     have HE9 := hide he9
     clear he9
     go_wp2_with (go_at_call 31; refine ((unhide HS) _ byGG).mono ?_; rintro e w3 ⟨rfl, hb3⟩)
     go_roundw
     case rel => exact ⟨ix + 1, _, by omega, by first | rfl | go_num, rfl, by omega, by omega, hide (by rw [unhide HN, unhide hall]; omega), hb.trans (hb3.mono hb.size)⟩
     case measure => simp [intOf]; omega
   ·obtain rfl : n = ix := by omega
    go_wp2
    go_ret
    exact ⟨_, rfl, .inr ⟨l0, by have := unhide hall; omega⟩, hb⟩
end Go.Proofs.YtaeabefbohlcpaaGreat
namespace Go.Proofs.YtaeabefbohlcpaaGreat
open Go.RowKit
set_option linter.unusedVariables false
set_option linter.unusedSimpArgs false
attribute [local go_sem] q2 q3 q4 q5 q6 q7 q8 q9 q10 q11 q12

def RowQ (LO : Nat) (r : RowV) (n : Nat) (z : Nat → Int) (w : World) (v : Value) : Prop := ∃ g : Nat, LO ≤ g ∧ v = rwv r (.slice (some ⟨g, 0, none⟩) n n) ∧ RowI w g n z ∧ g < w.heap.size
set_option maxRecDepth 100000 in
set_option maxHeartbeats 2000000 in
theorem toRow_b (r : RowV) (v : Value) (n : Nat) (z : Nat → Int) (w : World) (h : ArgI w v n z) (hn : n ≤ 2000000) :
    Calls Tryz.prog 34 #[rwv r v] w fun e w' => ∃ v', e = .returned v' ∧ RowQ w.heap.size r n z w' v' ∧ Below w.heap.size w w' := by
  obtain ⟨va, vc, rfl⟩ := h.len
  have HA := hide h
  clear h
  go_enter Tryz.func34, Tryz.ntmps34
  go_wp2_with fail
  refine (toIntS_a _ n z _ ((unhide HA).below byGG) hn).mono ?_
  rintro en w1 ⟨rfl, hr, hb1⟩
  have hcs9 := cells_calls hb1 [⟨w.heap.size, 0, none⟩, ⟨w.heap.size, 1, none⟩, ⟨w.heap.size, 2, none⟩, ⟨w.heap.size, 3, none⟩, ⟨w.heap.size, 4, none⟩, ⟨w.heap.size + 1, 0, none⟩, ⟨w.heap.size + 1, 1, none⟩, ⟨w.heap.size + 1, 2, none⟩, ⟨w.heap.size + 1, 3, none⟩, ⟨w.heap.size + 1, 4, none⟩, ⟨w.heap.size + 1 + 1, 0, none⟩, ⟨w.heap.size + 1 + 1, 1, none⟩, ⟨w.heap.size + 1 + 1, 2, none⟩, ⟨w.heap.size + 1 + 1, 3, none⟩, ⟨w.heap.size + 1 + 1, 4, none⟩] [.int .i64 r.d, .int .i64 r.num, .slice va n vc, .int .i64 r.ge, .int .i64 r.ex, .int .i64 0, .int .i64 0, .slice none 0 0, .int .i64 0, .int .i64 0, .int .i64 r.d, .int .i64 r.num, .slice none 0 0, .int .i64 0, .int .i64 0] (by refine ⟨?_, ?_, ?_, ?_, ?_, ?_, ?_, ?_, ?_, ?_, ?_, ?_, ?_, ?_, ?_, trivial⟩ <;> exact byCT)
  have hfs9 := frees_calls hb1 [⟨w.heap.size + 1, 0, none⟩, ⟨w.heap.size + 1, 1, none⟩, ⟨w.heap.size + 1, 2, none⟩, ⟨w.heap.size + 1, 3, none⟩, ⟨w.heap.size + 1, 4, none⟩, ⟨w.heap.size + 1 + 1, 0, none⟩, ⟨w.heap.size + 1 + 1, 1, none⟩, ⟨w.heap.size + 1 + 1, 2, none⟩, ⟨w.heap.size + 1 + 1, 3, none⟩, ⟨w.heap.size + 1 + 1, 4, none⟩] (by refine ⟨?_, ?_, ?_, ?_, ?_, ?_, ?_, ?_, ?_, ?_, trivial⟩ <;> first | with_reducible assumption | omega | (simp; omega) | (simp; done)) (by refine ⟨?_, ?_, ?_, ?_, ?_, ?_, ?_, ?_, ?_, ?_, trivial⟩ <;> exact byFT)
  have hzs9 := blocks_calls hb1 [w.heap.size, w.heap.size + 1, w.heap.size + 1 + 1] (by refine ⟨?_, ?_, ?_, trivial⟩ <;> first | with_reducible assumption | omega | (simp; omega) | (simp; done))
  try clear c00 c01 c02 c03 c04
  try clear c10 c11 c12 c13 c14 f10 f11 f12 f13 f14
  try clear c20 c21 c22 c23 c24 f20 f21 f22 f23 f24
  obtain ⟨c00, c01, c02, c03, c04, c10, c11, c12, c13, c14, c20, c21, c22, c23, c24, -⟩ := hcs9
  obtain ⟨f10, f11, f12, f13, f14, f20, f21, f22, f23, f24, -⟩ := hfs9
  obtain ⟨z0, z1, z2, -⟩ := hzs9
  have hs1 := hb1.size
  have HR := hide hr
  clear hr
  go_wp2
  refine bodyPost_ret (v := rwv r (.slice (some ⟨w.heap.size + 1 + 1 + 1, 0, none⟩) n n)) (by simp [results, Tryz.results34, go_sem, *]) rfl ?_
  refine ⟨_, rfl, ⟨_, by omega, rfl, ?_, ?_⟩, byGG⟩
  · (repeat' refine RowI.set ?_ (by first | omega | (simp; omega)))
    have h9 := unhide HR
    first | exact h9 | simpa using h9
  · have := World.rowIs.lt (unhide HR)
    simpa using this

def zlist (e : RowA) : List Int := (List.range e.n).map e.z
theorem zlist_len (e : RowA) : (zlist e).length = e.n := by simp [zlist]
theorem zlist_at (e : RowA) {i : Nat} (h : i < e.n) : (zlist e).getD i 0 = e.z i := by simp [zlist, List.getD_eq_getElem?_getD, List.getElem?_range h]
theorem make_rows (n : Nat) (hn : n ≤ 2000000) (w : World) :
    (Instr.makeSlice 30 (.int .i64 (n : Int)) (.int .i64 (n : Int))).run Tryz.prog w = .ok (.slice (some ⟨w.heap.size, 0, none⟩) n n) (w.alloc (.cells (madeCells #[.int .i64 0, .int .i64 0, .slice none 0 0, .int .i64 0, .int .i64 0] (n * 5)) 24)) := by
  obtain ⟨i0, hi, hz0, hz1, hz2⟩ := info_parts infoRow9
  have h := run_makeSlice (P := Tryz.prog) (w := w) 30 24 i0 (.agg #[.int .i64 0, .int .i64 0, .slice none 0 0, .int .i64 0, .int .i64 0]) Tryz.underlying30 hi hz0 .i64 .i64 (n : Int) (n : Int) (by omega) (Int.le_refl _) (by rw [hz1, Int.toNat_natCast]; omega) (by rw [hz2]; omega) (by omega)
  rw [Int.toNat_natCast, hz1] at h
  exact h
def zeR (i : Nat) : Value := if i % 5 = 2 then .slice none 0 0 else .int .i64 0
theorem made_rows (w : World) (n : Nat) : (w.alloc (.cells (madeCells #[.int .i64 0, .int .i64 0, .slice none 0 0, .int .i64 0, .int .i64 0] (n * 5)) 24)).rowIs w.heap.size 24 (n * 5) zeR := by
  refine ⟨_, Go.Deep.blk_alloc_new _ _, by simp [size_madeCells], fun j hj => ?_⟩
  have h3 : j % 5 = 0 ∨ j % 5 = 1 ∨ j % 5 = 2 ∨ j % 5 = 3 ∨ j % 5 = 4 := by omega
  rcases h3 with h | h | h | h | h <;> simp [madeCells, hj, h, zeR]
structure RowsTo (W : World) (g n ix : Nat) (t : Nat → TR) : Prop where
  blk : g < W.heap.size
  ex : ∀ o, o < n * 5 → ∃ u, W.cell? ⟨g, o, none⟩ = some u
  fz : ∀ o, W.frozen? ⟨g, o, none⟩ = false
  cel : ∀ i j, i < ix → j < 5 → W.cell? ⟨g, i * 5 + j, none⟩ = (t i).cells[j]?
  inn : ∀ j, j < ix → (t j).ints W
  low : ∀ j, j < ix → g + 1 ≤ (t j).lo
  top : ∀ j, j < ix → (t j).hi ≤ W.heap.size
  ord : ∀ i j, i < j → j < ix → (t i).hi ≤ (t j).lo
theorem RowsTo.rows {W : World} {g n : Nat} {t : Nat → TR} (h : RowsTo W g n n t) : RowsAt W g W.heap.size (some ⟨g, 0, none⟩) n t :=
  ⟨.inr ⟨g, rfl, Nat.le_refl _, h.blk, h.blk, h.cel, h.fz, fun j hj => .inl (h.low j hj)⟩, h.inn, fun j hj => Nat.le_of_succ_le (h.low j hj), h.top, h.ord⟩
theorem RowsTo.below {W W' : World} {g n ix : Nat} {t : Nat → TR} (h : RowsTo W g n ix t) (hb : Below W.heap.size W W') : RowsTo W' g n ix t :=
  have hk := hb.block g h.blk
  ⟨Nat.lt_of_lt_of_le h.blk hb.size, fun o ho => by rw [World.cell?_of_block hk]; exact h.ex o ho, fun o => by rw [World.frozen?_of_block hk]; exact h.fz o, fun i j hi hj => by rw [World.cell?_of_block hk]; exact h.cel i j hi hj,
   fun j hj => (h.inn j hj).below hb (h.top j hj), h.low, fun j hj => Nat.le_trans (h.top j hj) hb.size, h.ord⟩
theorem RowsTo.put {W W3 : World} {g n ix lo : Nat} {t : Nat → TR} {T : TR} (h : RowsTo W g n ix t) (q : ix < n) (hl : g + 1 ≤ T.lo) (hlo : ∀ j, j < ix → (t j).hi ≤ T.lo) (hhi : T.hi ≤ W3.heap.size)
    (hc : ∀ j, j < 5 → W3.cell? ⟨g, ix * 5 + j, none⟩ = T.cells[j]?) (ho : ∀ o, o < ix * 5 ∨ ix * 5 + 5 ≤ o → W3.cell? ⟨g, o, none⟩ = W.cell? ⟨g, o, none⟩) (hf : ∀ o, W3.frozen? ⟨g, o, none⟩ = false) (hs : W.heap.size ≤ W3.heap.size)
    (hb : ∀ k, k ≠ g → k < W.heap.size → W3.heap[k]? = W.heap[k]?) (hT : T.ints W3) : RowsTo W3 g n (ix + 1) (fun j => if j = ix then T else t j) := by
  refine ⟨Nat.lt_of_lt_of_le h.blk hs, fun o ho9 => ?_, hf, fun i j hi hj => ?_, fun j hj => ?_, fun j hj => ?_, fun j hj => ?_, fun i j hij hj => ?_⟩
  · by_cases e : o < ix * 5 ∨ ix * 5 + 5 ≤ o
    · rw [ho o e]; exact h.ex o ho9
    · obtain ⟨j, hj, rfl⟩ : ∃ j, j < 5 ∧ o = ix * 5 + j := ⟨o - ix * 5, by omega, by omega⟩
      rw [hc j hj]
      obtain rfl | rfl | rfl | rfl | rfl : j = 0 ∨ j = 1 ∨ j = 2 ∨ j = 3 ∨ j = 4 := by omega
      all_goals exact ⟨_, rfl⟩
  · by_cases e : i = ix
    · subst e; simpa using hc j hj
    · simp only [e, if_false]; rw [ho _ (by omega)]; exact h.cel i j (by omega) hj
  · by_cases e : j = ix
    · subst e; simpa using hT
    · simp only [e, if_false]
      refine IntsAt.keep (h.inn j (by omega)) fun k k1 k2 => hb k ?_ ?_
      · have := h.low j (by omega); omega
      · have := h.top j (by omega); omega
  · by_cases e : j = ix
    · subst e; simpa using hl
    · simp only [e, if_false]; exact h.low j (by omega)
  · by_cases e : j = ix
    · subst e; simpa using hhi
    · simp only [e, if_false]; have := h.top j (by omega); omega
  · have e2 : i ≠ ix := by omega
    simp only [e2, if_false]
    by_cases e : j = ix
    · subst e; simpa using hlo i hij
    · simp only [e, if_false]; exact h.ord i j hij (by omega)
set_option maxRecDepth 100000 in
set_option maxHeartbeats 4000000 in
theorem toRowS_a (v : Value) (n : Nat) (E : Nat → RowA) (w : World) (h : ArgW w v n E) (hn : n ≤ 2000000) (hE : ∀ i, i < n → (E i).n ≤ 2000000) :
    Calls Tryz.prog 18 #[v] w fun e w' => ∃ t, e = .returned (.slice (some ⟨w.heap.size, 0, none⟩) n n) ∧ RowsAt w' w.heap.size w'.heap.size (some ⟨w.heap.size, 0, none⟩) n t ∧ (∀ i, i < n → (t i).r = (E i).r ∧ (t i).zs = zlist (E i)) ∧ Below w.heap.size w w' := by
  have hmk := make_rows n hn
  have HA := hide h
  obtain ⟨a, c, rfl⟩ := h.len
  clear h
  have hmd := made_rows w n
  have h0 : RowsTo (w.alloc (.cells (madeCells #[.int .i64 0, .int .i64 0, .slice none 0 0, .int .i64 0, .int .i64 0] (n * 5)) 24)) w.heap.size n 0 (fun _ => tr0) :=
    ⟨by simp, fun o ho => ⟨_, hmd.cell ho⟩, fun o => hmd.frozen o, fun i j hi => absurd hi (by omega), fun j hj => absurd hj (by omega), fun j hj => absurd hj (by omega), fun j hj => absurd hj (by omega), fun i j _ hj => absurd hj (by omega)⟩
  clear hmd
  go_enter Tryz.func18, Tryz.ntmps18
  go_wp2
  clear hmk
  go_loopw [4] (fun is wr => ∃ (ix : Nat) (t : Nat → TR), ix ≤ n ∧ is = .int .i64 (ix : Int) ∧ RowsTo wr w.heap.size n ix t ∧ Hid (∀ i, i < ix → (t i).r = (E i).r ∧ (t i).zs = zlist (E i)) ∧ Below w.heap.size w wr) (fun is _ => n - (intOf is).toNat)
  case atStart => exact ⟨0, _, by omega, rfl, h0, hide fun i hi => absurd hi (by omega), byGG⟩
  case round =>
    clear h0
    obtain ⟨ix, t, hi, rfl, hr, hall, hb⟩ := hrel
    obtain ⟨wl, rfl⟩ : ∃ wl : World, wl = wr := ⟨_, rfl⟩
    have hz := hb.size
    by_cases q : ix < n
    · have hci : (ix : Int) < (n : Int) := by omega
      obtain ⟨b, off, hv, hcs⟩ := ((unhide HA).below hb).cells (by omega)
      obtain ⟨⟨c0, c1, c2, c3, c4⟩, ha⟩ := hcs ix q
      have hE9 := hE ix q
      subst hv
      clear hcs
      have HL := hide (zlist_len (E ix))
      have HZ : Hid (∀ i, i < (E ix).n → (E ix).z i = (zlist (E ix)).getD i 0) := hide fun i hi => (zlist_at (E ix) hi).symm
      have HC : Hid (∀ W, Below wl.heap.size wl W → Calls Tryz.prog 34 #[rwv (E ix).r (E ix).v] W fun e w' => ∃ v', e = .returned v' ∧ RowQ W.heap.size (E ix).r (E ix).n (E ix).z w' v' ∧ Below W.heap.size W w') := hide fun W hbW => toRow_b (E ix).r (E ix).v (E ix).n (E ix).z W (ha.below hbW) hE9
      clear ha
      obtain ⟨zl, hzl⟩ : ∃ zl, zlist (E ix) = zl := ⟨_, rfl⟩
      rw [hzl] at HL HZ
      have HZL := hide hzl
      clear hzl
      obtain ⟨r, hr9⟩ : ∃ r, (E ix).r = r := ⟨_, rfl⟩
      rw [hr9] at c0 c1 c3 c4 HC
      have HR9 := hide hr9
      clear hr9
      generalize (E ix).n = n9 at *
      generalize (E ix).z = z9 at *
      generalize (E ix).v = v9 at *
      have HR := hide hr
      have hgw := hr.blk
      clear hr
      go_wp2_with fail
      refine ((unhide HC) _ byGG).mono ?_
      rintro e w3 ⟨v3, rfl, ⟨g3, g30, rfl, hri, g31⟩, hb3⟩
      have hs3 := hb3.size
      have R3 := (unhide HR).below hb3
      obtain ⟨u0, x0⟩ := R3.ex (ix * 5) (by omega)
      obtain ⟨u1, x1⟩ := R3.ex (ix * 5 + 1) (by omega)
      obtain ⟨u2, x2⟩ := R3.ex (ix * 5 + 2) (by omega)
      obtain ⟨u3, x3⟩ := R3.ex (ix * 5 + 3) (by omega)
      obtain ⟨u4, x4⟩ := R3.ex (ix * 5 + 4) (by omega)
      have f0 := R3.fz (ix * 5)
      have f1 := R3.fz (ix * 5 + 1)
      have f2 := R3.fz (ix * 5 + 2)
      have f3 := R3.fz (ix * 5 + 3)
      have f4 := R3.fz (ix * 5 + 4)
      have RR := hide R3
      have RI := hide hri
      clear R3 hri c0 c1 c2 c3 c4
      go_wp2
      go_roundw
      case rel =>
        have k0 : (((((w3.setCell ⟨w.heap.size, ix * 5, none⟩ (.int .i64 r.d)).setCell ⟨w.heap.size, ix * 5 + 1, none⟩ (.int .i64 r.num)).setCell ⟨w.heap.size, ix * 5 + 2, none⟩ (.slice (some ⟨g3, 0, none⟩) n9 n9)).setCell ⟨w.heap.size, ix * 5 + 3, none⟩ (.int .i64 r.ge)).setCell ⟨w.heap.size, ix * 5 + 4, none⟩ (.int .i64 r.ex)).cell? ⟨w.heap.size, ix * 5, none⟩ = some (.int .i64 r.d) := byCT
        have k1 : (((((w3.setCell ⟨w.heap.size, ix * 5, none⟩ (.int .i64 r.d)).setCell ⟨w.heap.size, ix * 5 + 1, none⟩ (.int .i64 r.num)).setCell ⟨w.heap.size, ix * 5 + 2, none⟩ (.slice (some ⟨g3, 0, none⟩) n9 n9)).setCell ⟨w.heap.size, ix * 5 + 3, none⟩ (.int .i64 r.ge)).setCell ⟨w.heap.size, ix * 5 + 4, none⟩ (.int .i64 r.ex)).cell? ⟨w.heap.size, ix * 5 + 1, none⟩ = some (.int .i64 r.num) := byCT
        have k2 : (((((w3.setCell ⟨w.heap.size, ix * 5, none⟩ (.int .i64 r.d)).setCell ⟨w.heap.size, ix * 5 + 1, none⟩ (.int .i64 r.num)).setCell ⟨w.heap.size, ix * 5 + 2, none⟩ (.slice (some ⟨g3, 0, none⟩) n9 n9)).setCell ⟨w.heap.size, ix * 5 + 3, none⟩ (.int .i64 r.ge)).setCell ⟨w.heap.size, ix * 5 + 4, none⟩ (.int .i64 r.ex)).cell? ⟨w.heap.size, ix * 5 + 2, none⟩ = some (.slice (some ⟨g3, 0, none⟩) n9 n9) := byCT
        have k3 : (((((w3.setCell ⟨w.heap.size, ix * 5, none⟩ (.int .i64 r.d)).setCell ⟨w.heap.size, ix * 5 + 1, none⟩ (.int .i64 r.num)).setCell ⟨w.heap.size, ix * 5 + 2, none⟩ (.slice (some ⟨g3, 0, none⟩) n9 n9)).setCell ⟨w.heap.size, ix * 5 + 3, none⟩ (.int .i64 r.ge)).setCell ⟨w.heap.size, ix * 5 + 4, none⟩ (.int .i64 r.ex)).cell? ⟨w.heap.size, ix * 5 + 3, none⟩ = some (.int .i64 r.ge) := byCT
        have k4 : (((((w3.setCell ⟨w.heap.size, ix * 5, none⟩ (.int .i64 r.d)).setCell ⟨w.heap.size, ix * 5 + 1, none⟩ (.int .i64 r.num)).setCell ⟨w.heap.size, ix * 5 + 2, none⟩ (.slice (some ⟨g3, 0, none⟩) n9 n9)).setCell ⟨w.heap.size, ix * 5 + 3, none⟩ (.int .i64 r.ge)).setCell ⟨w.heap.size, ix * 5 + 4, none⟩ (.int .i64 r.ex)).cell? ⟨w.heap.size, ix * 5 + 4, none⟩ = some (.int .i64 r.ex) := byCT
        have eL := unhide HL
        have eR := unhide HR9
        have eZ := unhide HZL
        have hg3 : g3 ≠ w.heap.size := by omega
        have sz : (((((w3.setCell ⟨w.heap.size, ix * 5, none⟩ (.int .i64 r.d)).setCell ⟨w.heap.size, ix * 5 + 1, none⟩ (.int .i64 r.num)).setCell ⟨w.heap.size, ix * 5 + 2, none⟩ (.slice (some ⟨g3, 0, none⟩) n9 n9)).setCell ⟨w.heap.size, ix * 5 + 3, none⟩ (.int .i64 r.ge)).setCell ⟨w.heap.size, ix * 5 + 4, none⟩ (.int .i64 r.ex)).heap.size = w3.heap.size := by simp [World.setCell]
        refine ⟨ix + 1, _, by omega, by first | rfl | go_num, RowsTo.put (lo := 0) (T := ⟨r, some ⟨g3, 0, none⟩, n9, wl.heap.size, w3.heap.size, zl⟩) (unhide RR) q ?_ ?_ (Nat.le_of_eq sz.symm) (five ?_ ?_ ?_ ?_ ?_) (fun o ho => ?_) (fun o => ?_) (Nat.le_of_eq sz.symm) (fun k hne hk => ?_) ?_, hide fun i hi => ?_, ?_⟩
        · simp only; omega
        · intro j hj; exact (unhide HR).top j hj
        · simpa [TR.cells, eL] using k0
        · simpa [TR.cells, eL] using k1
        · simpa [TR.cells, eL] using k2
        · simpa [TR.cells, eL] using k3
        · simpa [TR.cells, eL] using k4
        · exact (World.cell?_setCell_other _ _ _ _ (ne_off (by omega))).trans ((World.cell?_setCell_other _ _ _ _ (ne_off (by omega))).trans ((World.cell?_setCell_other _ _ _ _ (ne_off (by omega))).trans ((World.cell?_setCell_other _ _ _ _ (ne_off (by omega))).trans (World.cell?_setCell_other _ _ _ _ (ne_off (by omega))))))
        · exact frz_set _ (frz_set _ (frz_set _ (frz_set _ (frz_set _ ((unhide RR).fz o)))))
        · exact (Below.heap_setCell _ _ _ _ hne).trans ((Below.heap_setCell _ _ _ _ hne).trans ((Below.heap_setCell _ _ _ _ hne).trans ((Below.heap_setCell _ _ _ _ hne).trans (Below.heap_setCell _ _ _ _ hne))))
        · have q9 : IntsAt w3 wl.heap.size w3.heap.size (some ⟨g3, 0, none⟩) n9 z9 := RowI.at (unhide RI) g30
          unfold TR.ints
          simp only
          rw [eL]
          refine IntsAt.congr (IntsAt.keep q9 fun k k1 k2 => ?_) (unhide HZ)
          have hne : k ≠ w.heap.size := by omega
          exact (Below.heap_setCell _ _ _ _ hne).trans ((Below.heap_setCell _ _ _ _ hne).trans ((Below.heap_setCell _ _ _ _ hne).trans ((Below.heap_setCell _ _ _ _ hne).trans (Below.heap_setCell _ _ _ _ hne))))
        · by_cases e : i = ix
          · subst e; simp [eR, eZ]
          · simp only [e, if_false]; exact unhide hall i (by omega)
        · have hfin : Below w.heap.size w3 (((((w3.setCell ⟨w.heap.size, ix * 5, none⟩ (.int .i64 r.d)).setCell ⟨w.heap.size, ix * 5 + 1, none⟩ (.int .i64 r.num)).setCell ⟨w.heap.size, ix * 5 + 2, none⟩ (.slice (some ⟨g3, 0, none⟩) n9 n9)).setCell ⟨w.heap.size, ix * 5 + 3, none⟩ (.int .i64 r.ge)).setCell ⟨w.heap.size, ix * 5 + 4, none⟩ (.int .i64 r.ex)) := by (repeat' first | with_reducible (first | exact Below.refl _ _ | refine Below.setCell ?_ ?_ _) | exact Nat.le_refl _)
          exact (hb.trans (hb3.mono hz)).trans hfin
      case measure => simp [intOf]; omega
    · obtain rfl : n = ix := by omega
      go_wp2
      go_ret
      exact ⟨t, rfl, hr.rows, unhide hall, hb⟩
end Go.Proofs.YtaeabefbohlcpaaGreat
namespace Go.Proofs.YtaeabefbohlcpaaGreat
open Go.RowKit
set_option linter.unusedVariables false
set_option linter.unusedSimpArgs false
attribute [local go_sem] q2 q3 q4 q5 q6 q7 q8 q9 q10 q11 q12

def wrT (E : Nat → RowA) : Nat → TR := fun i => ⟨(E i).r, none, 0, 0, 0, zlist (E i)⟩
def wrOkE (n : Nat) (E : Nat → RowA) : Bool := decide (n ≤ 40) && (List.range n).all (wrG (wrT E))
noncomputable def wrLE (n : Nat) (E : Nat → RowA) : List Int := if wrOkE n E then wrL (wrT E) n else []
theorem flN_congr {α : Type} {p p' : Nat → Bool} {e : Nat → α} : ∀ {k : Nat}, (∀ i, i < k → p i = p' i) → flN p e k = flN p' e k
 | 0, _ => rfl
 | k + 1, h => by
  rw [flN, flN, h k (by omega), flN_congr (fun i hi => h i (by omega))]
theorem wrL_congr {t t' : Nat → TR} {n : Nat} (h : ∀ i, i < n → wrS t i = wrS t' i) : wrL t n = wrL t' n := flN_congr (fun i hi => by rw [h i hi])
theorem wrLE_len (n : Nat) (E : Nat → RowA) : (wrLE n E).length ≤ 1000000000 := by
 unfold wrLE
 split
 ·rename_i h
  unfold wrOkE at h
  simp only [Bool.and_eq_true, decide_eq_true_eq] at h
  have := flN_len (fun i => !wrS (wrT E) i) (fun i => (i : Int)) n
  unfold wrL; omega
 ·simp
theorem implWr_a (E : Nat → RowA) (n : Nat) (hn : n ≤ 2000000) (hE : ∀ i, i < n → RowOk (E i).r ∧ (E i).n ≤ 2000000) (a : Option Addr) (c lo hi : Nat) (t : Nat → TR) (w : World) (h : RowsAt w lo hi a n t) (h9 : hi ≤ w.heap.size) (ht : ∀ i, i < n → (t i).r = (E i).r ∧ (t i).zs = zlist (E i)) :
  Calls Tryz.prog 19 #[.slice a n c] w (RetInts w (wrLE n E).length (fun i => (wrLE n E).getD i 0) (wrOkE n E)) := by
 have hg : ∀ i, i < n → wrG t i = wrG (wrT E) i := fun i hi => by unfold wrG; rw [(ht i hi).1, (ht i hi).2]; rfl
 have hs : ∀ i, i < n → wrS t i = wrS (wrT E) i := fun i hi => by unfold wrS; rw [(ht i hi).1, (ht i hi).2]; rfl
 have hO : ∀ i, i < n → RowOk (t i).r ∧ (t i).zs.length ≤ 2000000 := fun i hi => by rw [(ht i hi).1, (ht i hi).2, zlist_len]; exact hE i hi
 by_cases q : n ≤ 40
 ·by_cases q2 : ∀ i, i < n → wrG (wrT E) i = true
  ·have e1 : wrOkE n E = true := by unfold wrOkE; simp only [q, decide_true, Bool.true_and, List.all_eq_true, List.mem_range]; exact q2
   have e2 : wrLE n E = wrL t n := by unfold wrLE; rw [e1, if_pos rfl]; exact (wrL_congr hs).symm
   rw [e1, e2]
   exact implWr_2 a n c lo hi t w q h h9 hO (fun i hi => (hg i hi).trans (q2 i hi))
  ·have e1 : wrOkE n E = false := by
    cases hc : wrOkE n E
    ·rfl
    ·exfalso; apply q2; unfold wrOkE at hc; simp only [q, decide_true, Bool.true_and, List.all_eq_true, List.mem_range] at hc; exact hc
   have e2 : wrLE n E = [] := by unfold wrLE; rw [e1]; rfl
   rw [e1, e2]
   have q3 : ∃ i, i < n ∧ wrG t i = false := by
    apply Classical.byContradiction
    intro hne
    apply q2
    intro i hi
    rw [← hg i hi]
    cases hc : wrG t i
    ·exact absurd ⟨i, hi, hc⟩ hne
    ·rfl
   exact implWr_1 a n c lo hi t w q h h9 hO _ (hide q3)
 ·have e1 : wrOkE n E = false := by unfold wrOkE; simp only [q, decide_false, Bool.false_and]
  have e2 : wrLE n E = [] := by unfold wrLE; rw [e1]; rfl
  rw [e1, e2]
  exact implWr_0 a n c w (by omega) hn _
theorem specWr_a (E : Nat → RowA) (n : Nat) (hn : n ≤ 2000000) (hE : ∀ i, i < n → RowOk (E i).r ∧ (E i).n ≤ 2000000) (a : Option Addr) (c lo hi : Nat) (t : Nat → TR) (w : World) (h : RowsAt w lo hi a n t) (h9 : hi ≤ w.heap.size) (ht : ∀ i, i < n → (t i).r = (E i).r ∧ (t i).zs = zlist (E i)) :
  Calls Tryz.prog 17 #[.slice a n c] w (RetInts w (wrLE n E).length (fun i => (wrLE n E).getD i 0) (wrOkE n E)) := by
 have hg : ∀ i, i < n → wrG t i = wrG (wrT E) i := fun i hi => by unfold wrG; rw [(ht i hi).1, (ht i hi).2]; rfl
 have hs : ∀ i, i < n → wrS t i = wrS (wrT E) i := fun i hi => by unfold wrS; rw [(ht i hi).1, (ht i hi).2]; rfl
 have hO : ∀ i, i < n → RowOk (t i).r ∧ (t i).zs.length ≤ 2000000 := fun i hi => by rw [(ht i hi).1, (ht i hi).2, zlist_len]; exact hE i hi
 by_cases q : n ≤ 40
 ·by_cases q2 : ∀ i, i < n → wrG (wrT E) i = true
  ·have e1 : wrOkE n E = true := by unfold wrOkE; simp only [q, decide_true, Bool.true_and, List.all_eq_true, List.mem_range]; exact q2
   have e2 : wrLE n E = wrL t n := by unfold wrLE; rw [e1, if_pos rfl]; exact (wrL_congr hs).symm
   rw [e1, e2]
   exact specWr_2 a n c lo hi t w q h h9 hO (fun i hi => (hg i hi).trans (q2 i hi))
  ·have e1 : wrOkE n E = false := by
    cases hc : wrOkE n E
    ·rfl
    ·exfalso; apply q2; unfold wrOkE at hc; simp only [q, decide_true, Bool.true_and, List.all_eq_true, List.mem_range] at hc; exact hc
   have e2 : wrLE n E = [] := by unfold wrLE; rw [e1]; rfl
   rw [e1, e2]
   have q3 : ∃ i, i < n ∧ wrG t i = false := by
    apply Classical.byContradiction
    intro hne
    apply q2
    intro i hi
    rw [← hg i hi]
    cases hc : wrG t i
    ·exact absurd ⟨i, hi, hc⟩ hne
    ·rfl
   exact specWr_1 a n c lo hi t w q h h9 hO _ (hide q3)
 ·have e1 : wrOkE n E = false := by unfold wrOkE; simp only [q, decide_false, Bool.false_and]
  have e2 : wrLE n E = [] := by unfold wrLE; rw [e1]; rfl
  rw [e1, e2]
  exact specWr_0 a n c w (by omega) hn _
end Go.Proofs.YtaeabefbohlcpaaGreat
namespace Go.Proofs.YtaeabefbohlcpaaGreat
open Go.RowKit
set_option linter.unusedVariables false
set_option linter.unusedSimpArgs false
attribute [local go_sem] q2 q3 q4 q5 q6 q7 q8 q9 q10 q11 q12

set_option maxHeartbeats 4000000 in
theorem lawWr_y (E : Nat → RowA) (n : Nat) (v : Value) (w : World) (M : Nat) (f : Nat → Int) (ok : Bool) (hM : M ≤ 1000000000) (h : ArgW w v n E) (hn : n ≤ 9223372036854775807) (hE : ∀ i, i < n → (E i).n ≤ 9223372036854775807)
  (HI : n ≤ 2000000 → (∀ i, i < n → (E i).n ≤ 2000000) → ∀ a c lo hi t W, RowsAt W lo hi a n t → hi ≤ W.heap.size → (∀ i, i < n → (t i).r = (E i).r ∧ (t i).zs = zlist (E i)) → Calls Tryz.prog 19 #[.slice a n c] W (RetInts W M f ok))
  (HS : n ≤ 2000000 → (∀ i, i < n → (E i).n ≤ 2000000) → ∀ a c lo hi t W, RowsAt W lo hi a n t → hi ≤ W.heap.size → (∀ i, i < n → (t i).r = (E i).r ∧ (t i).zs = zlist (E i)) → Calls Tryz.prog 17 #[.slice a n c] W (RetInts W M f ok)) :
  Calls Tryz.prog 5 #[v] w fun e w' => e = .returned (.bool true) ∧ Below w.heap.size w w' := by
 obtain ⟨va, vc, rfl⟩ := h.len
 have HA := hide h
 clear h
 go_enter Tryz.func5, Tryz.ntmps5
 go_wp2_with fail
 refine (szRowS_a (.slice va n vc) n E _ (unhide HA) hn hE).mono ?_
 rintro e w1 ⟨x, rfl, hx, b1⟩
 have s1 := b1.size
 rcases hx with hq | ⟨hq, hsum⟩
 ·go_wp2
  go_ret
  exact ⟨rfl, b1⟩
 ·have hn2 : n ≤ 2000000 := by omega
  have hE2 : ∀ i, i < n → (E i).n ≤ 2000000 := fun i hi => by have := sumW_at E hi; omega
  have HT : Hid (∀ W, Below w.heap.size w W → Calls Tryz.prog 18 #[.slice va n vc] W fun e w' => ∃ t, e = .returned (.slice (some ⟨W.heap.size, 0, none⟩) n n) ∧ RowsAt w' W.heap.size w'.heap.size (some ⟨W.heap.size, 0, none⟩) n t ∧ (∀ i, i < n → (t i).r = (E i).r ∧ (t i).zs = zlist (E i)) ∧ Below W.heap.size W w') := hide fun W hb => toRowS_a _ n E W (((unhide HA)).below hb) hn2 hE2
  have HI := hide (HI hn2 hE2)
  have HS := hide (HS hn2 hE2)
  have hq' : ¬ x < 0 := by omega
  clear HA
  go_wp2_with fail
  refine ((unhide HT) _ b1).mono ?_
  rintro e w2 ⟨t2, rfl, r2, e2, b2⟩
  have s2 := b2.size
  have g2 : Below w.heap.size w w2 := b1.trans (b2.mono s1)
  go_wp2_with fail
  refine ((unhide HS) _ _ _ _ _ w2 r2 (Nat.le_refl _) e2).mono ?_
  rintro e w3 ⟨a3, c3, rfl, i3, b3⟩
  have s3 := b3.size
  have g3 : Below w.heap.size w w3 := g2.trans (b3.mono g2.size)
  clear r2
  go_wp2_with fail
  refine ((unhide HT) _ g3).mono ?_
  rintro e w4 ⟨t4, rfl, r4, e4, b4⟩
  have s4 := b4.size
  have g4 : Below w.heap.size w w4 := g3.trans (b4.mono g3.size)
  have j4 := i3.below b4 (Nat.le_refl _)
  go_wp2_with fail
  refine ((unhide HI) _ _ _ _ _ w4 r4 (Nat.le_refl _) e4).mono ?_
  rintro e w5 ⟨a5, c5, rfl, i5, b5⟩
  have s5 := b5.size
  have g5 : Below w.heap.size w w5 := g4.trans (b5.mono g4.size)
  have j5 := j4.below b5 s4
  have r5 := r4.below b5 (Nat.le_refl _) (Nat.le_refl _)
  clear i3 j4 r4
  go_wp2_with fail
  refine (eqIntS_any a5 a3 _ _ _ _ M c5 c3 f w5 hM i5 j5).mono ?_
  rintro e w6 ⟨rfl, k6, rfl⟩
  have d6 : Below w5.heap.size w5 (w5.drewN k6) := below_drewN (Below.refl _ _) k6
  have g6 : Below w.heap.size w (w5.drewN k6) := g5.trans (d6.mono g5.size)
  have I5 := hide (i5.below d6 (Nat.le_refl _))
  have J5 := hide (j5.below d6 (by omega))
  have R5 := hide (r5.below d6 s5 (Nat.le_refl _))
  clear i5 j5 r5
  obtain ⟨w6, h6⟩ : ∃ w6, w5.drewN k6 = w6 := ⟨_, rfl⟩
  have s6 : w6.heap.size = w5.heap.size := by rw [← h6]; rfl
  rw [h6] at d6 g6 I5 J5 R5
  rw [h6]
  clear h6
  have hz4 : ∀ i, i < n → (t4 i).zs.length ≤ 2000000 := fun i hi => by rw [(e4 i hi).2, zlist_len]; exact hE2 i hi
  have HK4 : ∀ i, i ≤ n → 1 ≤ mkK t4 i ∧ mkK t4 i ≤ 10000000 := fun i hi => by
   have q1 := mkK_sum (E := E) (t := t4) (fun j hj => by rw [(e4 j hj).2, zlist_len]) i hi
   have q2 := sumW_le E hi
   omega
  have s6' : w5.heap.size ≤ w6.heap.size := by omega
  clear s6
  go_wp2_with fail
  refine ((unhide HT) _ g6).mono ?_
  rintro e w7 ⟨t7, rfl, r7, e7, b7⟩
  have s7 := b7.size
  have g7 : Below w.heap.size w w7 := g6.trans (b7.mono g6.size)
  have R7 := (unhide R5).below b7 (by omega) (Nat.le_refl _)
  go_wp2_with fail
  refine (eqRowS_any _ _ n _ _ _ _ _ _ t4 t7 w7 hn2 R7 r7 (by omega) (Nat.le_refl _) (fun i hi => ⟨(e4 i hi).1.trans (e7 i hi).1.symm, (e4 i hi).2.trans (e7 i hi).2.symm, hz4 i hi⟩)).mono ?_
  rintro e w8 ⟨rfl, b8⟩
  have s8 := b8.size
  have g8 : Below w.heap.size w w8 := g7.trans (b8.mono g7.size)
  have R8 := R7.below b8 (by omega) (Nat.le_refl _)
  have I8 := ((unhide I5).below b7 (by omega)).below b8 (by omega)
  have J8 := ((unhide J5).below b7 (by omega)).below b8 (by omega)
  clear R7 r7 I5 J5 R5
  go_wp2_with fail
  refine (markRowS_any _ n _ _ _ t4 w8 hn2 R8 (by omega) (by omega) hz4 HK4).mono ?_
  rintro e w9 ⟨rfl, r9, h9, s9, b9⟩
  have g9 : Below w.heap.size w w9 := g8.trans (b9.mono (by omega))
  have I9 := I8.keep (w' := w9) (fun k k1 k2 => h9 k (.inr (by omega)) (by omega))
  have J9 := J8.keep (w' := w9) (fun k k1 k2 => h9 k (.inl (by omega)) (by omega))
  have s9' : w8.heap.size ≤ w9.heap.size := by omega
  have hkk := (HK4 n (Nat.le_refl _)).1
  clear s9 h9 I8 J8 R8 r9 HK4
  generalize mkK t4 n = kk at *
  have hk0 : ¬ kk < 0 := by omega
  go_wp2_with fail
  refine (eqIntS_any a5 a3 _ _ _ _ M c5 c3 f w9 hM I9 J9).mono ?_
  rintro e w10 ⟨rfl, k10, rfl⟩
  have d10 : Below w9.heap.size w9 (w9.drewN k10) := below_drewN (Below.refl _ _) k10
  have g10 : Below w.heap.size w (w9.drewN k10) := g9.trans (d10.mono g9.size)
  have I10 := I9.below d10 (by omega)
  have J10 := J9.below d10 (by omega)
  have s10 : w9.heap.size ≤ (w9.drewN k10).heap.size := Nat.le_refl _
  clear I9 J9
  obtain ⟨w10, h10⟩ : ∃ w10, w9.drewN k10 = w10 := ⟨_, rfl⟩
  rw [h10] at d10 g10 I10 J10 s10
  rw [h10]
  clear h10
  go_wp2_with fail
  refine (markIntS_any a5 w4.heap.size w5.heap.size M c5 1 f w10 hM (by omega) I10).mono ?_
  rintro e w11 ⟨rfl, i11, h11, s11, b11⟩
  have g11 : Below w.heap.size w w11 := g10.trans (b11.mono (by omega))
  have J11 := J10.keep (w' := w11) (fun k k1 k2 => h11 k (by omega))
  have s11' : w10.heap.size ≤ w11.heap.size := by omega
  clear s11 h11 J10 I10
  go_wp2_with fail
  refine (heldIntS_any a5 w4.heap.size w5.heap.size M c5 1 w11 hM (by omega) i11).mono ?_
  rintro e w11' ⟨rfl, rfl⟩
  go_wp2_with fail
  refine ((unhide HT) _ g11).mono ?_
  rintro e w12 ⟨t12, rfl, r12, e12, b12⟩
  have s12 := b12.size
  have g12 : Below w.heap.size w w12 := g11.trans (b12.mono g11.size)
  go_wp2_with fail
  refine ((unhide HI) _ _ _ _ _ w12 r12 (Nat.le_refl _) e12).mono ?_
  rintro e w13 ⟨a13, c13, rfl, i13, b13⟩
  have s13 := b13.size
  have g13 : Below w.heap.size w w13 := g12.trans (b13.mono g12.size)
  have I13 := (i11.below b12 (by omega)).below b13 (by omega)
  have J13 := (J11.below b12 (by omega)).below b13 (by omega)
  clear i11 J11 r12
  go_wp2_with fail
  refine (eqIntS_any a13 a3 _ _ _ _ M c13 c3 f w13 hM i13 J13).mono ?_
  rintro e w14 ⟨rfl, k14, rfl⟩
  have d14 : Below w13.heap.size w13 (w13.drewN k14) := below_drewN (Below.refl _ _) k14
  have I14 := I13.below d14 (by omega)
  clear I13 J13 i13
  go_wp2_with fail
  refine (heldIntS_any a5 w4.heap.size w5.heap.size M c5 1 (w13.drewN k14) hM (by omega) I14).mono ?_
  rintro e w15 ⟨rfl, rfl⟩
  go_wp2
  go_ret
  exact ⟨rfl, below_drewN g13 k14⟩
theorem lawWrongRows (v : Value) (n : Nat) (E : Nat → RowA) (w : World) (h : ArgW w v n E) (hO : ∀ i, i < n → RowOk (E i).r ∧ (E i).n ≤ 9223372036854775807) (hn : n ≤ 9223372036854775807) :
  Calls Tryz.prog 5 #[v] w fun e w' => e = .returned (.bool true) ∧ Below w.heap.size w w' :=
 lawWr_y E n v w _ _ _ (wrLE_len n E) h hn (fun i hi => (hO i hi).2)
  (fun h1 h2 a c lo hi t W hr h9 ht => implWr_a E n h1 (fun i hi => ⟨(hO i hi).1, h2 i hi⟩) a c lo hi t W hr h9 ht)
  (fun h1 h2 a c lo hi t W hr h9 ht => specWr_a E n h1 (fun i hi => ⟨(hO i hi).1, h2 i hi⟩) a c lo hi t W hr h9 ht)
end Go.Proofs.YtaeabefbohlcpaaGreat
namespace Go.Proofs.YtaeabefbohlcpaaGreat
open Go.RowKit Go.WideShapes Go.ChangeShapes Go.Deep Go.Joins
set_option linter.unusedVariables false
set_option linter.unusedSimpArgs false

theorem Tryz.cellsLRr : Tryz.prog.cellsOf 47 = 5 := by kernel_rfl
theorem Tryz.cellsIr : Tryz.prog.cellsOf 3 = 1 := by kernel_rfl
theorem Tryz.cellsSr : Tryz.prog.cellsOf 22 = 1 := by kernel_rfl
theorem addr_addI {b off k : Nat} : (⟨b, off, none⟩ : Addr).add k = ⟨b, off + k, none⟩ := by unfold Addr.add; split <;> simp_all
theorem cell_spotI {w : World} {a : Addr} {v : Value} (h : w.cell? a = some v) : a.spot = none := by
 unfold World.cell? at h
 split at h
 ·split at h
  ·cases h
  ·rename_i hs; cases hx : a.spot with
   | none => rfl
   | some _ => rw [hx] at hs; simp at hs
 ·cases h
section
variable {H : Type} {enc : TypeId × Value → H} {w : World} {base : Nat} {spare : Nat → Bool} {held : Bool}
theorem open_intsA {fuel : Nat} {cs : List Value} {x : DataW H × List MemPlace} (h : DataW.trod enc Tryz.prog w base spare held fuel 22 cs = some x) :
  ∃ (v : Value) (n : Nat) (z : Nat → Int), cs = [v] ∧ ArgI w v n z ∧ n ≤ maxLen := by
 rcases open_slice Tryz.underlying22 h with ⟨hcs, _⟩ | ⟨a, len, cap, m, n, D, Pl, hcs, hb, hl, hm, hmm, hx, hi⟩
 ·exact ⟨_, 0, fun _ => 0, hcs, .inl ⟨rfl, none, 0, rfl⟩, Nat.zero_le _⟩
 ·have hlm : len ≤ m := by rw [hmm]; split <;> omega
  have one : ∀ i, ∃ x : Int, i < len → w.cell? (a.add i) = some (.int .i64 x) := by
   intro i
   by_cases q : i < len
   ·obtain ⟨cs', hc, ht⟩ := hi i (by omega)
    rw [Tryz.cellsIr, Nat.mul_one] at hc
    obtain ⟨_, _, hat⟩ := World.cells?_some hc
    obtain ⟨x, rfl, _, _⟩ := DataW.trod_int Tryz.underlying3 ht
    have a0 := hat 0 (by omega)
    rw [Go.Deep.add_add] at a0
    exact ⟨x, fun _ => a0⟩
   ·exact ⟨0, fun h => absurd h q⟩
  obtain ⟨z, hz⟩ : ∃ z : Nat → Int, ∀ i, i < len → w.cell? (a.add i) = some (.int .i64 (z i)) := ⟨fun i => (one i).choose, fun i => (one i).choose_spec⟩
  refine ⟨_, len, z, hcs, ?_, Nat.le_trans hl hm⟩
  by_cases q : len = 0
  ·exact .inl ⟨q, some a, cap, by rw [q]⟩
  ·have h0 := hz 0 (by omega)
   have hs : a.spot = none := cell_spotI (a := a) (by simpa [Addr.add] using h0)
   obtain ⟨b, off, sp⟩ := a
   have hs2 : sp = none := hs
   subst hs2
   exact .inr ⟨b, off, cap, rfl, World.block_lt_of_cell? _ _ h0, fun i hi => by have := hz i hi; rwa [addr_addI] at this⟩
end
end Go.Proofs.YtaeabefbohlcpaaGreat
namespace Go.Proofs.YtaeabefbohlcpaaGreat
open Go.RowKit
set_option linter.unusedVariables false
set_option linter.unusedSimpArgs false

open Go.RowKit Go.WideShapes Go.ChangeShapes Go.Deep Go.Joins
section
variable {H : Type} {enc : TypeId × Value → H} {w : World} {base : Nat} {spare : Nat → Bool} {held : Bool}
set_option maxRecDepth 100000 in
theorem open_rowc {fuel : Nat} {l : List Value} {x : DataW H × List MemPlace} (hf : DataW.trod enc Tryz.prog w base spare held fuel 47 l = some x) :
  ∃ e : RowA, l = [.int .i64 e.r.d, .int .i64 e.r.num, e.v, .int .i64 e.r.ge, .int .i64 e.r.ex] ∧ RowOk e.r ∧ ArgI w e.v e.n e.z ∧ e.n ≤ 9223372036854775807 := by
 obtain ⟨ys, n, _, _, hlen, hyl, hg⟩ := DataW.trod_struct Tryz.underlying47 hf
 rw [Tryz.cellsLRr] at hlen
 match l, hlen with
 | [c0, c1, c2, c3, c4], _ =>
  match ys, hyl with
  | [y0, y1, y2, y3, y4], _ =>
   obtain ⟨n0, e0, _, w0⟩ := DataW.trod_int Tryz.underlying3 (by simpa [Tryz.cellsIr] using hg 0 _ rfl : DataW.trod enc Tryz.prog w base spare held n 3 [c0] = some y0)
   obtain ⟨n1, e1, _, w1⟩ := DataW.trod_int Tryz.underlying3 (by simpa [Tryz.cellsIr] using hg 1 _ rfl : DataW.trod enc Tryz.prog w base spare held n 3 [c1] = some y1)
   obtain ⟨u, k, z, e2, ha, hk⟩ := open_intsA (by simpa [Tryz.cellsSr] using hg 2 _ rfl : DataW.trod enc Tryz.prog w base spare held n 22 [c2] = some y2)
   obtain ⟨n3, e3, _, w3⟩ := DataW.trod_int Tryz.underlying3 (by simpa [Tryz.cellsIr] using hg 3 _ rfl : DataW.trod enc Tryz.prog w base spare held n 3 [c3] = some y3)
   obtain ⟨n4, e4, _, w4⟩ := DataW.trod_int Tryz.underlying3 (by simpa [Tryz.cellsIr] using hg 4 _ rfl : DataW.trod enc Tryz.prog w base spare held n 3 [c4] = some y4)
   unfold maxLen at hk
   cases e0; cases e1; cases e2; cases e3; cases e4
   exact ⟨⟨⟨n0, n1, n3, n4⟩, _, k, z⟩, rfl, ⟨i64_wf w0, i64_wf w1, i64_wf w3, i64_wf w4⟩, ha, hk⟩
theorem open_rowL {fuel : Nat} {cs : List Value} {x : DataW H × List MemPlace} (h : DataW.trod enc Tryz.prog w base spare held fuel 36 cs = some x) :
  ∃ (v : Value) (n : Nat) (E : Nat → RowA), cs = [v] ∧ ArgW w v n E ∧ (∀ i, i < n → RowOk (E i).r ∧ (E i).n ≤ 9223372036854775807) ∧ n ≤ 9223372036854775807 := by
 have z0 : RowA := ⟨⟨0, 0, 0, 0⟩, undef, 0, fun _ => 0⟩
 rcases open_slice Tryz.underlying36 h with ⟨hcs, _⟩ | ⟨a, len, cap, m, n, D, Pl, hcs, hb, hl, hm, hmm, hx, hi⟩
 ·exact ⟨_, 0, fun _ => z0, hcs, .inl ⟨rfl, none, 0, rfl⟩, fun i hi => absurd hi (by omega), by omega⟩
 ·have hlm : len ≤ m := by rw [hmm]; split <;> omega
  have one : ∀ i, ∃ e : RowA, i < len → (w.cell? (a.add (i * 5)) = some (.int .i64 e.r.d) ∧ w.cell? (a.add (i * 5 + 1)) = some (.int .i64 e.r.num) ∧ w.cell? (a.add (i * 5 + 2)) = some e.v ∧ w.cell? (a.add (i * 5 + 3)) = some (.int .i64 e.r.ge) ∧ w.cell? (a.add (i * 5 + 4)) = some (.int .i64 e.r.ex)) ∧ RowOk e.r ∧ ArgI w e.v e.n e.z ∧ e.n ≤ 9223372036854775807 := by
   intro i
   by_cases q : i < len
   ·obtain ⟨cs', hc, ht⟩ := hi i (by omega)
    rw [Tryz.cellsLRr] at hc
    obtain ⟨_, _, hat⟩ := World.cells?_some hc
    obtain ⟨e, rfl, he⟩ := open_rowc ht
    have a0 := hat 0 (by omega)
    have a1 := hat 1 (by omega)
    have a2 := hat 2 (by omega)
    have a3 := hat 3 (by omega)
    have a4 := hat 4 (by omega)
    rw [Go.Deep.add_add] at a0 a1 a2 a3 a4
    exact ⟨e, fun _ => ⟨⟨a0, a1, a2, a3, a4⟩, he⟩⟩
   ·exact ⟨z0, fun h => absurd h q⟩
  obtain ⟨E, hE⟩ : ∃ E : Nat → RowA, ∀ i, i < len → (w.cell? (a.add (i * 5)) = some (.int .i64 (E i).r.d) ∧ w.cell? (a.add (i * 5 + 1)) = some (.int .i64 (E i).r.num) ∧ w.cell? (a.add (i * 5 + 2)) = some (E i).v ∧ w.cell? (a.add (i * 5 + 3)) = some (.int .i64 (E i).r.ge) ∧ w.cell? (a.add (i * 5 + 4)) = some (.int .i64 (E i).r.ex)) ∧ RowOk (E i).r ∧ ArgI w (E i).v (E i).n (E i).z ∧ (E i).n ≤ 9223372036854775807 := ⟨fun i => (one i).choose, fun i => (one i).choose_spec⟩
  have hlc := Nat.le_trans hl hm
  unfold maxLen at hlc
  refine ⟨_, len, E, hcs, ?_, fun i hi => ⟨(hE i hi).2.1, (hE i hi).2.2.2⟩, hlc⟩
  by_cases q : len = 0
  ·exact .inl ⟨q, some a, cap, by rw [q]⟩
  ·have h0 := (hE 0 (by omega)).1.1
   have hs : a.spot = none := cell_spotI (a := a) (by simpa [Addr.add] using h0)
   obtain ⟨b, off, sp⟩ := a
   have hs2 : sp = none := hs
   subst hs2
   refine .inr ⟨b, off, cap, rfl, World.block_lt_of_cell? _ _ h0, fun i hi => ?_⟩
   obtain ⟨⟨h0, h1, h2, h3, h4⟩, _, h6, _⟩ := hE i hi
   rw [addr_addI] at h0 h1 h2 h3 h4
   exact ⟨⟨h0, h1, h2, h3, h4⟩, h6⟩
end
end Go.Proofs.YtaeabefbohlcpaaGreat
