/- A list of lists of forms, each in a block of its own. How many genera: genera. How many genera: chGenera. Slices of numbers that come in: szIntS, toIntS. -/
import Derived.Test.YtaeabefbohlcpaaMpf
import Derived.Deep.RegionLaw
import Derived.Test.YtaeabefbohlcpaaGrq
import Derived.BigQuiet
import Derived.Test.YtaeabefbohlcpaaOwn
import Derived.Test.YtaeabefbohlcpaaSd
import Derived.Deep.OwnRows
import Derived.Test.YtaeabefbohlcpaaInts
import Derived.Test.YtaeabefbohlcpaaNum
import Derived.Test.YtaeabefbohlcpaaRule
namespace Go.Proofs.Ytaeabefbohlcpaa
open Go.RowKit
set_option linter.unusedVariables false
set_option linter.unusedSimpArgs false
attribute [local go_sem] q2 q3 q4 q5 q6 q7 q8 q9 q10 q11 q12

abbrev GR := Nat × Nat × Nat × Int × Int × Int
def gr0 : GR := (0, 0, 0, 0, 0, 0)
def rsV (r : GR) : Value := .slice (some ⟨r.1, 0, none⟩) r.2.1 r.2.2.1
def GIn (w W : World) (HI K : Nat) (r : GR) : Prop := HI ≤ r.1 ∧ r.2.1 ≤ K ∧ ∃ l : List (Int × Int × Int), r.2.1 = l.length ∧ 0 < l.length ∧ l.getD 0 (0, 0, 0) = r.2.2.2 ∧ FL W w.heap.size (.slice (some ⟨r.1, 0, none⟩) r.2.1 r.2.2.1) l
structure GX (w : World) (HI K : Nat) (S : World → Prop) (wr : World) (a : Option Addr) (n9 c : Nat) (rs : List GR) : Prop where
 sd : SD 34 1 w w.heap.size HI S wr (.slice a n9 c) n9 (rs.map rsV)
 len : Hid (n9 = rs.length)
 inn : ∀ j, j < rs.length → GIn w wr HI K (rs.getD j gr0)
 dis : ∀ i j, i < rs.length → j < rs.length → i ≠ j → (rs.getD i gr0).1 ≠ (rs.getD j gr0).1
theorem GIn.call {w W W' : World} {HI K : Nat} {r : GR} (h : GIn w W HI K r) (hb : Below W.heap.size W W') : GIn w W' HI K r := by
 obtain ⟨h1, h2, l, h3, h4, h5, h6⟩ := h
 exact ⟨h1, h2, l, h3, h4, h5, h6.below hb⟩
theorem GX.call {w wr w2 : World} {HI K n9 c : Nat} {S : World → Prop} {a : Option Addr} {rs : List GR} (h : GX w HI K S wr a n9 c rs) (hK : Kept w.heap.size HI S) (hb : Below wr.heap.size wr w2) : GX w HI K S w2 a n9 c rs :=
 ⟨h.sd.call hK hb, h.len, fun j hj => (h.inn j hj).call hb, h.dis⟩
theorem FL.row {w : World} {lo g n c : Nat} {l : List (Int × Int × Int)} (h : FL w lo (.slice (some ⟨g, 0, none⟩) n c) l) : ∃ cur, w.heap[g]? = some (.cells cur 46 (0, 0)) := by
 rcases h.2 with ⟨h1, h2⟩ | ⟨g', cap, cur, h1, h2, h3, h4⟩
 ·cases h1
 ·simp only [Value.slice.injEq, Option.some.injEq, Addr.mk.injEq] at h1
  obtain ⟨⟨rfl, _⟩, _⟩ := h1
  exact ⟨cur, h3⟩
theorem row_ne {w : World} {lo lo2 g n c n9 : Nat} {v : Value} {vs : List Value} {l : List (Int × Int × Int)} (h : FL w lo (.slice (some ⟨g, 0, none⟩) n c) l) (h2 : w.ownsRow lo2 34 1 v n9 vs) : v.ownBlock ≠ some g := by
 intro e
 obtain ⟨cur, hc⟩ := h.row
 rcases h2.2 with ⟨q1, q2⟩ | ⟨g', cap, cur', q1, q2, q3, q4⟩
 ·rw [q1] at e; cases e
 ·rw [q1] at e
  simp only [Value.ownBlock, Option.some.injEq] at e
  subst e
  rw [q3] at hc
  simp only [Option.some.injEq, Obj.cells.injEq] at hc
  exact absurd hc.2.1 (by decide)
theorem GX.at {w wr : World} {HI K n9 c : Nat} {S : World → Prop} {a : Option Addr} {rs : List GR} (h : GX w HI K S wr a n9 c rs) {i : Nat} (hi : i < n9) :
  ∃ go, a = some ⟨go, 0, none⟩ ∧ go < wr.heap.size ∧ wr.cell? ⟨go, i, none⟩ = some (.slice (some ⟨(rs.getD i gr0).1, 0, none⟩) (rs.getD i gr0).2.1 (rs.getD i gr0).2.2.1) ∧ wr.frozen? ⟨go, i, none⟩ = false ∧ 0 < (rs.getD i gr0).2.1 ∧ (rs.getD i gr0).1 < wr.heap.size ∧
   wr.cell? ⟨(rs.getD i gr0).1, 0, none⟩ = some (.int .i64 (rs.getD i gr0).2.2.2.1) ∧ wr.cell? ⟨(rs.getD i gr0).1, 1, none⟩ = some (.int .i64 (rs.getD i gr0).2.2.2.2.1) ∧ wr.cell? ⟨(rs.getD i gr0).1, 2, none⟩ = some (.int .i64 (rs.getD i gr0).2.2.2.2.2) := by
 have hl := unhide h.len
 obtain ⟨h1, h2, l, h3, h4, h5, h6⟩ := h.inn i (by omega)
 obtain ⟨go, cap, e⟩ : ∃ g cap, Value.slice a n9 c = .slice (some ⟨g, 0, none⟩) n9 cap := by
  rcases h.sd.own.2 with ⟨q1, q2⟩ | ⟨g, cap, cur, q1, _⟩
  ·omega
  ·exact ⟨g, cap, q1⟩
 simp only [Value.slice.injEq] at e
 obtain ⟨rfl, -, rfl⟩ := e
 obtain ⟨g3, q1, q2, q3, q4, q5⟩ := h6.at.2.cells h4
 simp only [Option.some.injEq, Addr.mk.injEq] at q1
 obtain ⟨rfl, _⟩ := q1
 rw [h5] at q3 q4 q5
 refine ⟨go, rfl, (World.ownsRow.lt h.sd.own go rfl).2, ?_, World.ownsRow.frozenAt h.sd.own i, by omega, q2, by simpa using q3, by simpa using q4, by simpa using q5⟩
 rw [World.ownsRow.cellAt h.sd.own i (by omega), List.getElem?_map, List.getElem?_eq_getElem (by omega), List.getD_eq_getElem?_getD, List.getElem?_eq_getElem (by omega)]; rfl
theorem gdS {α : Type} {l : List α} {x d : α} {i j : Nat} (hi : i < l.length) : (l.set i x).getD j d = if i = j then x else l.getD j d := by
 simp only [List.getD_eq_getElem?_getD, List.getElem?_set]
 by_cases q : i = j
 ·rw [if_pos q, if_pos hi, if_pos q]; rfl
 ·rw [if_neg q, if_neg q]
theorem GX.set {w wr W w7 : World} {HI K n9 c g cap i go : Nat} {S : World → Prop} {a : Option Addr} {rs : List GR} {l : List (Int × Int × Int)} {f : Int × Int × Int} (h : GX w HI K S wr a n9 c rs) (hK : Kept w.heap.size HI S) (hi : i < n9) (ha : a = some ⟨go, 0, none⟩) (hb : Below wr.heap.size wr W)
  (hl : l.getD 0 (0, 0, 0) = (rs.getD i gr0).2.2.2) (hl0 : 0 < l.length) (hln : (rs.getD i gr0).2.1 = l.length)
  (hown : FL w7 w.heap.size (.slice (some ⟨g, 0, none⟩) (l.length + 1) cap) (l ++ [f])) (hgrow : W.grownBy w7 (some (rs.getD i gr0).1)) (hat : (rs.getD i gr0).1 = g ∨ g = W.heap.size) :
  GX w HI (K + 1) S (w7.setCell ⟨go, i, none⟩ (.slice (some ⟨g, 0, none⟩) (l.length + 1) cap)) a n9 c (rs.set i (g, l.length + 1, cap, (rs.getD i gr0).2.2.2)) := by
 subst ha
 have hL := unhide h.len
 have hW := h.call hK hb
 obtain ⟨r1, r2, lr, r3, r4, r5, r6⟩ := hW.inn i (by omega)
 have hne0 := row_ne r6 hW.sd.own
 have out7 : w7.ownsRow w.heap.size 34 1 (.slice (some ⟨go, 0, none⟩) n9 c) n9 (rs.map rsV) := World.ownsRow.kept hW.sd.own hgrow (.inr hne0)
 obtain ⟨out8, grow8⟩ := World.ownsRow.stored out7 i (.slice (some ⟨g, 0, none⟩) (l.length + 1) cap)
 have hsz := hgrow.size
 have hgo : go ≠ g := by
  intro e
  exact row_ne hown out7 (by rw [← e]; rfl)
 have hgo2 : go < wr.heap.size := (World.ownsRow.lt h.sd.own go rfl).2
 have hgo3 := h.sd.far go rfl
 have hgo4 := (World.ownsRow.lt h.sd.own go rfl).1
 have hil : i < rs.length := by omega
 have b7 : Below w.heap.size w w7 := hW.sd.bel.grown hgrow hW.sd.bel.size (fun k hk => by cases hk; have := r1; have := (FL.lt r6 _ rfl).1; omega)
 have hold : ∀ j, j < rs.length → j ≠ i → GIn w (w7.setCell ⟨go, i, none⟩ (.slice (some ⟨g, 0, none⟩) (l.length + 1) cap)) HI (K + 1) (rs.getD j gr0) := fun j hj hji => by
  obtain ⟨s1, s2, ls, s3, s4, s5, s6⟩ := hW.inn j hj
  refine ⟨s1, by omega, ls, s3, s4, s5, ?_⟩
  have t7 : FL w7 w.heap.size (.slice (some ⟨(rs.getD j gr0).1, 0, none⟩) (rs.getD j gr0).2.1 (rs.getD j gr0).2.2.1) ls := World.ownsRow.kept s6 hgrow (.inr fun e => by
   simp only [Value.ownBlock, Option.some.injEq] at e
   exact h.dis j i hj hil hji e)
  exact World.ownsRow.kept t7 grow8 (.inr fun e => row_ne t7 out7 e.symm)
 have hnew : GIn w (w7.setCell ⟨go, i, none⟩ (.slice (some ⟨g, 0, none⟩) (l.length + 1) cap)) HI (K + 1) (g, l.length + 1, cap, (rs.getD i gr0).2.2.2) := by
  refine ⟨?_, by simp only; omega, l ++ [f], by simp, by simp, ?_, World.ownsRow.kept hown grow8 (.inr fun e => row_ne hown out7 e.symm)⟩
  ·rcases hat with e | e
   ·simp only; omega
   ·have := hW.sd.hi; simp only; omega
  ·rw [List.getD_eq_getElem?_getD, List.getElem?_append_left hl0, ← List.getD_eq_getElem?_getD]; exact hl
 refine ⟨⟨?_, h.sd.far, b7.grown grow8 b7.size (fun k hk => by cases hk; exact hgo4), ?_, ?_⟩, hide (by rw [List.length_set]; exact hL), fun j hj => ?_, fun i' j hi' hj hij => ?_⟩
 ·have e : (rs.set i (g, l.length + 1, cap, (rs.getD i gr0).2.2.2)).map rsV = (rs.map rsV).set i (.slice (some ⟨g, 0, none⟩) (l.length + 1) cap) := by rw [List.map_set]; rfl
  rw [e]; exact out8
 ·refine hK _ _ (fun k k1 k2 => ?_) hW.sd.src
  have q1 := grow8.block k (Nat.lt_of_lt_of_le k2 (Nat.le_trans hW.sd.hi hsz)) (fun e => by simp only [Option.some.injEq] at e; omega)
  have q2 := hgrow.block k (Nat.lt_of_lt_of_le k2 hW.sd.hi) (fun e => by simp only [Option.some.injEq] at e; omega)
  exact q1.trans q2
 ·exact Nat.le_trans hW.sd.hi (Nat.le_trans hsz grow8.size)
 ·rw [List.length_set] at hj
  rw [gdS hil]
  split
  ·exact hnew
  ·rename_i e; exact hold j hj (fun q => e q.symm)
 ·rw [List.length_set] at hi' hj
  have key : ∀ j, j < rs.length → j ≠ i → (rs.getD j gr0).1 ≠ g := fun j hj hji e => by
   obtain ⟨s1, s2, ls, s3, s4, s5, s6⟩ := hW.inn j hj
   have hlt : (rs.getD j gr0).1 < W.heap.size := (FL.lt s6 _ rfl).2
   rcases hat with q | q
   ·exact h.dis j i hj hil hji (by rw [e, q])
   ·omega
  rw [gdS hil, gdS hil]
  by_cases e1 : i = i'
  ·rw [if_pos e1, if_neg (by omega)]
   exact fun e => key j hj (by omega) e.symm
  ·by_cases e2 : i = j
   ·rw [if_neg e1, if_pos e2]
    exact key i' hi' (by omega)
   ·rw [if_neg e1, if_neg e2]
    exact h.dis i' j hi' hj hij
theorem GX.up {w wr : World} {HI K n9 c : Nat} {S : World → Prop} {a : Option Addr} {rs : List GR} (h : GX w HI K S wr a n9 c rs) : GX w HI (K + 1) S wr a n9 c rs :=
 ⟨h.sd, h.len, fun j hj => by
  obtain ⟨h1, h2, h3⟩ := h.inn j hj
  exact ⟨h1, by omega, h3⟩, h.dis⟩
end Go.Proofs.Ytaeabefbohlcpaa
namespace Go.Proofs.Ytaeabefbohlcpaa
open Go.RowKit
set_option linter.unusedVariables false
set_option linter.unusedSimpArgs false
attribute [local go_sem] q2 q3 q4 q5 q6 q7 q8 q9 q10 q11 q12

end Go.Proofs.Ytaeabefbohlcpaa
namespace Go.Proofs.Ytaeabefbohlcpaa
open Go.RowKit
set_option linter.unusedVariables false
set_option linter.unusedSimpArgs false
attribute [local go_sem] q2 q3 q4 q5 q6 q7 q8 q9 q10 q11 q12

end Go.Proofs.Ytaeabefbohlcpaa
namespace Go.Proofs.Ytaeabefbohlcpaa
open Go.RowKit
set_option linter.unusedVariables false
set_option linter.unusedSimpArgs false
attribute [local go_sem] q2 q3 q4 q5 q6 q7 q8 q9 q10 q11 q12

def ArgI (w : World) (v : Value) (n : Nat) (z : Nat → Int) : Prop :=
 (n = 0 ∧ ∃ a c, v = .slice a 0 c) ∨ ∃ b off c : Nat, v = .slice (some ⟨b, off, none⟩) n c ∧ b < w.heap.size ∧ ∀ i, i < n → w.cell? ⟨b, off + i, none⟩ = some (.int .i64 (z i))
theorem ArgI.below {w w' : World} {v : Value} {n : Nat} {z : Nat → Int} (h : ArgI w v n z) (hb : Below w.heap.size w w') : ArgI w' v n z := by
 rcases h with h | ⟨b, off, c, h1, h2, h3⟩
 ·exact .inl h
 ·exact .inr ⟨b, off, c, h1, Nat.lt_of_lt_of_le h2 hb.size, fun i hi => cell_call hb (h3 i hi)⟩
theorem ArgI.len {w : World} {v : Value} {n : Nat} {z : Nat → Int} (h : ArgI w v n z) : ∃ a c, v = .slice a n c := by
 rcases h with ⟨h, a, c, h2⟩ | ⟨b, off, c, h1, _⟩
 ·exact ⟨a, c, by rw [h]; exact h2⟩
 ·exact ⟨_, _, h1⟩
theorem ArgI.cells {w : World} {a : Option Addr} {n c : Nat} {z : Nat → Int} (h : ArgI w (.slice a n c) n z) (hn : 0 < n) : ∃ b off, a = some ⟨b, off, none⟩ ∧ ∀ i, i < n → w.cell? ⟨b, off + i, none⟩ = some (.int .i64 (z i)) := by
 rcases h with ⟨h, _⟩ | ⟨b, off, c', h1, _, h3⟩
 ·omega
 ·simp only [Value.slice.injEq] at h1
  exact ⟨b, off, h1.1, h3⟩
def RowI (w : World) (g n : Nat) (z : Nat → Int) : Prop := w.rowIs g 3 n (fun i => .int .i64 (z i))
theorem RowI.below {w w' : World} {g n : Nat} {z : Nat → Int} (h : RowI w g n z) (hb : Below w.heap.size w w') : RowI w' g n z := World.rowIs.of_block h (hb.block g (World.rowIs.lt h))
theorem RowI.arg {w : World} {g n : Nat} {z : Nat → Int} (h : RowI w g n z) : ArgI w (.slice (some ⟨g, 0, none⟩) n n) n z :=
 .inr ⟨g, 0, n, rfl, World.rowIs.lt h, fun i hi => by rw [Nat.zero_add]; exact World.rowIs.cell h hi⟩
theorem RowI.at {w : World} {g n lo : Nat} {z : Nat → Int} (h : RowI w g n z) (hl : lo ≤ g) : IntsAt w lo w.heap.size (some ⟨g, 0, none⟩) n z :=
 .inr ⟨g, n, _, rfl, hl, World.rowIs.lt h, Nat.le_refl _, h, fun i hi => rfl⟩

theorem Try.infoIntA : (Try.prog.info? 3).map (fun i => (i.zero, i.size, i.bytes)) = some (some (.int .i64 0), 1, 8) := by kernel_rfl
theorem make_intsA (n : Nat) (hn : n ≤ 2000000) (w : World) :
  (Instr.makeSlice 22 (.int .i64 (n : Int)) (.int .i64 (n : Int))).run Try.prog w = .ok (.slice (some ⟨w.heap.size, 0, none⟩) n n) (w.alloc (.cells (madeCells #[.int .i64 0] n) 3)) :=
 run_make_row' (P := Try.prog) 22 3 (.int .i64 0) 8 Try.underlying22 Try.infoIntA rfl .i64 .i64 n (by omega) (by omega) w
theorem made_intsA (w : World) (n : Nat) : (w.alloc (.cells (madeCells #[.int .i64 0] n) 3)).rowIs w.heap.size 3 n (fun _ => .int .i64 0) :=
 ⟨_, Go.Deep.blk_alloc_new _ _, by simp [size_madeCells], fun j hj => by simp [madeCells, hj, Nat.mod_one]⟩

set_option maxRecDepth 100000 in
set_option maxHeartbeats 4000000 in
theorem toIntS_a (v : Value) (n : Nat) (z : Nat → Int) (w : World) (h : ArgI w v n z) (hn : n ≤ 2000000) :
  Calls Try.prog 11 #[v] w fun e w' => e = .returned (.slice (some ⟨w.heap.size, 0, none⟩) n n) ∧ RowI w' w.heap.size n z ∧ Below w.heap.size w w' := by
 have hmk := make_intsA n hn
 have HA := hide h
 obtain ⟨a, c, rfl⟩ := h.len
 clear h
 go_enter Try.func11, Try.ntmps11
 go_wp2
 clear hmk
 go_loopw [4] (fun is wr => ∃ ix : Nat, ix ≤ n ∧ is = .int .i64 (ix : Int) ∧ wr.rowIs w.heap.size 3 n (fun i => if i < ix then .int .i64 (z i) else .int .i64 0) ∧ Below w.heap.size w wr) (fun is _ => n - (intOf is).toNat)
 case atStart => exact ⟨0, by omega, rfl, (made_intsA w n).congr (fun i _ => by simp), byGG⟩
 case round =>
  obtain ⟨ix, hi, rfl, hr, hb⟩ := hrel
  obtain ⟨wl, rfl⟩ : ∃ wl : World, wl = wr := ⟨_, rfl⟩
  have hz := hb.size
  by_cases q : ix < n
  ·have hci : (ix : Int) < (n : Int) := by omega
   obtain ⟨b, off, hv, hcs⟩ := ((unhide HA).below hb).cells (by omega)
   have c0 := hcs ix q
   subst hv
   clear hcs
   obtain ⟨x, hx⟩ : ∃ x, z ix = x := ⟨_, rfl⟩
   rw [hx] at c0
   have HX := hide hx
   clear hx
   have d0 := hr.cell (i := ix) (by omega)
   have f0 := hr.frozen ix
   go_wp2
   go_roundw
   case rel =>
    refine ⟨ix + 1, by omega, by go_num, (hr.set _ _).congr (fun i _ => ?_), byGG⟩
    by_cases k0 : i < ix
    ·rw [if_pos (show i < ix + 1 by omega)]
     simp only [if_neg (show ¬ i = ix by omega), if_pos k0]
    ·by_cases k1 : i < ix + 1
     ·rw [if_pos k1]
      obtain rfl : i = ix := by omega
      rw [unhide HX]; simp
     ·rw [if_neg k1]
      simp only [if_neg (show ¬ i = ix by omega), if_neg k0]
   case measure => simp [intOf]; omega
  ·obtain rfl : ix = n := by omega
   go_wp2
   go_ret
   exact ⟨rfl, hr.congr (fun i hi => by rw [if_pos hi]), hb⟩
end Go.Proofs.Ytaeabefbohlcpaa
