/- Slices of integers that lie in blocks of the call's own, and the laws' helpers over them: equal, mark, held. impl.abs, and the tests that all integers of a slice lie in a range. Worlds that have grown, and sums that are less. A drawn region by an invariant: one proof for each operation, whatever the order. Plain law over any program. A drawn region by an invariant, where an operation may lean on what holds as long as another one that waits for it is still to come. Plain law over any program. What the operations of a drawn region leave behind, by kinds: a value, a new block, a new block that holds values, cells of old blocks. Plain law over any program. The invariant rule for a drawn region, its operations one behind the other. Plain law over any program. The invariant rule where an operation reads a slot that a later one writes. Plain law over any program. Slices of numbers that come in: szIntS, toIntS. Chains of factors on both sides. Rows on both sides. Rows that come in: szRow, toRow, eqRow. A list of rows whose factors lie in blocks of their own. TableBetween on both sides. eqRowS. markRowS. The law FnExactTableBetween. Two rows compared: sameRow, tbSame. WrongRows on both sides. -/
import Derived.Test.YtaeabefbohlcpaaGreatNum
import Derived.Test.YtaeabefbohlcpaaGreatLevel
import Derived.Test.YtaeabefbohlcpaaGreatConv
import Derived.Test.YtaeabefbohlcpaaGreatRed
import Derived.Test.YtaeabefbohlcpaaGreatDrp
import Derived.Test.YtaeabefbohlcpaaGreatPt
import Derived.Test.YtaeabefbohlcpaaGreatRule
import Derived.Test.YtaeabefbohlcpaaGreatOwn
import Derived.Test.YtaeabefbohlcpaaGreatSub
import Derived.Test.YtaeabefbohlcpaaGreatCmp
import Derived.Test.YtaeabefbohlcpaaGreatStep
import Derived.Test.YtaeabefbohlcpaaGreatReduceI
import Derived.Test.YtaeabefbohlcpaaGreatReduceS
import Derived.Test.YtaeabefbohlcpaaGreatRd
import Derived.Test.YtaeabefbohlcpaaGreatFp
import Derived.Test.YtaeabefbohlcpaaGreatInv
import Derived.Test.YtaeabefbohlcpaaGreatCpl
import Derived.Test.YtaeabefbohlcpaaGreatCpw
import Derived.Test.YtaeabefbohlcpaaGreatCps
import Derived.Test.YtaeabefbohlcpaaGreatGp
import Derived.Test.YtaeabefbohlcpaaGreatGi
import Derived.Test.YtaeabefbohlcpaaGreatGrp
import Derived.Test.YtaeabefbohlcpaaGreatRfl
import Derived.Test.YtaeabefbohlcpaaGreatFac
import Derived.Test.YtaeabefbohlcpaaGreatOs
import Derived.Test.YtaeabefbohlcpaaGreatUnw
import Derived.Test.YtaeabefbohlcpaaGreatCmpI
import Derived.Test.YtaeabefbohlcpaaGreatCou
import Derived.Test.YtaeabefbohlcpaaGreatSd
import Derived.Test.YtaeabefbohlcpaaGreatFaw
import Derived.Test.YtaeabefbohlcpaaGreatFap
import Derived.Test.YtaeabefbohlcpaaGreatFan
import Derived.Test.YtaeabefbohlcpaaGreatJac
import Derived.Test.YtaeabefbohlcpaaGreatJas
import Derived.Test.YtaeabefbohlcpaaGreatChv
import Derived.Test.YtaeabefbohlcpaaGreatChi
import Derived.Test.YtaeabefbohlcpaaGreatChs
import Derived.Test.YtaeabefbohlcpaaGreatPtg
import Derived.Test.YtaeabefbohlcpaaGreatFpg
import Derived.Test.YtaeabefbohlcpaaGreatGnv
import Derived.Test.YtaeabefbohlcpaaGreatGrq
import Derived.Test.YtaeabefbohlcpaaGreatGrt
import Derived.Test.YtaeabefbohlcpaaGreatIvp
import Derived.Test.YtaeabefbohlcpaaGreatIvi
import Derived.Test.YtaeabefbohlcpaaGreatIvs
import Derived.Test.YtaeabefbohlcpaaGreatGix
import Derived.Test.YtaeabefbohlcpaaGreatGtt
import Derived.Test.YtaeabefbohlcpaaGreatGx
import Derived.Test.YtaeabefbohlcpaaGreatGng
import Derived.Test.YtaeabefbohlcpaaGreatGns
import Derived.Test.YtaeabefbohlcpaaGreatRwo
import Derived.Test.YtaeabefbohlcpaaGreatRwt
import Derived.Test.YtaeabefbohlcpaaGreatPost
import Derived.Test.YtaeabefbohlcpaaGreatProg
import Derived.Deep.OwnRows
import Derived.Deep.Draws
import Derived.Deep.QuietTactic
import Derived.BigQuiet
import Derived.Handy
import Derived.Outline
import Derived.Deep.DeepFit
import Derived.WalkKit
import Derived.Below
import Derived.Deep.RegionHeld3
import Derived.Deep.DeepCutAuto
namespace Go.Proofs.YtaeabefbohlcpaaGreat
open Go.RowKit
set_option linter.unusedVariables false
set_option linter.unusedSimpArgs false

theorem markIntS_any (a : Option Addr) (lo hi n c k : Nat) (f : Nat → Int) (w : World) (hn : n ≤ 1000000000) (hk : k ≤ 1000000000) (h : IntsAt w lo hi a n f) :
  Calls Tryz.prog 21 #[.slice a n c, .int .i64 (k : Int)] w fun e w' => e = .returned (.int .i64 ((k : Int) + n)) ∧ IntsAt w' lo hi a n (fun i => (k : Int) + i) ∧ (∀ j, j < lo → w'.heap[j]? = w.heap[j]?) ∧ w'.heap.size = w.heap.size ∧ Below lo w w' := by
 rcases h with rfl | ⟨g, cap, F, rfl, hlo, hhi, q, r, e⟩
 ·refine (markIntS_nil a c k w).mono ?_
  rintro e w' ⟨rfl, rfl⟩
  exact ⟨ret_int (by omega), .inl rfl, fun _ _ => rfl, rfl, Below.refl _ _⟩
 ·refine (markIntS_row g n c cap k F w hn hk q r).mono ?_
  rintro e w' ⟨rfl, hr, hg, hs⟩
  refine ⟨rfl, .inr ⟨g, cap, _, rfl, hlo, hhi, q, hr, fun i hi => by simp [hi]⟩, fun j hj => ?_, hs, ⟨hg.os, hg.tape, hg.output, hg.size, fun j hj => ?_⟩⟩
  all_goals
   have := r.lt
   exact hg.block j (by omega) (fun e => by cases e; omega)

def RetInts (w : World) (n : Nat) (f : Nat → Int) (ok : Bool) (e : Ending) (w' : World) : Prop :=
 ∃ a c, e = .returned (.tuple #[.slice a n c, .bool ok]) ∧ IntsAt w' w.heap.size w'.heap.size a n f ∧ Below w.heap.size w w'
end Go.Proofs.YtaeabefbohlcpaaGreat
namespace Go.Proofs.YtaeabefbohlcpaaGreat
open Go.RowKit
set_option linter.unusedVariables false
set_option linter.unusedSimpArgs false

def I64 (n : Int) : Prop := -9223372036854775808 ≤ n ∧ n ≤ 9223372036854775807
end Go.Proofs.YtaeabefbohlcpaaGreat
namespace Go.Proofs.YtaeabefbohlcpaaGreat
open Go.RowKit
set_option linter.unusedVariables false
set_option linter.unusedSimpArgs false
theorem i64_wf {n : Int} (h : (Lit.int .i64 n).wf = true) : I64 n := by
 simp only [Lit.wf, Bool.and_eq_true, decide_eq_true_eq] at h
 exact ⟨h.1, h.2⟩
end Go.Proofs.YtaeabefbohlcpaaGreat
namespace Go.Proofs.YtaeabefbohlcpaaGreat
open Go.RowKit
set_option linter.unusedVariables false
set_option linter.unusedSimpArgs false

section
variable {P : Program} {ops : Array Oper} {Q : Exit → Act → World → Prop}

end
end Go.Proofs.YtaeabefbohlcpaaGreat
namespace Go.Proofs.YtaeabefbohlcpaaGreat
open Go.RowKit
set_option linter.unusedVariables false
set_option linter.unusedSimpArgs false

section
variable {P : Program} {ops : Array Oper} {Q : Exit → Act → World → Prop}

/-! The same, where an operation may lean on what holds as long as another one that waits for it is still to come. -/
end
end Go.Proofs.YtaeabefbohlcpaaGreat
namespace Go.Proofs.YtaeabefbohlcpaaGreat
open Go.RowKit
set_option linter.unusedVariables false
set_option linter.unusedSimpArgs false

theorem ne_off {b b' o o' : Nat} (h : o ≠ o') : (⟨b, o, none⟩ : Addr) ≠ ⟨b', o', none⟩ := fun e => by injection e with e1 e2; exact h e2
end Go.Proofs.YtaeabefbohlcpaaGreat
namespace Go.Proofs.YtaeabefbohlcpaaGreat
open Go.RowKit
set_option linter.unusedVariables false
set_option linter.unusedSimpArgs false

section
variable {P : Program} {ops : Array Oper} {Q : Exit → Act → World → Prop}
/- The same where an operation reads what another one will write: pre. -/
end
end Go.Proofs.YtaeabefbohlcpaaGreat
namespace Go.Proofs.YtaeabefbohlcpaaGreat
open Go.RowKit
set_option linter.unusedVariables false
set_option linter.unusedSimpArgs false

section
variable {P : Program} {ops : Array Oper} {Q : Exit → Act → World → Prop}

/-! The same, where an operation may lean on what holds as long as another one that waits for it is still to come. -/
end
end Go.Proofs.YtaeabefbohlcpaaGreat
namespace Go.Proofs.YtaeabefbohlcpaaGreat
open Go.RowKit
set_option linter.unusedVariables false
set_option linter.unusedSimpArgs false
attribute [local go_sem] q2 q3 q4 q5 q6 q7 q8 q9 q10 q11 q12

theorem Tryz.infoIntA : (Tryz.prog.info? 3).map (fun i => (i.zero, i.size, i.bytes)) = some (some (.int .i64 0), 1, 8) := by kernel_rfl
theorem make_intsA (n : Nat) (hn : n ≤ 2000000) (w : World) :
  (Instr.makeSlice 22 (.int .i64 (n : Int)) (.int .i64 (n : Int))).run Tryz.prog w = .ok (.slice (some ⟨w.heap.size, 0, none⟩) n n) (w.alloc (.cells (madeCells #[.int .i64 0] n) 3)) :=
 run_make_row' (P := Tryz.prog) 22 3 (.int .i64 0) 8 Tryz.underlying22 Tryz.infoIntA rfl .i64 .i64 n (by omega) (by omega) w
theorem made_intsA (w : World) (n : Nat) : (w.alloc (.cells (madeCells #[.int .i64 0] n) 3)).rowIs w.heap.size 3 n (fun _ => .int .i64 0) :=
 ⟨_, Go.Deep.blk_alloc_new _ _, by simp [size_madeCells], fun j hj => by simp [madeCells, hj, Nat.mod_one]⟩

set_option maxRecDepth 100000 in
set_option maxHeartbeats 2000000 in
theorem szIntS_a (v : Value) (n : Nat) (l : Int) (z : Nat → Int) (w : World) (h : ArgI w v n z) (hn : n ≤ 9223372036854775807) (hl : 0 ≤ l ∧ l ≤ 1000000000) :
  Calls Tryz.prog 48 #[v, .int .i64 l] w fun e w' => e = .returned (.int .i64 (if l < n then -1 else l - n)) ∧ w = w' := by
 obtain ⟨a, c, rfl⟩ := h.len
 by_cases q : l < (n : Int)
 ·have q2 : l - (n : Int) < 0 := by omega
  have HV : Hid ((if l < (n : Int) then (-1 : Int) else l - n) = -1) := hide (if_pos q)
  go_enter Tryz.func48, Tryz.ntmps48
  go_wp2
  go_ret
  exact ⟨ret_int (by first | rfl | rw [unhide HV]), rfl⟩
 ·have q2 : 0 ≤ l - (n : Int) := by omega
  have HV : Hid ((if l < (n : Int) then (-1 : Int) else l - n) = l - n) := hide (if_neg q)
  go_enter Tryz.func48, Tryz.ntmps48
  go_wp2
  go_ret
  exact ⟨ret_int (by first | rfl | rw [unhide HV]), rfl⟩

set_option maxRecDepth 100000 in
set_option maxHeartbeats 4000000 in
theorem toIntS_a (v : Value) (n : Nat) (z : Nat → Int) (w : World) (h : ArgI w v n z) (hn : n ≤ 2000000) :
  Calls Tryz.prog 51 #[v] w fun e w' => e = .returned (.slice (some ⟨w.heap.size, 0, none⟩) n n) ∧ RowI w' w.heap.size n z ∧ Below w.heap.size w w' := by
 have hmk := make_intsA n hn
 have HA := hide h
 obtain ⟨a, c, rfl⟩ := h.len
 clear h
 go_enter Tryz.func51, Tryz.ntmps51
 go_wp2
 clear hmk
 go_loopw [4] (fun is wr => ∃ ix : Nat, ix ≤ n ∧ is = .int .i64 (ix : Int) ∧ wr.rowIs w.heap.size 3 n (fun i => if i < ix then .int .i64 (z i) else .int .i64 0) ∧ Below w.heap.size w wr) (fun is _ => n - (intOf is).toNat)
 case atStart => exact ⟨0, by omega, rfl, (made_intsA w n).congr (fun i _ => by simp), byGG⟩
 case round =>
  obtain ⟨ix, hi, rfl, hr, hb⟩ := hrel
  obtain ⟨wl, rfl⟩ : ∃ wl : World, wl = wr := ⟨_, rfl⟩
  have hz := hb.size
  by_cases q : ix < n
  ·have hci : (ix : Int) < (n : Int) := by omega
   obtain ⟨b, off, hv, hcs⟩ := ((unhide HA).below hb).cells (by omega)
   have c0 := hcs ix q
   subst hv
   clear hcs
   obtain ⟨x, hx⟩ : ∃ x, z ix = x := ⟨_, rfl⟩
   rw [hx] at c0
   have HX := hide hx
   clear hx
   have d0 := hr.cell (i := ix) (by omega)
   have f0 := hr.frozen ix
   go_wp2
   go_roundw
   case rel =>
    refine ⟨ix + 1, by omega, by go_num, (hr.set _ _).congr (fun i _ => ?_), byGG⟩
    by_cases k0 : i < ix
    ·rw [if_pos (show i < ix + 1 by omega)]
     simp only [if_neg (show ¬ i = ix by omega), if_pos k0]
    ·by_cases k1 : i < ix + 1
     ·rw [if_pos k1]
      obtain rfl : i = ix := by omega
      rw [unhide HX]; simp
     ·rw [if_neg k1]
      simp only [if_neg (show ¬ i = ix by omega), if_neg k0]
   case measure => simp [intOf]; omega
  ·obtain rfl : ix = n := by omega
   go_wp2
   go_ret
   exact ⟨rfl, hr.congr (fun i hi => by rw [if_pos hi]), hb⟩
end Go.Proofs.YtaeabefbohlcpaaGreat
namespace Go.Proofs.YtaeabefbohlcpaaGreat
open Go.RowKit
set_option linter.unusedVariables false
set_option linter.unusedSimpArgs false
attribute [local go_sem] q2 q3 q4 q5 q6 q7 q8 q9 q10 q11 q12

def chS (z : Nat → Int) : Nat → Option Int
 | 0 => some 1
 | j + 1 => match chS z j with
  | none => none
  | some p => if z j < 2 ∨ 1000 < z j ∨ (0 < j ∧ z j % z (j - 1) ≠ 0) ∨ 1000 < p * z j then none else some (p * z j)
def cprV (z : Nat → Int) (n : Nat) : Int := (chS z n).getD 0
def chB (z : Nat → Int) (n : Nat) : Bool := (chS z n).isSome
theorem chS_no {z : Nat → Int} {j : Nat} (h : chS z j = none) : ∀ n, j ≤ n → chS z n = none
 | 0, hn => by rw [show (0 : Nat) = j by omega]; exact h
 | n + 1, hn => by
  by_cases q : j = n + 1
  ·rw [← q]; exact h
  ·rw [chS, chS_no h n (by omega)]
theorem ch_bad {z : Nat → Int} {j n : Nat} {p : Int} (h : chS z j = some p) (hb : z j < 2 ∨ 1000 < z j ∨ (0 < j ∧ z j % z (j - 1) ≠ 0) ∨ 1000 < p * z j) (hn : j < n) : cprV z n = 0 ∧ chB z n = false := by
 have h1 : chS z (j + 1) = none := by rw [chS, h]; exact if_pos hb
 have h2 := chS_no h1 n hn
 exact ⟨by unfold cprV; rw [h2]; rfl, by unfold chB; rw [h2]; rfl⟩
theorem ch_next {z : Nat → Int} {j : Nat} {p : Int} (h : chS z j = some p) (h1 : 2 ≤ z j) (h2 : z j ≤ 1000) (h3 : j = 0 ∨ z j % z (j - 1) = 0) (h4 : p * z j ≤ 1000) : chS z (j + 1) = some (p * z j) := by
 rw [chS, h]
 refine if_neg ?_
 rintro (q | q | ⟨q, q'⟩ | q)
 ·omega
 ·omega
 ·rcases h3 with h3 | h3
  ·omega
  ·exact q' h3
 ·omega
theorem ch_end {z : Nat → Int} {n : Nat} {p : Int} (h : chS z n = some p) : cprV z n = p ∧ chB z n = true := ⟨by unfold cprV; rw [h]; rfl, by unfold chB; rw [h]; rfl⟩
theorem ch_two {z : Nat → Int} {i : Nat} {p : Int} (h : chS z (i + 1) = some p) : 2 ≤ z i ∧ z i ≤ 1000 := by
 rw [chS] at h
 split at h
 ·cases h
 ·split at h
  ·cases h
  ·rename_i q
   simp only [not_or] at q
   omega
theorem ch_bd {z : Nat → Int} : ∀ {j : Nat} {p : Int}, chS z j = some p → 1 ≤ p ∧ p ≤ 1000
 | 0, p, h => by rw [chS] at h; cases h; omega
 | j + 1, p, h => by
  have h2 := ch_two h
  rw [chS] at h
  split at h
  ·cases h
  ·rename_i p' hp
   have := ch_bd hp
   split at h
   ·cases h
   ·rename_i q
    cases h
    simp only [not_or] at q
    refine ⟨?_, by omega⟩
    have := Int.mul_le_mul (show (1 : Int) ≤ p' by omega) (show (1 : Int) ≤ z j by omega) (by omega) (by omega)
    omega

set_option maxRecDepth 100000 in
set_option maxHeartbeats 4000000 in
theorem isChain_a (v : Value) (n : Nat) (z : Nat → Int) (w : World) (h : ArgI w v n z) (hn : n ≤ 2000000) :
  Calls Tryz.prog 52 #[v] w fun e w' => e = .returned (.tuple #[.int .i64 (cprV z n), .bool (chB z n)]) ∧ w = w' := by
 have HA := hide h
 obtain ⟨a, c, rfl⟩ := h.len
 clear h
 go_enter Tryz.func52, Tryz.ntmps52
 go_wp2
 go_loop [4, 9] (fun ps is => ∃ (jx : Nat) (p : Int), jx ≤ n ∧ is = .int .i64 (jx : Int) ∧ ps = .int .i64 p ∧ Hid (chS z jx = some p)) (fun _ is => n - (intOf is).toNat)
 case atStart => exact ⟨0, 1, Nat.zero_le _, rfl, rfl, hide rfl⟩
 case round =>
  obtain ⟨jx, p, hj, rfl, rfl, hp⟩ := hrel
  have hpb := ch_bd (unhide hp)
  by_cases q : jx < n
  ·have hci : (jx : Int) < (n : Int) := by omega
   obtain ⟨b, off, hv, hcs⟩ := (unhide HA).cells (by omega)
   have c0 := hcs jx q
   subst hv
   obtain ⟨x, hx⟩ : ∃ x, z jx = x := ⟨_, rfl⟩
   rw [hx] at c0
   have HX := hide hx
   clear hx
   by_cases c1 : x < 2
   ·clear hcs
    have HV := hide (ch_bad (n := n) (unhide hp) (by rw [unhide HX]; exact .inl c1) q)
    skip
    go_wp2
    go_ret2
    exact ⟨by rw [(unhide HV).1, (unhide HV).2]; rfl, rfl⟩
   ·by_cases c2 : 1000 < x
    ·clear hcs
     have HV := hide (ch_bad (n := n) (unhide hp) (by rw [unhide HX]; exact .inr (.inl c2)) q)
     have c1' : 2 ≤ x := by omega
     go_wp2
     go_ret2
     exact ⟨by rw [(unhide HV).1, (unhide HV).2]; rfl, rfl⟩
    ·have c1' : 2 ≤ x := by omega
     have c2' : x ≤ 1000 := by omega
     by_cases c3 : jx = 0
     ·have hj0 : ¬ 0 < (jx : Int) := by omega
      have hj1 : (jx : Int) ≤ 0 := by omega
      have HC3 := hide c3
      clear hcs c1 c2 c3
      by_cases c4 : p * x ≤ 1000
      ·have HN : Hid (chS z (jx + 1) = some (p * x)) := hide (by rw [← unhide HX]; exact ch_next (unhide hp) (by rw [unhide HX]; omega) (by rw [unhide HX]; omega) (.inl (unhide HC3)) (by rw [unhide HX]; exact c4))
       have hpx : 0 ≤ p * x := Int.mul_nonneg (by omega) (by omega)
       go_wp2
       go_round
       case rel => exact ⟨jx + 1, p * x, by omega, by go_num, rfl, HN⟩
       case measure => simp [intOf]; omega
      ·have HV := hide (ch_bad (n := n) (unhide hp) (by rw [unhide HX]; right; right; right; omega) q)
       have hpx : 0 ≤ p * x ∧ p * x ≤ 1000000 := ⟨Int.mul_nonneg (by omega) (by omega), by have := Int.mul_le_mul (show p ≤ 1000 by omega) (show x ≤ 1000 by omega) (by omega) (by omega); omega⟩
       go_wp2
       go_ret2
       exact ⟨by rw [(unhide HV).1, (unhide HV).2]; rfl, rfl⟩
     ·obtain ⟨i, rfl⟩ : ∃ i, jx = i + 1 := ⟨jx - 1, by omega⟩
      have hy2 := ch_two (unhide hp)
      have d0 := hcs i (by omega)
      obtain ⟨y, hy⟩ : ∃ y, z i = y := ⟨_, rfl⟩
      rw [hy] at d0 hy2
      have HY := hide hy
      clear hy hcs c1 c2 c3
      by_cases c5 : x % y = 0
      ·have t5 : (x % y != 0) = false := by simp [c5]
       by_cases c4 : p * x ≤ 1000
       ·have HN : Hid (chS z ((i + 1) + 1) = some (p * x)) := hide (by rw [← unhide HX]; exact ch_next (unhide hp) (by rw [unhide HX]; omega) (by rw [unhide HX]; omega) (.inr (by rw [unhide HX]; show x % z (i + 1 - 1) = 0; rw [Nat.add_sub_cancel, unhide HY]; exact c5)) (by rw [unhide HX]; exact c4))
        have hpx : 0 ≤ p * x := Int.mul_nonneg (by omega) (by omega)
        go_wp2
        go_round
        case rel => exact ⟨(i + 1) + 1, p * x, by omega, by go_num, rfl, HN⟩
        case measure => simp [intOf]; omega
       ·have HV := hide (ch_bad (n := n) (unhide hp) (by rw [unhide HX]; right; right; right; omega) q)
        have hpx : 0 ≤ p * x ∧ p * x ≤ 1000000 := ⟨Int.mul_nonneg (by omega) (by omega), by have := Int.mul_le_mul (show p ≤ 1000 by omega) (show x ≤ 1000 by omega) (by omega) (by omega); omega⟩
        go_wp2
        go_ret2
        exact ⟨by rw [(unhide HV).1, (unhide HV).2]; rfl, rfl⟩
      ·have t5 : (x % y != 0) = true := by simp [c5]
       have HV := hide (ch_bad (n := n) (unhide hp) (by rw [unhide HX]; refine .inr (.inr (.inl ⟨by omega, ?_⟩)); rw [Nat.add_sub_cancel, unhide HY]; exact c5) q)
       skip
       go_wp2
       go_ret2
       exact ⟨by rw [(unhide HV).1, (unhide HV).2]; rfl, rfl⟩
  ·obtain rfl : jx = n := by omega
   have HV := hide (ch_end (unhide hp))
   go_wp2
   go_ret2
   exact ⟨by rw [(unhide HV).1, (unhide HV).2]; rfl, rfl⟩

set_option maxRecDepth 100000 in
set_option maxHeartbeats 4000000 in
theorem tbFactors_a (v : Value) (n : Nat) (z : Nat → Int) (w : World) (h : ArgI w v n z) (hn : n ≤ 2000000) :
  Calls Tryz.prog 49 #[v] w fun e w' => e = .returned (.tuple #[.int .i64 (cprV z n), .bool (chB z n)]) ∧ w = w' := by
 have HA := hide h
 obtain ⟨a, c, rfl⟩ := h.len
 clear h
 go_enter Tryz.func49, Tryz.ntmps49
 go_wp2
 go_loop [4, 9] (fun ps is => ∃ (jx : Nat) (p : Int), jx ≤ n ∧ is = .int .i64 (jx : Int) ∧ ps = .int .i64 p ∧ Hid (chS z jx = some p)) (fun _ is => n - (intOf is).toNat)
 case atStart => exact ⟨0, 1, Nat.zero_le _, rfl, rfl, hide rfl⟩
 case round =>
  obtain ⟨jx, p, hj, rfl, rfl, hp⟩ := hrel
  have hpb := ch_bd (unhide hp)
  by_cases q : jx < n
  ·have hci : (jx : Int) < (n : Int) := by omega
   obtain ⟨b, off, hv, hcs⟩ := (unhide HA).cells (by omega)
   have c0 := hcs jx q
   subst hv
   obtain ⟨x, hx⟩ : ∃ x, z jx = x := ⟨_, rfl⟩
   rw [hx] at c0
   have HX := hide hx
   clear hx
   by_cases c1 : x < 2
   ·clear hcs
    have HV := hide (ch_bad (n := n) (unhide hp) (by rw [unhide HX]; exact .inl c1) q)
    skip
    have hin : inB x 2 1000 = false := by unfold inB; simp; omega
    go_wp2_with (go_at_call 37; refine (l1In_any _ _ _ _).mono ?_; rintro e w' ⟨rfl, rfl⟩)
    go_ret2
    exact ⟨by rw [(unhide HV).1, (unhide HV).2]; rfl, rfl⟩
   ·by_cases c2 : 1000 < x
    ·clear hcs
     have HV := hide (ch_bad (n := n) (unhide hp) (by rw [unhide HX]; exact .inr (.inl c2)) q)
     have c1' : 2 ≤ x := by omega
     have hin : inB x 2 1000 = false := by unfold inB; simp; omega
     go_wp2_with (go_at_call 37; refine (l1In_any _ _ _ _).mono ?_; rintro e w' ⟨rfl, rfl⟩)
     go_ret2
     exact ⟨by rw [(unhide HV).1, (unhide HV).2]; rfl, rfl⟩
    ·have c1' : 2 ≤ x := by omega
     have c2' : x ≤ 1000 := by omega
     by_cases c3 : jx = 0
     ·have hj0 : ¬ 0 < (jx : Int) := by omega
      have hj1 : (jx : Int) ≤ 0 := by omega
      have HC3 := hide c3
      clear hcs c1 c2 c3
      by_cases c4 : p * x ≤ 1000
      ·have HN : Hid (chS z (jx + 1) = some (p * x)) := hide (by rw [← unhide HX]; exact ch_next (unhide hp) (by rw [unhide HX]; omega) (by rw [unhide HX]; omega) (.inl (unhide HC3)) (by rw [unhide HX]; exact c4))
       have hpx : 0 ≤ p * x := Int.mul_nonneg (by omega) (by omega)
       have hin : inB x 2 1000 = true := by unfold inB; simp; omega
       go_wp2_with (go_at_call 37; refine (l1In_any _ _ _ _).mono ?_; rintro e w' ⟨rfl, rfl⟩)
       go_round
       case rel => exact ⟨jx + 1, p * x, by omega, by go_num, rfl, HN⟩
       case measure => simp [intOf]; omega
      ·have HV := hide (ch_bad (n := n) (unhide hp) (by rw [unhide HX]; right; right; right; omega) q)
       have hpx : 0 ≤ p * x ∧ p * x ≤ 1000000 := ⟨Int.mul_nonneg (by omega) (by omega), by have := Int.mul_le_mul (show p ≤ 1000 by omega) (show x ≤ 1000 by omega) (by omega) (by omega); omega⟩
       have hin : inB x 2 1000 = true := by unfold inB; simp; omega
       go_wp2_with (go_at_call 37; refine (l1In_any _ _ _ _).mono ?_; rintro e w' ⟨rfl, rfl⟩)
       go_ret2
       exact ⟨by rw [(unhide HV).1, (unhide HV).2]; rfl, rfl⟩
     ·obtain ⟨i, rfl⟩ : ∃ i, jx = i + 1 := ⟨jx - 1, by omega⟩
      have hy2 := ch_two (unhide hp)
      have d0 := hcs i (by omega)
      obtain ⟨y, hy⟩ : ∃ y, z i = y := ⟨_, rfl⟩
      rw [hy] at d0 hy2
      have HY := hide hy
      clear hy hcs c1 c2 c3
      by_cases c5 : x % y = 0
      ·have t5 : (x % y != 0) = false := by simp [c5]
       by_cases c4 : p * x ≤ 1000
       ·have HN : Hid (chS z ((i + 1) + 1) = some (p * x)) := hide (by rw [← unhide HX]; exact ch_next (unhide hp) (by rw [unhide HX]; omega) (by rw [unhide HX]; omega) (.inr (by rw [unhide HX]; show x % z (i + 1 - 1) = 0; rw [Nat.add_sub_cancel, unhide HY]; exact c5)) (by rw [unhide HX]; exact c4))
        have hpx : 0 ≤ p * x := Int.mul_nonneg (by omega) (by omega)
        have hin : inB x 2 1000 = true := by unfold inB; simp; omega
        go_wp2_with (go_at_call 37; refine (l1In_any _ _ _ _).mono ?_; rintro e w' ⟨rfl, rfl⟩)
        go_round
        case rel => exact ⟨(i + 1) + 1, p * x, by omega, by go_num, rfl, HN⟩
        case measure => simp [intOf]; omega
       ·have HV := hide (ch_bad (n := n) (unhide hp) (by rw [unhide HX]; right; right; right; omega) q)
        have hpx : 0 ≤ p * x ∧ p * x ≤ 1000000 := ⟨Int.mul_nonneg (by omega) (by omega), by have := Int.mul_le_mul (show p ≤ 1000 by omega) (show x ≤ 1000 by omega) (by omega) (by omega); omega⟩
        have hin : inB x 2 1000 = true := by unfold inB; simp; omega
        go_wp2_with (go_at_call 37; refine (l1In_any _ _ _ _).mono ?_; rintro e w' ⟨rfl, rfl⟩)
        go_ret2
        exact ⟨by rw [(unhide HV).1, (unhide HV).2]; rfl, rfl⟩
      ·have t5 : (x % y != 0) = true := by simp [c5]
       have HV := hide (ch_bad (n := n) (unhide hp) (by rw [unhide HX]; refine .inr (.inr (.inl ⟨by omega, ?_⟩)); rw [Nat.add_sub_cancel, unhide HY]; exact c5) q)
       skip
       have hin : inB x 2 1000 = true := by unfold inB; simp; omega
       go_wp2_with (go_at_call 37; refine (l1In_any _ _ _ _).mono ?_; rintro e w' ⟨rfl, rfl⟩)
       go_ret2
       exact ⟨by rw [(unhide HV).1, (unhide HV).2]; rfl, rfl⟩
  ·obtain rfl : jx = n := by omega
   have HV := hide (ch_end (unhide hp))
   go_wp2
   go_ret2
   exact ⟨by rw [(unhide HV).1, (unhide HV).2]; rfl, rfl⟩
end Go.Proofs.YtaeabefbohlcpaaGreat
namespace Go.Proofs.YtaeabefbohlcpaaGreat
open Go.RowKit
set_option linter.unusedVariables false
set_option linter.unusedSimpArgs false
attribute [local go_sem] q2 q3 q4 q5 q6 q7 q8 q9 q10 q11 q12

structure RowOk (r : RowV) : Prop where
 d : I64 r.d
 num : I64 r.num
 ge : I64 r.ge
 ex : I64 r.ex
def rwB (r : RowV) (n : Nat) (z : Nat → Int) : Bool := chB z n && (negB r.d && (decide (cprV z n = r.num) && (inB r.ge 1 1000 && inB r.ex 1 1000)))

theorem within_a (x : Int) (w : World) : Calls Tryz.prog 53 #[.int .i64 x] w fun e w' => e = .returned (.bool (inB x 1 1000)) ∧ w = w' := by
 by_cases q1 : 1 ≤ x
 ·by_cases q2 : x ≤ 1000
  ·have HV : Hid (inB x 1 1000 = true) := hide (by unfold inB; simp; omega)
   go_enter Tryz.func53, Tryz.ntmps53
   go_wp2
   go_ret
   exact ⟨by rw [unhide HV]; rfl, rfl⟩
  ·have HV : Hid (inB x 1 1000 = false) := hide (by unfold inB; simp; omega)
   go_enter Tryz.func53, Tryz.ntmps53
   go_wp2
   go_ret
   exact ⟨by rw [unhide HV]; rfl, rfl⟩
 ·have HV : Hid (inB x 1 1000 = false) := hide (by unfold inB; simp; omega)
  go_enter Tryz.func53, Tryz.ntmps53
  go_wp2
  go_ret
  exact ⟨by rw [unhide HV]; rfl, rfl⟩

set_option maxRecDepth 100000 in
set_option maxHeartbeats 4000000 in
theorem isRow_a (r : RowV) (v : Value) (n : Nat) (z : Nat → Int) (w : World) (h : ArgI w v n z) (hn : n ≤ 2000000) (hr : RowOk r) :
  Calls Tryz.prog 35 #[rwv r v] w fun e w' => e = .returned (.bool (rwB r n z)) ∧ Below w.heap.size w w' := by
 obtain ⟨d, num, ge, ex⟩ := r
 obtain ⟨i0, i1, i2, i3⟩ := hr
 have HA : Hid (ArgI (w.alloc (.cells #[.int .i64 d, .int .i64 num, v, .int .i64 ge, .int .i64 ex] 24)) v n z) := hide (h.below (below_alloc_self _ _))
 clear h
 cases kb : chB z n
 ·have HV : Hid (rwB ⟨d, num, ge, ex⟩ n z = false) := hide (by unfold rwB; rw [kb]; rfl)
  go_enter Tryz.func35, Tryz.ntmps35
  go_wp2_with (first | (go_at_call 52; refine (isChain_a v n z _ (unhide HA) hn).mono ?_; rintro e w' ⟨rfl, rfl⟩) | (go_at_call 25; refine (isNegativeDisc_a _ _).mono ?_; rintro e w' ⟨rfl, rfl⟩) | (go_at_call 53; refine (within_a _ _).mono ?_; rintro e w' ⟨rfl, rfl⟩))
  all_goals (go_ret; exact ⟨by rw [unhide HV]; first | done | rfl | (simp [*]; done), byGG⟩)
 ·cases kd : negB d
  ·have HV : Hid (rwB ⟨d, num, ge, ex⟩ n z = false) := hide (by simp [rwB, kd])
   go_enter Tryz.func35, Tryz.ntmps35
   go_wp2_with (first | (go_at_call 52; refine (isChain_a v n z _ (unhide HA) hn).mono ?_; rintro e w' ⟨rfl, rfl⟩) | (go_at_call 25; refine (isNegativeDisc_a _ _).mono ?_; rintro e w' ⟨rfl, rfl⟩) | (go_at_call 53; refine (within_a _ _).mono ?_; rintro e w' ⟨rfl, rfl⟩))
   all_goals (go_ret; exact ⟨by rw [unhide HV]; first | done | rfl | (simp [*]; done), byGG⟩)
  ·by_cases ke : cprV z n = num
   ·have ke' : num = cprV z n := ke.symm
    have HV0 : Hid (rwB ⟨d, num, ge, ex⟩ n z = (inB ge 1 1000 && inB ex 1 1000)) := hide (by simp [rwB, kb, kd, ke])
    subst ke
    clear ke'
    cases kg : inB ge 1 1000
    ·have HV : Hid (rwB ⟨d, cprV z n, ge, ex⟩ n z = false) := hide (by rw [unhide HV0, kg]; rfl)
     go_enter Tryz.func35, Tryz.ntmps35
     go_wp2_with (first | (go_at_call 52; refine (isChain_a v n z _ (unhide HA) hn).mono ?_; rintro e w' ⟨rfl, rfl⟩) | (go_at_call 25; refine (isNegativeDisc_a _ _).mono ?_; rintro e w' ⟨rfl, rfl⟩) | (go_at_call 53; refine (within_a _ _).mono ?_; rintro e w' ⟨rfl, rfl⟩))
     all_goals (go_ret; exact ⟨by rw [unhide HV]; first | done | rfl | (simp [*]; done), byGG⟩)
    ·cases kx : inB ex 1 1000
     ·have HV : Hid (rwB ⟨d, cprV z n, ge, ex⟩ n z = false) := hide (by rw [unhide HV0, kx]; simp)
      go_enter Tryz.func35, Tryz.ntmps35
      go_wp2_with (first | (go_at_call 52; refine (isChain_a v n z _ (unhide HA) hn).mono ?_; rintro e w' ⟨rfl, rfl⟩) | (go_at_call 25; refine (isNegativeDisc_a _ _).mono ?_; rintro e w' ⟨rfl, rfl⟩) | (go_at_call 53; refine (within_a _ _).mono ?_; rintro e w' ⟨rfl, rfl⟩))
      all_goals (go_ret; exact ⟨by rw [unhide HV]; first | done | rfl | (simp [*]; done), byGG⟩)
     ·have HV : Hid (rwB ⟨d, cprV z n, ge, ex⟩ n z = true) := hide (by rw [unhide HV0, kg, kx]; rfl)
      go_enter Tryz.func35, Tryz.ntmps35
      go_wp2_with (first | (go_at_call 52; refine (isChain_a v n z _ (unhide HA) hn).mono ?_; rintro e w' ⟨rfl, rfl⟩) | (go_at_call 25; refine (isNegativeDisc_a _ _).mono ?_; rintro e w' ⟨rfl, rfl⟩) | (go_at_call 53; refine (within_a _ _).mono ?_; rintro e w' ⟨rfl, rfl⟩))
      all_goals (go_ret; exact ⟨by rw [unhide HV]; first | done | rfl | (simp [*]; done), byGG⟩)
   ·have ke' : ¬ num = cprV z n := fun e => ke e.symm
    have HV : Hid (rwB ⟨d, num, ge, ex⟩ n z = false) := hide (by simp [rwB, ke])
    go_enter Tryz.func35, Tryz.ntmps35
    go_wp2_with (first | (go_at_call 52; refine (isChain_a v n z _ (unhide HA) hn).mono ?_; rintro e w' ⟨rfl, rfl⟩) | (go_at_call 25; refine (isNegativeDisc_a _ _).mono ?_; rintro e w' ⟨rfl, rfl⟩) | (go_at_call 53; refine (within_a _ _).mono ?_; rintro e w' ⟨rfl, rfl⟩))
    all_goals (go_ret; exact ⟨by rw [unhide HV]; first | done | rfl | (simp [*]; done), byGG⟩)

set_option maxRecDepth 100000 in
set_option maxHeartbeats 4000000 in
theorem tbGood_a (r : RowV) (v : Value) (n : Nat) (z : Nat → Int) (w : World) (h : ArgI w v n z) (hn : n ≤ 2000000) (hr : RowOk r) :
  Calls Tryz.prog 32 #[rwv r v] w fun e w' => e = .returned (.bool (rwB r n z)) ∧ Below w.heap.size w w' := by
 obtain ⟨d, num, ge, ex⟩ := r
 obtain ⟨i0, i1, i2, i3⟩ := hr
 have HA : Hid (ArgI (w.alloc (.cells #[.int .i64 d, .int .i64 num, v, .int .i64 ge, .int .i64 ex] 24)) v n z) := hide (h.below (below_alloc_self _ _))
 clear h
 cases kb : chB z n
 ·have HV : Hid (rwB ⟨d, num, ge, ex⟩ n z = false) := hide (by unfold rwB; rw [kb]; rfl)
  go_enter Tryz.func32, Tryz.ntmps32
  go_wp2_with (first | (go_at_call 49; refine (tbFactors_a v n z _ (unhide HA) hn).mono ?_; rintro e w' ⟨rfl, rfl⟩) | (go_at_call 23; refine (reDisc_a _ _).mono ?_; rintro e w' ⟨rfl, rfl⟩) | (go_at_call 37; refine (l1In_any _ _ _ _).mono ?_; rintro e w' ⟨rfl, rfl⟩))
  all_goals (go_ret; exact ⟨by rw [unhide HV]; first | done | rfl | (simp [*]; done), byGG⟩)
 ·cases kd : negB d
  ·have HV : Hid (rwB ⟨d, num, ge, ex⟩ n z = false) := hide (by simp [rwB, kd])
   go_enter Tryz.func32, Tryz.ntmps32
   go_wp2_with (first | (go_at_call 49; refine (tbFactors_a v n z _ (unhide HA) hn).mono ?_; rintro e w' ⟨rfl, rfl⟩) | (go_at_call 23; refine (reDisc_a _ _).mono ?_; rintro e w' ⟨rfl, rfl⟩) | (go_at_call 37; refine (l1In_any _ _ _ _).mono ?_; rintro e w' ⟨rfl, rfl⟩))
   all_goals (go_ret; exact ⟨by rw [unhide HV]; first | done | rfl | (simp [*]; done), byGG⟩)
  ·by_cases ke : cprV z n = num
   ·have ke' : num = cprV z n := ke.symm
    have HV0 : Hid (rwB ⟨d, num, ge, ex⟩ n z = (inB ge 1 1000 && inB ex 1 1000)) := hide (by simp [rwB, kb, kd, ke])
    subst ke
    clear ke'
    cases kg : inB ge 1 1000
    ·have HV : Hid (rwB ⟨d, cprV z n, ge, ex⟩ n z = false) := hide (by rw [unhide HV0, kg]; rfl)
     go_enter Tryz.func32, Tryz.ntmps32
     go_wp2_with (first | (go_at_call 49; refine (tbFactors_a v n z _ (unhide HA) hn).mono ?_; rintro e w' ⟨rfl, rfl⟩) | (go_at_call 23; refine (reDisc_a _ _).mono ?_; rintro e w' ⟨rfl, rfl⟩) | (go_at_call 37; refine (l1In_any _ _ _ _).mono ?_; rintro e w' ⟨rfl, rfl⟩))
     all_goals (go_ret; exact ⟨by rw [unhide HV]; first | done | rfl | (simp [*]; done), byGG⟩)
    ·cases kx : inB ex 1 1000
     ·have HV : Hid (rwB ⟨d, cprV z n, ge, ex⟩ n z = false) := hide (by rw [unhide HV0, kx]; simp)
      go_enter Tryz.func32, Tryz.ntmps32
      go_wp2_with (first | (go_at_call 49; refine (tbFactors_a v n z _ (unhide HA) hn).mono ?_; rintro e w' ⟨rfl, rfl⟩) | (go_at_call 23; refine (reDisc_a _ _).mono ?_; rintro e w' ⟨rfl, rfl⟩) | (go_at_call 37; refine (l1In_any _ _ _ _).mono ?_; rintro e w' ⟨rfl, rfl⟩))
      all_goals (go_ret; exact ⟨by rw [unhide HV]; first | done | rfl | (simp [*]; done), byGG⟩)
     ·have HV : Hid (rwB ⟨d, cprV z n, ge, ex⟩ n z = true) := hide (by rw [unhide HV0, kg, kx]; rfl)
      go_enter Tryz.func32, Tryz.ntmps32
      go_wp2_with (first | (go_at_call 49; refine (tbFactors_a v n z _ (unhide HA) hn).mono ?_; rintro e w' ⟨rfl, rfl⟩) | (go_at_call 23; refine (reDisc_a _ _).mono ?_; rintro e w' ⟨rfl, rfl⟩) | (go_at_call 37; refine (l1In_any _ _ _ _).mono ?_; rintro e w' ⟨rfl, rfl⟩))
      all_goals (go_ret; exact ⟨by rw [unhide HV]; first | done | rfl | (simp [*]; done), byGG⟩)
   ·have ke' : ¬ num = cprV z n := fun e => ke e.symm
    have HV : Hid (rwB ⟨d, num, ge, ex⟩ n z = false) := hide (by simp [rwB, ke])
    go_enter Tryz.func32, Tryz.ntmps32
    go_wp2_with (first | (go_at_call 49; refine (tbFactors_a v n z _ (unhide HA) hn).mono ?_; rintro e w' ⟨rfl, rfl⟩) | (go_at_call 23; refine (reDisc_a _ _).mono ?_; rintro e w' ⟨rfl, rfl⟩) | (go_at_call 37; refine (l1In_any _ _ _ _).mono ?_; rintro e w' ⟨rfl, rfl⟩))
    all_goals (go_ret; exact ⟨by rw [unhide HV]; first | done | rfl | (simp [*]; done), byGG⟩)

end Go.Proofs.YtaeabefbohlcpaaGreat
namespace Go.Proofs.YtaeabefbohlcpaaGreat
open Go.RowKit
set_option linter.unusedVariables false
set_option linter.unusedSimpArgs false
attribute [local go_sem] q2 q3 q4 q5 q6 q7 q8 q9 q10 q11 q12

set_option maxRecDepth 100000 in
set_option maxHeartbeats 1000000 in
theorem szRow_a (r : RowV) (v : Value) (n : Nat) (l : Int) (z : Nat → Int) (w : World) (h : ArgI w v n z) (hn : n ≤ 9223372036854775807) (hl : 0 ≤ l ∧ l ≤ 1000000000) :
  Calls Tryz.prog 31 #[rwv r v, .int .i64 l] w fun e w' => e = .returned (.int .i64 (if l < n then -1 else l - n)) ∧ Below w.heap.size w w' := by
 have HA : Hid (ArgI (w.alloc (.cells #[.int .i64 r.d, .int .i64 r.num, v, .int .i64 r.ge, .int .i64 r.ex] 47)) v n z) := hide (h.below (below_alloc_self _ _))
 clear h
 obtain ⟨x, hx⟩ : ∃ x, (if l < (n : Int) then (-1 : Int) else l - n) = x := ⟨_, rfl⟩
 have hxx : x = -1 ∨ 0 ≤ x := by rw [← hx]; split <;> omega
 have hsz : ∀ W, ArgI W v n z → Calls Tryz.prog 48 #[v, .int .i64 l] W fun e w' => e = .returned (.int .i64 x) ∧ W = w' := fun W hW => by rw [← hx]; exact szIntS_a v n l z W hW hn hl
 rw [hx]
 clear hx
 have HZ := hide hsz
 clear hsz
 rcases hxx with hq | hq
 ·have q0 : x < 0 := by omega
  have HQ := hide hq
  clear hq
  go_enter Tryz.func31, Tryz.ntmps31
  go_wp2_with (go_at_call 48; refine (unhide HZ _ (unhide HA)).mono ?_; rintro e w' ⟨rfl, rfl⟩)
  go_ret
  exact ⟨ret_int (by rw [unhide HQ]), byGG⟩
 ·go_enter Tryz.func31, Tryz.ntmps31
  go_wp2_with (go_at_call 48; refine (unhide HZ _ (unhide HA)).mono ?_; rintro e w' ⟨rfl, rfl⟩)
  go_ret
  exact ⟨rfl, byGG⟩
end Go.Proofs.YtaeabefbohlcpaaGreat
namespace Go.Proofs.YtaeabefbohlcpaaGreat
open Go.RowKit
set_option linter.unusedVariables false
set_option linter.unusedSimpArgs false
attribute [local go_sem] q2 q3 q4 q5 q6 q7 q8 q9 q10 q11 q12

structure TR where
 r : RowV
 a : Option Addr
 c : Nat
 lo : Nat
 hi : Nat
 zs : List Int
def tr0 : TR := ⟨⟨0, 0, 0, 0⟩, none, 0, 0, 0, []⟩
def TR.cells (t : TR) : List Value := [.int .i64 t.r.d, .int .i64 t.r.num, .slice t.a t.zs.length t.c, .int .i64 t.r.ge, .int .i64 t.r.ex]
def cellsR : List TR → List Value
 | [] => []
 | t :: ts => t.cells ++ cellsR ts
theorem cellsR_app : ∀ (ts : List TR) (t : TR), cellsR (ts ++ [t]) = cellsR ts ++ t.cells
 | [], t => by simp [cellsR]
 | s :: ts, t => by simp [cellsR, cellsR_app ts t]
theorem cellsR_at : ∀ (ts : List TR) (i j : Nat), i < ts.length → j < 5 → (cellsR ts)[i * 5 + j]? = (ts.getD i tr0).cells[j]?
 | t :: ts, 0, j, _, hj => by
  have : j < t.cells.length := by simpa [TR.cells] using hj
  simp [cellsR, List.getElem?_append_left this]
 | t :: ts, i + 1, j, hi, hj => by
  have e : (i + 1) * 5 + j = t.cells.length + (i * 5 + j) := by simp [TR.cells]; omega
  have := cellsR_at ts i j (by simpa using hi) hj
  rw [cellsR, e, List.getElem?_append_right (by omega)]
  simpa using this
theorem gdR {α : Type} {l : List α} {x d : α} {i : Nat} : (l ++ [x]).getD i d = if i = l.length then x else if i < l.length then l.getD i d else d := by
 by_cases q : i < l.length
 ·rw [if_neg (by omega), if_pos q, List.getD_eq_getElem?_getD, List.getElem?_append_left q, ← List.getD_eq_getElem?_getD]
 ·by_cases e : i = l.length
  ·subst e; rw [if_pos rfl, List.getD_eq_getElem?_getD]; simp
  ·rw [if_neg e, if_neg q, List.getD_eq_getElem?_getD, List.getElem?_eq_none (by simp; omega)]; rfl
def TR.ints (t : TR) (W : World) : Prop := IntsAt W t.lo t.hi t.a t.zs.length (fun i => t.zs.getD i 0)
structure GT (w : World) (LO HI : Nat) (S : World → Prop) (wr : World) (a : Option Addr) (n c : Nat) (ts : List TR) : Prop where
 len : Hid (n = ts.length)
 sd : SD 24 5 w LO HI S wr (.slice a n c) n (cellsR ts)
 inn : ∀ j, j < ts.length → (ts.getD j tr0).ints wr
 low : ∀ j, j < ts.length → w.heap.size ≤ (ts.getD j tr0).lo
 top : ∀ j, j < ts.length → (ts.getD j tr0).hi ≤ wr.heap.size
 ord : ∀ i j, i < j → j < ts.length → (ts.getD i tr0).hi ≤ (ts.getD j tr0).lo
 out : ∀ b, (Value.slice a n c).ownBlock = some b → ∀ j, j < ts.length → b < (ts.getD j tr0).lo ∨ (ts.getD j tr0).hi ≤ b
theorem GT.call {w wr w2 : World} {LO HI n c : Nat} {S : World → Prop} {a : Option Addr} {ts : List TR} (h : GT w LO HI S wr a n c ts) (hK : Kept LO HI S) (hb : Below wr.heap.size wr w2) : GT w LO HI S w2 a n c ts :=
 ⟨h.len, h.sd.call hK hb, fun j hj => (h.inn j hj).below hb (h.top j hj), h.low, fun j hj => Nat.le_trans (h.top j hj) hb.size, h.ord, h.out⟩
theorem GT.new {w wr w1 w2 : World} {LO HI n c g cap : Nat} {S : World → Prop} {a : Option Addr} {ts : List TR} {t : TR} {o : Obj} (h : GT w LO HI S wr a n c ts) (hK : Kept LO HI S) (hb : Below wr.heap.size wr w1)
  (hlo : t.lo = wr.heap.size) (hhi : t.hi = w1.heap.size) (hi : t.ints w1)
  (hown : w2.ownsRow w.heap.size 24 5 (.slice (some ⟨g, 0, none⟩) (n + 1) cap) (n + 1) (cellsR ts ++ t.cells)) (hgrow : (w1.alloc o).grownBy w2 (Value.slice a n c).ownBlock) (hat : (Value.slice a n c).ownBlock = some g ∨ g = (w1.alloc o).heap.size) :
  GT w LO HI S w2 (some ⟨g, 0, none⟩) (n + 1) cap (ts ++ [t]) := by
 have hsd := h.sd
 have hs := hb.size
 have hs2 := hgrow.size
 simp only [World.size_alloc] at hs2 hat
 have hlt : ∀ b, (Value.slice a n c).ownBlock = some b → b < wr.heap.size := fun b e => (World.ownsRow.lt hsd.own b e).2
 have hln := unhide h.len
 refine ⟨hide (by simp [hln]), ?_, fun j hj => ?_, fun j hj => ?_, fun j hj => ?_, fun i j hij hj => ?_, fun b e j hj => ?_⟩
 ·rw [cellsR_app]; exact ((hsd.call hK hb).alloc hK o).app hK hown hgrow (by simpa using hat)
 ·rw [gdR]
  simp only [List.length_append, List.length_singleton] at hj
  split
  ·have q := hi.below (below_alloc_self w1 o) (by omega)
   exact q.grown hgrow (fun k hk => .inl (by have := hlt k hk; omega)) (by simp; omega)
  ·rw [if_pos (by omega)]
   have q := ((h.inn j (by omega)).below hb (h.top j (by omega))).below (below_alloc_self w1 o) (Nat.le_trans (h.top j (by omega)) hs)
   exact IntsAt.grown q hgrow (fun k hk => h.out k hk j (by omega)) (by have := h.top j (by omega); rw [World.size_alloc]; omega)
 ·rw [gdR]
  simp only [List.length_append, List.length_singleton] at hj
  split
  ·have := hsd.bel.size; omega
  ·rw [if_pos (by omega)]; exact h.low j (by omega)
 ·rw [gdR]
  simp only [List.length_append, List.length_singleton] at hj
  split
  ·omega
  ·rw [if_pos (by omega)]; have := h.top j (by omega); omega
 ·simp only [List.length_append, List.length_singleton] at hj
  rw [gdR (i := j), gdR (i := i)]
  rw [if_neg (show i ≠ ts.length by omega), if_pos (show i < ts.length by omega)]
  split
  ·have := h.top i (by omega); omega
  ·rw [if_pos (by omega)]; exact h.ord i j hij (by omega)
 ·have e9 : b = g := by simp [Value.ownBlock] at e; omega
  subst e9
  rw [gdR]
  simp only [List.length_append, List.length_singleton] at hj
  split
  ·rcases hat with q | q
   ·have := hlt b q; left; omega
   ·right; omega
  ·rw [if_pos (by omega)]
   rcases hat with q | q
   ·exact h.out b q j (by omega)
   ·right; have := h.top j (by omega); omega
structure RowsAt (W : World) (lo hi : Nat) (a : Option Addr) (n : Nat) (t : Nat → TR) : Prop where
 ptr : n = 0 ∨ ∃ g, a = some ⟨g, 0, none⟩ ∧ lo ≤ g ∧ g < hi ∧ g < W.heap.size ∧ (∀ i j, i < n → j < 5 → W.cell? ⟨g, i * 5 + j, none⟩ = (t i).cells[j]?) ∧ (∀ o, W.frozen? ⟨g, o, none⟩ = false) ∧ ∀ j, j < n → g < (t j).lo ∨ (t j).hi ≤ g
 inn : ∀ j, j < n → (t j).ints W
 low : ∀ j, j < n → lo ≤ (t j).lo
 top : ∀ j, j < n → (t j).hi ≤ hi
 ord : ∀ i j, i < j → j < n → (t i).hi ≤ (t j).lo
theorem GT.rows {w wr : World} {LO HI n c : Nat} {S : World → Prop} {a : Option Addr} {ts : List TR} (h : GT w LO HI S wr a n c ts) : RowsAt wr w.heap.size wr.heap.size a n (fun i => ts.getD i tr0) := by
 have hl := unhide h.len
 refine ⟨?_, fun j hj => h.inn j (by omega), fun j hj => h.low j (by omega), fun j hj => h.top j (by omega), fun i j hij hj => h.ord i j hij (by omega)⟩
 by_cases z : n = 0
 ·exact .inl z
 ·right
  obtain ⟨g, cap, e⟩ : ∃ g cap, Value.slice a n c = .slice (some ⟨g, 0, none⟩) n cap := by
   rcases h.sd.own.2 with ⟨q1, q2⟩ | ⟨g, cap, cur, q1, _⟩
   ·omega
   ·exact ⟨g, cap, q1⟩
  simp only [Value.slice.injEq] at e
  obtain ⟨rfl, -, rfl⟩ := e
  have q := World.ownsRow.lt h.sd.own g rfl
  refine ⟨g, rfl, q.1, q.2, q.2, fun i j hi hj => ?_, fun o => World.ownsRow.frozenAt h.sd.own o, fun j hj => h.out g rfl j (by omega)⟩
  rw [World.ownsRow.cellAt h.sd.own (i * 5 + j) (by omega), cellsR_at ts i j (by omega) hj]
theorem RowsAt.weak {W : World} {lo hi lo' hi' n : Nat} {a : Option Addr} {t : Nat → TR} (h : RowsAt W lo hi a n t) (h1 : lo' ≤ lo) (h2 : hi ≤ hi') : RowsAt W lo' hi' a n t := by
 refine ⟨?_, h.inn, fun j hj => Nat.le_trans h1 (h.low j hj), fun j hj => Nat.le_trans (h.top j hj) h2, h.ord⟩
 rcases h.ptr with z | ⟨g, e, g1, g2, g3⟩
 ·exact .inl z
 ·exact .inr ⟨g, e, by omega, by omega, g3⟩
theorem RowsAt.below {W W' : World} {lo hi B n : Nat} {a : Option Addr} {t : Nat → TR} (h : RowsAt W lo hi a n t) (hb : Below B W W') (hB : hi ≤ B) (hW : B ≤ W.heap.size) : RowsAt W' lo hi a n t := by
 refine ⟨?_, fun j hj => (h.inn j hj).below hb (Nat.le_trans (h.top j hj) hB), h.low, h.top, h.ord⟩
 rcases h.ptr with z | ⟨g, e, g1, g2, g3, g4, g5, g6⟩
 ·exact .inl z
 ·have hk := hb.block g (by omega)
  exact .inr ⟨g, e, g1, g2, Nat.lt_of_lt_of_le g3 hb.size, fun i j hi hj => by rw [World.cell?_of_block hk]; exact g4 i j hi hj, fun o => by rw [World.frozen?_of_block hk]; exact g5 o, g6⟩
theorem RowsAt.congr {W : World} {lo hi n : Nat} {a : Option Addr} {t t' : Nat → TR} (h : RowsAt W lo hi a n t) (e : ∀ i, i < n → t i = t' i) : RowsAt W lo hi a n t' := by
 refine ⟨?_, fun j hj => by rw [← e j hj]; exact h.inn j hj, fun j hj => by rw [← e j hj]; exact h.low j hj, fun j hj => by rw [← e j hj]; exact h.top j hj, fun i j hij hj => by rw [← e j hj, ← e i (by omega)]; exact h.ord i j hij hj⟩
 rcases h.ptr with z | ⟨g, e1, g1, g2, g3, g4, g5, g6⟩
 ·exact .inl z
 ·exact .inr ⟨g, e1, g1, g2, g3, fun i j hi hj => by rw [← e i hi]; exact g4 i j hi hj, g5, fun j hj => by rw [← e j hj]; exact g6 j hj⟩
theorem infoRow9 : (Tryz.prog.info? 24).map (fun i => (i.zero, i.size, i.bytes)) = some (some (.agg #[.int .i64 0, .int .i64 0, .slice none 0 0, .int .i64 0, .int .i64 0]), 5, 56) := by kernel_rfl
end Go.Proofs.YtaeabefbohlcpaaGreat
namespace Go.Proofs.YtaeabefbohlcpaaGreat
open Go.RowKit
set_option linter.unusedVariables false
set_option linter.unusedSimpArgs false
attribute [local go_sem] q2 q3 q4 q5 q6 q7 q8 q9 q10 q11 q12

theorem RowsAt.nil {W : World} {lo hi n : Nat} {a : Option Addr} {t : Nat → TR} (h : n = 0) : RowsAt W lo hi a n t :=
 ⟨.inl h, fun j hj => by omega, fun j hj => by omega, fun j hj => by omega, fun i j _ hj => by omega⟩
theorem GT.start {w wr : World} {LO HI c : Nat} {S : World → Prop} {a : Option Addr} (h : SD 24 5 w LO HI S wr (.slice a 0 c) 0 []) : GT w LO HI S wr a 0 c [] :=
 ⟨hide rfl, h, fun j hj => absurd hj (by simp), fun j hj => absurd hj (by simp), fun j hj => absurd hj (by simp), fun i j _ hj => absurd hj (by simp), fun b _ j hj => absurd hj (by simp)⟩
theorem five {P : Nat → Prop} (h0 : P 0) (h1 : P 1) (h2 : P 2) (h3 : P 3) (h4 : P 4) : ∀ j, j < 5 → P j := fun j hj => by
 obtain rfl | rfl | rfl | rfl | rfl : j = 0 ∨ j = 1 ∨ j = 2 ∨ j = 3 ∨ j = 4 := by omega
 all_goals assumption
end Go.Proofs.YtaeabefbohlcpaaGreat
namespace Go.Proofs.YtaeabefbohlcpaaGreat
open Go.RowKit
set_option linter.unusedVariables false
set_option linter.unusedSimpArgs false
attribute [local go_sem] q2 q3 q4 q5 q6 q7 q8 q9 q10 q11 q12

theorem RowsAt.ent {W : World} {lo hi n g : Nat} {t : Nat → TR} (h : RowsAt W lo hi (some ⟨g, 0, none⟩) n t) {i : Nat} (q : i < n) :
  (W.cell? ⟨g, i * 5, none⟩ = some (.int .i64 (t i).r.d) ∧ W.cell? ⟨g, i * 5 + 1, none⟩ = some (.int .i64 (t i).r.num) ∧ W.cell? ⟨g, i * 5 + 2, none⟩ = some (.slice (t i).a (t i).zs.length (t i).c) ∧ W.cell? ⟨g, i * 5 + 3, none⟩ = some (.int .i64 (t i).r.ge) ∧ W.cell? ⟨g, i * 5 + 4, none⟩ = some (.int .i64 (t i).r.ex)) ∧
  g < W.heap.size ∧ (∀ o, W.frozen? ⟨g, o, none⟩ = false) ∧ lo ≤ g ∧ g < hi ∧ ∀ j, j < n → g < (t j).lo ∨ (t j).hi ≤ g := by
 rcases h.ptr with z | ⟨g', e, g1, g2, g3, g4, g5, g6⟩
 ·omega
 ·simp only [Option.some.injEq, Addr.mk.injEq] at e
  obtain ⟨rfl, -⟩ := e
  exact ⟨⟨by simpa [TR.cells] using g4 i 0 q (by omega), by simpa [TR.cells] using g4 i 1 q (by omega), by simpa [TR.cells] using g4 i 2 q (by omega), by simpa [TR.cells] using g4 i 3 q (by omega), by simpa [TR.cells] using g4 i 4 q (by omega)⟩, g3, g5, g1, g2, g6⟩
set_option maxRecDepth 100000 in
set_option maxHeartbeats 2000000 in
theorem eqRowS_nil (a1 a2 : Option Addr) (c1 c2 : Nat) (w : World) : Calls Tryz.prog 13 #[.slice a1 0 c1, .slice a2 0 c2] w fun e w' => e = .returned (.bool true) ∧ Below w.heap.size w w' := by
 go_enter Tryz.func13, Tryz.ntmps13
 go_wp2
 go_loopw [5] (fun is wr => is = .int .i64 0 ∧ wr = w) (fun is _ => 0)
 case atStart => exact ⟨rfl, rfl⟩
 case round =>
  obtain ⟨rfl, rfl⟩ := hrel
  go_wp2
  go_ret
  exact ⟨rfl, Below.refl _ _⟩
set_option maxRecDepth 100000 in
set_option maxHeartbeats 4000000 in
theorem eqRowS_a (g1 g2 n c1 c2 lo1 hi1 lo2 hi2 : Nat) (t1 t2 : Nat → TR) (w : World) (hn : n ≤ 2000000) (h1 : RowsAt w lo1 hi1 (some ⟨g1, 0, none⟩) n t1) (h2 : RowsAt w lo2 hi2 (some ⟨g2, 0, none⟩) n t2) (b1 : hi1 ≤ w.heap.size) (b2 : hi2 ≤ w.heap.size)
  (E : Hid (∀ i, i < n → (t1 i).r = (t2 i).r ∧ (t1 i).zs = (t2 i).zs ∧ (t1 i).zs.length ≤ 2000000)) :
  Calls Tryz.prog 13 #[.slice (some ⟨g1, 0, none⟩) n c1, .slice (some ⟨g2, 0, none⟩) n c2] w fun e w' => e = .returned (.bool true) ∧ Below w.heap.size w w' := by
 have H1 := hide h1
 have H2 := hide h2
 clear h1 h2
 go_enter Tryz.func13, Tryz.ntmps13
 go_wp2
 go_loopw [5] (fun is wr => ∃ ix : Nat, ix ≤ n ∧ is = .int .i64 (ix : Int) ∧ Below w.heap.size w wr) (fun is _ => n - (intOf is).toNat)
 case atStart => exact ⟨0, by omega, rfl, Below.refl _ _⟩
 case round =>
  obtain ⟨ix, hi, rfl, hb⟩ := hrel
  obtain ⟨wl, rfl⟩ : ∃ wl : World, wl = wr := ⟨_, rfl⟩
  have hzl := hb.size
  by_cases q : ix < n
  ·have hci : (ix : Int) < (n : Int) := by omega
   have K1 := (unhide H1).below hb b1 (Nat.le_refl _)
   have K2 := (unhide H2).below hb b2 (Nat.le_refl _)
   obtain ⟨⟨c00, c01, c02, c03, c04⟩, gb1, -⟩ := K1.ent q
   obtain ⟨⟨c10, c11, c12, c13, c14⟩, gb2, -⟩ := K2.ent q
   obtain ⟨e1, e2, e3⟩ := unhide E ix q
   have HEQ : Hid (∀ W, Below wl.heap.size wl W → Calls Tryz.prog 8 #[rwv (t1 ix).r (.slice (t1 ix).a (t1 ix).zs.length (t1 ix).c), rwv (t2 ix).r (.slice (t2 ix).a (t2 ix).zs.length (t2 ix).c)] W fun e w' => e = .returned (.bool true) ∧ Below W.heap.size W w') := hide fun W hbW => by
    have i1 := (K1.inn ix q).below hbW (Nat.le_trans (K1.top ix q) (Nat.le_trans b1 hzl))
    have i2 := (K2.inn ix q).below hbW (Nat.le_trans (K2.top ix q) (Nat.le_trans b2 hzl))
    unfold TR.ints at i2
    rw [← e1, ← e2] at *
    exact eqRow_b _ _ _ _ _ _ _ _ _ _ _ W (by omega) i1 i2 (by have := K1.top ix q; have := hbW.size; omega) (by have := K2.top ix q; have := hbW.size; omega)
   rw [← e1, ← e2] at HEQ
   rw [← e1] at c10 c11 c13 c14
   rw [← e2] at c12
   clear K1 K2 e1 e2
   generalize (t1 ix).r = r at *
   generalize (t1 ix).zs.length = n9 at *
   generalize (t1 ix).a = x1 at *
   generalize (t1 ix).c = d1 at *
   generalize (t2 ix).a = x2 at *
   generalize (t2 ix).c = d2 at *
   go_upto_region 6 with fail
   go_cut [26] (fun s26 wx => s26 = .bool false ∧ wx.cell? ⟨g1, ix * 5, none⟩ = some (.int .i64 r.d) ∧ wx.cell? ⟨g1, ix * 5 + 1, none⟩ = some (.int .i64 r.num) ∧ wx.cell? ⟨g1, ix * 5 + 2, none⟩ = some (.slice x1 n9 d1) ∧ wx.cell? ⟨g1, ix * 5 + 3, none⟩ = some (.int .i64 r.ge) ∧ wx.cell? ⟨g1, ix * 5 + 4, none⟩ = some (.int .i64 r.ex) ∧ wx.cell? ⟨g2, ix * 5, none⟩ = some (.int .i64 r.d) ∧ wx.cell? ⟨g2, ix * 5 + 1, none⟩ = some (.int .i64 r.num) ∧ wx.cell? ⟨g2, ix * 5 + 2, none⟩ = some (.slice x2 n9 d2) ∧ wx.cell? ⟨g2, ix * 5 + 3, none⟩ = some (.int .i64 r.ge) ∧ wx.cell? ⟨g2, ix * 5 + 4, none⟩ = some (.int .i64 r.ex) ∧ Below wl.heap.size wl wx)
   case first =>
    have h1 := trivial
    rename_i K2 h2 h3
    refine region_n0 (by kernel_rfl) (fun j => #[17,18,19,20,21,22,23,24,25,26].getD j 0) (fun j => Kd.ok ((fun j => match j with | 0 => Kd.val (.slice (some ⟨g1, 0, none⟩) n c1) | 1 => Kd.val (.int .i64 ((ix : Int))) | 2 => Kd.val (.pointer (some ⟨g1, ix * 5, none⟩)) | 3 => Kd.val (.agg #[.int .i64 r.d, .int .i64 r.num, .slice x1 n9 d1, .int .i64 r.ge, .int .i64 r.ex]) | 4 => Kd.val (.slice (some ⟨g2, 0, none⟩) n c2) | 5 => Kd.val (.int .i64 ((ix : Int))) | 6 => Kd.val (.pointer (some ⟨g2, ix * 5, none⟩)) | 7 => Kd.val (.agg #[.int .i64 r.d, .int .i64 r.num, .slice x2 n9 d2, .int .i64 r.ge, .int .i64 r.ex]) | 8 => Kd.val (.bool true) | 9 => Kd.val (.bool false) | _ => Kd.any : Nat → Kd) j)) (Sy wl (wl.heap.size) [(⟨g1, ix * 5, none⟩, .int .i64 r.d), (⟨g1, ix * 5 + 1, none⟩, .int .i64 r.num), (⟨g1, ix * 5 + 2, none⟩, .slice x1 n9 d1), (⟨g1, ix * 5 + 3, none⟩, .int .i64 r.ge), (⟨g1, ix * 5 + 4, none⟩, .int .i64 r.ex), (⟨g2, ix * 5, none⟩, .int .i64 r.d), (⟨g2, ix * 5 + 1, none⟩, .int .i64 r.num), (⟨g2, ix * 5 + 2, none⟩, .slice x2 n9 d2), (⟨g2, ix * 5 + 3, none⟩, .int .i64 r.ge), (⟨g2, ix * 5 + 4, none⟩, .int .i64 r.ex)] []) (by kernel_rfl) (by kernel_rfl) ?_ ?_ ?_ ?_
    ·intro j hj
     have hj2 : j < 10 := hj
     have : ∀ j, j < 10 → (#[17,18,19,20,21,22,23,24,25,26] : Array Nat).getD j 0 < 27 := by decide
     exact this j hj2
    ·refine Sy.drew (Sy.mk_of ?_ ?_ ?_ ?_)
     ·first | rfl | (simp; done) | (simp; omega)
     ·intro c hc
      simp only [List.mem_cons, List.not_mem_nil, or_false] at hc
      rcases hc with rfl | rfl | rfl | rfl | rfl | rfl | rfl | rfl | rfl | rfl <;> exact byCT
     ·intro p hp; cases hp
     ·(repeat' first | with_reducible (first | exact Below.refl _ _ | assumption | refine gr_alloc ?_ _ | refine below_drewN ?_ _ | refine below_drew ?_ | refine gr_call ?_ (by assumption) | refine Below.setCell ?_ ?_ _) | go_size | omega | (simp; omega))
    ·clear h1 h2 h3
     refine ⟨?r1x0, ?r1x1, ?r1x2, ?r1x3, ?r1x4, ?r1x5, ?r1x6, ?r1x7, ?r1x8, ?r1x9, trivial⟩
     all_goals intro _ aq wx Kq hf hS hdep ev1 ev2 hK
     case' r1x0 =>
      have F0 : aq.eval (.tmp 0) = .slice (some ⟨g1, 0, none⟩) n c1 := hf 0
     case' r1x1 =>
      have F5 : aq.eval (.tmp 5) = .int .i64 ((ix : Int)) := hf 5
     case' r1x2 =>
      have D0 : aq.eval (.tmp 17) = _ := hdep 0
      have D1 : aq.eval (.tmp 18) = _ := hdep 1
     case' r1x3 =>
      have D2 : aq.eval (.tmp 19) = _ := hdep 2
      have c0 := hS.cells (⟨g1, ix * 5, none⟩, .int .i64 r.d) (by simp)
      have c1 := hS.cells (⟨g1, ix * 5 + 1, none⟩, .int .i64 r.num) (by simp)
      have c2 := hS.cells (⟨g1, ix * 5 + 2, none⟩, .slice x1 n9 d1) (by simp)
      have c3 := hS.cells (⟨g1, ix * 5 + 3, none⟩, .int .i64 r.ge) (by simp)
      have c4 := hS.cells (⟨g1, ix * 5 + 4, none⟩, .int .i64 r.ex) (by simp)
     case' r1x4 =>
      have F1 : aq.eval (.tmp 1) = .slice (some ⟨g2, 0, none⟩) n c2 := hf 1
     case' r1x5 =>
      have F5 : aq.eval (.tmp 5) = .int .i64 ((ix : Int)) := hf 5
     case' r1x6 =>
      have D4 : aq.eval (.tmp 21) = _ := hdep 4
      have D5 : aq.eval (.tmp 22) = _ := hdep 5
     case' r1x7 =>
      have D6 : aq.eval (.tmp 23) = _ := hdep 6
      have c0 := hS.cells (⟨g2, ix * 5, none⟩, .int .i64 r.d) (by simp)
      have c1 := hS.cells (⟨g2, ix * 5 + 1, none⟩, .int .i64 r.num) (by simp)
      have c2 := hS.cells (⟨g2, ix * 5 + 2, none⟩, .slice x2 n9 d2) (by simp)
      have c3 := hS.cells (⟨g2, ix * 5 + 3, none⟩, .int .i64 r.ge) (by simp)
      have c4 := hS.cells (⟨g2, ix * 5 + 4, none⟩, .int .i64 r.ex) (by simp)
     case' r1x8 =>
      have D3 : aq.eval (.tmp 20) = _ := hdep 3
      have D7 : aq.eval (.tmp 24) = _ := hdep 7
     case' r1x9 =>
      have D8 : aq.eval (.tmp 25) = _ := hdep 8
     all_goals (clear hf hdep; unfold Oper.wp; generalize Act.eval _ = ev at *; go_simp)
     case' r1x2 =>
      try rw [if_pos (by omega), Oper.upon_value]
     case' r1x6 =>
      try rw [if_pos (by omega), Oper.upon_value]
     case r1x8 =>
      refine ((unhide HEQ _ hS.below)).mono ?_
      rintro e w2 ⟨rfl, hb⟩
      refine hK _ _ (hS.call hb) ?_ (fun j u _ h => Kd.ok_below hb h)
      rw [if_pos (by rfl)]
      show (_ : Value) = _
      first | rfl | (refine congrArg (Value.int .i64) ?_; first | rfl | exact int_in (by omega) | exact quo_in (by omega) (by omega) (by omega) | exact rem_in (by omega) (by omega) | omega | (simp [*]; done)) | (simp; done) | (simp [*]; done)
     all_goals (refine hK _ _ hS ?_ (fun j u _ h => h); rw [if_pos (by rfl)]; show (_ : Value) = _; (first | rfl | (refine congrArg (Value.int .i64) ?_; first | rfl | exact int_in (by omega) | exact quo_in (by omega) (by omega) (by omega) | exact rem_in (by omega) (by omega) | omega | (simp [*]; done)) | (simp; done) | (simp [*]; done)))
    ·intro aq wx hd hw hf hS hg
     have G26 : tau aq 26 = .bool false := hg 9 (by decide)
     have haq : aq = ⟨#[tau aq 0, tau aq 1, tau aq 2, tau aq 3, tau aq 4, tau aq 5, tau aq 6, tau aq 7, tau aq 8, tau aq 9, tau aq 10, tau aq 11, tau aq 12, tau aq 13, tau aq 14, tau aq 15, tau aq 16, tau aq 17, tau aq 18, tau aq 19, tau aq 20, tau aq 21, tau aq 22, tau aq 23, tau aq 24, tau aq 25, tau aq 26], []⟩ := by
      obtain ⟨tq, dq⟩ := aq
      have h5 := arr_eq (show tq.size = 27 from hw)
      have h6 : dq = [] := hd
      subst h6
      exact congrArg (fun z => Act.mk z []) h5
     show K2 aq wx
     rw [haq, hf 0, hf 1, hf 2, hf 3, hf 4, hf 5, hf 6, hf 7, hf 8, hf 9, hf 10, hf 11, hf 12, hf 13, hf 14, hf 15, hf 16, G26]
     clear haq hf hd hw
     try dsimp only
     refine h3 _ _ ?_
     go_meet
     refine ⟨rfl, ?_, ?_, ?_, ?_, ?_, ?_, ?_, ?_, ?_, ?_, hS.below⟩
     all_goals first | exact hS.cells (_, _) (by simp) | exact (hS.free _ (by simp)).2
   try clear c00
   try clear c01
   try clear c02
   try clear c03
   try clear c04
   try clear z0
   try clear c10
   try clear c11
   try clear c12
   try clear c13
   try clear c14
   try clear z1
   obtain ⟨rfl, c00, c01, c02, c03, c04, c10, c11, c12, c13, c14, hb0⟩ := hcut
   have z0 := World.block_lt_of_cell? _ _ c00
   change g1 < wc.heap.size at z0
   have z1 := World.block_lt_of_cell? _ _ c10
   change g2 < wc.heap.size at z1
   go_wp2
   go_roundw
   case rel => exact ⟨ix + 1, by omega, by first | rfl | go_num, hb.trans (hb0.mono hzl)⟩
   case measure => simp [intOf]; omega
  ·obtain rfl : ix = n := by omega
   go_wp2
   go_ret
   exact ⟨rfl, hb⟩
end Go.Proofs.YtaeabefbohlcpaaGreat
namespace Go.Proofs.YtaeabefbohlcpaaGreat
open Go.RowKit
set_option linter.unusedVariables false
set_option linter.unusedSimpArgs false
attribute [local go_sem] q2 q3 q4 q5 q6 q7 q8 q9 q10 q11 q12

def mkK (t : Nat → TR) : Nat → Int
 | 0 => 1
 | i + 1 => mkK t i + 4 + (t i).zs.length
def mkT (k : Int) (t : TR) : TR := ⟨⟨k, k + 1, k + 1 + 1 + t.zs.length, k + 1 + 1 + t.zs.length + 1⟩, t.a, t.c, t.lo, t.hi, (List.range t.zs.length).map (fun i : Nat => k + 1 + 1 + (i : Int))⟩
theorem mkT_len (k : Int) (t : TR) : (mkT k t).zs.length = t.zs.length := by simp [mkT]
theorem mkT_at (k : Int) (t : TR) {i : Nat} (h : i < t.zs.length) : (mkT k t).zs.getD i 0 = k + 1 + 1 + (i : Int) := by
 simp [mkT, List.getD_eq_getElem?_getD, List.getElem?_range h]
theorem RowsAt.put {W W3 : World} {lo hi n g i : Nat} {t : Nat → TR} {T : TR} (h : RowsAt W lo hi (some ⟨g, 0, none⟩) n t) (q : i < n) (hlo : T.lo = (t i).lo) (hhi : T.hi = (t i).hi)
  (hc : ∀ j, j < 5 → W3.cell? ⟨g, i * 5 + j, none⟩ = T.cells[j]?) (ho : ∀ o, o < i * 5 ∨ i * 5 + 5 ≤ o → W3.cell? ⟨g, o, none⟩ = W.cell? ⟨g, o, none⟩) (hf : ∀ o, W3.frozen? ⟨g, o, none⟩ = false) (hs : W.heap.size ≤ W3.heap.size)
  (hb : ∀ k, k ≠ g → k < (t i).lo ∨ (t i).hi ≤ k → k < W.heap.size → W3.heap[k]? = W.heap[k]?) (h9 : hi ≤ W.heap.size) (hT : T.ints W3) : RowsAt W3 lo hi (some ⟨g, 0, none⟩) n (fun j => if j = i then T else t j) := by
 rcases h.ptr with z | ⟨g', e, g1, g2, g3, g4, g5, g6⟩
 ·omega
 ·simp only [Option.some.injEq, Addr.mk.injEq] at e
  obtain ⟨rfl, -⟩ := e
  refine ⟨.inr ⟨g, rfl, g1, g2, by omega, fun j k hj hk => ?_, hf, fun j hj => ?_⟩, fun j hj => ?_, fun j hj => ?_, fun j hj => ?_, fun j k hjk hk => ?_⟩
  ·by_cases e : j = i
   ·subst e; simpa using hc k hk
   ·simp only [e, if_false]; rw [ho _ (by omega)]; exact g4 j k hj hk
  ·by_cases e : j = i
   ·subst e; simp only [if_true]; rw [hlo, hhi]; exact g6 j hj
   ·simp only [e, if_false]; exact g6 j hj
  ·by_cases e : j = i
   ·subst e; simpa using hT
   ·simp only [e, if_false]
    refine IntsAt.keep (h.inn j hj) fun k k1 k2 => hb k ?_ ?_ ?_
    ·have := g6 j hj; omega
    ·rcases Nat.lt_or_gt_of_ne e with l | l
     ·have := h.ord j i l q; omega
     ·have := h.ord i j l hj; omega
    ·have := h.top j hj; omega
  ·by_cases e : j = i
   ·subst e; simp only [if_true]; rw [hlo]; exact h.low j hj
   ·simp only [e, if_false]; exact h.low j hj
  ·by_cases e : j = i
   ·subst e; simp only [if_true]; rw [hhi]; exact h.top j hj
   ·simp only [e, if_false]; exact h.top j hj
  ·have e9 : ∀ j, (if j = i then T else t j).lo = (t j).lo := fun j => by by_cases e : j = i; (subst e; simp [hlo]); simp [e]
   have e8 : ∀ j, (if j = i then T else t j).hi = (t j).hi := fun j => by by_cases e : j = i; (subst e; simp [hhi]); simp [e]
   rw [e8 j, e9 k]; exact h.ord j k hjk hk
theorem markIntS_z (a : Option Addr) (lo hi n c : Nat) (kz : Int) (f : Nat → Int) (w : World) (hn : n ≤ 2000000) (h0 : 0 ≤ kz) (h1 : kz ≤ 20000000) (h : IntsAt w lo hi a n f) :
  Calls Tryz.prog 21 #[.slice a n c, .int .i64 kz] w fun e w' => e = .returned (.int .i64 (kz + n)) ∧ IntsAt w' lo hi a n (fun i => kz + i) ∧ (∀ j, j < lo ∨ hi ≤ j → j < w.heap.size → w'.heap[j]? = w.heap[j]?) ∧ w'.heap.size = w.heap.size ∧ Below lo w w' := by
 obtain ⟨k, rfl⟩ := Int.eq_ofNat_of_zero_le h0
 exact markIntS_box a lo hi n c k f w (by omega) (by omega) h
set_option maxRecDepth 100000 in
set_option maxHeartbeats 4000000 in
theorem markRowS_a (g n c lo hi : Nat) (t : Nat → TR) (w : World) (hn : n ≤ 2000000) (h : RowsAt w lo hi (some ⟨g, 0, none⟩) n t) (h9 : hi ≤ w.heap.size) (hlo : lo ≤ hi) (E : ∀ i, i < n → (t i).zs.length ≤ 2000000) (HK : ∀ i, i ≤ n → 1 ≤ mkK t i ∧ mkK t i ≤ 10000000) :
  Calls Tryz.prog 14 #[.slice (some ⟨g, 0, none⟩) n c, .int .i64 1] w fun e w' => e = .returned (.int .i64 (mkK t n)) ∧ RowsAt w' lo hi (some ⟨g, 0, none⟩) n (fun j => mkT (mkK t j) (t j)) ∧ (∀ k, k < lo ∨ hi ≤ k → k < w.heap.size → w'.heap[k]? = w.heap[k]?) ∧ w'.heap.size = w.heap.size ∧ Below lo w w' := by
 go_enter Tryz.func14, Tryz.ntmps14
 go_wp2
 go_loopw [1, 5] (fun ks is wr => ∃ ix : Nat, ix ≤ n ∧ is = .int .i64 (ix : Int) ∧ ks = .int .i64 (mkK t ix) ∧ RowsAt wr lo hi (some ⟨g, 0, none⟩) n (fun j => if j < ix then mkT (mkK t j) (t j) else t j) ∧ (∀ k, k < lo ∨ hi ≤ k → k < w.heap.size → wr.heap[k]? = w.heap[k]?) ∧ wr.heap.size = w.heap.size ∧ Below lo w wr) (fun _ is _ => n - (intOf is).toNat)
 case atStart => exact ⟨0, by omega, rfl, rfl, h.congr (fun i _ => by simp), fun _ _ _ => rfl, rfl, Below.refl _ _⟩
 case round =>
  obtain ⟨ix, hi2, rfl, rfl, hr, hk9, hs9, hb9⟩ := hrel
  obtain ⟨wl, rfl⟩ : ∃ wl : World, wl = wr := ⟨_, rfl⟩
  have HS := hide hs9
  clear hs9
  by_cases q : ix < n
  ·have hci : (ix : Int) < (n : Int) := by omega
   obtain ⟨x1, x2⟩ := HK ix hi2
   have en := hr.ent q
   simp only [Nat.lt_irrefl, if_false] at en
   obtain ⟨⟨c0, c1, c2, c3, c4⟩, gb, fz, gl, gh, out⟩ := en
   have inn := hr.inn ix q
   simp only [Nat.lt_irrefl, if_false] at inn
   have outi := out ix q
   simp only [Nat.lt_irrefl, if_false] at outi
   have top := hr.top ix q
   have low := hr.low ix q
   simp only [Nat.lt_irrefl, if_false] at top low
   have hl7 := E ix q
   have KN : Hid (mkK t (ix + 1) = mkK t ix + 4 + ((t ix).zs.length : Int)) := hide rfl
   have f0 := fz (ix * 5)
   have f1 := fz (ix * 5 + 1)
   have f3 := fz (ix * 5 + 3)
   have f4 := fz (ix * 5 + 4)
   obtain ⟨T0, hT0⟩ : ∃ T0, t ix = T0 := ⟨_, rfl⟩
   rw [hT0] at c0 c1 c2 c3 c4 inn outi top low hl7 KN
   have HTT := hide hT0
   clear hT0 out
   obtain ⟨x, hx⟩ : ∃ x, mkK t ix = x := ⟨_, rfl⟩
   rw [hx] at x1 x2 KN
   rw [hx]
   have HX := hide hx
   clear hx
   obtain ⟨r, av, cv, lv, hv, zv⟩ := T0
   simp only [TR.ints] at c0 c1 c2 c3 c4 inn outi top low hl7 KN
   generalize hnz : zv.length = nz at *
   have HNZ := hide hnz
   clear hnz
   have HR := hide hr
   have FZ := hide fz
   clear hr fz
   have hxb : x ≤ 10000000 := x2
   clear x2
   go_wp2_with fail
   refine (markIntS_z av lv hv nz cv _ _ _ hl7 (by omega) (by omega) (IntsAt.keep inn (fun k k1 k2 => (Below.heap_setCell _ _ _ _ (show k ≠ g by omega)).trans (Below.heap_setCell _ _ _ _ (show k ≠ g by omega))))).mono ?_
   rintro e w2 ⟨rfl, i2, k2, s2, b2⟩
   have hgk := k2 g outi (by simpa [World.setCell] using gb)
   have HG : ∀ o, w2.cell? ⟨g, o, none⟩ = _ := fun o => World.cell?_of_block hgk
   have HF : ∀ o, w2.frozen? ⟨g, o, none⟩ = _ := fun o => World.frozen?_of_block hgk
   have c0' : w2.cell? ⟨g, ix * 5, none⟩ = some (.int .i64 x) := (HG _).trans byCT
   have c1' : w2.cell? ⟨g, ix * 5 + 1, none⟩ = some (.int .i64 (x + 1)) := (HG _).trans byCT
   have c2' : w2.cell? ⟨g, ix * 5 + 2, none⟩ = some (.slice av nz cv) := (HG _).trans byCT
   have c3' : w2.cell? ⟨g, ix * 5 + 3, none⟩ = some (.int .i64 r.ge) := (HG _).trans byCT
   have c4' : w2.cell? ⟨g, ix * 5 + 4, none⟩ = some (.int .i64 r.ex) := (HG _).trans byCT
   have FF : ∀ o, w2.frozen? ⟨g, o, none⟩ = false := fun o => (HF o).trans (frz_set _ (frz_set _ (unhide FZ o)))
   have f3' := FF (ix * 5 + 3)
   have f4' := FF (ix * 5 + 4)
   have s2' : w2.heap.size = wl.heap.size := by simpa [World.setCell] using s2
   have S2 := hide s2'
   have HGG := hide HG
   have FFF := hide FF
   have K2 := hide k2
   clear s2' s2 hgk HG HF FF k2 c0 c1 c2 c3 c4 f0 f1 f3 f4
   go_wp2
   go_roundw
   case rel =>
    have k0 : ((w2.setCell ⟨g, ix * 5 + 3, none⟩ (.int .i64 (x + 1 + 1 + nz))).setCell ⟨g, ix * 5 + 4, none⟩ (.int .i64 (x + 1 + 1 + nz + 1))).cell? ⟨g, ix * 5, none⟩ = some (.int .i64 x) := byCT
    have k1 : ((w2.setCell ⟨g, ix * 5 + 3, none⟩ (.int .i64 (x + 1 + 1 + nz))).setCell ⟨g, ix * 5 + 4, none⟩ (.int .i64 (x + 1 + 1 + nz + 1))).cell? ⟨g, ix * 5 + 1, none⟩ = some (.int .i64 (x + 1)) := byCT
    have k2 : ((w2.setCell ⟨g, ix * 5 + 3, none⟩ (.int .i64 (x + 1 + 1 + nz))).setCell ⟨g, ix * 5 + 4, none⟩ (.int .i64 (x + 1 + 1 + nz + 1))).cell? ⟨g, ix * 5 + 2, none⟩ = some (.slice av nz cv) := byCT
    have k3 : ((w2.setCell ⟨g, ix * 5 + 3, none⟩ (.int .i64 (x + 1 + 1 + nz))).setCell ⟨g, ix * 5 + 4, none⟩ (.int .i64 (x + 1 + 1 + nz + 1))).cell? ⟨g, ix * 5 + 3, none⟩ = some (.int .i64 (x + 1 + 1 + nz)) := byCT
    have k4 : ((w2.setCell ⟨g, ix * 5 + 3, none⟩ (.int .i64 (x + 1 + 1 + nz))).setCell ⟨g, ix * 5 + 4, none⟩ (.int .i64 (x + 1 + 1 + nz + 1))).cell? ⟨g, ix * 5 + 4, none⟩ = some (.int .i64 (x + 1 + 1 + nz + 1)) := byCT
    have ez := unhide HNZ
    have eS := unhide S2
    have eW := unhide HS
    have eT := unhide HTT
    have eX := unhide HX
    clear c0' c1' c2' c3' c4' f3' f4'
    have oth : ∀ k, k ≠ g → k < lv ∨ hv ≤ k → k < wl.heap.size → ((w2.setCell ⟨g, ix * 5 + 3, none⟩ (.int .i64 (x + 1 + 1 + nz))).setCell ⟨g, ix * 5 + 4, none⟩ (.int .i64 (x + 1 + 1 + nz + 1))).heap[k]? = wl.heap[k]? := fun k h1 h2 h3 =>
     ((Below.heap_setCell _ _ _ _ h1).trans (Below.heap_setCell _ _ _ _ h1)).trans ((unhide K2 k h2 (by simpa [World.setCell] using h3)).trans ((Below.heap_setCell _ _ _ _ h1).trans (Below.heap_setCell _ _ _ _ h1)))
    refine ⟨ix + 1, by omega, by go_num, congrArg (Value.int .i64) (by rw [unhide KN]; omega), ?_, fun k h1 h2 => (oth k (by omega) (by omega) (by omega)).trans (hk9 k h1 h2), by simp only [World.setCell, Array.size_modify] at *; first | omega | (simp; omega), ?_⟩
    ·refine RowsAt.congr (RowsAt.put (T := mkT x ⟨r, av, cv, lv, hv, zv⟩) (unhide HR) q (by simp [mkT, eT]) (by simp [mkT, eT]) (five ?_ ?_ ?_ ?_ ?_) (fun o ho => ?_) (fun o => frz_set _ (frz_set _ (unhide FFF o))) ?_ ?_ (by omega) ?_) fun j hj => ?_
     ·simpa [TR.cells, mkT, ez] using k0
     ·simpa [TR.cells, mkT, ez] using k1
     ·simpa [TR.cells, mkT, ez] using k2
     ·simpa [TR.cells, mkT, ez] using k3
     ·simpa [TR.cells, mkT, ez] using k4
     ·exact ((World.cell?_setCell_other _ _ _ _ (ne_off (by omega))).trans (World.cell?_setCell_other _ _ _ _ (ne_off (by omega)))).trans ((unhide HGG o).trans ((World.cell?_setCell_other _ _ _ _ (ne_off (by omega))).trans (World.cell?_setCell_other _ _ _ _ (ne_off (by omega)))))
     ·have : ((w2.setCell ⟨g, ix * 5 + 3, none⟩ (.int .i64 (x + 1 + 1 + nz))).setCell ⟨g, ix * 5 + 4, none⟩ (.int .i64 (x + 1 + 1 + nz + 1))).heap.size = w2.heap.size := by simp [World.setCell]
      omega
     ·simp only [Nat.lt_irrefl, if_false, eT]
      exact oth
     ·refine IntsAt.congr (IntsAt.keep (w := w2) ?_ fun k h1 h2 => (Below.heap_setCell _ _ _ _ (show k ≠ g by simp only [mkT] at h1 h2; omega)).trans (Below.heap_setCell _ _ _ _ (show k ≠ g by simp only [mkT] at h1 h2; omega))) (f := fun i => x + 1 + 1 + (i : Int)) fun i hi3 => ?_
      ·rw [mkT_len]; simp only [mkT, ez]; exact i2
      ·rw [mkT_len] at hi3; exact (mkT_at _ _ hi3).symm
     ·by_cases e : j = ix
      ·subst e; simp [eT, eX]
      ·by_cases e2 : j < ix
       ·simp [e, e2, show j < ix + 1 by omega]
       ·simp [e, e2, show ¬ j < ix + 1 by omega]
    ·exact ((hb9.trans (Below.setCell (Below.setCell (Below.refl _ _) gl _) gl _)).trans (b2.mono low)).trans (Below.setCell (Below.setCell (Below.refl _ _) gl _) gl _)
   case measure => simp [intOf]; omega
  ·obtain rfl : ix = n := by omega
   go_wp2
   go_ret
   exact ⟨rfl, hr.congr (fun i hi => by simp [hi]), hk9, unhide HS, hb9⟩
end Go.Proofs.YtaeabefbohlcpaaGreat
namespace Go.Proofs.YtaeabefbohlcpaaGreat
open Go.RowKit
set_option linter.unusedVariables false
set_option linter.unusedSimpArgs false
attribute [local go_sem] q2 q3 q4 q5 q6 q7 q8 q9 q10 q11 q12
set_option maxRecDepth 100000 in
set_option maxHeartbeats 2000000 in
theorem markRowS_nil (a : Option Addr) (c : Nat) (w : World) : Calls Tryz.prog 14 #[.slice a 0 c, .int .i64 1] w fun e w' => e = .returned (.int .i64 1) ∧ w = w' := by
 go_enter Tryz.func14, Tryz.ntmps14
 go_wp2
 go_loopw [1, 5] (fun ks is wr => is = .int .i64 0 ∧ ks = .int .i64 1 ∧ wr = w) (fun _ is _ => 0)
 case atStart => exact ⟨rfl, rfl, rfl⟩
 case round =>
  obtain ⟨rfl, rfl, rfl⟩ := hrel
  go_wp2
  go_ret
  exact ⟨rfl, rfl⟩
theorem eqRowS_any (a1 a2 : Option Addr) (n c1 c2 lo1 hi1 lo2 hi2 : Nat) (t1 t2 : Nat → TR) (w : World) (hn : n ≤ 2000000) (h1 : RowsAt w lo1 hi1 a1 n t1) (h2 : RowsAt w lo2 hi2 a2 n t2) (b1 : hi1 ≤ w.heap.size) (b2 : hi2 ≤ w.heap.size)
  (E : ∀ i, i < n → (t1 i).r = (t2 i).r ∧ (t1 i).zs = (t2 i).zs ∧ (t1 i).zs.length ≤ 2000000) :
  Calls Tryz.prog 13 #[.slice a1 n c1, .slice a2 n c2] w fun e w' => e = .returned (.bool true) ∧ Below w.heap.size w w' := by
 rcases h1.ptr with rfl | ⟨g1, rfl, _⟩
 ·exact eqRowS_nil _ _ _ _ _
 ·rcases h2.ptr with rfl | ⟨g2, rfl, _⟩
  ·exact eqRowS_nil _ _ _ _ _
  ·exact eqRowS_a g1 g2 n c1 c2 lo1 hi1 lo2 hi2 t1 t2 w hn h1 h2 b1 b2 (hide E)
theorem markRowS_any (a : Option Addr) (n c lo hi : Nat) (t : Nat → TR) (w : World) (hn : n ≤ 2000000) (h : RowsAt w lo hi a n t) (h9 : hi ≤ w.heap.size) (hlo : lo ≤ hi) (E : ∀ i, i < n → (t i).zs.length ≤ 2000000) (HK : ∀ i, i ≤ n → 1 ≤ mkK t i ∧ mkK t i ≤ 10000000) :
  Calls Tryz.prog 14 #[.slice a n c, .int .i64 1] w fun e w' => e = .returned (.int .i64 (mkK t n)) ∧ RowsAt w' lo hi a n (fun j => mkT (mkK t j) (t j)) ∧ (∀ k, k < lo ∨ hi ≤ k → k < w.heap.size → w'.heap[k]? = w.heap[k]?) ∧ w'.heap.size = w.heap.size ∧ Below lo w w' := by
 rcases h.ptr with rfl | ⟨g1, rfl, _⟩
 ·exact (markRowS_nil a c w).mono fun e w' ⟨h1, h2⟩ => by subst h2; exact ⟨h1, RowsAt.nil rfl, fun _ _ _ => rfl, rfl, Below.refl _ _⟩
 ·exact markRowS_a g1 n c lo hi t w hn h h9 hlo E HK
theorem RowsAt.keep {W W' : World} {lo hi n : Nat} {a : Option Addr} {t : Nat → TR} (h : RowsAt W lo hi a n t) (hk : ∀ k, lo ≤ k → k < hi → W'.heap[k]? = W.heap[k]?) (hs : W.heap.size ≤ W'.heap.size) : RowsAt W' lo hi a n t := by
 refine ⟨?_, fun j hj => IntsAt.keep (h.inn j hj) fun k k1 k2 => hk k (Nat.le_trans (h.low j hj) k1) (Nat.lt_of_lt_of_le k2 (h.top j hj)), h.low, h.top, h.ord⟩
 rcases h.ptr with z | ⟨g, e, g1, g2, g3, g4, g5, g6⟩
 ·exact .inl z
 ·have hk := hk g g1 g2
  exact .inr ⟨g, e, g1, g2, Nat.lt_of_lt_of_le g3 hs, fun i j hi hj => by rw [World.cell?_of_block hk]; exact g4 i j hi hj, fun o => by rw [World.frozen?_of_block hk]; exact g5 o, g6⟩
end Go.Proofs.YtaeabefbohlcpaaGreat
namespace Go.Proofs.YtaeabefbohlcpaaGreat
open Go.RowKit
set_option linter.unusedVariables false
set_option linter.unusedSimpArgs false
attribute [local go_sem] q2 q3 q4 q5 q6 q7 q8 q9 q10 q11 q12

def sRB (r s : RowV) (x y : List Int) : Bool := decide (r.d = s.d) && (decide (r.num = s.num) && (decide (r.ge = s.ge) && (decide (r.ex = s.ex) && decide (x = y))))
set_option maxRecDepth 100000 in
set_option maxHeartbeats 4000000 in
theorem sameRow_a (r s : RowV) (x y : List Int) (a1 a2 : Option Addr) (c1 c2 l1 u1 l2 u2 n1 n2 : Nat) (e1 : n1 = x.length) (e2 : n2 = y.length) (w : World) (hi1 : u1 ≤ w.heap.size) (hi2 : u2 ≤ w.heap.size)
  (hx : IntsAt w l1 u1 a1 n1 (fun i => x.getD i 0)) (hy : IntsAt w l2 u2 a2 n2 (fun i => y.getD i 0)) (hb1 : n1 ≤ 2000000) (hb2 : n2 ≤ 2000000) :
  Calls Tryz.prog 36 #[rwv r (.slice a1 n1 c1), rwv s (.slice a2 n2 c2)] w fun e w' => e = .returned (.bool (sRB r s x y)) ∧ Below w.heap.size w w' := by
 have HS0 : ∀ W, Below w.heap.size w W → Calls Tryz.prog 54 #[.slice a1 n1 c1, .slice a2 n2 c2] W fun e w' => e = .returned (.bool (decide (x = y))) ∧ Below W.heap.size W w' := fun W hb =>
  sameValues_a x y a1 a2 n1 n2 c1 c2 l1 u1 l2 u2 W (hide e1) (hide e2) (Nat.le_trans hi1 hb.size) (Nat.le_trans hi2 hb.size) (hx.below hb hi1) (hy.below hb hi2) (by omega) (by omega)
 clear e1 e2
 obtain ⟨d, num, ge, ex⟩ := r
 obtain ⟨d2, num2, ge2, ex2⟩ := s
 by_cases ed : d = d2
 ·subst ed
  by_cases enum : num = num2
  ·subst enum
   rcases hbb : decide (x = y)
   ·rw [hbb] at HS0
    have hxy : ¬ x = y := by simpa using hbb
    have HS := hide HS0
    clear HS0 hbb
    have HV : Hid (sRB ⟨d, num, ge, ex⟩ ⟨d, num, ge2, ex2⟩ x y = false) := hide (by simp [sRB, *])
    clear hxy
    go_enter Tryz.func36, Tryz.ntmps36
    go_wp2_with (go_at_call 54; refine ((unhide HS) _ byGG).mono ?_; rintro e w' ⟨rfl, hb⟩; have p3 := cell_call hb (a := ⟨w.heap.size, 3, none⟩) (v := .int .i64 ge) (by go_simp); have p4 := cell_call hb (a := ⟨w.heap.size, 4, none⟩) (v := .int .i64 ex) (by go_simp); have p5 := cell_call hb (a := ⟨w.heap.size + 1, 3, none⟩) (v := .int .i64 ge2) (by go_simp); have p6 := cell_call hb (a := ⟨w.heap.size + 1, 4, none⟩) (v := .int .i64 ex2) (by go_simp))
    all_goals (go_ret; exact ⟨by rw [unhide HV]; first | done | rfl | (simp [*]; done), byGG⟩)
   ·rw [hbb] at HS0
    have hxy : x = y := by simpa using hbb
    have HS := hide HS0
    clear HS0 hbb
    by_cases ege : ge = ge2
    ·subst ege
     by_cases eex : ex = ex2
     ·subst eex
      have HV : Hid (sRB ⟨d, num, ge, ex⟩ ⟨d, num, ge, ex⟩ x y = true) := hide (by simp [sRB, *])
      clear hxy
      go_enter Tryz.func36, Tryz.ntmps36
      go_wp2_with (go_at_call 54; refine ((unhide HS) _ byGG).mono ?_; rintro e w' ⟨rfl, hb⟩; have p3 := cell_call hb (a := ⟨w.heap.size, 3, none⟩) (v := .int .i64 ge) (by go_simp); have p4 := cell_call hb (a := ⟨w.heap.size, 4, none⟩) (v := .int .i64 ex) (by go_simp); have p5 := cell_call hb (a := ⟨w.heap.size + 1, 3, none⟩) (v := .int .i64 ge) (by go_simp); have p6 := cell_call hb (a := ⟨w.heap.size + 1, 4, none⟩) (v := .int .i64 ex) (by go_simp))
      all_goals (go_ret; exact ⟨by rw [unhide HV]; first | done | rfl | (simp [*]; done), byGG⟩)
     ·have n9 : (ex == ex2) = false := by simpa using eex
      have HV : Hid (sRB ⟨d, num, ge, ex⟩ ⟨d, num, ge, ex2⟩ x y = false) := hide (by simp [sRB, *])
      clear hxy
      go_enter Tryz.func36, Tryz.ntmps36
      go_wp2_with (go_at_call 54; refine ((unhide HS) _ byGG).mono ?_; rintro e w' ⟨rfl, hb⟩; have p3 := cell_call hb (a := ⟨w.heap.size, 3, none⟩) (v := .int .i64 ge) (by go_simp); have p4 := cell_call hb (a := ⟨w.heap.size, 4, none⟩) (v := .int .i64 ex) (by go_simp); have p5 := cell_call hb (a := ⟨w.heap.size + 1, 3, none⟩) (v := .int .i64 ge) (by go_simp); have p6 := cell_call hb (a := ⟨w.heap.size + 1, 4, none⟩) (v := .int .i64 ex2) (by go_simp))
      all_goals (go_ret; exact ⟨by rw [unhide HV]; first | done | rfl | (simp [*]; done), byGG⟩)
    ·have n9 : (ge == ge2) = false := by simpa using ege
     have HV : Hid (sRB ⟨d, num, ge, ex⟩ ⟨d, num, ge2, ex2⟩ x y = false) := hide (by simp [sRB, *])
     clear hxy
     go_enter Tryz.func36, Tryz.ntmps36
     go_wp2_with (go_at_call 54; refine ((unhide HS) _ byGG).mono ?_; rintro e w' ⟨rfl, hb⟩; have p3 := cell_call hb (a := ⟨w.heap.size, 3, none⟩) (v := .int .i64 ge) (by go_simp); have p4 := cell_call hb (a := ⟨w.heap.size, 4, none⟩) (v := .int .i64 ex) (by go_simp); have p5 := cell_call hb (a := ⟨w.heap.size + 1, 3, none⟩) (v := .int .i64 ge2) (by go_simp); have p6 := cell_call hb (a := ⟨w.heap.size + 1, 4, none⟩) (v := .int .i64 ex2) (by go_simp))
     all_goals (go_ret; exact ⟨by rw [unhide HV]; first | done | rfl | (simp [*]; done), byGG⟩)
  ·have HS := hide HS0
   have hxy := trivial
   have n9 : (num == num2) = false := by simpa using enum
   have HV : Hid (sRB ⟨d, num, ge, ex⟩ ⟨d, num2, ge2, ex2⟩ x y = false) := hide (by simp [sRB, *])
   clear hxy
   go_enter Tryz.func36, Tryz.ntmps36
   go_wp2_with (go_at_call 54; refine ((unhide HS) _ byGG).mono ?_; rintro e w' ⟨rfl, hb⟩; have p3 := cell_call hb (a := ⟨w.heap.size, 3, none⟩) (v := .int .i64 ge) (by go_simp); have p4 := cell_call hb (a := ⟨w.heap.size, 4, none⟩) (v := .int .i64 ex) (by go_simp); have p5 := cell_call hb (a := ⟨w.heap.size + 1, 3, none⟩) (v := .int .i64 ge2) (by go_simp); have p6 := cell_call hb (a := ⟨w.heap.size + 1, 4, none⟩) (v := .int .i64 ex2) (by go_simp))
   all_goals (go_ret; exact ⟨by rw [unhide HV]; first | done | rfl | (simp [*]; done), byGG⟩)
 ·have HS := hide HS0
  have hxy := trivial
  have n9 : (d == d2) = false := by simpa using ed
  have HV : Hid (sRB ⟨d, num, ge, ex⟩ ⟨d2, num2, ge2, ex2⟩ x y = false) := hide (by simp [sRB, *])
  clear hxy
  go_enter Tryz.func36, Tryz.ntmps36
  go_wp2_with (go_at_call 54; refine ((unhide HS) _ byGG).mono ?_; rintro e w' ⟨rfl, hb⟩; have p3 := cell_call hb (a := ⟨w.heap.size, 3, none⟩) (v := .int .i64 ge) (by go_simp); have p4 := cell_call hb (a := ⟨w.heap.size, 4, none⟩) (v := .int .i64 ex) (by go_simp); have p5 := cell_call hb (a := ⟨w.heap.size + 1, 3, none⟩) (v := .int .i64 ge2) (by go_simp); have p6 := cell_call hb (a := ⟨w.heap.size + 1, 4, none⟩) (v := .int .i64 ex2) (by go_simp))
  all_goals (go_ret; exact ⟨by rw [unhide HV]; first | done | rfl | (simp [*]; done), byGG⟩)
set_option maxRecDepth 100000 in
set_option maxHeartbeats 4000000 in
theorem tbSame_a (r s : RowV) (x y : List Int) (a1 a2 : Option Addr) (c1 c2 l1 u1 l2 u2 n1 n2 : Nat) (e1 : n1 = x.length) (e2 : n2 = y.length) (w : World) (hi1 : u1 ≤ w.heap.size) (hi2 : u2 ≤ w.heap.size)
  (hx : IntsAt w l1 u1 a1 n1 (fun i => x.getD i 0)) (hy : IntsAt w l2 u2 a2 n2 (fun i => y.getD i 0)) (hb1 : n1 ≤ 2000000) (hb2 : n2 ≤ 2000000) :
  Calls Tryz.prog 33 #[rwv r (.slice a1 n1 c1), rwv s (.slice a2 n2 c2)] w fun e w' => e = .returned (.bool (sRB r s x y)) ∧ Below w.heap.size w w' := by
 have HS0 : ∀ W, Below w.heap.size w W → Calls Tryz.prog 50 #[.slice a1 n1 c1, .slice a2 n2 c2] W fun e w' => e = .returned (.bool (decide (x = y))) ∧ Below W.heap.size W w' := fun W hb =>
  l1Same_a x y a1 a2 n1 n2 c1 c2 l1 u1 l2 u2 W (hide e1) (hide e2) (Nat.le_trans hi1 hb.size) (Nat.le_trans hi2 hb.size) (hx.below hb hi1) (hy.below hb hi2) (by omega) (by omega)
 clear e1 e2
 obtain ⟨d, num, ge, ex⟩ := r
 obtain ⟨d2, num2, ge2, ex2⟩ := s
 by_cases ed : d = d2
 ·subst ed
  by_cases enum : num = num2
  ·subst enum
   by_cases ege : ge = ge2
   ·subst ege
    by_cases eex : ex = ex2
    ·subst eex
     rcases hbb : decide (x = y)
     ·rw [hbb] at HS0
      have hxy : ¬ x = y := by simpa using hbb
      have HS := hide HS0
      clear HS0 hbb
      have HV : Hid (sRB ⟨d, num, ge, ex⟩ ⟨d, num, ge, ex⟩ x y = false) := hide (by simp [sRB, *])
      clear hxy
      go_enter Tryz.func33, Tryz.ntmps33
      go_wp2_with (go_at_call 50; refine ((unhide HS) _ byGG).mono ?_; rintro e w' ⟨rfl, hb⟩; have p3 := cell_call hb (a := ⟨w.heap.size, 3, none⟩) (v := .int .i64 ge) (by go_simp); have p4 := cell_call hb (a := ⟨w.heap.size, 4, none⟩) (v := .int .i64 ex) (by go_simp); have p5 := cell_call hb (a := ⟨w.heap.size + 1, 3, none⟩) (v := .int .i64 ge) (by go_simp); have p6 := cell_call hb (a := ⟨w.heap.size + 1, 4, none⟩) (v := .int .i64 ex) (by go_simp))
      all_goals (go_ret; exact ⟨by rw [unhide HV]; first | done | rfl | (simp [*]; done), byGG⟩)
     ·rw [hbb] at HS0
      have hxy : x = y := by simpa using hbb
      have HS := hide HS0
      clear HS0 hbb
      have HV : Hid (sRB ⟨d, num, ge, ex⟩ ⟨d, num, ge, ex⟩ x y = true) := hide (by simp [sRB, *])
      clear hxy
      go_enter Tryz.func33, Tryz.ntmps33
      go_wp2_with (go_at_call 50; refine ((unhide HS) _ byGG).mono ?_; rintro e w' ⟨rfl, hb⟩; have p3 := cell_call hb (a := ⟨w.heap.size, 3, none⟩) (v := .int .i64 ge) (by go_simp); have p4 := cell_call hb (a := ⟨w.heap.size, 4, none⟩) (v := .int .i64 ex) (by go_simp); have p5 := cell_call hb (a := ⟨w.heap.size + 1, 3, none⟩) (v := .int .i64 ge) (by go_simp); have p6 := cell_call hb (a := ⟨w.heap.size + 1, 4, none⟩) (v := .int .i64 ex) (by go_simp))
      all_goals (go_ret; exact ⟨by rw [unhide HV]; first | done | rfl | (simp [*]; done), byGG⟩)
    ·have HS := hide HS0
     have hxy := trivial
     have n9 : (ex == ex2) = false := by simpa using eex
     have HV : Hid (sRB ⟨d, num, ge, ex⟩ ⟨d, num, ge, ex2⟩ x y = false) := hide (by simp [sRB, *])
     clear hxy
     go_enter Tryz.func33, Tryz.ntmps33
     go_wp2_with (go_at_call 50; refine ((unhide HS) _ byGG).mono ?_; rintro e w' ⟨rfl, hb⟩; have p3 := cell_call hb (a := ⟨w.heap.size, 3, none⟩) (v := .int .i64 ge) (by go_simp); have p4 := cell_call hb (a := ⟨w.heap.size, 4, none⟩) (v := .int .i64 ex) (by go_simp); have p5 := cell_call hb (a := ⟨w.heap.size + 1, 3, none⟩) (v := .int .i64 ge) (by go_simp); have p6 := cell_call hb (a := ⟨w.heap.size + 1, 4, none⟩) (v := .int .i64 ex2) (by go_simp))
     all_goals (go_ret; exact ⟨by rw [unhide HV]; first | done | rfl | (simp [*]; done), byGG⟩)
   ·have HS := hide HS0
    have hxy := trivial
    have n9 : (ge == ge2) = false := by simpa using ege
    have HV : Hid (sRB ⟨d, num, ge, ex⟩ ⟨d, num, ge2, ex2⟩ x y = false) := hide (by simp [sRB, *])
    clear hxy
    go_enter Tryz.func33, Tryz.ntmps33
    go_wp2_with (go_at_call 50; refine ((unhide HS) _ byGG).mono ?_; rintro e w' ⟨rfl, hb⟩; have p3 := cell_call hb (a := ⟨w.heap.size, 3, none⟩) (v := .int .i64 ge) (by go_simp); have p4 := cell_call hb (a := ⟨w.heap.size, 4, none⟩) (v := .int .i64 ex) (by go_simp); have p5 := cell_call hb (a := ⟨w.heap.size + 1, 3, none⟩) (v := .int .i64 ge2) (by go_simp); have p6 := cell_call hb (a := ⟨w.heap.size + 1, 4, none⟩) (v := .int .i64 ex2) (by go_simp))
    all_goals (go_ret; exact ⟨by rw [unhide HV]; first | done | rfl | (simp [*]; done), byGG⟩)
  ·have HS := hide HS0
   have hxy := trivial
   have n9 : (num == num2) = false := by simpa using enum
   have HV : Hid (sRB ⟨d, num, ge, ex⟩ ⟨d, num2, ge2, ex2⟩ x y = false) := hide (by simp [sRB, *])
   clear hxy
   go_enter Tryz.func33, Tryz.ntmps33
   go_wp2_with (go_at_call 50; refine ((unhide HS) _ byGG).mono ?_; rintro e w' ⟨rfl, hb⟩; have p3 := cell_call hb (a := ⟨w.heap.size, 3, none⟩) (v := .int .i64 ge) (by go_simp); have p4 := cell_call hb (a := ⟨w.heap.size, 4, none⟩) (v := .int .i64 ex) (by go_simp); have p5 := cell_call hb (a := ⟨w.heap.size + 1, 3, none⟩) (v := .int .i64 ge2) (by go_simp); have p6 := cell_call hb (a := ⟨w.heap.size + 1, 4, none⟩) (v := .int .i64 ex2) (by go_simp))
   all_goals (go_ret; exact ⟨by rw [unhide HV]; first | done | rfl | (simp [*]; done), byGG⟩)
 ·have HS := hide HS0
  have hxy := trivial
  have n9 : (d == d2) = false := by simpa using ed
  have HV : Hid (sRB ⟨d, num, ge, ex⟩ ⟨d2, num2, ge2, ex2⟩ x y = false) := hide (by simp [sRB, *])
  clear hxy
  go_enter Tryz.func33, Tryz.ntmps33
  go_wp2_with (go_at_call 50; refine ((unhide HS) _ byGG).mono ?_; rintro e w' ⟨rfl, hb⟩; have p3 := cell_call hb (a := ⟨w.heap.size, 3, none⟩) (v := .int .i64 ge) (by go_simp); have p4 := cell_call hb (a := ⟨w.heap.size, 4, none⟩) (v := .int .i64 ex) (by go_simp); have p5 := cell_call hb (a := ⟨w.heap.size + 1, 3, none⟩) (v := .int .i64 ge2) (by go_simp); have p6 := cell_call hb (a := ⟨w.heap.size + 1, 4, none⟩) (v := .int .i64 ex2) (by go_simp))
  all_goals (go_ret; exact ⟨by rw [unhide HV]; first | done | rfl | (simp [*]; done), byGG⟩)
end Go.Proofs.YtaeabefbohlcpaaGreat
namespace Go.Proofs.YtaeabefbohlcpaaGreat
open Go.RowKit
set_option linter.unusedVariables false
set_option linter.unusedSimpArgs false
attribute [local go_sem] q2 q3 q4 q5 q6 q7 q8 q9 q10 q11 q12

def RvP (r : RowV) (l : List Int) (w : World) (v : Value) : Prop := ∃ (a : Option Addr) (c lo hi : Nat), v = rwv r (.slice a l.length c) ∧ hi ≤ w.heap.size ∧ IntsAt w lo hi a l.length (fun i => l.getD i 0)
theorem RvP.st {r : RowV} {l : List Int} : StB (RvP r l) := fun W w' v hb ⟨a, c, lo, hi, h1, h2, h3⟩ => ⟨a, c, lo, hi, h1, Nat.le_trans h2 hb.size, h3.below hb h2⟩
theorem rv_of {w w' : World} {r : RowV} {l : List Int} {e : Ending} (h : RetRowV w r l e w') : ∃ v', e = .returned v' ∧ RvP r l w' v' ∧ Below w.heap.size w w' := by
 obtain ⟨a, c, h1, h2, h3⟩ := h
 exact ⟨_, h1, ⟨a, c, _, _, rfl, Nat.le_refl _, h2⟩, h3⟩
theorem RowsAt.some {W : World} {lo hi n : Nat} {a : Option Addr} {t : Nat → TR} (h : RowsAt W lo hi a n t) {i : Nat} (q : i < n) : ∃ g, a = Option.some ⟨g, 0, none⟩ := by
 rcases h.ptr with z | ⟨g, e, _⟩
 ·omega
 ·exact ⟨g, e⟩
theorem IntsAt.argI {w : World} {lo hi n c : Nat} {a : Option Addr} {f : Nat → Int} (h : IntsAt w lo hi a n f) (h2 : hi ≤ w.heap.size) : ArgI w (.slice a n c) n f := by
 rcases h with rfl | ⟨g, cap, F, rfl, hlo, hhi, q, r, e⟩
 ·exact .inl ⟨rfl, a, c, rfl⟩
 ·exact .inr ⟨g, 0, c, rfl, by omega, fun i hi => by rw [Nat.zero_add, ← e i hi]; exact r.cell (by omega)⟩
def wrG (t : Nat → TR) (i : Nat) : Bool := rwB (t i).r (t i).zs.length (fun j => (t i).zs.getD j 0)
theorem wrG_d {t : Nat → TR} {i : Nat} (h : wrG t i = true) : negB (t i).r.d = true := by
 unfold wrG rwB at h; simp only [Bool.and_eq_true] at h; exact h.2.1
noncomputable def wrS (t : Nat → TR) (i : Nat) : Bool := sRB (t i).r (rowV (t i).r.d) (t i).zs (rowFL (t i).r.d)
noncomputable def wrL (t : Nat → TR) (n : Nat) : List Int := flN (fun i => !wrS t i) (fun i => (i : Int)) n
theorem wr_yes {t : Nat → TR} {k : Nat} (h : wrS t k = false) : wrL t (k + 1) = wrL t k ++ [(k : Int)] := flN_yes (e := fun i : Nat => (i : Int)) (by simp [h])
theorem wr_no {t : Nat → TR} {k : Nat} (h : wrS t k = true) : wrL t (k + 1) = wrL t k := flN_no (e := fun i : Nat => (i : Int)) (by simp [h])
set_option maxRecDepth 100000 in
set_option maxHeartbeats 4000000 in
theorem implWr_0 (a : Option Addr) (n c : Nat) (w : World) (hn : 40 < n) (h2 : n ≤ 2000000) (f : Nat → Int) : Calls Tryz.prog 19 #[.slice a n c] w (RetInts w 0 f false) := by
 have hci : (40 : Int) < (n : Int) := by omega
 go_enter Tryz.func19, Tryz.ntmps19
 go_wp2
 go_ret2
 exact ⟨_, _, rfl, .inl rfl, byGG⟩
set_option maxRecDepth 100000 in
set_option maxHeartbeats 4000000 in
theorem implWr_1 (a : Option Addr) (n c lo hi : Nat) (t : Nat → TR) (w : World) (hn : n ≤ 40) (h : RowsAt w lo hi a n t) (h9 : hi ≤ w.heap.size) (E : ∀ i, i < n → RowOk (t i).r ∧ (t i).zs.length ≤ 2000000) (f : Nat → Int) (HX : Hid (∃ i, i < n ∧ wrG t i = false)) : Calls Tryz.prog 19 #[.slice a n c] w (RetInts w 0 f false) := by
 have hc40 : ¬ (40 : Int) < (n : Int) := by omega
 have HH := hide h
 clear h
 go_enter Tryz.func19, Tryz.ntmps19
 go_wp2
 go_loopw [15] (fun is wr => ∃ ix : Nat, ix ≤ n ∧ is = .int .i64 (ix : Int) ∧ Below w.heap.size w wr ∧ Hid (∀ i, i < ix → wrG t i = true)) (fun is _ => n - (intOf is).toNat)
 case atStart => exact ⟨0, by omega, rfl, byGG, hide fun i hi => absurd hi (by omega)⟩
 case round =>
  obtain ⟨ix, hi2, rfl, hb, hall⟩ := hrel
  obtain ⟨wl, rfl⟩ : ∃ wl : World, wl = wr := ⟨_, rfl⟩
  by_cases q : ix < n
  ·have hci : (ix : Int) < (n : Int) := by omega
   obtain ⟨g, rfl⟩ := (unhide HH).some q
   have K1 := (unhide HH).below hb h9 (Nat.le_refl _)
   obtain ⟨⟨c0, c1, c2, c3, c4⟩, gb1, -⟩ := K1.ent q
   obtain ⟨ok1, ok2⟩ := E ix q
   have inn := K1.inn ix q
   have top := K1.top ix q
   have hzl := hb.size
   have HG0 : ∀ W, Below wl.heap.size wl W → Calls Tryz.prog 35 #[rwv (t ix).r (.slice (t ix).a (t ix).zs.length (t ix).c)] W fun e w' => e = .returned (.bool (wrG t ix)) ∧ Below W.heap.size W w' := fun W hbW =>
    isRow_a _ _ _ _ W (IntsAt.argI (inn.below hbW (by omega)) (by have := hbW.size; omega)) ok2 ok1
   clear K1 inn top ok1 ok2
   obtain ⟨bq, hbq⟩ : ∃ bq, wrG t ix = bq := ⟨_, rfl⟩
   rw [hbq] at HG0
   have HG := hide HG0
   clear HG0
   generalize (t ix).r = r at *
   generalize (t ix).zs.length = n9 at *
   generalize (t ix).a = x1 at *
   generalize (t ix).c = d1 at *
   cases bq
   ·clear hbq
    go_wp2_with (go_at_call 35; refine ((unhide HG) _ byGG).mono ?_; rintro e w3 ⟨rfl, hb3⟩)
    go_ret2
    exact ⟨_, _, rfl, .inl rfl, byGG⟩
   ·have HBQ := hide hbq
    clear hbq
    go_wp2_with (go_at_call 35; refine ((unhide HG) _ byGG).mono ?_; rintro e w3 ⟨rfl, hb3⟩)
    go_roundw
    case rel => exact ⟨ix + 1, by omega, by first | rfl | go_num, byGG, hide fun i hi => by (by_cases e : i = ix; (subst e; exact unhide HBQ); exact unhide hall i (by omega))⟩
    case measure => simp [intOf]; omega
  ·obtain rfl : n = ix := by omega
   exfalso
   obtain ⟨i, hi3, hg3⟩ := unhide HX
   rw [unhide hall i hi3] at hg3
   cases hg3
set_option maxRecDepth 100000 in
set_option maxHeartbeats 4000000 in
theorem implWr_2 (a : Option Addr) (n c lo hi : Nat) (t : Nat → TR) (w : World) (hn : n ≤ 40) (h : RowsAt w lo hi a n t) (h9 : hi ≤ w.heap.size) (E : ∀ i, i < n → RowOk (t i).r ∧ (t i).zs.length ≤ 2000000) (HX : ∀ i, i < n → wrG t i = true) : Calls Tryz.prog 19 #[.slice a n c] w (RetInts w (wrL t n).length (fun i => (wrL t n).getD i 0) true) := by
 have hc40 : ¬ (40 : Int) < (n : Int) := by omega
 have HH := hide h
 clear h
 have HD : Hid (∀ i, i < n → ∀ W, Calls Tryz.prog 26 #[.int .i64 (t i).r.d] W fun e w' => ∃ v', e = .returned v' ∧ RvP (rowV (t i).r.d) (rowFL (t i).r.d) w' v' ∧ Below W.heap.size W w') := hide fun i hi W => (rowOf_a _ W (wrG_d (HX i hi))).mono fun e w' hr => rv_of hr
 have HZ : ∀ i, i < n → (rowFL (t i).r.d).length ≤ 700 := fun i hi => rowFL_len (wrG_d (HX i hi))
 go_enter Tryz.func19, Tryz.ntmps19
 go_wp2
 go_loopw [15] (fun is wr => ∃ ix : Nat, ix ≤ n ∧ is = .int .i64 (ix : Int) ∧ Below w.heap.size w wr ∧ Hid (∀ i, i < ix → wrG t i = true)) (fun is _ => n - (intOf is).toNat)
 case atStart => exact ⟨0, by omega, rfl, byGG, hide fun i hi => absurd hi (by omega)⟩
 case round =>
  obtain ⟨ix, hi2, rfl, hb, hall⟩ := hrel
  obtain ⟨wl, rfl⟩ : ∃ wl : World, wl = wr := ⟨_, rfl⟩
  by_cases q : ix < n
  ·have hci : (ix : Int) < (n : Int) := by omega
   obtain ⟨g, rfl⟩ := (unhide HH).some q
   have K1 := (unhide HH).below hb h9 (Nat.le_refl _)
   obtain ⟨⟨c0, c1, c2, c3, c4⟩, gb1, -⟩ := K1.ent q
   obtain ⟨ok1, ok2⟩ := E ix q
   have inn := K1.inn ix q
   have top := K1.top ix q
   have hzl := hb.size
   have HG0 : ∀ W, Below wl.heap.size wl W → Calls Tryz.prog 35 #[rwv (t ix).r (.slice (t ix).a (t ix).zs.length (t ix).c)] W fun e w' => e = .returned (.bool (wrG t ix)) ∧ Below W.heap.size W w' := fun W hbW =>
    isRow_a _ _ _ _ W (IntsAt.argI (inn.below hbW (by omega)) (by have := hbW.size; omega)) ok2 ok1
   clear K1 inn top ok1 ok2
   obtain ⟨bq, hbq⟩ : ∃ bq, wrG t ix = bq := ⟨_, rfl⟩
   rw [hbq] at HG0
   have HG := hide HG0
   clear HG0
   generalize (t ix).r = r at *
   generalize (t ix).zs.length = n9 at *
   generalize (t ix).a = x1 at *
   generalize (t ix).c = d1 at *
   cases bq
   ·exfalso; rw [HX ix q] at hbq; cases hbq
   ·have HBQ := hide hbq
    clear hbq
    go_wp2_with (go_at_call 35; refine ((unhide HG) _ byGG).mono ?_; rintro e w3 ⟨rfl, hb3⟩)
    go_roundw
    case rel => exact ⟨ix + 1, by omega, by first | rfl | go_num, byGG, hide fun i hi => by (by_cases e : i = ix; (subst e; exact unhide HBQ); exact unhide hall i (by omega))⟩
    case measure => simp [intOf]; omega
  ·obtain rfl : n = ix := by omega
   have hzl9 := hb.size
   have hsd0 : SI w 0 0 (fun _ => True) (wl.alloc (.cells #[] 3)) (some ⟨wl.heap.size, 0, none⟩) 0 0 [] := ⟨hide rfl, ⟨IL.made wl w.heap.size hzl9, fun b _ => .inr (Nat.zero_le _), byGG, trivial, Nat.zero_le _⟩⟩
   have hK : Kept 0 0 (fun _ => True) := fun _ _ _ _ => trivial
   clear hall
   go_wp2
   go_loopw [6, 27] (fun ls is wr => ∃ (k n9 c : Nat) (a : Option Addr) (l : List Int), is = .int .i64 (k : Int) ∧ ls = .slice a n9 c ∧ k ≤ n ∧ n9 ≤ k ∧ Hid (l = wrL t k) ∧ SI w 0 0 (fun _ => True) wr a n9 c l) (fun _ is _ => n - (intOf is).toNat)
   case atStart => exact ⟨0, 0, 0, _, _, rfl, rfl, by omega, by omega, hide rfl, hsd0⟩
   case round =>
    clear hsd0 hb hzl9
    obtain ⟨ix, n8, c8, a8, l, rfl, rfl, hk, hnk, hl, hsd⟩ := hrel
    obtain ⟨wv, rfl⟩ : ∃ wv : World, wv = wr := ⟨_, rfl⟩
    have hb := hsd.sd.bel
    have hln := hsd.len
    have hlb : l.length ≤ 3000 := by have := unhide hln; omega
    by_cases q : ix < n
    ·have hci : (ix : Int) < (n : Int) := by omega
     obtain ⟨g, rfl⟩ := (unhide HH).some q
     have K1 := (unhide HH).below hb h9 (Nat.le_refl _)
     obtain ⟨⟨c0, c1, c2, c3, c4⟩, gb1, -⟩ := K1.ent q
     obtain ⟨ok1, ok2⟩ := E ix q
     have inn := K1.inn ix q
     have top := K1.top ix q
     have hzl := hb.size
     have HRW := hide (unhide HD ix q)
     have hz2 := HZ ix q
     obtain ⟨bq, hbq⟩ : ∃ bq, wrS t ix = bq := ⟨_, rfl⟩
     have HSM0 : ∀ W a2 c2 l2 u2, Below wv.heap.size wv W → u2 ≤ W.heap.size → IntsAt W l2 u2 a2 (rowFL (t ix).r.d).length (fun i => (rowFL (t ix).r.d).getD i 0) → Calls Tryz.prog 36 #[rwv (t ix).r (.slice (t ix).a (t ix).zs.length (t ix).c), rwv (rowV (t ix).r.d) (.slice a2 (rowFL (t ix).r.d).length c2)] W fun e w' => e = .returned (.bool bq) ∧ Below W.heap.size W w' := fun W a2 c2 l2 u2 hbW hu hi => by
      rw [← hbq]
      exact sameRow_a _ _ _ _ _ _ _ _ _ _ _ _ _ _ rfl rfl W (by have := hbW.size; omega) hu (inn.below hbW (by omega)) hi ok2 (by omega)
     have HSM := hide HSM0
     clear HSM0 K1 inn top ok1 ok2
     have HBQ := hide hbq
     clear hbq
     generalize rowV (t ix).r.d = r2 at *
     generalize rowFL (t ix).r.d = z2 at *
     generalize (t ix).r = r at *
     generalize (t ix).zs.length = n9 at *
     generalize (t ix).a = x1 at *
     generalize (t ix).c = d1 at *
     go_upto_region 13 with fail
     go_cut [37] (fun s37 wx => s37 = .bool (!bq) ∧ wx.cell? ⟨wv.heap.size, 0, none⟩ = some (.int .i64 r.d) ∧ wx.cell? ⟨wv.heap.size, 1, none⟩ = some (.int .i64 r.num) ∧ wx.cell? ⟨wv.heap.size, 2, none⟩ = some (.slice x1 n9 d1) ∧ wx.cell? ⟨wv.heap.size, 3, none⟩ = some (.int .i64 r.ge) ∧ wx.cell? ⟨wv.heap.size, 4, none⟩ = some (.int .i64 r.ex) ∧ Below wv.heap.size wv wx)
     case first =>
      have h1 := trivial
      rename_i K2 h2 h3
      let hgf9 : Nat → World → Value → Prop := fun j => match j with | 0 => Kd.ok (Kd.val (.agg #[.int .i64 r.d, .int .i64 r.num, .slice x1 n9 d1, .int .i64 r.ge, .int .i64 r.ex])) | 1 => Kd.ok (Kd.val (.pointer (some ⟨wv.heap.size, 0, none⟩))) | 2 => Kd.ok (Kd.val (.int .i64 (r.d))) | 3 => (RvP r2 z2) | 4 => Kd.ok (Kd.val (.bool bq)) | 5 => Kd.ok (Kd.val (.bool (!bq))) | _ => Kd.ok Kd.any
      have hst9 : ∀ j, StB (hgf9 j) := fun j => match j with | 0 => (Kd.st (Kd.val (.agg #[.int .i64 r.d, .int .i64 r.num, .slice x1 n9 d1, .int .i64 r.ge, .int .i64 r.ex])) : StB (Kd.ok (Kd.val (.agg #[.int .i64 r.d, .int .i64 r.num, .slice x1 n9 d1, .int .i64 r.ge, .int .i64 r.ex])))) | 1 => (Kd.st (Kd.val (.pointer (some ⟨wv.heap.size, 0, none⟩))) : StB (Kd.ok (Kd.val (.pointer (some ⟨wv.heap.size, 0, none⟩))))) | 2 => (Kd.st (Kd.val (.int .i64 (r.d))) : StB (Kd.ok (Kd.val (.int .i64 (r.d))))) | 3 => (RvP.st : StB (RvP r2 z2)) | 4 => (Kd.st (Kd.val (.bool bq)) : StB (Kd.ok (Kd.val (.bool bq)))) | 5 => (Kd.st (Kd.val (.bool (!bq))) : StB (Kd.ok (Kd.val (.bool (!bq))))) | j + 6 => (Kd.st Kd.any : StB (Kd.ok Kd.any))
      refine region_n0 (by kernel_rfl) (fun j => #[32,33,34,35,36,37].getD j 0) (hgf9) (Sy wv (wv.heap.size + 1) [(⟨wv.heap.size, 0, none⟩, .int .i64 r.d), (⟨wv.heap.size, 1, none⟩, .int .i64 r.num), (⟨wv.heap.size, 2, none⟩, .slice x1 n9 d1), (⟨wv.heap.size, 3, none⟩, .int .i64 r.ge), (⟨wv.heap.size, 4, none⟩, .int .i64 r.ex)] []) (by kernel_rfl) (by kernel_rfl) ?_ ?_ ?_ ?_
      ·intro j hj
       have hj2 : j < 6 := hj
       have : ∀ j, j < 6 → (#[32,33,34,35,36,37] : Array Nat).getD j 0 < 44 := by decide
       exact this j hj2
      ·refine Sy.drew (Sy.mk_of ?_ ?_ ?_ ?_)
       ·first | rfl | (simp; done) | (simp; omega)
       ·intro c hc
        simp only [List.mem_cons, List.not_mem_nil, or_false] at hc
        rcases hc with rfl | rfl | rfl | rfl | rfl <;> exact byCT
       ·intro p hp; cases hp
       ·(repeat' first | with_reducible (first | exact Below.refl _ _ | assumption | refine gr_alloc ?_ _ | refine below_drewN ?_ _ | refine below_drew ?_ | refine gr_call ?_ (by assumption) | refine Below.setCell ?_ ?_ _) | go_size | omega | (simp; omega))
      ·clear h1 h2 h3
       refine ⟨?r2x0, ?r2x1, ?r2x2, ?r2x3, ?r2x4, ?r2x5, trivial⟩
       all_goals intro _ aq wx Kq hf hS hdep ev1 ev2 hK
       case' r2x0 =>
        have F8 : aq.eval (.tmp 8) = .pointer (some ⟨wv.heap.size, 0, none⟩) := hf 8
        have c0 := hS.cells (⟨wv.heap.size, 0, none⟩, .int .i64 r.d) (by simp)
        have c1 := hS.cells (⟨wv.heap.size, 1, none⟩, .int .i64 r.num) (by simp)
        have c2 := hS.cells (⟨wv.heap.size, 2, none⟩, .slice x1 n9 d1) (by simp)
        have c3 := hS.cells (⟨wv.heap.size, 3, none⟩, .int .i64 r.ge) (by simp)
        have c4 := hS.cells (⟨wv.heap.size, 4, none⟩, .int .i64 r.ex) (by simp)
       case' r2x1 =>
        have F8 : aq.eval (.tmp 8) = .pointer (some ⟨wv.heap.size, 0, none⟩) := hf 8
       case' r2x2 =>
        have D1 : aq.eval (.tmp 33) = _ := hdep 1
        have c0 := hS.cells (⟨wv.heap.size, 0, none⟩, .int .i64 r.d) (by simp)
       case' r2x3 =>
        have D2 : aq.eval (.tmp 34) = _ := hdep 2
       case' r2x4 =>
        have D0 : aq.eval (.tmp 32) = _ := hdep 0
        obtain ⟨ga35, gc35, gl35, gh35, DP35, hgh35, hst35⟩ := hdep 3
        change aq.eval (.tmp 35) = _ at DP35
       case' r2x5 =>
        have D4 : aq.eval (.tmp 36) = _ := hdep 4
       all_goals (clear hf hdep; unfold Oper.wp; generalize Act.eval _ = ev at *; go_simp)
       case r2x3 =>
        refine (((unhide HRW) _)).mono ?_
        rintro e w2 ⟨v9, rfl, hpr, hb⟩
        refine hK _ _ (hS.call hb) ?_ (fun j u _ h => hst9 j _ _ _ hb h)
        rw [if_pos (by rfl)]
        exact hpr
       case r2x4 =>
        refine (((unhide HSM) _ _ _ _ _ hS.below hgh35 hst35)).mono ?_
        rintro e w2 ⟨rfl, hb⟩
        refine hK _ _ (hS.call hb) ?_ (fun j u _ h => hst9 j _ _ _ hb h)
        rw [if_pos (by rfl)]
        show (_ : Value) = _
        first | rfl | (refine congrArg (Value.int .i64) ?_; first | rfl | exact int_in (by omega) | exact quo_in (by omega) (by omega) (by omega) | exact rem_in (by omega) (by omega) | omega) | (simp; done) | (simp [*]; done)
       all_goals (refine hK _ _ hS ?_ (fun j u _ h => h); rw [if_pos (by rfl)]; show (_ : Value) = _; (first | rfl | (refine congrArg (Value.int .i64) ?_; first | rfl | exact int_in (by omega) | exact quo_in (by omega) (by omega) (by omega) | exact rem_in (by omega) (by omega) | omega) | (simp; done) | (simp [*]; done)))
      ·intro aq wx hd hw hf hS hg
       have G37 : tau aq 37 = .bool (!bq) := hg 5 (by decide)
       have haq : aq = ⟨#[tau aq 0, tau aq 1, tau aq 2, tau aq 3, tau aq 4, tau aq 5, tau aq 6, tau aq 7, tau aq 8, tau aq 9, tau aq 10, tau aq 11, tau aq 12, tau aq 13, tau aq 14, tau aq 15, tau aq 16, tau aq 17, tau aq 18, tau aq 19, tau aq 20, tau aq 21, tau aq 22, tau aq 23, tau aq 24, tau aq 25, tau aq 26, tau aq 27, tau aq 28, tau aq 29, tau aq 30, tau aq 31, tau aq 32, tau aq 33, tau aq 34, tau aq 35, tau aq 36, tau aq 37, tau aq 38, tau aq 39, tau aq 40, tau aq 41, tau aq 42, tau aq 43], []⟩ := by
        obtain ⟨tq, dq⟩ := aq
        have h5 := arr_eq (show tq.size = 44 from hw)
        have h6 : dq = [] := hd
        subst h6
        exact congrArg (fun z => Act.mk z []) h5
       show K2 aq wx
       rw [haq, hf 0, hf 1, hf 2, hf 3, hf 4, hf 5, hf 6, hf 7, hf 8, hf 9, hf 10, hf 11, hf 12, hf 13, hf 14, hf 15, hf 16, hf 17, hf 18, hf 19, hf 20, hf 21, hf 22, hf 23, hf 24, hf 25, hf 26, hf 27, hf 28, hf 29, hf 30, hf 31, hf 38, hf 39, hf 40, hf 41, hf 42, hf 43, G37]
       clear haq hf hd hw
       try dsimp only
       refine h3 _ _ ?_
       go_meet
       refine ⟨rfl, ?_, ?_, ?_, ?_, ?_, hS.below⟩
       all_goals first | exact hS.cells (_, _) (by simp) | exact (hS.free _ (by simp)).2
     try clear c00
     try clear c01
     try clear c02
     try clear c03
     try clear c04
     try clear z0
     obtain ⟨rfl, c00, c01, c02, c03, c04, hb0⟩ := hcut
     have z0 := World.block_lt_of_cell? _ _ c00
     change wv.heap.size < wc.heap.size at z0
     have hs2 := hsd.call hK hb0
     have hz9 := hs2.sd.bel.size
     cases bq
     ·have YES := hide ((congrArg (· ++ [(ix : Int)]) (unhide hl)).trans (wr_yes (unhide HBQ)).symm)
      clear HBQ
      go_wp2_with (at_builtin; refine app_int _ rfl (.tmp 38) (.tmp 40) rfl w.heap.size (.slice a8 n8 c8) l (ix : Int) wc.heap.size rfl rfl (hs2.alloc hK _).il (by go_simp) (by omega) (by first | omega | (simp; omega)) ?_; intro g9 cap w3 hown hgrow hat hlt)
      go_roundw
      case rel =>
       have hs3 := (hs2.alloc hK _).app hK hown hgrow hat
       exact ⟨ix + 1, l.length + 1, cap, some ⟨g9, 0, none⟩, _, by go_num, rfl, by omega, by have := unhide hln; omega, YES, hs3⟩
      case measure => simp [intOf]; omega
     ·have NO := hide ((unhide hl).trans (wr_no (unhide HBQ)).symm)
      clear HBQ
      go_wp2
      go_roundw
      case rel => first | exact ⟨ix + 1, n8, c8, _, l, by first | rfl | go_num, rfl, by omega, by omega, NO, hs2⟩ | ((repeat apply Exists.intro); exact ⟨⟨ix + 1, n8, c8, _, l, by first | rfl | go_num, rfl, by omega, by omega, NO, hs2⟩, rfl⟩)
      case measure => simp [intOf]; omega
    ·obtain rfl : n = ix := by omega
     go_wp2
     go_ret2
     have hL := unhide hl
     subst hL
     have hn8 := unhide hsd.len
     subst hn8
     exact ⟨a8, c8, rfl, hsd.il.ints.2, hsd.sd.bel⟩

set_option maxRecDepth 100000 in
set_option maxHeartbeats 4000000 in
theorem specWr_0 (a : Option Addr) (n c : Nat) (w : World) (hn : 40 < n) (h2 : n ≤ 2000000) (f : Nat → Int) : Calls Tryz.prog 17 #[.slice a n c] w (RetInts w 0 f false) := by
 have hci : (40 : Int) < (n : Int) := by omega
 go_enter Tryz.func17, Tryz.ntmps17
 go_wp2
 go_ret2
 exact ⟨_, _, rfl, .inl rfl, byGG⟩
set_option maxRecDepth 100000 in
set_option maxHeartbeats 4000000 in
theorem specWr_1 (a : Option Addr) (n c lo hi : Nat) (t : Nat → TR) (w : World) (hn : n ≤ 40) (h : RowsAt w lo hi a n t) (h9 : hi ≤ w.heap.size) (E : ∀ i, i < n → RowOk (t i).r ∧ (t i).zs.length ≤ 2000000) (f : Nat → Int) (HX : Hid (∃ i, i < n ∧ wrG t i = false)) : Calls Tryz.prog 17 #[.slice a n c] w (RetInts w 0 f false) := by
 have hc40 : ¬ (40 : Int) < (n : Int) := by omega
 have HH := hide h
 clear h
 go_enter Tryz.func17, Tryz.ntmps17
 go_wp2
 go_loopw [14] (fun is wr => ∃ ix : Nat, ix ≤ n ∧ is = .int .i64 (ix : Int) ∧ Below w.heap.size w wr ∧ Hid (∀ i, i < ix → wrG t i = true)) (fun is _ => n - (intOf is).toNat)
 case atStart => exact ⟨0, by omega, rfl, byGG, hide fun i hi => absurd hi (by omega)⟩
 case round =>
  obtain ⟨ix, hi2, rfl, hb, hall⟩ := hrel
  obtain ⟨wl, rfl⟩ : ∃ wl : World, wl = wr := ⟨_, rfl⟩
  by_cases q : ix < n
  ·have hci : (ix : Int) < (n : Int) := by omega
   obtain ⟨g, rfl⟩ := (unhide HH).some q
   have K1 := (unhide HH).below hb h9 (Nat.le_refl _)
   obtain ⟨⟨c0, c1, c2, c3, c4⟩, gb1, -⟩ := K1.ent q
   obtain ⟨ok1, ok2⟩ := E ix q
   have inn := K1.inn ix q
   have top := K1.top ix q
   have hzl := hb.size
   have HG0 : ∀ W, Below wl.heap.size wl W → Calls Tryz.prog 32 #[rwv (t ix).r (.slice (t ix).a (t ix).zs.length (t ix).c)] W fun e w' => e = .returned (.bool (wrG t ix)) ∧ Below W.heap.size W w' := fun W hbW =>
    tbGood_a _ _ _ _ W (IntsAt.argI (inn.below hbW (by omega)) (by have := hbW.size; omega)) ok2 ok1
   clear K1 inn top ok1 ok2
   obtain ⟨bq, hbq⟩ : ∃ bq, wrG t ix = bq := ⟨_, rfl⟩
   rw [hbq] at HG0
   have HG := hide HG0
   clear HG0
   generalize (t ix).r = r at *
   generalize (t ix).zs.length = n9 at *
   generalize (t ix).a = x1 at *
   generalize (t ix).c = d1 at *
   cases bq
   ·clear hbq
    go_wp2_with (go_at_call 32; refine ((unhide HG) _ byGG).mono ?_; rintro e w3 ⟨rfl, hb3⟩)
    go_ret2
    exact ⟨_, _, rfl, .inl rfl, byGG⟩
   ·have HBQ := hide hbq
    clear hbq
    go_wp2_with (go_at_call 32; refine ((unhide HG) _ byGG).mono ?_; rintro e w3 ⟨rfl, hb3⟩)
    go_roundw
    case rel => exact ⟨ix + 1, by omega, by first | rfl | go_num, byGG, hide fun i hi => by (by_cases e : i = ix; (subst e; exact unhide HBQ); exact unhide hall i (by omega))⟩
    case measure => simp [intOf]; omega
  ·obtain rfl : n = ix := by omega
   exfalso
   obtain ⟨i, hi3, hg3⟩ := unhide HX
   rw [unhide hall i hi3] at hg3
   cases hg3
set_option maxRecDepth 100000 in
set_option maxHeartbeats 4000000 in
theorem specWr_2 (a : Option Addr) (n c lo hi : Nat) (t : Nat → TR) (w : World) (hn : n ≤ 40) (h : RowsAt w lo hi a n t) (h9 : hi ≤ w.heap.size) (E : ∀ i, i < n → RowOk (t i).r ∧ (t i).zs.length ≤ 2000000) (HX : ∀ i, i < n → wrG t i = true) : Calls Tryz.prog 17 #[.slice a n c] w (RetInts w (wrL t n).length (fun i => (wrL t n).getD i 0) true) := by
 have hc40 : ¬ (40 : Int) < (n : Int) := by omega
 have HH := hide h
 clear h
 have HD : Hid (∀ i, i < n → ∀ W, Calls Tryz.prog 24 #[.int .i64 (t i).r.d] W fun e w' => ∃ v', e = .returned v' ∧ RvP (rowV (t i).r.d) (rowFL (t i).r.d) w' v' ∧ Below W.heap.size W w') := hide fun i hi W => (tbRow_a _ W (wrG_d (HX i hi))).mono fun e w' hr => rv_of hr
 have HZ : ∀ i, i < n → (rowFL (t i).r.d).length ≤ 700 := fun i hi => rowFL_len (wrG_d (HX i hi))
 go_enter Tryz.func17, Tryz.ntmps17
 go_wp2
 go_loopw [14] (fun is wr => ∃ ix : Nat, ix ≤ n ∧ is = .int .i64 (ix : Int) ∧ Below w.heap.size w wr ∧ Hid (∀ i, i < ix → wrG t i = true)) (fun is _ => n - (intOf is).toNat)
 case atStart => exact ⟨0, by omega, rfl, byGG, hide fun i hi => absurd hi (by omega)⟩
 case round =>
  obtain ⟨ix, hi2, rfl, hb, hall⟩ := hrel
  obtain ⟨wl, rfl⟩ : ∃ wl : World, wl = wr := ⟨_, rfl⟩
  by_cases q : ix < n
  ·have hci : (ix : Int) < (n : Int) := by omega
   obtain ⟨g, rfl⟩ := (unhide HH).some q
   have K1 := (unhide HH).below hb h9 (Nat.le_refl _)
   obtain ⟨⟨c0, c1, c2, c3, c4⟩, gb1, -⟩ := K1.ent q
   obtain ⟨ok1, ok2⟩ := E ix q
   have inn := K1.inn ix q
   have top := K1.top ix q
   have hzl := hb.size
   have HG0 : ∀ W, Below wl.heap.size wl W → Calls Tryz.prog 32 #[rwv (t ix).r (.slice (t ix).a (t ix).zs.length (t ix).c)] W fun e w' => e = .returned (.bool (wrG t ix)) ∧ Below W.heap.size W w' := fun W hbW =>
    tbGood_a _ _ _ _ W (IntsAt.argI (inn.below hbW (by omega)) (by have := hbW.size; omega)) ok2 ok1
   clear K1 inn top ok1 ok2
   obtain ⟨bq, hbq⟩ : ∃ bq, wrG t ix = bq := ⟨_, rfl⟩
   rw [hbq] at HG0
   have HG := hide HG0
   clear HG0
   generalize (t ix).r = r at *
   generalize (t ix).zs.length = n9 at *
   generalize (t ix).a = x1 at *
   generalize (t ix).c = d1 at *
   cases bq
   ·exfalso; rw [HX ix q] at hbq; cases hbq
   ·have HBQ := hide hbq
    clear hbq
    go_wp2_with (go_at_call 32; refine ((unhide HG) _ byGG).mono ?_; rintro e w3 ⟨rfl, hb3⟩)
    go_roundw
    case rel => exact ⟨ix + 1, by omega, by first | rfl | go_num, byGG, hide fun i hi => by (by_cases e : i = ix; (subst e; exact unhide HBQ); exact unhide hall i (by omega))⟩
    case measure => simp [intOf]; omega
  ·obtain rfl : n = ix := by omega
   have hzl9 := hb.size
   have hsd0 : SI w 0 0 (fun _ => True) wl none 0 0 [] := ⟨hide rfl, ⟨World.ownsRow_nil _ _ _ _, fun b _ => .inr (Nat.zero_le _), byGG, trivial, Nat.zero_le _⟩⟩
   have hK : Kept 0 0 (fun _ => True) := fun _ _ _ _ => trivial
   clear hall
   go_wp2
   go_loopw [4, 24] (fun ls is wr => ∃ (k n9 c : Nat) (a : Option Addr) (l : List Int), is = .int .i64 (k : Int) ∧ ls = .slice a n9 c ∧ k ≤ n ∧ n9 ≤ k ∧ Hid (l = wrL t k) ∧ SI w 0 0 (fun _ => True) wr a n9 c l) (fun _ is _ => n - (intOf is).toNat)
   case atStart => exact ⟨0, 0, 0, _, _, rfl, rfl, by omega, by omega, hide rfl, hsd0⟩
   case round =>
    clear hsd0 hb hzl9
    obtain ⟨ix, n8, c8, a8, l, rfl, rfl, hk, hnk, hl, hsd⟩ := hrel
    obtain ⟨wv, rfl⟩ : ∃ wv : World, wv = wr := ⟨_, rfl⟩
    have hb := hsd.sd.bel
    have hln := hsd.len
    have hlb : l.length ≤ 3000 := by have := unhide hln; omega
    by_cases q : ix < n
    ·have hci : (ix : Int) < (n : Int) := by omega
     obtain ⟨g, rfl⟩ := (unhide HH).some q
     have K1 := (unhide HH).below hb h9 (Nat.le_refl _)
     obtain ⟨⟨c0, c1, c2, c3, c4⟩, gb1, -⟩ := K1.ent q
     obtain ⟨ok1, ok2⟩ := E ix q
     have inn := K1.inn ix q
     have top := K1.top ix q
     have hzl := hb.size
     have HRW := hide (unhide HD ix q)
     have hz2 := HZ ix q
     obtain ⟨bq, hbq⟩ : ∃ bq, wrS t ix = bq := ⟨_, rfl⟩
     have HSM0 : ∀ W a2 c2 l2 u2, Below wv.heap.size wv W → u2 ≤ W.heap.size → IntsAt W l2 u2 a2 (rowFL (t ix).r.d).length (fun i => (rowFL (t ix).r.d).getD i 0) → Calls Tryz.prog 33 #[rwv (t ix).r (.slice (t ix).a (t ix).zs.length (t ix).c), rwv (rowV (t ix).r.d) (.slice a2 (rowFL (t ix).r.d).length c2)] W fun e w' => e = .returned (.bool bq) ∧ Below W.heap.size W w' := fun W a2 c2 l2 u2 hbW hu hi => by
      rw [← hbq]
      exact tbSame_a _ _ _ _ _ _ _ _ _ _ _ _ _ _ rfl rfl W (by have := hbW.size; omega) hu (inn.below hbW (by omega)) hi ok2 (by omega)
     have HSM := hide HSM0
     clear HSM0 K1 inn top ok1 ok2
     have HBQ := hide hbq
     clear hbq
     generalize rowV (t ix).r.d = r2 at *
     generalize rowFL (t ix).r.d = z2 at *
     generalize (t ix).r = r at *
     generalize (t ix).zs.length = n9 at *
     generalize (t ix).a = x1 at *
     generalize (t ix).c = d1 at *
     go_upto_region 13 with fail
     go_cut [34] (fun s34 wx => s34 = .bool (!bq) ∧ wx.cell? ⟨wv.heap.size, 0, none⟩ = some (.int .i64 r.d) ∧ wx.cell? ⟨wv.heap.size, 1, none⟩ = some (.int .i64 r.num) ∧ wx.cell? ⟨wv.heap.size, 2, none⟩ = some (.slice x1 n9 d1) ∧ wx.cell? ⟨wv.heap.size, 3, none⟩ = some (.int .i64 r.ge) ∧ wx.cell? ⟨wv.heap.size, 4, none⟩ = some (.int .i64 r.ex) ∧ Below wv.heap.size wv wx)
     case first =>
      have h1 := trivial
      rename_i K2 h2 h3
      let hgf9 : Nat → World → Value → Prop := fun j => match j with | 0 => Kd.ok (Kd.val (.agg #[.int .i64 r.d, .int .i64 r.num, .slice x1 n9 d1, .int .i64 r.ge, .int .i64 r.ex])) | 1 => Kd.ok (Kd.val (.pointer (some ⟨wv.heap.size, 0, none⟩))) | 2 => Kd.ok (Kd.val (.int .i64 (r.d))) | 3 => (RvP r2 z2) | 4 => Kd.ok (Kd.val (.bool bq)) | 5 => Kd.ok (Kd.val (.bool (!bq))) | _ => Kd.ok Kd.any
      have hst9 : ∀ j, StB (hgf9 j) := fun j => match j with | 0 => (Kd.st (Kd.val (.agg #[.int .i64 r.d, .int .i64 r.num, .slice x1 n9 d1, .int .i64 r.ge, .int .i64 r.ex])) : StB (Kd.ok (Kd.val (.agg #[.int .i64 r.d, .int .i64 r.num, .slice x1 n9 d1, .int .i64 r.ge, .int .i64 r.ex])))) | 1 => (Kd.st (Kd.val (.pointer (some ⟨wv.heap.size, 0, none⟩))) : StB (Kd.ok (Kd.val (.pointer (some ⟨wv.heap.size, 0, none⟩))))) | 2 => (Kd.st (Kd.val (.int .i64 (r.d))) : StB (Kd.ok (Kd.val (.int .i64 (r.d))))) | 3 => (RvP.st : StB (RvP r2 z2)) | 4 => (Kd.st (Kd.val (.bool bq)) : StB (Kd.ok (Kd.val (.bool bq)))) | 5 => (Kd.st (Kd.val (.bool (!bq))) : StB (Kd.ok (Kd.val (.bool (!bq))))) | j + 6 => (Kd.st Kd.any : StB (Kd.ok Kd.any))
      refine region_n0 (by kernel_rfl) (fun j => #[29,30,31,32,33,34].getD j 0) (hgf9) (Sy wv (wv.heap.size + 1) [(⟨wv.heap.size, 0, none⟩, .int .i64 r.d), (⟨wv.heap.size, 1, none⟩, .int .i64 r.num), (⟨wv.heap.size, 2, none⟩, .slice x1 n9 d1), (⟨wv.heap.size, 3, none⟩, .int .i64 r.ge), (⟨wv.heap.size, 4, none⟩, .int .i64 r.ex)] []) (by kernel_rfl) (by kernel_rfl) ?_ ?_ ?_ ?_
      ·intro j hj
       have hj2 : j < 6 := hj
       have : ∀ j, j < 6 → (#[29,30,31,32,33,34] : Array Nat).getD j 0 < 41 := by decide
       exact this j hj2
      ·refine Sy.drew (Sy.mk_of ?_ ?_ ?_ ?_)
       ·first | rfl | (simp; done) | (simp; omega)
       ·intro c hc
        simp only [List.mem_cons, List.not_mem_nil, or_false] at hc
        rcases hc with rfl | rfl | rfl | rfl | rfl <;> exact byCT
       ·intro p hp; cases hp
       ·(repeat' first | with_reducible (first | exact Below.refl _ _ | assumption | refine gr_alloc ?_ _ | refine below_drewN ?_ _ | refine below_drew ?_ | refine gr_call ?_ (by assumption) | refine Below.setCell ?_ ?_ _) | go_size | omega | (simp; omega))
      ·clear h1 h2 h3
       refine ⟨?r3x0, ?r3x1, ?r3x2, ?r3x3, ?r3x4, ?r3x5, trivial⟩
       all_goals intro _ aq wx Kq hf hS hdep ev1 ev2 hK
       case' r3x0 =>
        have F8 : aq.eval (.tmp 8) = .pointer (some ⟨wv.heap.size, 0, none⟩) := hf 8
        have c0 := hS.cells (⟨wv.heap.size, 0, none⟩, .int .i64 r.d) (by simp)
        have c1 := hS.cells (⟨wv.heap.size, 1, none⟩, .int .i64 r.num) (by simp)
        have c2 := hS.cells (⟨wv.heap.size, 2, none⟩, .slice x1 n9 d1) (by simp)
        have c3 := hS.cells (⟨wv.heap.size, 3, none⟩, .int .i64 r.ge) (by simp)
        have c4 := hS.cells (⟨wv.heap.size, 4, none⟩, .int .i64 r.ex) (by simp)
       case' r3x1 =>
        have F8 : aq.eval (.tmp 8) = .pointer (some ⟨wv.heap.size, 0, none⟩) := hf 8
       case' r3x2 =>
        have D1 : aq.eval (.tmp 30) = _ := hdep 1
        have c0 := hS.cells (⟨wv.heap.size, 0, none⟩, .int .i64 r.d) (by simp)
       case' r3x3 =>
        have D2 : aq.eval (.tmp 31) = _ := hdep 2
       case' r3x4 =>
        have D0 : aq.eval (.tmp 29) = _ := hdep 0
        obtain ⟨ga32, gc32, gl32, gh32, DP32, hgh32, hst32⟩ := hdep 3
        change aq.eval (.tmp 32) = _ at DP32
       case' r3x5 =>
        have D4 : aq.eval (.tmp 33) = _ := hdep 4
       all_goals (clear hf hdep; unfold Oper.wp; generalize Act.eval _ = ev at *; go_simp)
       case r3x3 =>
        refine (((unhide HRW) _)).mono ?_
        rintro e w2 ⟨v9, rfl, hpr, hb⟩
        refine hK _ _ (hS.call hb) ?_ (fun j u _ h => hst9 j _ _ _ hb h)
        rw [if_pos (by rfl)]
        exact hpr
       case r3x4 =>
        refine (((unhide HSM) _ _ _ _ _ hS.below hgh32 hst32)).mono ?_
        rintro e w2 ⟨rfl, hb⟩
        refine hK _ _ (hS.call hb) ?_ (fun j u _ h => hst9 j _ _ _ hb h)
        rw [if_pos (by rfl)]
        show (_ : Value) = _
        first | rfl | (refine congrArg (Value.int .i64) ?_; first | rfl | exact int_in (by omega) | exact quo_in (by omega) (by omega) (by omega) | exact rem_in (by omega) (by omega) | omega) | (simp; done) | (simp [*]; done)
       all_goals (refine hK _ _ hS ?_ (fun j u _ h => h); rw [if_pos (by rfl)]; show (_ : Value) = _; (first | rfl | (refine congrArg (Value.int .i64) ?_; first | rfl | exact int_in (by omega) | exact quo_in (by omega) (by omega) (by omega) | exact rem_in (by omega) (by omega) | omega) | (simp; done) | (simp [*]; done)))
      ·intro aq wx hd hw hf hS hg
       have G34 : tau aq 34 = .bool (!bq) := hg 5 (by decide)
       have haq : aq = ⟨#[tau aq 0, tau aq 1, tau aq 2, tau aq 3, tau aq 4, tau aq 5, tau aq 6, tau aq 7, tau aq 8, tau aq 9, tau aq 10, tau aq 11, tau aq 12, tau aq 13, tau aq 14, tau aq 15, tau aq 16, tau aq 17, tau aq 18, tau aq 19, tau aq 20, tau aq 21, tau aq 22, tau aq 23, tau aq 24, tau aq 25, tau aq 26, tau aq 27, tau aq 28, tau aq 29, tau aq 30, tau aq 31, tau aq 32, tau aq 33, tau aq 34, tau aq 35, tau aq 36, tau aq 37, tau aq 38, tau aq 39, tau aq 40], []⟩ := by
        obtain ⟨tq, dq⟩ := aq
        have h5 := arr_eq (show tq.size = 41 from hw)
        have h6 : dq = [] := hd
        subst h6
        exact congrArg (fun z => Act.mk z []) h5
       show K2 aq wx
       rw [haq, hf 0, hf 1, hf 2, hf 3, hf 4, hf 5, hf 6, hf 7, hf 8, hf 9, hf 10, hf 11, hf 12, hf 13, hf 14, hf 15, hf 16, hf 17, hf 18, hf 19, hf 20, hf 21, hf 22, hf 23, hf 24, hf 25, hf 26, hf 27, hf 28, hf 35, hf 36, hf 37, hf 38, hf 39, hf 40, G34]
       clear haq hf hd hw
       try dsimp only
       refine h3 _ _ ?_
       go_meet
       refine ⟨rfl, ?_, ?_, ?_, ?_, ?_, hS.below⟩
       all_goals first | exact hS.cells (_, _) (by simp) | exact (hS.free _ (by simp)).2
     try clear c00
     try clear c01
     try clear c02
     try clear c03
     try clear c04
     try clear z0
     obtain ⟨rfl, c00, c01, c02, c03, c04, hb0⟩ := hcut
     have z0 := World.block_lt_of_cell? _ _ c00
     change wv.heap.size < wc.heap.size at z0
     have hs2 := hsd.call hK hb0
     have hz9 := hs2.sd.bel.size
     cases bq
     ·have YES := hide ((congrArg (· ++ [(ix : Int)]) (unhide hl)).trans (wr_yes (unhide HBQ)).symm)
      clear HBQ
      go_wp2_with (at_builtin; refine app_int _ rfl (.tmp 35) (.tmp 37) rfl w.heap.size (.slice a8 n8 c8) l (ix : Int) wc.heap.size rfl rfl (hs2.alloc hK _).il (by go_simp) (by omega) (by first | omega | (simp; omega)) ?_; intro g9 cap w3 hown hgrow hat hlt)
      go_roundw
      case rel =>
       have hs3 := (hs2.alloc hK _).app hK hown hgrow hat
       exact ⟨ix + 1, l.length + 1, cap, some ⟨g9, 0, none⟩, _, by go_num, rfl, by omega, by have := unhide hln; omega, YES, hs3⟩
      case measure => simp [intOf]; omega
     ·have NO := hide ((unhide hl).trans (wr_no (unhide HBQ)).symm)
      clear HBQ
      go_wp2
      go_roundw
      case rel => first | exact ⟨ix + 1, n8, c8, _, l, by first | rfl | go_num, rfl, by omega, by omega, NO, hs2⟩ | ((repeat apply Exists.intro); exact ⟨⟨ix + 1, n8, c8, _, l, by first | rfl | go_num, rfl, by omega, by omega, NO, hs2⟩, rfl⟩)
      case measure => simp [intOf]; omega
    ·obtain rfl : n = ix := by omega
     go_wp2
     go_ret2
     have hL := unhide hl
     subst hL
     have hn8 := unhide hsd.len
     subst hn8
     exact ⟨a8, c8, rfl, hsd.il.ints.2, hsd.sd.bel⟩

end Go.Proofs.YtaeabefbohlcpaaGreat
