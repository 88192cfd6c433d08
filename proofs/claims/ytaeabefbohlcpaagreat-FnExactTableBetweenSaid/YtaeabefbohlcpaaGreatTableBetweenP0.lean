/- Primitive reduced forms and discriminants in a range, on both sides. A drawn region by an invariant: one proof for each operation, whatever the order. Plain law over any program. A drawn region by an invariant, where an operation may lean on what holds as long as another one that waits for it is still to come. Plain law over any program. What the operations of a drawn region leave behind, by kinds: a value, a new block, a new block that holds values, cells of old blocks. Plain law over any program. The invariant rule for a drawn region, its operations one behind the other. Plain law over any program. The invariant rule where an operation reads a slot that a later one writes. Plain law over any program. GreatestNumber on both sides, and the law's walk. A list of rows whose factors lie in blocks of their own. TableBetween on both sides. eqRowS. -/
import Derived.Test.YtaeabefbohlcpaaGreatNum
import Derived.Test.YtaeabefbohlcpaaGreatLevel
import Derived.Test.YtaeabefbohlcpaaGreatConv
import Derived.Test.YtaeabefbohlcpaaGreatRed
import Derived.Test.YtaeabefbohlcpaaGreatDrp
import Derived.Test.YtaeabefbohlcpaaGreatPt
import Derived.Test.YtaeabefbohlcpaaGreatRule
import Derived.Test.YtaeabefbohlcpaaGreatOwn
import Derived.Test.YtaeabefbohlcpaaGreatSub
import Derived.Test.YtaeabefbohlcpaaGreatCmp
import Derived.Test.YtaeabefbohlcpaaGreatStep
import Derived.Test.YtaeabefbohlcpaaGreatReduceI
import Derived.Test.YtaeabefbohlcpaaGreatReduceS
import Derived.Test.YtaeabefbohlcpaaGreatRd
import Derived.Test.YtaeabefbohlcpaaGreatFp
import Derived.Test.YtaeabefbohlcpaaGreatInv
import Derived.Test.YtaeabefbohlcpaaGreatCpl
import Derived.Test.YtaeabefbohlcpaaGreatCpw
import Derived.Test.YtaeabefbohlcpaaGreatCps
import Derived.Test.YtaeabefbohlcpaaGreatGp
import Derived.Test.YtaeabefbohlcpaaGreatGi
import Derived.Test.YtaeabefbohlcpaaGreatGrp
import Derived.Test.YtaeabefbohlcpaaGreatRfl
import Derived.Test.YtaeabefbohlcpaaGreatFac
import Derived.Test.YtaeabefbohlcpaaGreatOs
import Derived.Test.YtaeabefbohlcpaaGreatUnw
import Derived.Test.YtaeabefbohlcpaaGreatCmpI
import Derived.Test.YtaeabefbohlcpaaGreatCou
import Derived.Test.YtaeabefbohlcpaaGreatSd
import Derived.Test.YtaeabefbohlcpaaGreatFaw
import Derived.Test.YtaeabefbohlcpaaGreatFap
import Derived.Test.YtaeabefbohlcpaaGreatFan
import Derived.Test.YtaeabefbohlcpaaGreatJac
import Derived.Test.YtaeabefbohlcpaaGreatJas
import Derived.Test.YtaeabefbohlcpaaGreatChv
import Derived.Test.YtaeabefbohlcpaaGreatChi
import Derived.Test.YtaeabefbohlcpaaGreatChs
import Derived.Test.YtaeabefbohlcpaaGreatPtg
import Derived.Test.YtaeabefbohlcpaaGreatFpg
import Derived.Test.YtaeabefbohlcpaaGreatGnv
import Derived.Test.YtaeabefbohlcpaaGreatGrq
import Derived.Test.YtaeabefbohlcpaaGreatGrt
import Derived.Test.YtaeabefbohlcpaaGreatIvp
import Derived.Test.YtaeabefbohlcpaaGreatIvi
import Derived.Test.YtaeabefbohlcpaaGreatIvs
import Derived.Test.YtaeabefbohlcpaaGreatGix
import Derived.Test.YtaeabefbohlcpaaGreatGtt
import Derived.Test.YtaeabefbohlcpaaGreatGx
import Derived.Test.YtaeabefbohlcpaaGreatGng
import Derived.Test.YtaeabefbohlcpaaGreatGns
import Derived.Test.YtaeabefbohlcpaaGreatRwo
import Derived.Test.YtaeabefbohlcpaaGreatRwt
import Derived.Test.YtaeabefbohlcpaaGreatPost
import Derived.WalkKit
import Derived.Below
import Derived.Handy
import Derived.Deep.RegionHeld3
import Derived.Deep.DeepCutAuto
import Derived.Deep.Draws
namespace Go.Proofs.YtaeabefbohlcpaaGreat
open Go.RowKit
set_option linter.unusedVariables false
set_option linter.unusedSimpArgs false
attribute [local go_sem] q2 q3 q4 q5 q6 q7 q8 q9 q10 q11 q12
def dcP (lo : Int) (k : Nat) : Bool := negB (lo + k)
def dcE (lo : Int) (k : Nat) : Int := lo + k
def dcL (lo hi : Int) : List Int := flN (dcP lo) (dcE lo) (hi - lo + 1).toNat

set_option maxRecDepth 100000 in
set_option maxHeartbeats 2000000 in
theorem discsIn_a (lo hi : Int) (w : World) (h0 : -2000 ≤ lo) (h1 : hi ≤ -3) :
  Calls Tryz.prog 30 #[.int .i64 lo, .int .i64 hi] w (RetIL w (flN (dcP lo) (dcE lo) (hi - lo + 1).toNat)) := by
 go_enter Tryz.func30, Tryz.ntmps30
 go_wp2
 go_loopw [5, 6] (fun ls xs wr => ∃ (k : Nat) (a : Option Addr) (c : Nat), k ≤ (hi - lo + 1).toNat ∧ xs = .int .i64 (lo + (k : Int)) ∧ ls = .slice a (flN (dcP lo) (dcE lo) k).length c ∧ IL wr w.heap.size (.slice a (flN (dcP lo) (dcE lo) k).length c) (flN (dcP lo) (dcE lo) k) ∧ Below w.heap.size w wr) (fun _ xs _ => ((hi + 1) - intOf xs).toNat)
 case atStart => exact ⟨0, some ⟨w.heap.size, 0, none⟩, 0, by omega, congrArg (Value.int .i64) (by omega), rfl, IL.made w _ (Nat.le_refl _), (Below.refl _ _).alloc (Nat.le_refl _) _⟩
 case round =>
  obtain ⟨k, a, c, hk, rfl, rfl, hl, hb⟩ := hrel
  obtain ⟨w1, rfl⟩ : ∃ w1 : World, w1 = wr := ⟨_, rfl⟩
  have hz := hb.size
  have hL := flN_len (dcP lo) (dcE lo) k
  by_cases c1 : k < (hi - lo + 1).toNat
  ·have hle : lo + (k : Int) ≤ hi := by omega
   cases hp : (dcP lo) k
   ·have el := flN_no (e := (dcE lo)) hp
    have EL := hide el
    have hp2 : negB (lo + (k : Int)) = false := hp
    clear el
    go_wp2_with (go_at_call 25; refine (isNegativeDisc_a _ _).mono ?_; rintro e w' ⟨rfl, rfl⟩)
    go_roundw
    case rel => first | exact ⟨k + 1, a, c, by omega, congrArg (Value.int .i64) (by omega), by rw [unhide EL], by rw [unhide EL]; exact hl, hb⟩ | ((repeat apply Exists.intro); exact ⟨⟨k + 1, a, c, by omega, congrArg (Value.int .i64) (by omega), by rw [unhide EL], by rw [unhide EL]; exact hl, hb⟩, rfl⟩)
    case measure => simp [intOf]; omega
   ·have el := flN_yes (e := (dcE lo)) hp
    have EL := hide el
    have hp2 : negB (lo + (k : Int)) = true := hp
    clear el
    go_wp2_with (first | (go_at_call 25; refine (isNegativeDisc_a _ _).mono ?_; rintro e w' ⟨rfl, rfl⟩) | (at_builtin; refine app_int _ rfl (.tmp 16) (.tmp 18) rfl w.heap.size (.slice a (flN (dcP lo) (dcE lo) k).length c) (flN (dcP lo) (dcE lo) k) (lo + (k : Int)) w1.heap.size rfl rfl (hl.alloc _) (by simp) (by omega) (by simp; omega) ?_; intro g cap w2 hown hgrow hat hlt))
    go_roundw
    case rel =>
     refine ⟨k + 1, some ⟨g, 0, none⟩, cap, by omega, congrArg (Value.int .i64) (by omega), ?_, ?_, (hb.alloc hz _).grown hgrow (by simp; omega) (fun k hk => (hl.lt k hk).1)⟩
     ·rw [unhide EL, List.length_append]; rfl
     ·rw [unhide EL, List.length_append]; exact hown
    case measure => simp [intOf]; omega
  ·have hle : hi < lo + (k : Int) := by omega
   obtain rfl : k = (hi - lo + 1).toNat := by omega
   go_wp2
   go_ret
   exact ⟨a, c, rfl, hl, hb⟩

set_option maxRecDepth 100000 in
set_option maxHeartbeats 2000000 in
theorem tbDiscs_a (lo hi : Int) (w : World) (h0 : -2000 ≤ lo) (h1 : hi ≤ -3) :
  Calls Tryz.prog 28 #[.int .i64 lo, .int .i64 hi] w (RetIL w (flN (dcP lo) (dcE lo) (hi - lo + 1).toNat)) := by
 go_enter Tryz.func28, Tryz.ntmps28
 go_wp2
 go_loopw [5, 6] (fun ls xs wr => ∃ (k : Nat) (a : Option Addr) (c : Nat), k ≤ (hi - lo + 1).toNat ∧ xs = .int .i64 (lo + (k : Int)) ∧ ls = .slice a (flN (dcP lo) (dcE lo) k).length c ∧ IL wr w.heap.size (.slice a (flN (dcP lo) (dcE lo) k).length c) (flN (dcP lo) (dcE lo) k) ∧ Below w.heap.size w wr) (fun _ xs _ => ((hi + 1) - intOf xs).toNat)
 case atStart => exact ⟨0, none, 0, by omega, congrArg (Value.int .i64) (by omega), rfl, IL.nil _ _, Below.refl _ _⟩
 case round =>
  obtain ⟨k, a, c, hk, rfl, rfl, hl, hb⟩ := hrel
  obtain ⟨w1, rfl⟩ : ∃ w1 : World, w1 = wr := ⟨_, rfl⟩
  have hz := hb.size
  have hL := flN_len (dcP lo) (dcE lo) k
  by_cases c1 : k < (hi - lo + 1).toNat
  ·have hle : lo + (k : Int) ≤ hi := by omega
   cases hp : (dcP lo) k
   ·have el := flN_no (e := (dcE lo)) hp
    have EL := hide el
    have hp2 : negB (lo + (k : Int)) = false := hp
    clear el
    go_wp2_with (go_at_call 23; refine (reDisc_a _ _).mono ?_; rintro e w' ⟨rfl, rfl⟩)
    go_roundw
    case rel => first | exact ⟨k + 1, a, c, by omega, congrArg (Value.int .i64) (by omega), by rw [unhide EL], by rw [unhide EL]; exact hl, hb⟩ | ((repeat apply Exists.intro); exact ⟨⟨k + 1, a, c, by omega, congrArg (Value.int .i64) (by omega), by rw [unhide EL], by rw [unhide EL]; exact hl, hb⟩, rfl⟩)
    case measure => simp [intOf]; omega
   ·have el := flN_yes (e := (dcE lo)) hp
    have EL := hide el
    have hp2 : negB (lo + (k : Int)) = true := hp
    clear el
    go_wp2_with (first | (go_at_call 23; refine (reDisc_a _ _).mono ?_; rintro e w' ⟨rfl, rfl⟩) | (at_builtin; refine app_int _ rfl (.tmp 15) (.tmp 17) rfl w.heap.size (.slice a (flN (dcP lo) (dcE lo) k).length c) (flN (dcP lo) (dcE lo) k) (lo + (k : Int)) w1.heap.size rfl rfl (hl.alloc _) (by simp) (by omega) (by simp; omega) ?_; intro g cap w2 hown hgrow hat hlt))
    go_roundw
    case rel =>
     refine ⟨k + 1, some ⟨g, 0, none⟩, cap, by omega, congrArg (Value.int .i64) (by omega), ?_, ?_, (hb.alloc hz _).grown hgrow (by simp; omega) (fun k hk => (hl.lt k hk).1)⟩
     ·rw [unhide EL, List.length_append]; rfl
     ·rw [unhide EL, List.length_append]; exact hown
    case measure => simp [intOf]; omega
  ·have hle : hi < lo + (k : Int) := by omega
   obtain rfl : k = (hi - lo + 1).toNat := by omega
   go_wp2
   go_ret
   exact ⟨a, c, rfl, hl, hb⟩

theorem dcL_mem {lo hi x : Int} (h : x ∈ dcL lo hi) : negB x = true := by
 obtain ⟨j, _, hp, rfl⟩ := flN_mem h
 exact hp
theorem dcL_len {lo hi : Int} (h0 : -2000 ≤ lo) (h1 : hi ≤ -3) : (dcL lo hi).length ≤ 2000 := by
 have := flN_len (dcP lo) (dcE lo) (hi - lo + 1).toNat
 unfold dcL; omega
end Go.Proofs.YtaeabefbohlcpaaGreat
namespace Go.Proofs.YtaeabefbohlcpaaGreat
open Go.RowKit
set_option linter.unusedVariables false
set_option linter.unusedSimpArgs false

section
variable {P : Program} {ops : Array Oper} {Q : Exit → Act → World → Prop}

end
end Go.Proofs.YtaeabefbohlcpaaGreat
namespace Go.Proofs.YtaeabefbohlcpaaGreat
open Go.RowKit
set_option linter.unusedVariables false
set_option linter.unusedSimpArgs false

section
variable {P : Program} {ops : Array Oper} {Q : Exit → Act → World → Prop}

/-! The same, where an operation may lean on what holds as long as another one that waits for it is still to come. -/
end
end Go.Proofs.YtaeabefbohlcpaaGreat
namespace Go.Proofs.YtaeabefbohlcpaaGreat
open Go.RowKit
set_option linter.unusedVariables false
set_option linter.unusedSimpArgs false

theorem ne_off {b b' o o' : Nat} (h : o ≠ o') : (⟨b, o, none⟩ : Addr) ≠ ⟨b', o', none⟩ := fun e => by injection e with e1 e2; exact h e2
end Go.Proofs.YtaeabefbohlcpaaGreat
namespace Go.Proofs.YtaeabefbohlcpaaGreat
open Go.RowKit
set_option linter.unusedVariables false
set_option linter.unusedSimpArgs false

section
variable {P : Program} {ops : Array Oper} {Q : Exit → Act → World → Prop}
/- The same where an operation reads what another one will write: pre. -/
end
end Go.Proofs.YtaeabefbohlcpaaGreat
namespace Go.Proofs.YtaeabefbohlcpaaGreat
open Go.RowKit
set_option linter.unusedVariables false
set_option linter.unusedSimpArgs false

section
variable {P : Program} {ops : Array Oper} {Q : Exit → Act → World → Prop}

/-! The same, where an operation may lean on what holds as long as another one that waits for it is still to come. -/
end
end Go.Proofs.YtaeabefbohlcpaaGreat
namespace Go.Proofs.YtaeabefbohlcpaaGreat
open Go.RowKit
set_option linter.unusedVariables false
set_option linter.unusedSimpArgs false
attribute [local go_sem] q2 q3 q4 q5 q6 q7 q8 q9 q10 q11 q12

def rgB (lo hi : Int) : Bool := inB lo (-2000) hi && decide (hi ≤ -3)
theorem rg_true {lo hi : Int} (h : rgB lo hi = true) : -2000 ≤ lo ∧ lo ≤ hi ∧ hi ≤ -3 := by
 unfold rgB at h; simp at h
 have := inB_true h.1
 exact ⟨this.1, this.2, h.2⟩
set_option maxRecDepth 100000 in
set_option maxHeartbeats 1000000 in
theorem isRange_a (lo hi : Int) (w : World) :
  Calls Tryz.prog 29 #[.int .i64 lo, .int .i64 hi] w fun e w' => e = .returned (.bool (rgB lo hi)) ∧ w = w' := by
 by_cases k0 : -2000 ≤ lo
 ·by_cases k1 : lo ≤ hi
  ·by_cases k2 : hi ≤ -3
   ·go_enter Tryz.func29, Tryz.ntmps29
    go_wp2
    go_returns
    exact ⟨ret_bool (by simp [rgB, inB, k0, k1, k2] <;> (try (intros; omega))), rfl⟩
   ·go_enter Tryz.func29, Tryz.ntmps29
    go_wp2
    go_returns
    exact ⟨ret_bool (by simp [rgB, inB, k0, k1, k2] <;> (try (intros; omega))), rfl⟩
  ·go_enter Tryz.func29, Tryz.ntmps29
   go_wp2
   go_returns
   exact ⟨ret_bool (by simp [rgB, inB, k0, k1] <;> (try (intros; omega))), rfl⟩
 ·go_enter Tryz.func29, Tryz.ntmps29
  go_wp2
  go_returns
  exact ⟨ret_bool (by simp [rgB, inB, k0] <;> (try (intros; omega))), rfl⟩

set_option maxRecDepth 100000 in
set_option maxHeartbeats 1000000 in
theorem tbRange_a (lo hi : Int) (w : World) :
  Calls Tryz.prog 27 #[.int .i64 lo, .int .i64 hi] w fun e w' => e = .returned (.bool (rgB lo hi)) ∧ w = w' := by
 cases k0 : inB lo (-2000) hi
 ·go_enter Tryz.func27, Tryz.ntmps27
  go_wp2_with (go_at_call 37; refine (l1In_any _ _ _ _).mono ?_; rintro e w' ⟨rfl, rfl⟩)
  go_returns
  exact ⟨ret_bool (by simp [rgB, k0] <;> (try (intros; omega))), rfl⟩
 ·by_cases k1 : hi ≤ -3
  ·go_enter Tryz.func27, Tryz.ntmps27
   go_wp2_with (go_at_call 37; refine (l1In_any _ _ _ _).mono ?_; rintro e w' ⟨rfl, rfl⟩)
   go_returns
   exact ⟨ret_bool (by simp [rgB, k0, k1] <;> (try (intros; omega))), rfl⟩
  ·go_enter Tryz.func27, Tryz.ntmps27
   go_wp2_with (go_at_call 37; refine (l1In_any _ _ _ _).mono ?_; rintro e w' ⟨rfl, rfl⟩)
   go_returns
   exact ⟨ret_bool (by simp [rgB, k0, k1] <;> (try (intros; omega))), rfl⟩

end Go.Proofs.YtaeabefbohlcpaaGreat
namespace Go.Proofs.YtaeabefbohlcpaaGreat
open Go.RowKit
set_option linter.unusedVariables false
set_option linter.unusedSimpArgs false
attribute [local go_sem] q2 q3 q4 q5 q6 q7 q8 q9 q10 q11 q12

structure TR where
 r : RowV
 a : Option Addr
 c : Nat
 lo : Nat
 hi : Nat
 zs : List Int
def tr0 : TR := ⟨⟨0, 0, 0, 0⟩, none, 0, 0, 0, []⟩
def TR.cells (t : TR) : List Value := [.int .i64 t.r.d, .int .i64 t.r.num, .slice t.a t.zs.length t.c, .int .i64 t.r.ge, .int .i64 t.r.ex]
def cellsR : List TR → List Value
 | [] => []
 | t :: ts => t.cells ++ cellsR ts
theorem cellsR_app : ∀ (ts : List TR) (t : TR), cellsR (ts ++ [t]) = cellsR ts ++ t.cells
 | [], t => by simp [cellsR]
 | s :: ts, t => by simp [cellsR, cellsR_app ts t]
theorem cellsR_at : ∀ (ts : List TR) (i j : Nat), i < ts.length → j < 5 → (cellsR ts)[i * 5 + j]? = (ts.getD i tr0).cells[j]?
 | t :: ts, 0, j, _, hj => by
  have : j < t.cells.length := by simpa [TR.cells] using hj
  simp [cellsR, List.getElem?_append_left this]
 | t :: ts, i + 1, j, hi, hj => by
  have e : (i + 1) * 5 + j = t.cells.length + (i * 5 + j) := by simp [TR.cells]; omega
  have := cellsR_at ts i j (by simpa using hi) hj
  rw [cellsR, e, List.getElem?_append_right (by omega)]
  simpa using this
theorem gdR {α : Type} {l : List α} {x d : α} {i : Nat} : (l ++ [x]).getD i d = if i = l.length then x else if i < l.length then l.getD i d else d := by
 by_cases q : i < l.length
 ·rw [if_neg (by omega), if_pos q, List.getD_eq_getElem?_getD, List.getElem?_append_left q, ← List.getD_eq_getElem?_getD]
 ·by_cases e : i = l.length
  ·subst e; rw [if_pos rfl, List.getD_eq_getElem?_getD]; simp
  ·rw [if_neg e, if_neg q, List.getD_eq_getElem?_getD, List.getElem?_eq_none (by simp; omega)]; rfl
def TR.ints (t : TR) (W : World) : Prop := IntsAt W t.lo t.hi t.a t.zs.length (fun i => t.zs.getD i 0)
structure GT (w : World) (LO HI : Nat) (S : World → Prop) (wr : World) (a : Option Addr) (n c : Nat) (ts : List TR) : Prop where
 len : Hid (n = ts.length)
 sd : SD 24 5 w LO HI S wr (.slice a n c) n (cellsR ts)
 inn : ∀ j, j < ts.length → (ts.getD j tr0).ints wr
 low : ∀ j, j < ts.length → w.heap.size ≤ (ts.getD j tr0).lo
 top : ∀ j, j < ts.length → (ts.getD j tr0).hi ≤ wr.heap.size
 ord : ∀ i j, i < j → j < ts.length → (ts.getD i tr0).hi ≤ (ts.getD j tr0).lo
 out : ∀ b, (Value.slice a n c).ownBlock = some b → ∀ j, j < ts.length → b < (ts.getD j tr0).lo ∨ (ts.getD j tr0).hi ≤ b
theorem GT.call {w wr w2 : World} {LO HI n c : Nat} {S : World → Prop} {a : Option Addr} {ts : List TR} (h : GT w LO HI S wr a n c ts) (hK : Kept LO HI S) (hb : Below wr.heap.size wr w2) : GT w LO HI S w2 a n c ts :=
 ⟨h.len, h.sd.call hK hb, fun j hj => (h.inn j hj).below hb (h.top j hj), h.low, fun j hj => Nat.le_trans (h.top j hj) hb.size, h.ord, h.out⟩
theorem GT.new {w wr w1 w2 : World} {LO HI n c g cap : Nat} {S : World → Prop} {a : Option Addr} {ts : List TR} {t : TR} {o : Obj} (h : GT w LO HI S wr a n c ts) (hK : Kept LO HI S) (hb : Below wr.heap.size wr w1)
  (hlo : t.lo = wr.heap.size) (hhi : t.hi = w1.heap.size) (hi : t.ints w1)
  (hown : w2.ownsRow w.heap.size 24 5 (.slice (some ⟨g, 0, none⟩) (n + 1) cap) (n + 1) (cellsR ts ++ t.cells)) (hgrow : (w1.alloc o).grownBy w2 (Value.slice a n c).ownBlock) (hat : (Value.slice a n c).ownBlock = some g ∨ g = (w1.alloc o).heap.size) :
  GT w LO HI S w2 (some ⟨g, 0, none⟩) (n + 1) cap (ts ++ [t]) := by
 have hsd := h.sd
 have hs := hb.size
 have hs2 := hgrow.size
 simp only [World.size_alloc] at hs2 hat
 have hlt : ∀ b, (Value.slice a n c).ownBlock = some b → b < wr.heap.size := fun b e => (World.ownsRow.lt hsd.own b e).2
 have hln := unhide h.len
 refine ⟨hide (by simp [hln]), ?_, fun j hj => ?_, fun j hj => ?_, fun j hj => ?_, fun i j hij hj => ?_, fun b e j hj => ?_⟩
 ·rw [cellsR_app]; exact ((hsd.call hK hb).alloc hK o).app hK hown hgrow (by simpa using hat)
 ·rw [gdR]
  simp only [List.length_append, List.length_singleton] at hj
  split
  ·have q := hi.below (below_alloc_self w1 o) (by omega)
   exact q.grown hgrow (fun k hk => .inl (by have := hlt k hk; omega)) (by simp; omega)
  ·rw [if_pos (by omega)]
   have q := ((h.inn j (by omega)).below hb (h.top j (by omega))).below (below_alloc_self w1 o) (Nat.le_trans (h.top j (by omega)) hs)
   exact IntsAt.grown q hgrow (fun k hk => h.out k hk j (by omega)) (by have := h.top j (by omega); rw [World.size_alloc]; omega)
 ·rw [gdR]
  simp only [List.length_append, List.length_singleton] at hj
  split
  ·have := hsd.bel.size; omega
  ·rw [if_pos (by omega)]; exact h.low j (by omega)
 ·rw [gdR]
  simp only [List.length_append, List.length_singleton] at hj
  split
  ·omega
  ·rw [if_pos (by omega)]; have := h.top j (by omega); omega
 ·simp only [List.length_append, List.length_singleton] at hj
  rw [gdR (i := j), gdR (i := i)]
  rw [if_neg (show i ≠ ts.length by omega), if_pos (show i < ts.length by omega)]
  split
  ·have := h.top i (by omega); omega
  ·rw [if_pos (by omega)]; exact h.ord i j hij (by omega)
 ·have e9 : b = g := by simp [Value.ownBlock] at e; omega
  subst e9
  rw [gdR]
  simp only [List.length_append, List.length_singleton] at hj
  split
  ·rcases hat with q | q
   ·have := hlt b q; left; omega
   ·right; omega
  ·rw [if_pos (by omega)]
   rcases hat with q | q
   ·exact h.out b q j (by omega)
   ·right; have := h.top j (by omega); omega
structure RowsAt (W : World) (lo hi : Nat) (a : Option Addr) (n : Nat) (t : Nat → TR) : Prop where
 ptr : n = 0 ∨ ∃ g, a = some ⟨g, 0, none⟩ ∧ lo ≤ g ∧ g < hi ∧ g < W.heap.size ∧ (∀ i j, i < n → j < 5 → W.cell? ⟨g, i * 5 + j, none⟩ = (t i).cells[j]?) ∧ (∀ o, W.frozen? ⟨g, o, none⟩ = false) ∧ ∀ j, j < n → g < (t j).lo ∨ (t j).hi ≤ g
 inn : ∀ j, j < n → (t j).ints W
 low : ∀ j, j < n → lo ≤ (t j).lo
 top : ∀ j, j < n → (t j).hi ≤ hi
 ord : ∀ i j, i < j → j < n → (t i).hi ≤ (t j).lo
theorem GT.rows {w wr : World} {LO HI n c : Nat} {S : World → Prop} {a : Option Addr} {ts : List TR} (h : GT w LO HI S wr a n c ts) : RowsAt wr w.heap.size wr.heap.size a n (fun i => ts.getD i tr0) := by
 have hl := unhide h.len
 refine ⟨?_, fun j hj => h.inn j (by omega), fun j hj => h.low j (by omega), fun j hj => h.top j (by omega), fun i j hij hj => h.ord i j hij (by omega)⟩
 by_cases z : n = 0
 ·exact .inl z
 ·right
  obtain ⟨g, cap, e⟩ : ∃ g cap, Value.slice a n c = .slice (some ⟨g, 0, none⟩) n cap := by
   rcases h.sd.own.2 with ⟨q1, q2⟩ | ⟨g, cap, cur, q1, _⟩
   ·omega
   ·exact ⟨g, cap, q1⟩
  simp only [Value.slice.injEq] at e
  obtain ⟨rfl, -, rfl⟩ := e
  have q := World.ownsRow.lt h.sd.own g rfl
  refine ⟨g, rfl, q.1, q.2, q.2, fun i j hi hj => ?_, fun o => World.ownsRow.frozenAt h.sd.own o, fun j hj => h.out g rfl j (by omega)⟩
  rw [World.ownsRow.cellAt h.sd.own (i * 5 + j) (by omega), cellsR_at ts i j (by omega) hj]
theorem RowsAt.weak {W : World} {lo hi lo' hi' n : Nat} {a : Option Addr} {t : Nat → TR} (h : RowsAt W lo hi a n t) (h1 : lo' ≤ lo) (h2 : hi ≤ hi') : RowsAt W lo' hi' a n t := by
 refine ⟨?_, h.inn, fun j hj => Nat.le_trans h1 (h.low j hj), fun j hj => Nat.le_trans (h.top j hj) h2, h.ord⟩
 rcases h.ptr with z | ⟨g, e, g1, g2, g3⟩
 ·exact .inl z
 ·exact .inr ⟨g, e, by omega, by omega, g3⟩
theorem RowsAt.below {W W' : World} {lo hi B n : Nat} {a : Option Addr} {t : Nat → TR} (h : RowsAt W lo hi a n t) (hb : Below B W W') (hB : hi ≤ B) (hW : B ≤ W.heap.size) : RowsAt W' lo hi a n t := by
 refine ⟨?_, fun j hj => (h.inn j hj).below hb (Nat.le_trans (h.top j hj) hB), h.low, h.top, h.ord⟩
 rcases h.ptr with z | ⟨g, e, g1, g2, g3, g4, g5, g6⟩
 ·exact .inl z
 ·have hk := hb.block g (by omega)
  exact .inr ⟨g, e, g1, g2, Nat.lt_of_lt_of_le g3 hb.size, fun i j hi hj => by rw [World.cell?_of_block hk]; exact g4 i j hi hj, fun o => by rw [World.frozen?_of_block hk]; exact g5 o, g6⟩
theorem RowsAt.congr {W : World} {lo hi n : Nat} {a : Option Addr} {t t' : Nat → TR} (h : RowsAt W lo hi a n t) (e : ∀ i, i < n → t i = t' i) : RowsAt W lo hi a n t' := by
 refine ⟨?_, fun j hj => by rw [← e j hj]; exact h.inn j hj, fun j hj => by rw [← e j hj]; exact h.low j hj, fun j hj => by rw [← e j hj]; exact h.top j hj, fun i j hij hj => by rw [← e j hj, ← e i (by omega)]; exact h.ord i j hij hj⟩
 rcases h.ptr with z | ⟨g, e1, g1, g2, g3, g4, g5, g6⟩
 ·exact .inl z
 ·exact .inr ⟨g, e1, g1, g2, g3, fun i j hi hj => by rw [← e i hi]; exact g4 i j hi hj, g5, fun j hj => by rw [← e j hj]; exact g6 j hj⟩
theorem infoRow9 : (Tryz.prog.info? 24).map (fun i => (i.zero, i.size, i.bytes)) = some (some (.agg #[.int .i64 0, .int .i64 0, .slice none 0 0, .int .i64 0, .int .i64 0]), 5, 56) := by kernel_rfl
theorem app_row (w : World) {ops : Array Oper} {rest : List Oper} {o : Oper} {a : Act} {Q : Exit → Act → World → Prop} (hgd : o.guard = none) (s x : Operand)
  (ho : o.op = .call { callee := .builtin .append, args := #[s, x], argTypes := #[30, 30] })
  (lo : Nat) (v : Value) (n : Nat) (vs : List Value) (t : TR) (B : Nat) (hs : a.eval s = v) (hx : a.eval x = .slice (some ⟨B, 0, none⟩) 1 1)
  (hown : w.ownsRow lo 24 5 v n vs) (hB : ∀ j, j < 5 → w.cell? ⟨B, j, none⟩ = t.cells[j]?) (hlen : n ≤ 1000000) (hlo : lo ≤ w.heap.size)
  (h : ∀ g cap w', w'.ownsRow lo 24 5 (.slice (some ⟨g, 0, none⟩) (n + 1) cap) (n + 1) (vs ++ t.cells) → w.grownBy w' v.ownBlock → (v.ownBlock = some g ∨ g = w.heap.size) → g < w'.heap.size →
   wpList Tryz.prog ops Q rest (a.put o.dst (.slice (some ⟨g, 0, none⟩) (n + 1) cap)) w') : wpList Tryz.prog ops Q (o :: rest) a w := by
 obtain ⟨i0, hi, hz0, hz1, hz2⟩ := info_parts infoRow9
 refine wpList_append_lies w hgd s x 30 ho lo 24 i0 _ 5 56 Tryz.underlying30 hi hz0 hz1 hz2 rfl (by decide) v n _ hs hown ⟨B, 0, none⟩ 1 1 t.cells hx rfl ?_ (by simp [TR.cells, Value.oneCell']) (by decide) (by unfold maxLen; omega) (by omega) hlo _ rfl ?_
 ·intro j u' hu'
  have hj : j < 5 := by
   have := (List.getElem?_eq_some_iff.1 hu').1
   simpa [TR.cells] using this
  have := hB j hj
  rw [hu'] at this
  by_cases z : j = 0
  ·subst z; simpa [Addr.add] using this
  ·simpa [Addr.add, z] using this
 ·intro g cap w' h1 h2 h3 h4
  exact h g cap w' h1 h2 h3 h4
end Go.Proofs.YtaeabefbohlcpaaGreat
namespace Go.Proofs.YtaeabefbohlcpaaGreat
open Go.RowKit
set_option linter.unusedVariables false
set_option linter.unusedSimpArgs false
attribute [local go_sem] q2 q3 q4 q5 q6 q7 q8 q9 q10 q11 q12

def RetRows (w : World) (n : Nat) (R : Nat → RowV) (Z : Nat → List Int) (ok : Bool) (e : Ending) (w' : World) : Prop :=
 ∃ a c t, e = .returned (.tuple #[.slice a n c, .bool ok]) ∧ RowsAt w' w.heap.size w'.heap.size a n t ∧ (∀ i, i < n → (t i).r = R i ∧ (t i).zs = Z i) ∧ Below w.heap.size w w'
theorem RowsAt.nil {W : World} {lo hi n : Nat} {a : Option Addr} {t : Nat → TR} (h : n = 0) : RowsAt W lo hi a n t :=
 ⟨.inl h, fun j hj => by omega, fun j hj => by omega, fun j hj => by omega, fun i j _ hj => by omega⟩
theorem GT.start {w wr : World} {LO HI c : Nat} {S : World → Prop} {a : Option Addr} (h : SD 24 5 w LO HI S wr (.slice a 0 c) 0 []) : GT w LO HI S wr a 0 c [] :=
 ⟨hide rfl, h, fun j hj => absurd hj (by simp), fun j hj => absurd hj (by simp), fun j hj => absurd hj (by simp), fun i j _ hj => absurd hj (by simp), fun b _ j hj => absurd hj (by simp)⟩
theorem five {P : Nat → Prop} (h0 : P 0) (h1 : P 1) (h2 : P 2) (h3 : P 3) (h4 : P 4) : ∀ j, j < 5 → P j := fun j hj => by
 obtain rfl | rfl | rfl | rfl | rfl : j = 0 ∨ j = 1 ∨ j = 2 ∨ j = 3 ∨ j = 4 := by omega
 all_goals assumption
theorem rows_put {l : List TR} {k : Nat} {R : Nat → RowV} {Z : Nat → List Int} {a : Option Addr} {c lo hi : Nat} (hk : k = l.length) (h : Hid (∀ i, i < k → (l.getD i tr0).r = R i ∧ (l.getD i tr0).zs = Z i)) :
  Hid (∀ i, i < k + 1 → ((l ++ [(⟨R k, a, c, lo, hi, Z k⟩ : TR)]).getD i tr0).r = R i ∧ ((l ++ [(⟨R k, a, c, lo, hi, Z k⟩ : TR)]).getD i tr0).zs = Z i) := hide fun i hi => by
 rw [gdR]
 by_cases e : i = l.length
 ·rw [if_pos e, e, ← hk]; exact ⟨rfl, rfl⟩
 ·rw [if_neg e, if_pos (by omega)]; exact unhide h i (by omega)
noncomputable def tbN (lo hi : Int) : Nat := if rgB lo hi && decide ((dcL lo hi).length ≤ 40) then (dcL lo hi).length else 0
noncomputable def tbOk (lo hi : Int) : Bool := rgB lo hi && decide ((dcL lo hi).length ≤ 40)
set_option maxHeartbeats 2000000 in
theorem implTb_0 (lo hi : Int) (w : World) (n : Nat) (R : Nat → RowV) (Z : Nat → List Int) (HN : Hid (n = 0)) (h : rgB lo hi = false) : Calls Tryz.prog 12 #[.int .i64 lo, .int .i64 hi] w (RetRows w n R Z false) := by
 go_enter Tryz.func12, Tryz.ntmps12
 go_wp2_with (go_at_call 29; refine (isRange_a _ _ _).mono ?_; rintro e w' ⟨rfl, rfl⟩)
 go_ret2
 obtain rfl := unhide HN
 exact ⟨_, _, fun _ => tr0, rfl, RowsAt.nil rfl, fun i hi => absurd hi (by omega), byGG⟩
set_option maxHeartbeats 2000000 in
theorem implTb_1 (lo hi : Int) (w : World) (n : Nat) (R : Nat → RowV) (Z : Nat → List Int) (HN : Hid (n = 0)) (h : rgB lo hi = true) (h2 : 40 < (dcL lo hi).length) : Calls Tryz.prog 12 #[.int .i64 lo, .int .i64 hi] w (RetRows w n R Z false) := by
 obtain ⟨r0, r1, r2⟩ := rg_true h
 have HC : ∀ W, Calls Tryz.prog 30 #[.int .i64 lo, .int .i64 hi] W (RetIL W (dcL lo hi)) := fun W => discsIn_a lo hi W r0 r2
 have HC := hide HC
 have hlen := dcL_len (lo := lo) (hi := hi) r0 r2
 generalize dcL lo hi = ds at *
 have hci : (40 : Int) < (ds.length : Int) := by omega
 go_enter Tryz.func12, Tryz.ntmps12
 go_wp2_with (first | (go_at_call 29; refine (isRange_a _ _ _).mono ?_; rintro e w' ⟨rfl, rfl⟩) | (go_at_call 30; refine ((unhide HC) _).mono ?_; rintro e wA ⟨a0, c0, rfl, hlA, hbA⟩))
 go_ret2
 obtain rfl := unhide HN
 exact ⟨_, _, fun _ => tr0, rfl, RowsAt.nil rfl, fun i hi => absurd hi (by omega), byGG⟩
set_option maxHeartbeats 2000000 in
theorem implTb_2 (lo hi : Int) (w : World) (ds : List Int) (hds : dcL lo hi = ds) (R : Nat → RowV) (Z : Nat → List Int) (h : rgB lo hi = true) (h2 : ds.length ≤ 40)
  (HR : Hid (∀ k, k < ds.length → ∀ W, Calls Tryz.prog 26 #[.int .i64 (ds.getD k 0)] W (RetRowV W (R k) (Z k)))) : Calls Tryz.prog 12 #[.int .i64 lo, .int .i64 hi] w (RetRows w ds.length R Z true) := by
 obtain ⟨r0, r1, r2⟩ := rg_true h
 have HC : ∀ W, Calls Tryz.prog 30 #[.int .i64 lo, .int .i64 hi] W (RetIL W (dcL lo hi)) := fun W => discsIn_a lo hi W r0 r2
 rw [hds] at HC
 clear hds
 have HC := hide HC
 have hci : ¬ (40 : Int) < (ds.length : Int) := by omega
 go_enter Tryz.func12, Tryz.ntmps12
 go_wp2_with fail
 refine (isRange_a _ _ _).mono ?_
 rintro e w0 ⟨rfl, rfl⟩
 go_wp2_with fail
 refine ((unhide HC) _).mono ?_
 rintro e w1 ⟨a9, c9, rfl, hl1, hb1⟩
 clear hl1
 have HD9 := hide hb1
 clear hb1
 go_wp2_with fail
 refine ((unhide HC) _).mono ?_
 rintro e wA ⟨a0, c0, rfl, hlA, hbA⟩
 have hb1 := unhide HD9
 clear HD9
 have hs1 := hb1.size
 have hS : IntsAt wA (w1.heap.size + 1) wA.heap.size a0 ds.length (fun i => ds.getD i 0) := hlA.ints.2.weak (by simp) (Nat.le_refl _)
 have hsd : GT w1 (w1.heap.size + 1) wA.heap.size (srcI (w1.heap.size + 1) wA.heap.size a0 ds.length (fun i => ds.getD i 0)) wA (some ⟨w1.heap.size, 0, none⟩) 0 0 [] := GT.start (SD.startM hbA hS (Nat.le_refl _))
 have hK := ints_kept (LO := (w1.heap.size + 1)) (HI := wA.heap.size) (n := ds.length) (a := a0) (f := fun i => ds.getD i 0)
 obtain ⟨HI, hHI⟩ : ∃ HI, wA.heap.size = HI := ⟨_, rfl⟩
 rw [hHI] at hsd hK hS
 clear hlA hS
 go_wp2
 go_loopw [6, 26] (fun ls is wr => ∃ (k c : Nat) (a : Option Addr) (l : List TR), is = .int .i64 (k : Int) ∧ ls = .slice a k c ∧ k ≤ ds.length ∧ Hid (∀ i, i < k → (l.getD i tr0).r = R i ∧ (l.getD i tr0).zs = Z i) ∧ GT w1 (w1.heap.size + 1) HI (srcI (w1.heap.size + 1) HI a0 ds.length (fun i => ds.getD i 0)) wr a k c l) (fun _ is _ => ds.length - (intOf is).toNat)
 case atStart => exact ⟨0, 0, _, _, rfl, rfl, by omega, hide fun i hi => absurd hi (by omega), hsd⟩
 case round =>
  clear hsd hbA
  obtain ⟨k, c, a, l, rfl, rfl, hk, hl, hsd⟩ := hrel
  obtain ⟨w2, rfl⟩ : ∃ w2 : World, w2 = wr := ⟨_, rfl⟩
  have hz := hsd.sd.bel.size
  have hln := hsd.len
  by_cases c9 : k < ds.length
  ·have hci : (k : Int) < (ds.length : Int) := by omega
   obtain ⟨g0, hg0, hg2, d0⟩ := IntsAt.cell hsd.sd.src c9
   have HRK0 := unhide HR k c9
   obtain ⟨x, hxx⟩ : ∃ x, ds.getD k 0 = x := ⟨_, rfl⟩
   rw [hxx] at d0 HRK0
   have HRK := hide HRK0
   clear HRK0 hxx
   subst hg0
   go_wp2_with (first | (go_at_call 26; refine ((unhide HRK) _).mono ?_; rintro e w3 ⟨a3, c3, rfl, hi3, hb3⟩; have hs3 := hsd.call hK hb3; have hz3 := hs3.sd.bel.size) | (at_builtin; refine app_row _ rfl (.tmp 30) (.tmp 33) rfl w1.heap.size (.slice a k c) k (cellsR l) ⟨R k, a3, c3, w2.heap.size, w3.heap.size, Z k⟩ w3.heap.size rfl rfl (hs3.sd.alloc hK _).own (five (by unfold TR.cells; go_simp) (by unfold TR.cells; go_simp) (by unfold TR.cells; go_simp) (by unfold TR.cells; go_simp) (by unfold TR.cells; go_simp)) (by omega) (by first | omega | (simp; omega)) ?_; intro g cap w4 hown hgrow hat hlt))
   go_roundw
   case rel =>
    have hs4 := hsd.new (t := ⟨R k, a3, c3, w2.heap.size, w3.heap.size, Z k⟩) hK hb3 rfl rfl hi3 hown hgrow hat
    exact ⟨k + 1, cap, some ⟨g, 0, none⟩, _, by go_num, rfl, by omega, rows_put (unhide hln) hl, hs4⟩
   case measure => simp [intOf]; omega
  ·obtain rfl : k = ds.length := by omega
   go_wp2
   go_ret2
   exact ⟨a, c, fun i => l.getD i tr0, rfl, hsd.rows.weak hs1 (Nat.le_refl _), unhide hl, hb1.trans (hsd.sd.bel.mono hs1)⟩
theorem implTb_a (lo hi : Int) (w : World) : Calls Tryz.prog 12 #[.int .i64 lo, .int .i64 hi] w (RetRows w (tbN lo hi) (fun i => rowV ((dcL lo hi).getD i 0)) (fun i => rowFL ((dcL lo hi).getD i 0)) (tbOk lo hi)) := by
 unfold tbN tbOk
 cases h : rgB lo hi
 ·exact implTb_0 lo hi w _ _ _ (hide rfl) h
 ·by_cases h2 : (dcL lo hi).length ≤ 40
  ·simp only [h2, decide_true, Bool.and_self, if_true]
   obtain ⟨r0, r1, r2⟩ := rg_true h
   exact implTb_2 lo hi w _ rfl _ _ h h2 (hide fun k hk W => rowOf_a _ W (dcL_mem (gdm (d := 0) hk)))
  ·simp only [h2, decide_false, Bool.and_false]
   exact implTb_1 lo hi w _ _ _ (hide rfl) h (by omega)
set_option maxHeartbeats 2000000 in
theorem specTb_0 (lo hi : Int) (w : World) (n : Nat) (R : Nat → RowV) (Z : Nat → List Int) (HN : Hid (n = 0)) (h : rgB lo hi = false) : Calls Tryz.prog 11 #[.int .i64 lo, .int .i64 hi] w (RetRows w n R Z false) := by
 go_enter Tryz.func11, Tryz.ntmps11
 go_wp2_with (go_at_call 27; refine (tbRange_a _ _ _).mono ?_; rintro e w' ⟨rfl, rfl⟩)
 go_ret2
 obtain rfl := unhide HN
 exact ⟨_, _, fun _ => tr0, rfl, RowsAt.nil rfl, fun i hi => absurd hi (by omega), byGG⟩
set_option maxHeartbeats 2000000 in
theorem specTb_1 (lo hi : Int) (w : World) (n : Nat) (R : Nat → RowV) (Z : Nat → List Int) (HN : Hid (n = 0)) (h : rgB lo hi = true) (h2 : 40 < (dcL lo hi).length) : Calls Tryz.prog 11 #[.int .i64 lo, .int .i64 hi] w (RetRows w n R Z false) := by
 obtain ⟨r0, r1, r2⟩ := rg_true h
 have HC : ∀ W, Calls Tryz.prog 28 #[.int .i64 lo, .int .i64 hi] W (RetIL W (dcL lo hi)) := fun W => tbDiscs_a lo hi W r0 r2
 have HC := hide HC
 have hlen := dcL_len (lo := lo) (hi := hi) r0 r2
 generalize dcL lo hi = ds at *
 have hci : (40 : Int) < (ds.length : Int) := by omega
 go_enter Tryz.func11, Tryz.ntmps11
 go_wp2_with (first | (go_at_call 27; refine (tbRange_a _ _ _).mono ?_; rintro e w' ⟨rfl, rfl⟩) | (go_at_call 28; refine ((unhide HC) _).mono ?_; rintro e wA ⟨a0, c0, rfl, hlA, hbA⟩))
 go_ret2
 obtain rfl := unhide HN
 exact ⟨_, _, fun _ => tr0, rfl, RowsAt.nil rfl, fun i hi => absurd hi (by omega), byGG⟩
set_option maxHeartbeats 2000000 in
theorem specTb_2 (lo hi : Int) (w : World) (ds : List Int) (hds : dcL lo hi = ds) (R : Nat → RowV) (Z : Nat → List Int) (h : rgB lo hi = true) (h2 : ds.length ≤ 40)
  (HR : Hid (∀ k, k < ds.length → ∀ W, Calls Tryz.prog 24 #[.int .i64 (ds.getD k 0)] W (RetRowV W (R k) (Z k)))) : Calls Tryz.prog 11 #[.int .i64 lo, .int .i64 hi] w (RetRows w ds.length R Z true) := by
 obtain ⟨r0, r1, r2⟩ := rg_true h
 have HC : ∀ W, Calls Tryz.prog 28 #[.int .i64 lo, .int .i64 hi] W (RetIL W (dcL lo hi)) := fun W => tbDiscs_a lo hi W r0 r2
 rw [hds] at HC
 clear hds
 have HC := hide HC
 have hci : ¬ (40 : Int) < (ds.length : Int) := by omega
 go_enter Tryz.func11, Tryz.ntmps11
 go_wp2_with fail
 refine (tbRange_a _ _ _).mono ?_
 rintro e w0 ⟨rfl, rfl⟩
 go_wp2_with fail
 refine ((unhide HC) _).mono ?_
 rintro e w1 ⟨a9, c9, rfl, hl1, hb1⟩
 clear hl1
 have HD9 := hide hb1
 clear hb1
 go_wp2_with fail
 refine ((unhide HC) _).mono ?_
 rintro e wA ⟨a0, c0, rfl, hlA, hbA⟩
 have hb1 := unhide HD9
 clear HD9
 have hs1 := hb1.size
 have hS : IntsAt wA w1.heap.size wA.heap.size a0 ds.length (fun i => ds.getD i 0) := hlA.ints.2
 have hsd : GT w1 w1.heap.size wA.heap.size (srcI w1.heap.size wA.heap.size a0 ds.length (fun i => ds.getD i 0)) wA none 0 0 [] := GT.start (SD.startN hbA hS (Nat.le_refl _))
 have hK := ints_kept (LO := w1.heap.size) (HI := wA.heap.size) (n := ds.length) (a := a0) (f := fun i => ds.getD i 0)
 obtain ⟨HI, hHI⟩ : ∃ HI, wA.heap.size = HI := ⟨_, rfl⟩
 rw [hHI] at hsd hK hS
 clear hlA hS
 go_wp2
 go_loopw [6, 24] (fun ls is wr => ∃ (k c : Nat) (a : Option Addr) (l : List TR), is = .int .i64 (k : Int) ∧ ls = .slice a k c ∧ k ≤ ds.length ∧ Hid (∀ i, i < k → (l.getD i tr0).r = R i ∧ (l.getD i tr0).zs = Z i) ∧ GT w1 w1.heap.size HI (srcI w1.heap.size HI a0 ds.length (fun i => ds.getD i 0)) wr a k c l) (fun _ is _ => ds.length - (intOf is).toNat)
 case atStart => exact ⟨0, 0, _, _, rfl, rfl, by omega, hide fun i hi => absurd hi (by omega), hsd⟩
 case round =>
  clear hsd hbA
  obtain ⟨k, c, a, l, rfl, rfl, hk, hl, hsd⟩ := hrel
  obtain ⟨w2, rfl⟩ : ∃ w2 : World, w2 = wr := ⟨_, rfl⟩
  have hz := hsd.sd.bel.size
  have hln := hsd.len
  by_cases c9 : k < ds.length
  ·have hci : (k : Int) < (ds.length : Int) := by omega
   obtain ⟨g0, hg0, hg2, d0⟩ := IntsAt.cell hsd.sd.src c9
   have HRK0 := unhide HR k c9
   obtain ⟨x, hxx⟩ : ∃ x, ds.getD k 0 = x := ⟨_, rfl⟩
   rw [hxx] at d0 HRK0
   have HRK := hide HRK0
   clear HRK0 hxx
   subst hg0
   go_wp2_with (first | (go_at_call 24; refine ((unhide HRK) _).mono ?_; rintro e w3 ⟨a3, c3, rfl, hi3, hb3⟩; have hs3 := hsd.call hK hb3; have hz3 := hs3.sd.bel.size) | (at_builtin; refine app_row _ rfl (.tmp 28) (.tmp 31) rfl w1.heap.size (.slice a k c) k (cellsR l) ⟨R k, a3, c3, w2.heap.size, w3.heap.size, Z k⟩ w3.heap.size rfl rfl (hs3.sd.alloc hK _).own (five (by unfold TR.cells; go_simp) (by unfold TR.cells; go_simp) (by unfold TR.cells; go_simp) (by unfold TR.cells; go_simp) (by unfold TR.cells; go_simp)) (by omega) (by first | omega | (simp; omega)) ?_; intro g cap w4 hown hgrow hat hlt))
   go_roundw
   case rel =>
    have hs4 := hsd.new (t := ⟨R k, a3, c3, w2.heap.size, w3.heap.size, Z k⟩) hK hb3 rfl rfl hi3 hown hgrow hat
    exact ⟨k + 1, cap, some ⟨g, 0, none⟩, _, by go_num, rfl, by omega, rows_put (unhide hln) hl, hs4⟩
   case measure => simp [intOf]; omega
  ·obtain rfl : k = ds.length := by omega
   go_wp2
   go_ret2
   exact ⟨a, c, fun i => l.getD i tr0, rfl, hsd.rows.weak hs1 (Nat.le_refl _), unhide hl, hb1.trans (hsd.sd.bel.mono hs1)⟩
theorem specTb_a (lo hi : Int) (w : World) : Calls Tryz.prog 11 #[.int .i64 lo, .int .i64 hi] w (RetRows w (tbN lo hi) (fun i => rowV ((dcL lo hi).getD i 0)) (fun i => rowFL ((dcL lo hi).getD i 0)) (tbOk lo hi)) := by
 unfold tbN tbOk
 cases h : rgB lo hi
 ·exact specTb_0 lo hi w _ _ _ (hide rfl) h
 ·by_cases h2 : (dcL lo hi).length ≤ 40
  ·simp only [h2, decide_true, Bool.and_self, if_true]
   obtain ⟨r0, r1, r2⟩ := rg_true h
   exact specTb_2 lo hi w _ rfl _ _ h h2 (hide fun k hk W => tbRow_a _ W (dcL_mem (gdm (d := 0) hk)))
  ·simp only [h2, decide_false, Bool.and_false]
   exact specTb_1 lo hi w _ _ _ (hide rfl) h (by omega)
end Go.Proofs.YtaeabefbohlcpaaGreat
namespace Go.Proofs.YtaeabefbohlcpaaGreat
open Go.RowKit
set_option linter.unusedVariables false
set_option linter.unusedSimpArgs false
attribute [local go_sem] q2 q3 q4 q5 q6 q7 q8 q9 q10 q11 q12

theorem RowsAt.ent {W : World} {lo hi n g : Nat} {t : Nat → TR} (h : RowsAt W lo hi (some ⟨g, 0, none⟩) n t) {i : Nat} (q : i < n) :
  (W.cell? ⟨g, i * 5, none⟩ = some (.int .i64 (t i).r.d) ∧ W.cell? ⟨g, i * 5 + 1, none⟩ = some (.int .i64 (t i).r.num) ∧ W.cell? ⟨g, i * 5 + 2, none⟩ = some (.slice (t i).a (t i).zs.length (t i).c) ∧ W.cell? ⟨g, i * 5 + 3, none⟩ = some (.int .i64 (t i).r.ge) ∧ W.cell? ⟨g, i * 5 + 4, none⟩ = some (.int .i64 (t i).r.ex)) ∧
  g < W.heap.size ∧ (∀ o, W.frozen? ⟨g, o, none⟩ = false) ∧ lo ≤ g ∧ g < hi ∧ ∀ j, j < n → g < (t j).lo ∨ (t j).hi ≤ g := by
 rcases h.ptr with z | ⟨g', e, g1, g2, g3, g4, g5, g6⟩
 ·omega
 ·simp only [Option.some.injEq, Addr.mk.injEq] at e
  obtain ⟨rfl, -⟩ := e
  exact ⟨⟨by simpa [TR.cells] using g4 i 0 q (by omega), by simpa [TR.cells] using g4 i 1 q (by omega), by simpa [TR.cells] using g4 i 2 q (by omega), by simpa [TR.cells] using g4 i 3 q (by omega), by simpa [TR.cells] using g4 i 4 q (by omega)⟩, g3, g5, g1, g2, g6⟩
set_option maxRecDepth 100000 in
set_option maxHeartbeats 2000000 in
theorem eqRowS_nil (a1 a2 : Option Addr) (c1 c2 : Nat) (w : World) : Calls Tryz.prog 13 #[.slice a1 0 c1, .slice a2 0 c2] w fun e w' => e = .returned (.bool true) ∧ Below w.heap.size w w' := by
 go_enter Tryz.func13, Tryz.ntmps13
 go_wp2
 go_loopw [5] (fun is wr => is = .int .i64 0 ∧ wr = w) (fun is _ => 0)
 case atStart => exact ⟨rfl, rfl⟩
 case round =>
  obtain ⟨rfl, rfl⟩ := hrel
  go_wp2
  go_ret
  exact ⟨rfl, Below.refl _ _⟩
set_option maxRecDepth 100000 in
set_option maxHeartbeats 4000000 in
theorem eqRowS_a (g1 g2 n c1 c2 lo1 hi1 lo2 hi2 : Nat) (t1 t2 : Nat → TR) (w : World) (hn : n ≤ 40) (h1 : RowsAt w lo1 hi1 (some ⟨g1, 0, none⟩) n t1) (h2 : RowsAt w lo2 hi2 (some ⟨g2, 0, none⟩) n t2) (b1 : hi1 ≤ w.heap.size) (b2 : hi2 ≤ w.heap.size)
  (E : Hid (∀ i, i < n → (t1 i).r = (t2 i).r ∧ (t1 i).zs = (t2 i).zs ∧ (t1 i).zs.length ≤ 700)) :
  Calls Tryz.prog 13 #[.slice (some ⟨g1, 0, none⟩) n c1, .slice (some ⟨g2, 0, none⟩) n c2] w fun e w' => e = .returned (.bool true) ∧ Below w.heap.size w w' := by
 have H1 := hide h1
 have H2 := hide h2
 clear h1 h2
 go_enter Tryz.func13, Tryz.ntmps13
 go_wp2
 go_loopw [5] (fun is wr => ∃ ix : Nat, ix ≤ n ∧ is = .int .i64 (ix : Int) ∧ Below w.heap.size w wr) (fun is _ => n - (intOf is).toNat)
 case atStart => exact ⟨0, by omega, rfl, Below.refl _ _⟩
 case round =>
  obtain ⟨ix, hi, rfl, hb⟩ := hrel
  obtain ⟨wl, rfl⟩ : ∃ wl : World, wl = wr := ⟨_, rfl⟩
  have hzl := hb.size
  by_cases q : ix < n
  ·have hci : (ix : Int) < (n : Int) := by omega
   have K1 := (unhide H1).below hb b1 (Nat.le_refl _)
   have K2 := (unhide H2).below hb b2 (Nat.le_refl _)
   obtain ⟨⟨c00, c01, c02, c03, c04⟩, gb1, -⟩ := K1.ent q
   obtain ⟨⟨c10, c11, c12, c13, c14⟩, gb2, -⟩ := K2.ent q
   obtain ⟨e1, e2, e3⟩ := unhide E ix q
   have HEQ : Hid (∀ W, Below wl.heap.size wl W → Calls Tryz.prog 8 #[rwv (t1 ix).r (.slice (t1 ix).a (t1 ix).zs.length (t1 ix).c), rwv (t2 ix).r (.slice (t2 ix).a (t2 ix).zs.length (t2 ix).c)] W fun e w' => e = .returned (.bool true) ∧ Below W.heap.size W w') := hide fun W hbW => by
    have i1 := (K1.inn ix q).below hbW (Nat.le_trans (K1.top ix q) (Nat.le_trans b1 hzl))
    have i2 := (K2.inn ix q).below hbW (Nat.le_trans (K2.top ix q) (Nat.le_trans b2 hzl))
    unfold TR.ints at i2
    rw [← e1, ← e2] at *
    exact eqRow_b _ _ _ _ _ _ _ _ _ _ _ W (by omega) i1 i2 (by have := K1.top ix q; have := hbW.size; omega) (by have := K2.top ix q; have := hbW.size; omega)
   rw [← e1, ← e2] at HEQ
   rw [← e1] at c10 c11 c13 c14
   rw [← e2] at c12
   clear K1 K2 e1 e2
   generalize (t1 ix).r = r at *
   generalize (t1 ix).zs.length = n9 at *
   generalize (t1 ix).a = x1 at *
   generalize (t1 ix).c = d1 at *
   generalize (t2 ix).a = x2 at *
   generalize (t2 ix).c = d2 at *
   go_upto_region 6 with fail
   go_cut [26] (fun s26 wx => s26 = .bool false ∧ wx.cell? ⟨g1, ix * 5, none⟩ = some (.int .i64 r.d) ∧ wx.cell? ⟨g1, ix * 5 + 1, none⟩ = some (.int .i64 r.num) ∧ wx.cell? ⟨g1, ix * 5 + 2, none⟩ = some (.slice x1 n9 d1) ∧ wx.cell? ⟨g1, ix * 5 + 3, none⟩ = some (.int .i64 r.ge) ∧ wx.cell? ⟨g1, ix * 5 + 4, none⟩ = some (.int .i64 r.ex) ∧ wx.cell? ⟨g2, ix * 5, none⟩ = some (.int .i64 r.d) ∧ wx.cell? ⟨g2, ix * 5 + 1, none⟩ = some (.int .i64 r.num) ∧ wx.cell? ⟨g2, ix * 5 + 2, none⟩ = some (.slice x2 n9 d2) ∧ wx.cell? ⟨g2, ix * 5 + 3, none⟩ = some (.int .i64 r.ge) ∧ wx.cell? ⟨g2, ix * 5 + 4, none⟩ = some (.int .i64 r.ex) ∧ Below wl.heap.size wl wx)
   case first =>
    have h1 := trivial
    rename_i K2 h2 h3
    refine region_n0 (by kernel_rfl) (fun j => #[17,18,19,20,21,22,23,24,25,26].getD j 0) (fun j => Kd.ok ((fun j => match j with | 0 => Kd.val (.slice (some ⟨g1, 0, none⟩) n c1) | 1 => Kd.val (.int .i64 ((ix : Int))) | 2 => Kd.val (.pointer (some ⟨g1, ix * 5, none⟩)) | 3 => Kd.val (.agg #[.int .i64 r.d, .int .i64 r.num, .slice x1 n9 d1, .int .i64 r.ge, .int .i64 r.ex]) | 4 => Kd.val (.slice (some ⟨g2, 0, none⟩) n c2) | 5 => Kd.val (.int .i64 ((ix : Int))) | 6 => Kd.val (.pointer (some ⟨g2, ix * 5, none⟩)) | 7 => Kd.val (.agg #[.int .i64 r.d, .int .i64 r.num, .slice x2 n9 d2, .int .i64 r.ge, .int .i64 r.ex]) | 8 => Kd.val (.bool true) | 9 => Kd.val (.bool false) | _ => Kd.any : Nat → Kd) j)) (Sy wl (wl.heap.size) [(⟨g1, ix * 5, none⟩, .int .i64 r.d), (⟨g1, ix * 5 + 1, none⟩, .int .i64 r.num), (⟨g1, ix * 5 + 2, none⟩, .slice x1 n9 d1), (⟨g1, ix * 5 + 3, none⟩, .int .i64 r.ge), (⟨g1, ix * 5 + 4, none⟩, .int .i64 r.ex), (⟨g2, ix * 5, none⟩, .int .i64 r.d), (⟨g2, ix * 5 + 1, none⟩, .int .i64 r.num), (⟨g2, ix * 5 + 2, none⟩, .slice x2 n9 d2), (⟨g2, ix * 5 + 3, none⟩, .int .i64 r.ge), (⟨g2, ix * 5 + 4, none⟩, .int .i64 r.ex)] []) (by kernel_rfl) (by kernel_rfl) ?_ ?_ ?_ ?_
    ·intro j hj
     have hj2 : j < 10 := hj
     have : ∀ j, j < 10 → (#[17,18,19,20,21,22,23,24,25,26] : Array Nat).getD j 0 < 27 := by decide
     exact this j hj2
    ·refine Sy.drew (Sy.mk_of ?_ ?_ ?_ ?_)
     ·first | rfl | (simp; done) | (simp; omega)
     ·intro c hc
      simp only [List.mem_cons, List.not_mem_nil, or_false] at hc
      rcases hc with rfl | rfl | rfl | rfl | rfl | rfl | rfl | rfl | rfl | rfl <;> exact byCT
     ·intro p hp; cases hp
     ·(repeat' first | with_reducible (first | exact Below.refl _ _ | assumption | refine gr_alloc ?_ _ | refine below_drewN ?_ _ | refine below_drew ?_ | refine gr_call ?_ (by assumption) | refine Below.setCell ?_ ?_ _) | go_size | omega | (simp; omega))
    ·clear h1 h2 h3
     refine ⟨?r1x0, ?r1x1, ?r1x2, ?r1x3, ?r1x4, ?r1x5, ?r1x6, ?r1x7, ?r1x8, ?r1x9, trivial⟩
     all_goals intro _ aq wx Kq hf hS hdep ev1 ev2 hK
     case' r1x0 =>
      have F0 : aq.eval (.tmp 0) = .slice (some ⟨g1, 0, none⟩) n c1 := hf 0
     case' r1x1 =>
      have F5 : aq.eval (.tmp 5) = .int .i64 ((ix : Int)) := hf 5
     case' r1x2 =>
      have D0 : aq.eval (.tmp 17) = _ := hdep 0
      have D1 : aq.eval (.tmp 18) = _ := hdep 1
     case' r1x3 =>
      have D2 : aq.eval (.tmp 19) = _ := hdep 2
      have c0 := hS.cells (⟨g1, ix * 5, none⟩, .int .i64 r.d) (by simp)
      have c1 := hS.cells (⟨g1, ix * 5 + 1, none⟩, .int .i64 r.num) (by simp)
      have c2 := hS.cells (⟨g1, ix * 5 + 2, none⟩, .slice x1 n9 d1) (by simp)
      have c3 := hS.cells (⟨g1, ix * 5 + 3, none⟩, .int .i64 r.ge) (by simp)
      have c4 := hS.cells (⟨g1, ix * 5 + 4, none⟩, .int .i64 r.ex) (by simp)
     case' r1x4 =>
      have F1 : aq.eval (.tmp 1) = .slice (some ⟨g2, 0, none⟩) n c2 := hf 1
     case' r1x5 =>
      have F5 : aq.eval (.tmp 5) = .int .i64 ((ix : Int)) := hf 5
     case' r1x6 =>
      have D4 : aq.eval (.tmp 21) = _ := hdep 4
      have D5 : aq.eval (.tmp 22) = _ := hdep 5
     case' r1x7 =>
      have D6 : aq.eval (.tmp 23) = _ := hdep 6
      have c0 := hS.cells (⟨g2, ix * 5, none⟩, .int .i64 r.d) (by simp)
      have c1 := hS.cells (⟨g2, ix * 5 + 1, none⟩, .int .i64 r.num) (by simp)
      have c2 := hS.cells (⟨g2, ix * 5 + 2, none⟩, .slice x2 n9 d2) (by simp)
      have c3 := hS.cells (⟨g2, ix * 5 + 3, none⟩, .int .i64 r.ge) (by simp)
      have c4 := hS.cells (⟨g2, ix * 5 + 4, none⟩, .int .i64 r.ex) (by simp)
     case' r1x8 =>
      have D3 : aq.eval (.tmp 20) = _ := hdep 3
      have D7 : aq.eval (.tmp 24) = _ := hdep 7
     case' r1x9 =>
      have D8 : aq.eval (.tmp 25) = _ := hdep 8
     all_goals (clear hf hdep; unfold Oper.wp; generalize Act.eval _ = ev at *; go_simp)
     case' r1x2 =>
      try rw [if_pos (by omega), Oper.upon_value]
     case' r1x6 =>
      try rw [if_pos (by omega), Oper.upon_value]
     case r1x8 =>
      refine ((unhide HEQ _ hS.below)).mono ?_
      rintro e w2 ⟨rfl, hb⟩
      refine hK _ _ (hS.call hb) ?_ (fun j u _ h => Kd.ok_below hb h)
      rw [if_pos (by rfl)]
      show (_ : Value) = _
      first | rfl | (refine congrArg (Value.int .i64) ?_; first | rfl | exact int_in (by omega) | exact quo_in (by omega) (by omega) (by omega) | exact rem_in (by omega) (by omega) | omega | (simp [*]; done)) | (simp; done) | (simp [*]; done)
     all_goals (refine hK _ _ hS ?_ (fun j u _ h => h); rw [if_pos (by rfl)]; show (_ : Value) = _; (first | rfl | (refine congrArg (Value.int .i64) ?_; first | rfl | exact int_in (by omega) | exact quo_in (by omega) (by omega) (by omega) | exact rem_in (by omega) (by omega) | omega | (simp [*]; done)) | (simp; done) | (simp [*]; done)))
    ·intro aq wx hd hw hf hS hg
     have G26 : tau aq 26 = .bool false := hg 9 (by decide)
     have haq : aq = ⟨#[tau aq 0, tau aq 1, tau aq 2, tau aq 3, tau aq 4, tau aq 5, tau aq 6, tau aq 7, tau aq 8, tau aq 9, tau aq 10, tau aq 11, tau aq 12, tau aq 13, tau aq 14, tau aq 15, tau aq 16, tau aq 17, tau aq 18, tau aq 19, tau aq 20, tau aq 21, tau aq 22, tau aq 23, tau aq 24, tau aq 25, tau aq 26], []⟩ := by
      obtain ⟨tq, dq⟩ := aq
      have h5 := arr_eq (show tq.size = 27 from hw)
      have h6 : dq = [] := hd
      subst h6
      exact congrArg (fun z => Act.mk z []) h5
     show K2 aq wx
     rw [haq, hf 0, hf 1, hf 2, hf 3, hf 4, hf 5, hf 6, hf 7, hf 8, hf 9, hf 10, hf 11, hf 12, hf 13, hf 14, hf 15, hf 16, G26]
     clear haq hf hd hw
     try dsimp only
     refine h3 _ _ ?_
     go_meet
     refine ⟨rfl, ?_, ?_, ?_, ?_, ?_, ?_, ?_, ?_, ?_, ?_, hS.below⟩
     all_goals first | exact hS.cells (_, _) (by simp) | exact (hS.free _ (by simp)).2
   try clear c00
   try clear c01
   try clear c02
   try clear c03
   try clear c04
   try clear z0
   try clear c10
   try clear c11
   try clear c12
   try clear c13
   try clear c14
   try clear z1
   obtain ⟨rfl, c00, c01, c02, c03, c04, c10, c11, c12, c13, c14, hb0⟩ := hcut
   have z0 := World.block_lt_of_cell? _ _ c00
   change g1 < wc.heap.size at z0
   have z1 := World.block_lt_of_cell? _ _ c10
   change g2 < wc.heap.size at z1
   go_wp2
   go_roundw
   case rel => exact ⟨ix + 1, by omega, by first | rfl | go_num, hb.trans (hb0.mono hzl)⟩
   case measure => simp [intOf]; omega
  ·obtain rfl : ix = n := by omega
   go_wp2
   go_ret
   exact ⟨rfl, hb⟩
end Go.Proofs.YtaeabefbohlcpaaGreat
