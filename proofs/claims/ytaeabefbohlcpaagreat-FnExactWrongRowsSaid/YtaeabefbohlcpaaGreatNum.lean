/- Plain arithmetic: integer square roots, with no program in sight. Small lemmas on walks that every later text uses. The walks of impl.root and spec.nuRoot, isSquare and nuSquare: both return the integer square root. Slices of integers that lie in blocks of the call's own, and the laws' helpers over them: equal, mark, held. impl.abs, and the tests that all integers of a slice lie in a range. Worlds that have grown, and sums that are less. abs, mod, gcd on both sides. -/
import Derived.WalkKit
import Derived.WalkSpells
import Derived.WalkLawsBesides
import Derived.Test.YtaeabefbohlcpaaGreatProg
import Derived.Deep.OwnRows
import Derived.Deep.Draws
import Derived.Deep.QuietTactic
import Derived.BigQuiet
import Derived.Handy
import Derived.Outline
import Derived.Deep.DeepFit
namespace Go.Proofs.YtaeabefbohlcpaaGreat

def isqN : Nat → Nat
 | 0 => 0
 | n + 1 => if (isqN n + 1) * (isqN n + 1) ≤ n + 1 then isqN n + 1 else isqN n

theorem isqN_spec (n : Nat) : isqN n * isqN n ≤ n ∧ n < (isqN n + 1) * (isqN n + 1) := by
 induction n with
 | zero => simp [isqN]
 | succ n ih =>
  obtain ⟨h1, h2⟩ := ih
  unfold isqN
  split
  ·rename_i h
   refine ⟨h, ?_⟩
   have : (isqN n + 1 + 1) * (isqN n + 1 + 1) = (isqN n + 1) * (isqN n + 1) + 2 * (isqN n + 1) + 1 := by
    rw [Nat.add_mul, Nat.mul_add (isqN n + 1)]; omega
   omega
  ·rename_i h
   exact ⟨by omega, by omega⟩

theorem sq_mono {a b : Int} (ha : 0 ≤ a) (h : a ≤ b) : a * a ≤ b * b :=
 Int.mul_le_mul h h ha (by omega)

end Go.Proofs.YtaeabefbohlcpaaGreat
namespace Go.Proofs.YtaeabefbohlcpaaGreat
open Go.RowKit
set_option linter.unusedVariables false
set_option linter.unusedSimpArgs false

theorem hide {p : Prop} (h : p) : Hid p := h
theorem unhide {p : Prop} (h : Hid p) : p := h
theorem ret_int {k : IntKind} {a b : Int} (h : a = b) : Ending.returned (.int k a) = .returned (.int k b) := by rw [h]
theorem ret_bool {a b : Bool} (h : a = b) : Ending.returned (.bool a) = .returned (.bool b) := by rw [h]
def inB (n lo hi : Int) : Bool := decide (lo ≤ n) && decide (n ≤ hi)
theorem inB_true {n lo hi : Int} (h : inB n lo hi = true) : lo ≤ n ∧ n ≤ hi := by unfold inB at h; simpa using h
end Go.Proofs.YtaeabefbohlcpaaGreat
namespace Go.Proofs.YtaeabefbohlcpaaGreat
open Go.RowKit
set_option linter.unusedVariables false
set_option linter.unusedSimpArgs false

set_option maxHeartbeats 400000 in
theorem l1In_any (n lo hi : Int) (w : World) :
  Calls Tryz.prog 37 #[.int .i64 n, .int .i64 lo, .int .i64 hi] w fun e w' => e = .returned (.bool (inB n lo hi)) ∧ w = w' := by
 go_enter Tryz.func37, Tryz.ntmps37
 go_wp2
 all_goals (go_ret; exact ⟨ret_bool (by simp [inB]; try omega), rfl⟩)

end Go.Proofs.YtaeabefbohlcpaaGreat
namespace Go.Proofs.YtaeabefbohlcpaaGreat
open Go.RowKit
set_option linter.unusedVariables false
set_option linter.unusedSimpArgs false

def IntsAt (w : World) (lo hi : Nat) (a : Option Addr) (n : Nat) (f : Nat → Int) : Prop :=
 n = 0 ∨ ∃ g cap F, a = some ⟨g, 0, none⟩ ∧ lo ≤ g ∧ g < hi ∧ n ≤ cap ∧ w.rowIs g 3 cap F ∧ ∀ i, i < n → F i = .int .i64 (f i)

theorem IntsAt.keep {w w' : World} {lo hi : Nat} {a : Option Addr} {n : Nat} {f : Nat → Int} (h : IntsAt w lo hi a n f) (hk : ∀ k, lo ≤ k → k < hi → w'.heap[k]? = w.heap[k]?) : IntsAt w' lo hi a n f := by
 rcases h with h | ⟨g, cap, F, ha, h1, h2, h3, h4, h5⟩
 ·exact .inl h
 ·exact .inr ⟨g, cap, F, ha, h1, h2, h3, h4.of_block (hk g h1 h2), h5⟩
theorem IntsAt.below {w w' : World} {lo hi B : Nat} {a : Option Addr} {n : Nat} {f : Nat → Int} (h : IntsAt w lo hi a n f) (hb : Below B w w') (hB : hi ≤ B) : IntsAt w' lo hi a n f :=
 h.keep fun k _ h2 => hb.block k (by omega)
theorem IntsAt.weak {w : World} {lo hi lo' hi' : Nat} {a : Option Addr} {n : Nat} {f : Nat → Int} (h : IntsAt w lo hi a n f) (h1 : lo' ≤ lo) (h2 : hi ≤ hi') : IntsAt w lo' hi' a n f := by
 rcases h with h | ⟨g, cap, F, ha, g1, g2, r⟩
 ·exact .inl h
 ·exact .inr ⟨g, cap, F, ha, by omega, by omega, r⟩
theorem IntsAt.congr {w : World} {lo hi : Nat} {a : Option Addr} {n : Nat} {f f' : Nat → Int} (h : IntsAt w lo hi a n f) (e : ∀ i, i < n → f i = f' i) : IntsAt w lo hi a n f' := by
 rcases h with h | ⟨g, cap, F, ha, h1, h2, h3, h4, h5⟩
 ·exact .inl h
 ·exact .inr ⟨g, cap, F, ha, h1, h2, h3, h4, fun i hi => by rw [h5 i hi, e i hi]⟩

theorem below_drewN {B : Nat} {a w : World} (h : Below B a w) (n : Nat) : Below B a (w.drewN n) := ⟨h.os, h.tape, h.output, h.size, h.block⟩

set_option maxHeartbeats 1000000 in
theorem eqIntS_nil (a1 a2 : Option Addr) (c1 c2 : Nat) (w : World) :
  Calls Tryz.prog 20 #[.slice a1 0 c1, .slice a2 0 c2] w fun e w' => e = .returned (.bool true) ∧ ∃ k, w' = w.drewN k := by
 go_enter Tryz.func20, Tryz.ntmps20
 go_wp2
 refine wp_loop_rounds 1 ?_
 rw [rounds_succ]
 go_wp2
 go_ret
 exact ⟨rfl, 0, rfl⟩

set_option maxHeartbeats 1000000 in
theorem eqIntS_row (g1 g2 n c1 c2 cap1 cap2 : Nat) (F1 F2 : Nat → Value) (f : Nat → Int) (w : World) (hn : n ≤ 1000000000) (h1 : n ≤ cap1) (h2 : n ≤ cap2)
  (r1 : w.rowIs g1 3 cap1 F1) (r2 : w.rowIs g2 3 cap2 F2) (e1 : ∀ i, i < n → F1 i = .int .i64 (f i)) (e2 : ∀ i, i < n → F2 i = .int .i64 (f i)) :
  Calls Tryz.prog 20 #[.slice (some ⟨g1, 0, none⟩) n c1, .slice (some ⟨g2, 0, none⟩) n c2] w fun e w' => e = .returned (.bool true) ∧ ∃ k, w' = w.drewN k := by
 have E1 := hide e1
 have E2 := hide e2
 clear e1 e2
 go_enter Tryz.func20, Tryz.ntmps20
 go_wp2
 go_loopw [5] (fun is wr => ∃ i k : Nat, i ≤ n ∧ is = .int .i64 (i : Int) ∧ wr = w.drewN k) (fun is _ => n - (intOf is).toNat)
 case atStart => exact ⟨0, 0, by omega, rfl, rfl⟩
 case round =>
  obtain ⟨i, k, hi, rfl, rfl⟩ := hrel
  by_cases c : i < n
  ·have hc1 := r1.cell (i := i) (by omega)
   have hc2 := r2.cell (i := i) (by omega)
   rw [unhide E1 i c] at hc1
   rw [unhide E2 i c] at hc2
   have hci : (i : Int) < (n : Int) := by omega
   have hi0 : (0 : Int) ≤ (i : Int) := by omega
   go_wp2
   go_quiet (fail)
   go_wp2
   go_roundw
   case rel => exact ⟨i + 1, _, by omega, by go_num, rfl⟩
   case measure => simp [intOf]; omega
  ·go_wp2
   go_ret
   exact ⟨rfl, k, rfl⟩

theorem eqIntS_any (a1 a2 : Option Addr) (l1 u1 l2 u2 n c1 c2 : Nat) (f : Nat → Int) (w : World) (hn : n ≤ 1000000000) (h1 : IntsAt w l1 u1 a1 n f) (h2 : IntsAt w l2 u2 a2 n f) :
  Calls Tryz.prog 20 #[.slice a1 n c1, .slice a2 n c2] w fun e w' => e = .returned (.bool true) ∧ ∃ k, w' = w.drewN k := by
 rcases h1 with rfl | ⟨g1, k1, F1, rfl, _, _, q1, r1, e1⟩
 ·exact eqIntS_nil _ _ _ _ _
 ·rcases h2 with rfl | ⟨g2, k2, F2, rfl, _, _, q2, r2, e2⟩
  ·exact eqIntS_nil _ _ _ _ _
  ·exact eqIntS_row g1 g2 n c1 c2 k1 k2 F1 F2 f w hn q1 q2 r1 r2 e1 e2

set_option maxHeartbeats 1000000 in
theorem markIntS_nil (a : Option Addr) (c : Nat) (k : Int) (w : World) :
  Calls Tryz.prog 21 #[.slice a 0 c, .int .i64 k] w fun e w' => e = .returned (.int .i64 k) ∧ w = w' := by
 go_enter Tryz.func21, Tryz.ntmps21
 go_wp2
 refine wp_loop_rounds 1 ?_
 rw [rounds_succ]
 go_wp2
 go_ret
 exact ⟨rfl, rfl⟩
set_option maxHeartbeats 1000000 in
theorem markIntS_row (g n c cap k : Nat) (F : Nat → Value) (w : World) (hn : n ≤ 1000000000) (hk : k ≤ 1000000000) (h1 : n ≤ cap) (r : w.rowIs g 3 cap F) :
  Calls Tryz.prog 21 #[.slice (some ⟨g, 0, none⟩) n c, .int .i64 (k : Int)] w fun e w' => e = .returned (.int .i64 ((k : Int) + n)) ∧ w'.rowIs g 3 cap (fun i => if i < n then .int .i64 ((k : Int) + i) else F i) ∧ w.grownBy w' (some g) ∧ w'.heap.size = w.heap.size := by
 go_enter Tryz.func21, Tryz.ntmps21
 go_wp2
 go_loopw [1, 5] (fun ks is wr => ∃ i : Nat, i ≤ n ∧ is = .int .i64 (i : Int) ∧ ks = .int .i64 ((k : Int) + i) ∧ wr.rowIs g 3 cap (fun j => if j < i then .int .i64 ((k : Int) + j) else F j) ∧ w.grownBy wr (some g) ∧ wr.heap.size = w.heap.size) (fun _ is _ => n - (intOf is).toNat)
 case atStart => exact ⟨0, by omega, rfl, congrArg (Value.int .i64) (by omega), r.congr (fun j _ => by simp), ⟨rfl, rfl, rfl, Nat.le_refl _, fun _ _ _ => rfl⟩, rfl⟩
 case round =>
  obtain ⟨i, hi, rfl, rfl, hr, hg, hs⟩ := hrel
  by_cases c : i < n
  ·have hc := hr.cell (i := i) (by omega)
   have hf := hr.frozen i
   have hci : (i : Int) < (n : Int) := by omega
   have HS := hide hs
   clear hs
   go_wp2
   go_roundw
   case rel =>
    refine ⟨i + 1, by omega, by go_num, congrArg (Value.int .i64) (by omega), (hr.set _ _).congr (fun j _ => ?_), ⟨hg.os, hg.tape, hg.output, by simpa [World.setCell] using hg.size, fun j hj hne => (Below.heap_setCell _ _ _ _ (fun e => hne (by rw [e]))).trans (hg.block j hj hne)⟩, by simpa [World.setCell] using unhide HS⟩
    by_cases e : j = i
    ·subst e; simp
    ·simp only [if_neg e]
     by_cases e2 : j < i
     ·rw [if_pos e2, if_pos (by omega)]
     ·rw [if_neg e2, if_neg (by omega)]
   case measure => simp [intOf]; omega
  ·have hin : i = n := by omega
   have HN := hide hin
   have HS := hide hs
   clear hin hs
   go_wp2
   go_ret
   exact ⟨ret_int (by rw [unhide HN]), hr.congr (fun j _ => by rw [unhide HN]), hg, unhide HS⟩

set_option maxHeartbeats 1000000 in
theorem heldIntS_nil (a : Option Addr) (c : Nat) (k : Int) (w : World) :
  Calls Tryz.prog 22 #[.slice a 0 c, .int .i64 k] w fun e w' => e = .returned (.int .i64 k) ∧ w = w' := by
 go_enter Tryz.func22, Tryz.ntmps22
 go_wp2
 refine wp_loop_rounds 1 ?_
 rw [rounds_succ]
 go_wp2
 go_ret
 exact ⟨rfl, rfl⟩
set_option maxHeartbeats 1000000 in
theorem heldIntS_row (g n c cap k : Nat) (F : Nat → Value) (w : World) (hn : n ≤ 1000000000) (hk : k ≤ 1000000000) (h1 : n ≤ cap) (r : w.rowIs g 3 cap F) (e : ∀ i, i < n → F i = .int .i64 ((k : Int) + i)) :
  Calls Tryz.prog 22 #[.slice (some ⟨g, 0, none⟩) n c, .int .i64 (k : Int)] w fun e w' => e = .returned (.int .i64 ((k : Int) + n)) ∧ w = w' := by
 have E := hide e
 clear e
 go_enter Tryz.func22, Tryz.ntmps22
 go_wp2
 go_loop [1, 5] (fun ks is => ∃ i : Nat, i ≤ n ∧ is = .int .i64 (i : Int) ∧ ks = .int .i64 ((k : Int) + i)) (fun _ is => n - (intOf is).toNat)
 case atStart => exact ⟨0, by omega, rfl, congrArg (Value.int .i64) (by omega)⟩
 case round =>
  obtain ⟨i, hi, rfl, rfl⟩ := hrel
  by_cases c : i < n
  ·have hc := r.cell (i := i) (by omega)
   rw [unhide E i c] at hc
   have hci : (i : Int) < (n : Int) := by omega
   go_wp2
   go_round
   case rel => exact ⟨i + 1, by omega, by go_num, congrArg (Value.int .i64) (by omega)⟩
   case measure => simp [intOf]; omega
  ·have hin : i = n := by omega
   have HN := hide hin
   clear hin
   go_wp2
   go_ret
   exact ⟨ret_int (by rw [unhide HN]), rfl⟩
theorem heldIntS_any (a : Option Addr) (lo hi n c k : Nat) (w : World) (hn : n ≤ 1000000000) (hk : k ≤ 1000000000) (h : IntsAt w lo hi a n (fun i => (k : Int) + i)) :
  Calls Tryz.prog 22 #[.slice a n c, .int .i64 (k : Int)] w fun e w' => e = .returned (.int .i64 ((k : Int) + n)) ∧ w = w' := by
 rcases h with rfl | ⟨g, cap, F, rfl, hlo, hhi, q, r, e⟩
 ·refine (heldIntS_nil a c k w).mono ?_
  rintro e w' ⟨rfl, rfl⟩
  exact ⟨ret_int (by omega), rfl⟩
 ·exact heldIntS_row g n c cap k F w hn hk q r e

end Go.Proofs.YtaeabefbohlcpaaGreat
namespace Go.Proofs.YtaeabefbohlcpaaGreat
open Go.RowKit
set_option linter.unusedVariables false
set_option linter.unusedSimpArgs false

def allB (zs : List Int) (lo hi : Int) : Bool := zs.all (fun z => inB z lo hi)
def Cells (w : World) (g : Nat) (zs : List Int) : Prop := ∀ i, i < zs.length → w.cell? ⟨g, i, none⟩ = some (.int .i64 (zs.getD i 0))
theorem Cells.keep {w w' : World} {g : Nat} {zs : List Int} (h : Cells w g zs) (e : w'.heap[g]? = w.heap[g]?) : Cells w' g zs := fun i hi => (World.cell?_of_block (a := ⟨g, i, none⟩) e).trans (h i hi)



end Go.Proofs.YtaeabefbohlcpaaGreat
namespace Go.Proofs.YtaeabefbohlcpaaGreat
open Go.RowKit
set_option linter.unusedVariables false
set_option linter.unusedSimpArgs false
theorem gr_alloc {w W : World} (h : Below w.heap.size w W) (o : Obj) : Below w.heap.size w (W.alloc o) := h.alloc h.size o
theorem gr_call {w W w2 : World} (h : Below w.heap.size w W) (h2 : Below W.heap.size W w2) : Below w.heap.size w w2 := h.trans (h2.mono h.size)
theorem below_drew {B : Nat} {a w : World} (h : Below B a w) : Below B a w.drew := ⟨h.os, h.tape, h.output, h.size, h.block⟩
theorem cell_call {W w' : World} {a : Addr} {v : Value} (hb : Below W.heap.size W w') (h : W.cell? a = some v) : w'.cell? a = some v := by
 rw [hb.cell (World.block_lt_of_cell? W a h)]; exact h
theorem frz_call {W w' : World} {a : Addr} (hb : Below W.heap.size W w') (hl : a.block < W.heap.size) (h : W.frozen? a = false) : w'.frozen? a = false := by
 rw [hb.frozen hl]; exact h
theorem lt_keep {W w' : World} (hb : Below W.heap.size W w') : ∀ k, k < W.heap.size → k < w'.heap.size := fun k h => Nat.lt_of_lt_of_le h hb.size
theorem q2 (n : Nat) : n < n + 1 + 1 := by omega
theorem q3 (n : Nat) : n < n + 1 + 1 + 1 := by omega
theorem q4 (n : Nat) : n < n + 1 + 1 + 1 + 1 := by omega
theorem q5 (n : Nat) : n < n + 1 + 1 + 1 + 1 + 1 := by omega
theorem q6 (n : Nat) : n < n + 1 + 1 + 1 + 1 + 1 + 1 := by omega
theorem q7 (n : Nat) : n < n + 1 + 1 + 1 + 1 + 1 + 1 + 1 := by omega
theorem q8 (n : Nat) : n < n + 1 + 1 + 1 + 1 + 1 + 1 + 1 + 1 := by omega
theorem q9 (n : Nat) : n < n + 1 + 1 + 1 + 1 + 1 + 1 + 1 + 1 + 1 := by omega
theorem q10 (n : Nat) : n < n + 1 + 1 + 1 + 1 + 1 + 1 + 1 + 1 + 1 + 1 := by omega
theorem q11 (n : Nat) : n < n + 1 + 1 + 1 + 1 + 1 + 1 + 1 + 1 + 1 + 1 + 1 := by omega
theorem q12 (n : Nat) : n < n + 1 + 1 + 1 + 1 + 1 + 1 + 1 + 1 + 1 + 1 + 1 + 1 := by omega
theorem allB_mem {zs : List Int} {lo hi : Int} (h : allB zs lo hi = true) : ∀ z ∈ zs, lo ≤ z ∧ z ≤ hi := by
 intro z hz
 unfold allB at h
 rw [List.all_eq_true] at h
 exact inB_true (h z hz)
end Go.Proofs.YtaeabefbohlcpaaGreat
namespace Go.Proofs.YtaeabefbohlcpaaGreat
open Go.RowKit
set_option linter.unusedVariables false
set_option linter.unusedSimpArgs false
theorem mod_tmod {a m : Int} (hm : 0 < m) : (if a.tmod m < 0 then a.tmod m + m else a.tmod m) = a % m := by
 have h1 := Int.tmod_add_mul_tdiv a m
 have h2 : (a.tmod m).natAbs < m.natAbs := by rw [Int.natAbs_tmod]; exact Nat.mod_lt _ (by omega)
 have h3 : a % m = (a.tmod m) % m := by
  conv => lhs; rw [← h1]
  rw [Int.add_mul_emod_self_left]
 rw [h3]
 split
 ·rw [← Int.add_emod_right (a.tmod m) m]
  exact (Int.emod_eq_of_lt (by omega) (by omega)).symm
 ·exact (Int.emod_eq_of_lt (by omega) (by omega)).symm
theorem tmod_bd {a m : Int} (hm : m ≠ 0) : -m.natAbs < a.tmod m ∧ a.tmod m < m.natAbs := by
 have h2 : (a.tmod m).natAbs < m.natAbs := by rw [Int.natAbs_tmod]; exact Nat.mod_lt _ (by omega)
 omega
theorem gcd_step {a b : Int} : Int.gcd b (a.tmod b) = Int.gcd a b := by
 unfold Int.gcd
 rw [Int.natAbs_tmod, Nat.gcd_comm b.natAbs, ← Nat.gcd_rec, Nat.gcd_comm]
def igcd (a b : Int) : Int := (Int.gcd a b : Int)
theorem igcd_nonneg (a b : Int) : 0 ≤ igcd a b := by unfold igcd; omega
theorem gcd_le_bd {a b : Int} (ha : -4611686018427387904 ≤ a ∧ a ≤ 4611686018427387904) (hb : -4611686018427387904 ≤ b ∧ b ≤ 4611686018427387904) : 0 ≤ igcd a b ∧ igcd a b ≤ 4611686018427387904 := by
 refine ⟨igcd_nonneg a b, ?_⟩
 unfold igcd
 by_cases h : a = 0
 ·subst h; simp; omega
 ·have := Nat.le_of_dvd (by omega) (Int.gcd_dvd_natAbs_left a b); omega

set_option maxRecDepth 100000 in
set_option maxHeartbeats 400000 in
theorem abs_a (n : Int) (w : World) (h0 : -4611686018427387904 ≤ n ∧ n ≤ 4611686018427387904) :
  Calls Tryz.prog 63 #[.int .i64 n] w fun e w' => e = .returned (.int .i64 ((n.natAbs : Int))) ∧ w = w' := by
 go_enter Tryz.func63, Tryz.ntmps63
 go_wp2
 all_goals (go_ret; exact ⟨ret_int (by omega), rfl⟩)

set_option maxRecDepth 100000 in
set_option maxHeartbeats 400000 in
theorem l1Most_a (a b : Int) (w : World) :
  Calls Tryz.prog 109 #[.int .i64 a, .int .i64 b] w fun e w' => e = .returned (.int .i64 (max a b)) ∧ w = w' := by
 go_enter Tryz.func109, Tryz.ntmps109
 go_wp2
 all_goals (go_ret; exact ⟨ret_int (by omega), rfl⟩)

set_option maxRecDepth 100000 in
set_option maxHeartbeats 400000 in
theorem l1Abs_a (n : Int) (w : World) (h0 : -4611686018427387904 ≤ n ∧ n ≤ 4611686018427387904) :
  Calls Tryz.prog 93 #[.int .i64 n] w fun e w' => e = .returned (.int .i64 ((n.natAbs : Int))) ∧ w = w' := by
 go_enter Tryz.func93, Tryz.ntmps93
 go_wp2_with (go_at_call 109; refine (l1Most_a _ _ _).mono ?_; rintro e w' ⟨rfl, rfl⟩)
 go_ret
 exact ⟨ret_int (by omega), rfl⟩

set_option maxRecDepth 100000 in
set_option maxHeartbeats 400000 in
theorem mod_a (a m : Int) (w : World) (h0 : -4611686018427387904 ≤ a ∧ a ≤ 4611686018427387904) (h1 : 0 < m) (h2 : m ≤ 4611686018427387904) :
  Calls Tryz.prog 42 #[.int .i64 a, .int .i64 m] w fun e w' => e = .returned (.int .i64 (a % m)) ∧ w = w' := by
 have hr := mod_tmod (a := a) h1
 obtain ⟨b1, b2⟩ := tmod_bd (a := a) (m := m) (by omega)
 have b3 : -m < a.tmod m := by omega
 have b4 : a.tmod m < m := by omega
 clear b1 b2
 have HR := hide hr
 clear hr
 by_cases c : a.tmod m < 0
 ·by_cases ha : 0 ≤ a
  ·exfalso; rw [Int.tmod_eq_emod_of_nonneg ha] at c; have := Int.emod_nonneg a (show m ≠ 0 by omega); omega
  ·have hq : (decide (a.tmod m < 0)) = true := by simpa using c
   go_enter Tryz.func42, Tryz.ntmps42
   go_wp2
   all_goals (go_ret; exact ⟨ret_int (by rw [← unhide HR]; first | rw [if_pos c] | omega), rfl⟩)
 ·by_cases ha : 0 ≤ a
  ·rw [Int.tmod_eq_emod_of_nonneg ha] at c b3 b4
   have HA := Int.tmod_eq_emod_of_nonneg (b := m) ha
   have HA2 := hide HA
   clear HA
   go_enter Tryz.func42, Tryz.ntmps42
   go_wp2
   all_goals (go_ret; exact ⟨ret_int rfl, rfl⟩)
  ·go_enter Tryz.func42, Tryz.ntmps42
   go_wp2
   all_goals (go_ret; exact ⟨ret_int (by rw [← unhide HR]; first | rw [if_neg c] | omega), rfl⟩)

set_option maxRecDepth 100000 in
set_option maxHeartbeats 400000 in
theorem nuMod_a (a m : Int) (w : World) (h0 : -4611686018427387904 ≤ a ∧ a ≤ 4611686018427387904) (h1 : 0 < m) (h2 : m ≤ 4611686018427387904) :
  Calls Tryz.prog 38 #[.int .i64 a, .int .i64 m] w fun e w' => e = .returned (.int .i64 (a % m)) ∧ w = w' := by
 have hr := mod_tmod (a := a) h1
 obtain ⟨b1, b2⟩ := tmod_bd (a := a) (m := m) (by omega)
 have b3 : -m < a.tmod m := by omega
 have b4 : a.tmod m < m := by omega
 clear b1 b2
 have HR := hide hr
 clear hr
 by_cases c : a.tmod m < 0
 ·by_cases ha : 0 ≤ a
  ·exfalso; rw [Int.tmod_eq_emod_of_nonneg ha] at c; have := Int.emod_nonneg a (show m ≠ 0 by omega); omega
  ·have hq : (decide (a.tmod m < 0)) = true := by simpa using c
   go_enter Tryz.func38, Tryz.ntmps38
   go_wp2
   all_goals (go_ret; exact ⟨ret_int (by rw [← unhide HR]; first | rw [if_pos c] | omega), rfl⟩)
 ·by_cases ha : 0 ≤ a
  ·rw [Int.tmod_eq_emod_of_nonneg ha] at c b3 b4
   have HA := Int.tmod_eq_emod_of_nonneg (b := m) ha
   have HA2 := hide HA
   clear HA
   go_enter Tryz.func38, Tryz.ntmps38
   go_wp2
   all_goals (go_ret; exact ⟨ret_int rfl, rfl⟩)
  ·go_enter Tryz.func38, Tryz.ntmps38
   go_wp2
   all_goals (go_ret; exact ⟨ret_int (by rw [← unhide HR]; first | rw [if_neg c] | omega), rfl⟩)

set_option maxRecDepth 100000 in
set_option maxHeartbeats 1000000 in
theorem gcd_a (a b : Int) (w : World) (h0 : -4611686018427387904 ≤ a ∧ a ≤ 4611686018427387904) (h1 : -4611686018427387904 ≤ b ∧ b ≤ 4611686018427387904) :
  Calls Tryz.prog 45 #[.int .i64 a, .int .i64 b] w fun e w' => e = .returned (.int .i64 (igcd a b)) ∧ ∃ n, w' = w.drewN n := by
 go_enter Tryz.func45, Tryz.ntmps45
 go_wp2
 go_loopw [0, 1] (fun sx sy wr => ∃ (x y : Int) (k : Nat), (-4611686018427387904 ≤ x ∧ x ≤ 4611686018427387904) ∧ (-4611686018427387904 ≤ y ∧ y ≤ 4611686018427387904) ∧ Int.gcd x y = Int.gcd a b ∧ sx = .int .i64 x ∧ sy = .int .i64 y ∧ wr = w.drewN k) (fun _ sy _ => (intOf sy).natAbs)
 case atStart => exact ⟨a, b, 0, h0, h1, rfl, rfl, rfl, rfl⟩
 case round =>
  obtain ⟨x, y, k, hx, hy, hg, rfl, rfl, rfl⟩ := hrel
  by_cases c : y = 0
  ·subst c
   have hg2 : (x.natAbs : Int) = (Int.gcd a b : Int) := by rw [← hg]; simp [Int.gcd]
   have HG := hide hg2
   clear hg hg2
   go_wp2_with (go_at_call 63; refine (abs_a _ _ (by first | assumption | omega)).mono ?_; rintro e w' ⟨rfl, rfl⟩)
   go_ret
   exact ⟨ret_int (by have := unhide HG; unfold igcd; omega), k, rfl⟩
  ·obtain ⟨b1, b2⟩ := tmod_bd (a := x) (m := y) c
   have b3 : (x.tmod y).natAbs < y.natAbs := by omega
   have hs := (gcd_step (a := x) (b := y)).trans hg
   have HS := hide hs
   have HC := hide b3
   clear hs hg b3
   go_wp2
   go_quiet (fail)
   go_roundw
   case rel => first | exact ⟨y, x.tmod y, _, hy, by omega, unhide HS, rfl, rfl, World.drewN_drewN _ _ _⟩ | ((repeat apply Exists.intro); exact ⟨⟨y, x.tmod y, _, hy, by omega, unhide HS, rfl, rfl, World.drewN_drewN _ _ _⟩, rfl⟩)
   case measure => simp only [intOf]; exact unhide HC

set_option maxRecDepth 100000 in
set_option maxHeartbeats 1000000 in
theorem nuGcd_a (a b : Int) (w : World) (h0 : -4611686018427387904 ≤ a ∧ a ≤ 4611686018427387904) (h1 : -4611686018427387904 ≤ b ∧ b ≤ 4611686018427387904) :
  Calls Tryz.prog 76 #[.int .i64 a, .int .i64 b] w fun e w' => e = .returned (.int .i64 (igcd a b)) ∧ ∃ n, w' = w.drewN n := by
 go_enter Tryz.func76, Tryz.ntmps76
 go_wp2_with (go_at_call 93; refine (l1Abs_a _ _ (by first | assumption | omega)).mono ?_; rintro e w' ⟨rfl, rfl⟩)
 go_loopw [0, 1] (fun sx sy wr => ∃ (x y : Int) (k : Nat), (-4611686018427387904 ≤ x ∧ x ≤ 4611686018427387904) ∧ (-4611686018427387904 ≤ y ∧ y ≤ 4611686018427387904) ∧ Int.gcd x y = Int.gcd a b ∧ sx = .int .i64 x ∧ sy = .int .i64 y ∧ wr = w.drewN k ∧ 0 ≤ x ∧ 0 ≤ y) (fun _ sy _ => (intOf sy).natAbs)
 case atStart => exact ⟨(a.natAbs : Int), (b.natAbs : Int), 0, by omega, by omega, by simp [Int.gcd], rfl, rfl, rfl, by omega, by omega⟩
 case round =>
  obtain ⟨x, y, k, hx, hy, hg, rfl, rfl, rfl, px, py⟩ := hrel
  by_cases c : y = 0
  ·subst c
   have hg2 : (x.natAbs : Int) = (Int.gcd a b : Int) := by rw [← hg]; simp [Int.gcd]
   have HG := hide hg2
   clear hg hg2
   go_wp2
   go_ret
   exact ⟨ret_int (by have := unhide HG; unfold igcd; omega), k, rfl⟩
  ·obtain ⟨b1, b2⟩ := tmod_bd (a := x) (m := y) c
   rw [Int.tmod_eq_emod_of_nonneg px] at b1 b2
   have b3 : (x % y).natAbs < y.natAbs := by omega
   have hs := (gcd_step (a := x) (b := y)).trans hg
   rw [Int.tmod_eq_emod_of_nonneg px] at hs
   have HS := hide hs
   have HC := hide b3
   clear hs hg b3
   go_wp2
   go_quiet (fail)
   go_roundw
   case rel => first | exact ⟨y, x % y, _, hy, by omega, unhide HS, rfl, rfl, World.drewN_drewN _ _ _, py, Int.emod_nonneg _ c⟩ | ((repeat apply Exists.intro); exact ⟨⟨y, x % y, _, hy, by omega, unhide HS, rfl, rfl, World.drewN_drewN _ _ _, py, Int.emod_nonneg _ c⟩, rfl⟩)
   case measure => simp only [intOf]; exact unhide HC
end Go.Proofs.YtaeabefbohlcpaaGreat
