/- Lists of characters. The Jacobi symbol, the program's side. The Jacobi symbol, the reference's side. The Jacobi symbol: syJacobi. Values of the characters, both sides. Assigned characters, the program's side. Assigned characters, the specification's side. The values at a number, both sides. A point at which the value of a primitive form is prime to m, with both numbers at most m. Plain. The first point with a value prime to twice the discriminant. The values of a class: genusValues, chOf. The forms of a genus: genusWith. The class group in memory: groupOf. -/
import Derived.Test.YtaeabefbohlcpaaFan
import Derived.Test.YtaeabefbohlcpaaLevel
import Derived.Test.YtaeabefbohlcpaaNum
import Derived.Test.YtaeabefbohlcpaaOwn
import Derived.Test.YtaeabefbohlcpaaRule
import Derived.Test.YtaeabefbohlcpaaFac
import Derived.Test.YtaeabefbohlcpaaCmp
import Derived.Test.YtaeabefbohlcpaaFp
import Derived.Test.YtaeabefbohlcpaaCpl
import Derived.Test.YtaeabefbohlcpaaCmpI
import Derived.Test.YtaeabefbohlcpaaGp
import Derived.Deep.RegionWith
import Derived.Test.YtaeabefbohlcpaaMpf
import Derived.Test.YtaeabefbohlcpaaFaw
import Derived.Test.YtaeabefbohlcpaaRfl
namespace Go.Proofs.Ytaeabefbohlcpaa
open Go.RowKit
set_option linter.unusedVariables false
set_option linter.unusedSimpArgs false
attribute [local go_sem] q2 q3 q4 q5 q6 q7 q8 q9 q10 q11 q12

def RetV (T : TypeId) (sz : Nat) (w : World) (n : Nat) (vs : List Value) (e : Ending) (w' : World) : Prop := ∃ a c, e = .returned (.slice a n c) ∧ w'.ownsRow w.heap.size T sz (.slice a n c) n vs ∧ Below w.heap.size w w'
theorem SD.ret {T : TypeId} {sz n c LO HI : Nat} {w wr : World} {S : World → Prop} {a : Option Addr} {vs : List Value} (h : SD T sz w LO HI S wr (.slice a n c) n vs) {en : Ending} (he : en = .returned (.slice a n c)) : RetV T sz w n vs en wr := ⟨a, c, he, h.own, h.bel⟩
end Go.Proofs.Ytaeabefbohlcpaa
namespace Go.Proofs.Ytaeabefbohlcpaa
open Go.RowKit
set_option linter.unusedVariables false
set_option linter.unusedSimpArgs false
attribute [local go_sem] q2 q3 q4 q5 q6 q7 q8 q9 q10 q11 q12

end Go.Proofs.Ytaeabefbohlcpaa
namespace Go.Proofs.Ytaeabefbohlcpaa
open Go.RowKit
set_option linter.unusedVariables false
set_option linter.unusedSimpArgs false
attribute [local go_sem] q2 q3 q4 q5 q6 q7 q8 q9 q10 q11 q12

end Go.Proofs.Ytaeabefbohlcpaa
namespace Go.Proofs.Ytaeabefbohlcpaa
open Go.RowKit
set_option linter.unusedVariables false
set_option linter.unusedSimpArgs false
attribute [local go_sem] q2 q3 q4 q5 q6 q7 q8 q9 q10 q11 q12

end Go.Proofs.Ytaeabefbohlcpaa
namespace Go.Proofs.Ytaeabefbohlcpaa
open Go.RowKit
set_option linter.unusedVariables false
set_option linter.unusedSimpArgs false
attribute [local go_sem] q2 q3 q4 q5 q6 q7 q8 q9 q10 q11 q12

end Go.Proofs.Ytaeabefbohlcpaa
namespace Go.Proofs.Ytaeabefbohlcpaa
open Go.RowKit
set_option linter.unusedVariables false
set_option linter.unusedSimpArgs false
attribute [local go_sem] q2 q3 q4 q5 q6 q7 q8 q9 q10 q11 q12

end Go.Proofs.Ytaeabefbohlcpaa
namespace Go.Proofs.Ytaeabefbohlcpaa
open Go.RowKit
set_option linter.unusedVariables false
set_option linter.unusedSimpArgs false
attribute [local go_sem] q2 q3 q4 q5 q6 q7 q8 q9 q10 q11 q12

end Go.Proofs.Ytaeabefbohlcpaa
namespace Go.Proofs.Ytaeabefbohlcpaa
open Go.RowKit
set_option linter.unusedVariables false
set_option linter.unusedSimpArgs false
attribute [local go_sem] q2 q3 q4 q5 q6 q7 q8 q9 q10 q11 q12

end Go.Proofs.Ytaeabefbohlcpaa
namespace Go.Proofs.Ytaeabefbohlcpaa
open Go.RowKit
set_option linter.unusedVariables false
set_option linter.unusedSimpArgs false

end Go.Proofs.Ytaeabefbohlcpaa
namespace Go.Proofs.Ytaeabefbohlcpaa
open Go.RowKit
set_option linter.unusedVariables false
set_option linter.unusedSimpArgs false
attribute [local go_sem] q2 q3 q4 q5 q6 q7 q8 q9 q10 q11 q12

end Go.Proofs.Ytaeabefbohlcpaa
namespace Go.Proofs.Ytaeabefbohlcpaa
open Go.RowKit
set_option linter.unusedVariables false
set_option linter.unusedSimpArgs false
attribute [local go_sem] q2 q3 q4 q5 q6 q7 q8 q9 q10 q11 q12

end Go.Proofs.Ytaeabefbohlcpaa
namespace Go.Proofs.Ytaeabefbohlcpaa
open Go.RowKit
set_option linter.unusedVariables false
set_option linter.unusedSimpArgs false
attribute [local go_sem] q2 q3 q4 q5 q6 q7 q8 q9 q10 q11 q12

theorem rf_at {d : Int} (hd : negB d = true) {k : Nat} (hk : k < (rfL d).length) : RedC ((rfL d).getD k (0, 0, 0)).1 ((rfL d).getD k (0, 0, 0)).2.1 ((rfL d).getD k (0, 0, 0)).2.2 ∧ discI ((rfL d).getD k (0, 0, 0)).1 ((rfL d).getD k (0, 0, 0)).2.1 ((rfL d).getD k (0, 0, 0)).2.2 = d := by
 obtain ⟨h1, h2⟩ := rf_in hd (gdm (d := (0, 0, 0)) hk)
 exact ⟨h2, h1.d⟩

end Go.Proofs.Ytaeabefbohlcpaa
namespace Go.Proofs.Ytaeabefbohlcpaa
open Go.RowKit
set_option linter.unusedVariables false
set_option linter.unusedSimpArgs false
attribute [local go_sem] q2 q3 q4 q5 q6 q7 q8 q9 q10 q11 q12

def grpS (HI gb : Nat) (fs : List (Int × Int × Int)) (W : World) : Prop := gb < HI ∧ ∃ (a : Option Addr) (c mb lo : Nat), W.cell? ⟨gb, 0, none⟩ = some (.slice a fs.length c) ∧ W.cell? ⟨gb, 1, none⟩ = some (.map (some mb)) ∧ FAt W lo HI a fs ∧ mb < HI ∧ mfAt W mb fs fs.length
theorem mf_heap {w w' : World} {b k : Nat} {fs : List (Int × Int × Int)} (h : mfAt w b fs k) (hh : w'.heap[b]? = w.heap[b]?) : mfAt w' b fs k := by
 obtain ⟨n, D, ⟨es, clock, h1, h2, h3, h4⟩, r⟩ := h
 exact ⟨n, D, ⟨es, clock, hh.trans h1, h2, h3, h4⟩, r⟩
theorem grp_kept {HI gb : Nat} {fs : List (Int × Int × Int)} : Kept 0 HI (grpS HI gb fs) := by
 intro w w' hk h
 obtain ⟨h0, a, c, mb, lo, h1, h2, h3, h4, h5⟩ := h
 exact ⟨h0, a, c, mb, lo, (World.cell?_of_block (hk gb (Nat.zero_le _) h0)).trans h1, (World.cell?_of_block (hk gb (Nat.zero_le _) h0)).trans h2, FormsAt.keep h3 (fun k _ h => hk k (Nat.zero_le _) h), h4, mf_heap h5 (hk mb (Nat.zero_le _) h4)⟩
theorem grp_call {HI gb : Nat} {fs : List (Int × Int × Int)} {w w' : World} (h : grpS HI gb fs w) (hb : Below w.heap.size w w') (hH : HI ≤ w.heap.size) : grpS HI gb fs w' := grp_kept w w' (fun k _ hk => hb.block k (Nat.lt_of_lt_of_le hk hH)) h
theorem grp_up {HI HI2 gb : Nat} {fs : List (Int × Int × Int)} {w : World} (h : grpS HI gb fs w) (hH : HI ≤ HI2) : grpS HI2 gb fs w := by
 obtain ⟨h0, a, c, mb, lo, h1, h2, h3, h4, h5⟩ := h
 refine ⟨by omega, a, c, mb, lo, h1, h2, ?_, by omega, h5⟩
 rcases h3 with h | ⟨g, cap, F, ha, g1, g2, r⟩
 ·exact .inl h
 ·exact .inr ⟨g, cap, F, ha, g1, by omega, r⟩
theorem rf_sm {d : Int} (hd : negB d = true) {k : Nat} (hk : k < (rfL d).length) : SmF ((rfL d).getD k (0, 0, 0)) := by
 obtain ⟨h1, _⟩ := rf_at hd hk
 obtain ⟨s1, s2, s3, s4⟩ := red_small h1.cls.ok h1.red
 have a0 := h1.cls.ok.a0
 have c0 := h1.cls.ok.c0
 unfold SmF
 omega
theorem cmp_rwY {D : Int} (F G X : Int × Int × Int) (w : World) (h : InD D F) (h2 : InD D G) (hX : cmp F G = X) : Calls Try.prog 85 #[frm F, frm G] w fun e w' => e = .returned (frm X) ∧ Below w.heap.size w w' := by
 subst hX; exact compose_D F G w h h2
set_option maxRecDepth 100000 in
set_option maxHeartbeats 4000000 in
theorem groupOf_a (d : Int) (w : World) (hd : negB d = true) :
  Calls Try.prog 29 #[.int .i64 d] w fun e w' => ∃ gb, e = .returned (.pointer (some ⟨gb, 0, none⟩)) ∧ grpS w'.heap.size gb (rfL d) w' ∧ Below w.heap.size w w' := by
 obtain ⟨d0, d1⟩ := neg_true hd
 have HLen := rfL_len d0 d1
 have HND := rf_nodup d
 have HSM := fun k hk => rf_sm hd (k := k) hk
 have HC : ∀ W, Calls Try.prog 21 #[.int .i64 d] W (RetFL W (rfL d)) := fun W => reducedForms_a d W d0 d1
 have HC := hide HC
 generalize rfL d = fs at *
 have hmm := @run_makeMap Try.prog
 go_enter Try.func29, Try.ntmps29
 go_wp2_with (go_at_call 21; refine ((unhide HC) _).mono ?_; rintro e wA ⟨a0, c0, rfl, hlA, hbA⟩)
 have hS : FAt wA w.heap.size wA.heap.size a0 fs := hlA.at.2
 have hsz := hbA.size
 go_loopw [16] (fun is wr => ∃ k : Nat, is = .int .i64 (k : Int) ∧ k ≤ fs.length ∧ mfAt wr wA.heap.size fs k ∧ wr.cell? ⟨wA.heap.size + 1, 0, none⟩ = some (.slice a0 fs.length c0) ∧ wr.cell? ⟨wA.heap.size + 1, 1, none⟩ = some (.map (some wA.heap.size)) ∧ FAt wr w.heap.size wA.heap.size a0 fs ∧ Below w.heap.size w wr) (fun is _ => fs.length - (intOf is).toNat)
 case atStart =>
  refine ⟨0, rfl, by omega, mf_below (mf_made wA fs) byGG, by go_simp, by go_simp, hS.below (B := wA.heap.size) byGG (Nat.le_refl _), byGG⟩
 case round =>
  clear hbA hlA hS
  obtain ⟨k, rfl, hk, hmf, c00, c01, hFA, hb⟩ := hrel
  obtain ⟨w1, rfl⟩ : ∃ w1 : World, w1 = wr := ⟨_, rfl⟩
  have hz := hb.size
  have hz1 : wA.heap.size + 1 < w1.heap.size := World.block_lt_of_cell? _ _ c00
  by_cases c9 : k < fs.length
  ·have hci : (k : Int) < (fs.length : Int) := by omega
   obtain ⟨g0, hg0, hg2, e0, e1, e2⟩ := FAt.cells hFA c9
   have hsm := HSM k c9
   obtain ⟨w2, hrun, hmf2, hg⟩ := mf_store (w := (w1.alloc (.cells #[.int .i64 (fs.getD k (0, 0, 0)).1, .int .i64 (fs.getD k (0, 0, 0)).2.1, .int .i64 (fs.getD k (0, 0, 0)).2.2] 46)).drew) (b := wA.heap.size) (k := k) (mf_below hmf byGG) c9 HND hsm (by omega)
   unfold fV at hrun
   generalize fs.getD k (0, 0, 0) = X at *
   obtain ⟨x, y, z⟩ := X
   simp only at hrun hg e0 e1 e2 hsm
   have HRES : Hid (mfAt w2 wA.heap.size fs (k + 1) ∧ w2.cell? ⟨wA.heap.size + 1, 0, none⟩ = some (.slice a0 fs.length c0) ∧ w2.cell? ⟨wA.heap.size + 1, 1, none⟩ = some (.map (some wA.heap.size)) ∧ FAt w2 w.heap.size wA.heap.size a0 fs ∧ Below w.heap.size w w2) := hide (by
    have hne : (some (wA.heap.size + 1) : Option Nat) ≠ some wA.heap.size := by simp
    have hal : ∀ (a : Addr), a.block < w1.heap.size → ((w1.alloc (.cells #[.int .i64 x, .int .i64 y, .int .i64 z] 46)).drew).cell? a = w1.cell? a := fun a ha => Below.cell (B := w1.heap.size) byGG ha
    refine ⟨hmf2, ?_, ?_, ?_, ?_⟩
    ·exact ((hg.cell_far ⟨wA.heap.size + 1, 0, none⟩ (by simp; omega) hne).trans (hal _ (by simp; omega))).trans c00
    ·exact ((hg.cell_far ⟨wA.heap.size + 1, 1, none⟩ (by simp; omega) hne).trans (hal _ (by simp; omega))).trans c01
    ·refine FormsAt.keep hFA fun j h1 h2 => ?_
     have q1 := hg.block j (by simp; omega) (fun e => by simp only [Option.some.injEq] at e; omega)
     have q2 : ((w1.alloc (.cells #[.int .i64 x, .int .i64 y, .int .i64 z] 46)).drew).heap[j]? = w1.heap[j]? := Below.block (B := w1.heap.size) byGG j (by omega)
     exact q1.trans q2
    ·have hbW : Below w.heap.size w ((w1.alloc (.cells #[.int .i64 x, .int .i64 y, .int .i64 z] 46)).drew) := byGG
     exact hbW.grown hg (by simp; omega) (fun k hk => by cases hk; exact hsz))
   subst hg0
   clear hmf2 hg HSM
   go_wp2
   go_region
   all_goals
    obtain ⟨r0, r1, r2, r3, r4⟩ := unhide HRES
    go_wp2
    go_roundw
    case rel => exact ⟨k + 1, by first | rfl | go_num, by omega, r0, r1, r2, r3, r4⟩
    case measure => simp [intOf]; omega
  ·obtain rfl : k = fs.length := by omega
   go_wp2
   go_ret
   have hmb := mf_lt hmf
   exact ⟨_, rfl, ⟨hz1, a0, c0, wA.heap.size, w.heap.size, c00, c01, (by
    rcases hFA with h | ⟨g, cap, F, ha, g1, g2, r⟩
    ·exact .inl h
    ·exact .inr ⟨g, cap, F, ha, g1, by omega, r⟩), hmb, hmf⟩, hb⟩
end Go.Proofs.Ytaeabefbohlcpaa
