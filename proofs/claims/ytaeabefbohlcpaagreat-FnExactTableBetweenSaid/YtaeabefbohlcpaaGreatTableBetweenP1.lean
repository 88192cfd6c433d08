/- markRowS. heldRowS. The law FnExactTableBetween. -/
import Derived.Test.YtaeabefbohlcpaaGreatNum
import Derived.Test.YtaeabefbohlcpaaGreatLevel
import Derived.Test.YtaeabefbohlcpaaGreatConv
import Derived.Test.YtaeabefbohlcpaaGreatRed
import Derived.Test.YtaeabefbohlcpaaGreatDrp
import Derived.Test.YtaeabefbohlcpaaGreatPt
import Derived.Test.YtaeabefbohlcpaaGreatRule
import Derived.Test.YtaeabefbohlcpaaGreatOwn
import Derived.Test.YtaeabefbohlcpaaGreatSub
import Derived.Test.YtaeabefbohlcpaaGreatCmp
import Derived.Test.YtaeabefbohlcpaaGreatStep
import Derived.Test.YtaeabefbohlcpaaGreatReduceI
import Derived.Test.YtaeabefbohlcpaaGreatReduceS
import Derived.Test.YtaeabefbohlcpaaGreatRd
import Derived.Test.YtaeabefbohlcpaaGreatFp
import Derived.Test.YtaeabefbohlcpaaGreatInv
import Derived.Test.YtaeabefbohlcpaaGreatCpl
import Derived.Test.YtaeabefbohlcpaaGreatCpw
import Derived.Test.YtaeabefbohlcpaaGreatCps
import Derived.Test.YtaeabefbohlcpaaGreatGp
import Derived.Test.YtaeabefbohlcpaaGreatGi
import Derived.Test.YtaeabefbohlcpaaGreatGrp
import Derived.Test.YtaeabefbohlcpaaGreatRfl
import Derived.Test.YtaeabefbohlcpaaGreatFac
import Derived.Test.YtaeabefbohlcpaaGreatOs
import Derived.Test.YtaeabefbohlcpaaGreatUnw
import Derived.Test.YtaeabefbohlcpaaGreatCmpI
import Derived.Test.YtaeabefbohlcpaaGreatCou
import Derived.Test.YtaeabefbohlcpaaGreatSd
import Derived.Test.YtaeabefbohlcpaaGreatFaw
import Derived.Test.YtaeabefbohlcpaaGreatFap
import Derived.Test.YtaeabefbohlcpaaGreatFan
import Derived.Test.YtaeabefbohlcpaaGreatJac
import Derived.Test.YtaeabefbohlcpaaGreatJas
import Derived.Test.YtaeabefbohlcpaaGreatChv
import Derived.Test.YtaeabefbohlcpaaGreatChi
import Derived.Test.YtaeabefbohlcpaaGreatChs
import Derived.Test.YtaeabefbohlcpaaGreatPtg
import Derived.Test.YtaeabefbohlcpaaGreatFpg
import Derived.Test.YtaeabefbohlcpaaGreatGnv
import Derived.Test.YtaeabefbohlcpaaGreatGrq
import Derived.Test.YtaeabefbohlcpaaGreatGrt
import Derived.Test.YtaeabefbohlcpaaGreatIvp
import Derived.Test.YtaeabefbohlcpaaGreatIvi
import Derived.Test.YtaeabefbohlcpaaGreatIvs
import Derived.Test.YtaeabefbohlcpaaGreatGix
import Derived.Test.YtaeabefbohlcpaaGreatGtt
import Derived.Test.YtaeabefbohlcpaaGreatGx
import Derived.Test.YtaeabefbohlcpaaGreatGng
import Derived.Test.YtaeabefbohlcpaaGreatGns
import Derived.Test.YtaeabefbohlcpaaGreatRwo
import Derived.Test.YtaeabefbohlcpaaGreatRwt
import Derived.Test.YtaeabefbohlcpaaGreatPost
import Derived.Test.YtaeabefbohlcpaaGreatTableBetweenP0
namespace Go.Proofs.YtaeabefbohlcpaaGreat
open Go.RowKit
set_option linter.unusedVariables false
set_option linter.unusedSimpArgs false
attribute [local go_sem] q2 q3 q4 q5 q6 q7 q8 q9 q10 q11 q12

def mkK (t : Nat → TR) : Nat → Int
 | 0 => 1
 | i + 1 => mkK t i + 4 + (t i).zs.length
theorem mkK_b {t : Nat → TR} {n : Nat} (h : ∀ i, i < n → (t i).zs.length ≤ 700) : ∀ i, i ≤ n → 1 ≤ mkK t i ∧ mkK t i ≤ 1 + 704 * i
 | 0, _ => by simp [mkK]
 | i + 1, hi => by
  have := mkK_b h i (by omega)
  have := h i (by omega)
  simp only [mkK]; omega
def mkT (k : Int) (t : TR) : TR := ⟨⟨k, k + 1, k + 1 + 1 + t.zs.length, k + 1 + 1 + t.zs.length + 1⟩, t.a, t.c, t.lo, t.hi, (List.range t.zs.length).map (fun i : Nat => k + 1 + 1 + (i : Int))⟩
theorem mkT_len (k : Int) (t : TR) : (mkT k t).zs.length = t.zs.length := by simp [mkT]
theorem mkT_at (k : Int) (t : TR) {i : Nat} (h : i < t.zs.length) : (mkT k t).zs.getD i 0 = k + 1 + 1 + (i : Int) := by
 simp [mkT, List.getD_eq_getElem?_getD, List.getElem?_range h]
theorem RowsAt.put {W W3 : World} {lo hi n g i : Nat} {t : Nat → TR} {T : TR} (h : RowsAt W lo hi (some ⟨g, 0, none⟩) n t) (q : i < n) (hlo : T.lo = (t i).lo) (hhi : T.hi = (t i).hi)
  (hc : ∀ j, j < 5 → W3.cell? ⟨g, i * 5 + j, none⟩ = T.cells[j]?) (ho : ∀ o, o < i * 5 ∨ i * 5 + 5 ≤ o → W3.cell? ⟨g, o, none⟩ = W.cell? ⟨g, o, none⟩) (hf : ∀ o, W3.frozen? ⟨g, o, none⟩ = false) (hs : W.heap.size ≤ W3.heap.size)
  (hb : ∀ k, k ≠ g → k < (t i).lo ∨ (t i).hi ≤ k → k < W.heap.size → W3.heap[k]? = W.heap[k]?) (h9 : hi ≤ W.heap.size) (hT : T.ints W3) : RowsAt W3 lo hi (some ⟨g, 0, none⟩) n (fun j => if j = i then T else t j) := by
 rcases h.ptr with z | ⟨g', e, g1, g2, g3, g4, g5, g6⟩
 ·omega
 ·simp only [Option.some.injEq, Addr.mk.injEq] at e
  obtain ⟨rfl, -⟩ := e
  refine ⟨.inr ⟨g, rfl, g1, g2, by omega, fun j k hj hk => ?_, hf, fun j hj => ?_⟩, fun j hj => ?_, fun j hj => ?_, fun j hj => ?_, fun j k hjk hk => ?_⟩
  ·by_cases e : j = i
   ·subst e; simpa using hc k hk
   ·simp only [e, if_false]; rw [ho _ (by omega)]; exact g4 j k hj hk
  ·by_cases e : j = i
   ·subst e; simp only [if_true]; rw [hlo, hhi]; exact g6 j hj
   ·simp only [e, if_false]; exact g6 j hj
  ·by_cases e : j = i
   ·subst e; simpa using hT
   ·simp only [e, if_false]
    refine IntsAt.keep (h.inn j hj) fun k k1 k2 => hb k ?_ ?_ ?_
    ·have := g6 j hj; omega
    ·rcases Nat.lt_or_gt_of_ne e with l | l
     ·have := h.ord j i l q; omega
     ·have := h.ord i j l hj; omega
    ·have := h.top j hj; omega
  ·by_cases e : j = i
   ·subst e; simp only [if_true]; rw [hlo]; exact h.low j hj
   ·simp only [e, if_false]; exact h.low j hj
  ·by_cases e : j = i
   ·subst e; simp only [if_true]; rw [hhi]; exact h.top j hj
   ·simp only [e, if_false]; exact h.top j hj
  ·have e9 : ∀ j, (if j = i then T else t j).lo = (t j).lo := fun j => by by_cases e : j = i; (subst e; simp [hlo]); simp [e]
   have e8 : ∀ j, (if j = i then T else t j).hi = (t j).hi := fun j => by by_cases e : j = i; (subst e; simp [hhi]); simp [e]
   rw [e8 j, e9 k]; exact h.ord j k hjk hk
theorem markIntS_z (a : Option Addr) (lo hi n c : Nat) (kz : Int) (f : Nat → Int) (w : World) (hn : n ≤ 700) (h0 : 0 ≤ kz) (h1 : kz ≤ 100000) (h : IntsAt w lo hi a n f) :
  Calls Tryz.prog 21 #[.slice a n c, .int .i64 kz] w fun e w' => e = .returned (.int .i64 (kz + n)) ∧ IntsAt w' lo hi a n (fun i => kz + i) ∧ (∀ j, j < lo ∨ hi ≤ j → j < w.heap.size → w'.heap[j]? = w.heap[j]?) ∧ w'.heap.size = w.heap.size ∧ Below lo w w' := by
 obtain ⟨k, rfl⟩ := Int.eq_ofNat_of_zero_le h0
 exact markIntS_box a lo hi n c k f w (by omega) (by omega) h
set_option maxRecDepth 100000 in
set_option maxHeartbeats 4000000 in
theorem markRowS_a (g n c lo hi : Nat) (t : Nat → TR) (w : World) (hn : n ≤ 40) (h : RowsAt w lo hi (some ⟨g, 0, none⟩) n t) (h9 : hi ≤ w.heap.size) (hlo : lo ≤ hi) (E : ∀ i, i < n → (t i).zs.length ≤ 700) :
  Calls Tryz.prog 14 #[.slice (some ⟨g, 0, none⟩) n c, .int .i64 1] w fun e w' => e = .returned (.int .i64 (mkK t n)) ∧ RowsAt w' lo hi (some ⟨g, 0, none⟩) n (fun j => mkT (mkK t j) (t j)) ∧ (∀ k, k < lo ∨ hi ≤ k → k < w.heap.size → w'.heap[k]? = w.heap[k]?) ∧ w'.heap.size = w.heap.size ∧ Below lo w w' := by
 have HK := mkK_b E
 go_enter Tryz.func14, Tryz.ntmps14
 go_wp2
 go_loopw [1, 5] (fun ks is wr => ∃ ix : Nat, ix ≤ n ∧ is = .int .i64 (ix : Int) ∧ ks = .int .i64 (mkK t ix) ∧ RowsAt wr lo hi (some ⟨g, 0, none⟩) n (fun j => if j < ix then mkT (mkK t j) (t j) else t j) ∧ (∀ k, k < lo ∨ hi ≤ k → k < w.heap.size → wr.heap[k]? = w.heap[k]?) ∧ wr.heap.size = w.heap.size ∧ Below lo w wr) (fun _ is _ => n - (intOf is).toNat)
 case atStart => exact ⟨0, by omega, rfl, rfl, h.congr (fun i _ => by simp), fun _ _ _ => rfl, rfl, Below.refl _ _⟩
 case round =>
  obtain ⟨ix, hi2, rfl, rfl, hr, hk9, hs9, hb9⟩ := hrel
  obtain ⟨wl, rfl⟩ : ∃ wl : World, wl = wr := ⟨_, rfl⟩
  have HS := hide hs9
  clear hs9
  by_cases q : ix < n
  ·have hci : (ix : Int) < (n : Int) := by omega
   obtain ⟨x1, x2⟩ := HK ix hi2
   have en := hr.ent q
   simp only [Nat.lt_irrefl, if_false] at en
   obtain ⟨⟨c0, c1, c2, c3, c4⟩, gb, fz, gl, gh, out⟩ := en
   have inn := hr.inn ix q
   simp only [Nat.lt_irrefl, if_false] at inn
   have outi := out ix q
   simp only [Nat.lt_irrefl, if_false] at outi
   have top := hr.top ix q
   have low := hr.low ix q
   simp only [Nat.lt_irrefl, if_false] at top low
   have hl7 := E ix q
   have KN : Hid (mkK t (ix + 1) = mkK t ix + 4 + ((t ix).zs.length : Int)) := hide rfl
   have f0 := fz (ix * 5)
   have f1 := fz (ix * 5 + 1)
   have f3 := fz (ix * 5 + 3)
   have f4 := fz (ix * 5 + 4)
   obtain ⟨T0, hT0⟩ : ∃ T0, t ix = T0 := ⟨_, rfl⟩
   rw [hT0] at c0 c1 c2 c3 c4 inn outi top low hl7 KN
   have HTT := hide hT0
   clear hT0 out
   obtain ⟨x, hx⟩ : ∃ x, mkK t ix = x := ⟨_, rfl⟩
   rw [hx] at x1 x2 KN
   rw [hx]
   have HX := hide hx
   clear hx
   obtain ⟨r, av, cv, lv, hv, zv⟩ := T0
   simp only [TR.ints] at c0 c1 c2 c3 c4 inn outi top low hl7 KN
   generalize hnz : zv.length = nz at *
   have HNZ := hide hnz
   clear hnz
   have HR := hide hr
   have FZ := hide fz
   clear hr fz
   have hxb : x ≤ 30000 := by omega
   clear x2
   go_wp2_with fail
   refine (markIntS_z av lv hv nz cv _ _ _ hl7 (by omega) (by omega) (IntsAt.keep inn (fun k k1 k2 => (Below.heap_setCell _ _ _ _ (show k ≠ g by omega)).trans (Below.heap_setCell _ _ _ _ (show k ≠ g by omega))))).mono ?_
   rintro e w2 ⟨rfl, i2, k2, s2, b2⟩
   have hgk := k2 g outi (by simpa [World.setCell] using gb)
   have HG : ∀ o, w2.cell? ⟨g, o, none⟩ = _ := fun o => World.cell?_of_block hgk
   have HF : ∀ o, w2.frozen? ⟨g, o, none⟩ = _ := fun o => World.frozen?_of_block hgk
   have c0' : w2.cell? ⟨g, ix * 5, none⟩ = some (.int .i64 x) := (HG _).trans byCT
   have c1' : w2.cell? ⟨g, ix * 5 + 1, none⟩ = some (.int .i64 (x + 1)) := (HG _).trans byCT
   have c2' : w2.cell? ⟨g, ix * 5 + 2, none⟩ = some (.slice av nz cv) := (HG _).trans byCT
   have c3' : w2.cell? ⟨g, ix * 5 + 3, none⟩ = some (.int .i64 r.ge) := (HG _).trans byCT
   have c4' : w2.cell? ⟨g, ix * 5 + 4, none⟩ = some (.int .i64 r.ex) := (HG _).trans byCT
   have FF : ∀ o, w2.frozen? ⟨g, o, none⟩ = false := fun o => (HF o).trans (frz_set _ (frz_set _ (unhide FZ o)))
   have f3' := FF (ix * 5 + 3)
   have f4' := FF (ix * 5 + 4)
   have s2' : w2.heap.size = wl.heap.size := by simpa [World.setCell] using s2
   have S2 := hide s2'
   have HGG := hide HG
   have FFF := hide FF
   have K2 := hide k2
   clear s2' s2 hgk HG HF FF k2 c0 c1 c2 c3 c4 f0 f1 f3 f4
   go_wp2
   go_roundw
   case rel =>
    have k0 : ((w2.setCell ⟨g, ix * 5 + 3, none⟩ (.int .i64 (x + 1 + 1 + nz))).setCell ⟨g, ix * 5 + 4, none⟩ (.int .i64 (x + 1 + 1 + nz + 1))).cell? ⟨g, ix * 5, none⟩ = some (.int .i64 x) := byCT
    have k1 : ((w2.setCell ⟨g, ix * 5 + 3, none⟩ (.int .i64 (x + 1 + 1 + nz))).setCell ⟨g, ix * 5 + 4, none⟩ (.int .i64 (x + 1 + 1 + nz + 1))).cell? ⟨g, ix * 5 + 1, none⟩ = some (.int .i64 (x + 1)) := byCT
    have k2 : ((w2.setCell ⟨g, ix * 5 + 3, none⟩ (.int .i64 (x + 1 + 1 + nz))).setCell ⟨g, ix * 5 + 4, none⟩ (.int .i64 (x + 1 + 1 + nz + 1))).cell? ⟨g, ix * 5 + 2, none⟩ = some (.slice av nz cv) := byCT
    have k3 : ((w2.setCell ⟨g, ix * 5 + 3, none⟩ (.int .i64 (x + 1 + 1 + nz))).setCell ⟨g, ix * 5 + 4, none⟩ (.int .i64 (x + 1 + 1 + nz + 1))).cell? ⟨g, ix * 5 + 3, none⟩ = some (.int .i64 (x + 1 + 1 + nz)) := byCT
    have k4 : ((w2.setCell ⟨g, ix * 5 + 3, none⟩ (.int .i64 (x + 1 + 1 + nz))).setCell ⟨g, ix * 5 + 4, none⟩ (.int .i64 (x + 1 + 1 + nz + 1))).cell? ⟨g, ix * 5 + 4, none⟩ = some (.int .i64 (x + 1 + 1 + nz + 1)) := byCT
    have ez := unhide HNZ
    have eS := unhide S2
    have eW := unhide HS
    have eT := unhide HTT
    have eX := unhide HX
    clear c0' c1' c2' c3' c4' f3' f4'
    have oth : ∀ k, k ≠ g → k < lv ∨ hv ≤ k → k < wl.heap.size → ((w2.setCell ⟨g, ix * 5 + 3, none⟩ (.int .i64 (x + 1 + 1 + nz))).setCell ⟨g, ix * 5 + 4, none⟩ (.int .i64 (x + 1 + 1 + nz + 1))).heap[k]? = wl.heap[k]? := fun k h1 h2 h3 =>
     ((Below.heap_setCell _ _ _ _ h1).trans (Below.heap_setCell _ _ _ _ h1)).trans ((unhide K2 k h2 (by simpa [World.setCell] using h3)).trans ((Below.heap_setCell _ _ _ _ h1).trans (Below.heap_setCell _ _ _ _ h1)))
    refine ⟨ix + 1, by omega, by go_num, congrArg (Value.int .i64) (by rw [unhide KN]; omega), ?_, fun k h1 h2 => (oth k (by omega) (by omega) (by omega)).trans (hk9 k h1 h2), by simp only [World.setCell, Array.size_modify] at *; first | omega | (simp; omega), ?_⟩
    ·refine RowsAt.congr (RowsAt.put (T := mkT x ⟨r, av, cv, lv, hv, zv⟩) (unhide HR) q (by simp [mkT, eT]) (by simp [mkT, eT]) (five ?_ ?_ ?_ ?_ ?_) (fun o ho => ?_) (fun o => frz_set _ (frz_set _ (unhide FFF o))) ?_ ?_ (by omega) ?_) fun j hj => ?_
     ·simpa [TR.cells, mkT, ez] using k0
     ·simpa [TR.cells, mkT, ez] using k1
     ·simpa [TR.cells, mkT, ez] using k2
     ·simpa [TR.cells, mkT, ez] using k3
     ·simpa [TR.cells, mkT, ez] using k4
     ·exact ((World.cell?_setCell_other _ _ _ _ (ne_off (by omega))).trans (World.cell?_setCell_other _ _ _ _ (ne_off (by omega)))).trans ((unhide HGG o).trans ((World.cell?_setCell_other _ _ _ _ (ne_off (by omega))).trans (World.cell?_setCell_other _ _ _ _ (ne_off (by omega)))))
     ·have : ((w2.setCell ⟨g, ix * 5 + 3, none⟩ (.int .i64 (x + 1 + 1 + nz))).setCell ⟨g, ix * 5 + 4, none⟩ (.int .i64 (x + 1 + 1 + nz + 1))).heap.size = w2.heap.size := by simp [World.setCell]
      omega
     ·simp only [Nat.lt_irrefl, if_false, eT]
      exact oth
     ·refine IntsAt.congr (IntsAt.keep (w := w2) ?_ fun k h1 h2 => (Below.heap_setCell _ _ _ _ (show k ≠ g by simp only [mkT] at h1 h2; omega)).trans (Below.heap_setCell _ _ _ _ (show k ≠ g by simp only [mkT] at h1 h2; omega))) (f := fun i => x + 1 + 1 + (i : Int)) fun i hi3 => ?_
      ·rw [mkT_len]; simp only [mkT, ez]; exact i2
      ·rw [mkT_len] at hi3; exact (mkT_at _ _ hi3).symm
     ·by_cases e : j = ix
      ·subst e; simp [eT, eX]
      ·by_cases e2 : j < ix
       ·simp [e, e2, show j < ix + 1 by omega]
       ·simp [e, e2, show ¬ j < ix + 1 by omega]
    ·exact ((hb9.trans (Below.setCell (Below.setCell (Below.refl _ _) gl _) gl _)).trans (b2.mono low)).trans (Below.setCell (Below.setCell (Below.refl _ _) gl _) gl _)
   case measure => simp [intOf]; omega
  ·obtain rfl : ix = n := by omega
   go_wp2
   go_ret
   exact ⟨rfl, hr.congr (fun i hi => by simp [hi]), hk9, unhide HS, hb9⟩
end Go.Proofs.YtaeabefbohlcpaaGreat
namespace Go.Proofs.YtaeabefbohlcpaaGreat
open Go.RowKit
set_option linter.unusedVariables false
set_option linter.unusedSimpArgs false
attribute [local go_sem] q2 q3 q4 q5 q6 q7 q8 q9 q10 q11 q12

theorem heldIntS_z (a : Option Addr) (lo hi n c : Nat) (kz : Int) (w : World) (hn : n ≤ 700) (h0 : 0 ≤ kz) (h1 : kz ≤ 100000) (h : IntsAt w lo hi a n (fun i => kz + i)) :
  Calls Tryz.prog 22 #[.slice a n c, .int .i64 kz] w fun e w' => e = .returned (.int .i64 (kz + n)) ∧ w = w' := by
 obtain ⟨k, rfl⟩ := Int.eq_ofNat_of_zero_le h0
 exact heldIntS_any a lo hi n c k w (by omega) (by omega) h
set_option maxRecDepth 100000 in
set_option maxHeartbeats 4000000 in
theorem heldRowS_a (g n c lo hi : Nat) (t : Nat → TR) (w : World) (hn : n ≤ 40) (h : RowsAt w lo hi (some ⟨g, 0, none⟩) n (fun j => mkT (mkK t j) (t j))) (h9 : hi ≤ w.heap.size) (E : ∀ i, i < n → (t i).zs.length ≤ 700) :
  Calls Tryz.prog 15 #[.slice (some ⟨g, 0, none⟩) n c, .int .i64 1] w fun e w' => e = .returned (.int .i64 (mkK t n)) ∧ w = w' := by
 have HK := mkK_b E
 have HH := hide h
 clear h
 go_enter Tryz.func15, Tryz.ntmps15
 go_wp2
 go_loopw [1, 5] (fun ks is wr => ∃ ix : Nat, ix ≤ n ∧ is = .int .i64 (ix : Int) ∧ ks = .int .i64 (mkK t ix) ∧ wr = w) (fun _ is _ => n - (intOf is).toNat)
 case atStart => exact ⟨0, by omega, rfl, rfl, rfl⟩
 case round =>
  obtain ⟨ix, hi2, rfl, rfl, rfl⟩ := hrel
  by_cases q : ix < n
  ·have hci : (ix : Int) < (n : Int) := by omega
   obtain ⟨x1, x2⟩ := HK ix hi2
   have hr := unhide HH
   obtain ⟨⟨c0, c1, c2, c3, c4⟩, gb, -⟩ := hr.ent q
   have inn := hr.inn ix q
   have hl7 := E ix q
   have KN : Hid (mkK t (ix + 1) = mkK t ix + 4 + ((t ix).zs.length : Int)) := hide rfl
   obtain ⟨T0, hT0⟩ : ∃ T0, t ix = T0 := ⟨_, rfl⟩
   rw [hT0] at c0 c1 c2 c3 c4 inn hl7 KN
   clear hT0 hr
   obtain ⟨x, hx⟩ : ∃ x, mkK t ix = x := ⟨_, rfl⟩
   rw [hx] at x1 x2 KN c0 c1 c2 c3 c4 inn
   rw [hx]
   clear hx
   have inn2 : IntsAt wr T0.lo T0.hi T0.a T0.zs.length (fun i => x + 1 + 1 + (i : Int)) := by
    have i3 := inn
    unfold TR.ints at i3
    rw [mkT_len] at i3
    exact IntsAt.congr i3 fun i hi3 => mkT_at _ _ hi3
   clear inn
   rw [mkT_len] at c2
   simp only [mkT] at c0 c1 c2 c3 c4
   obtain ⟨r, av, cv, lv, hv, zv⟩ := T0
   simp only at c0 c1 c2 c3 c4 inn2 hl7 KN
   generalize zv.length = nz at *
   have hxb : x ≤ 30000 := by omega
   clear x2
   have e5 : ¬ (x + 1 + 1 + (nz : Int) < 0) := by omega
   go_wp2_with fail
   refine (heldIntS_z av lv hv nz cv _ _ hl7 (by omega) (by omega) inn2).mono ?_
   rintro e w2 ⟨rfl, rfl⟩
   go_wp2
   go_roundw
   case rel => exact ⟨ix + 1, by omega, by go_num, congrArg (Value.int .i64) (by rw [unhide KN]; omega), by first | trivial | rfl⟩
   case measure => simp [intOf]; omega
  ·obtain rfl : ix = n := by omega
   go_wp2
   go_ret
   exact ⟨rfl, rfl⟩
end Go.Proofs.YtaeabefbohlcpaaGreat
namespace Go.Proofs.YtaeabefbohlcpaaGreat
open Go.RowKit
set_option linter.unusedVariables false
set_option linter.unusedSimpArgs false
attribute [local go_sem] q2 q3 q4 q5 q6 q7 q8 q9 q10 q11 q12
set_option maxRecDepth 100000 in
set_option maxHeartbeats 2000000 in
theorem markRowS_nil (a : Option Addr) (c : Nat) (w : World) : Calls Tryz.prog 14 #[.slice a 0 c, .int .i64 1] w fun e w' => e = .returned (.int .i64 1) ∧ w = w' := by
 go_enter Tryz.func14, Tryz.ntmps14
 go_wp2
 go_loopw [1, 5] (fun ks is wr => is = .int .i64 0 ∧ ks = .int .i64 1 ∧ wr = w) (fun _ is _ => 0)
 case atStart => exact ⟨rfl, rfl, rfl⟩
 case round =>
  obtain ⟨rfl, rfl, rfl⟩ := hrel
  go_wp2
  go_ret
  exact ⟨rfl, rfl⟩
set_option maxRecDepth 100000 in
set_option maxHeartbeats 2000000 in
theorem heldRowS_nil (a : Option Addr) (c : Nat) (w : World) : Calls Tryz.prog 15 #[.slice a 0 c, .int .i64 1] w fun e w' => e = .returned (.int .i64 1) ∧ w = w' := by
 go_enter Tryz.func15, Tryz.ntmps15
 go_wp2
 go_loopw [1, 5] (fun ks is wr => is = .int .i64 0 ∧ ks = .int .i64 1 ∧ wr = w) (fun _ is _ => 0)
 case atStart => exact ⟨rfl, rfl, rfl⟩
 case round =>
  obtain ⟨rfl, rfl, rfl⟩ := hrel
  go_wp2
  go_ret
  exact ⟨rfl, rfl⟩

theorem eqRowS_any (a1 a2 : Option Addr) (n c1 c2 lo1 hi1 lo2 hi2 : Nat) (t1 t2 : Nat → TR) (w : World) (hn : n ≤ 40) (h1 : RowsAt w lo1 hi1 a1 n t1) (h2 : RowsAt w lo2 hi2 a2 n t2) (b1 : hi1 ≤ w.heap.size) (b2 : hi2 ≤ w.heap.size)
  (E : ∀ i, i < n → (t1 i).r = (t2 i).r ∧ (t1 i).zs = (t2 i).zs ∧ (t1 i).zs.length ≤ 700) :
  Calls Tryz.prog 13 #[.slice a1 n c1, .slice a2 n c2] w fun e w' => e = .returned (.bool true) ∧ Below w.heap.size w w' := by
 rcases h1.ptr with rfl | ⟨g1, rfl, _⟩
 ·exact eqRowS_nil _ _ _ _ _
 ·rcases h2.ptr with rfl | ⟨g2, rfl, _⟩
  ·exact eqRowS_nil _ _ _ _ _
  ·exact eqRowS_a g1 g2 n c1 c2 lo1 hi1 lo2 hi2 t1 t2 w hn h1 h2 b1 b2 (hide E)
theorem markRowS_any (a : Option Addr) (n c lo hi : Nat) (t : Nat → TR) (w : World) (hn : n ≤ 40) (h : RowsAt w lo hi a n t) (h9 : hi ≤ w.heap.size) (hlo : lo ≤ hi) (E : ∀ i, i < n → (t i).zs.length ≤ 700) :
  Calls Tryz.prog 14 #[.slice a n c, .int .i64 1] w fun e w' => e = .returned (.int .i64 (mkK t n)) ∧ RowsAt w' lo hi a n (fun j => mkT (mkK t j) (t j)) ∧ (∀ k, k < lo ∨ hi ≤ k → k < w.heap.size → w'.heap[k]? = w.heap[k]?) ∧ w'.heap.size = w.heap.size ∧ Below lo w w' := by
 rcases h.ptr with rfl | ⟨g1, rfl, _⟩
 ·exact (markRowS_nil a c w).mono fun e w' ⟨h1, h2⟩ => by subst h2; exact ⟨h1, RowsAt.nil rfl, fun _ _ _ => rfl, rfl, Below.refl _ _⟩
 ·exact markRowS_a g1 n c lo hi t w hn h h9 hlo E
theorem heldRowS_any (a : Option Addr) (n c lo hi : Nat) (t : Nat → TR) (w : World) (hn : n ≤ 40) (h : RowsAt w lo hi a n (fun j => mkT (mkK t j) (t j))) (h9 : hi ≤ w.heap.size) (E : ∀ i, i < n → (t i).zs.length ≤ 700) :
  Calls Tryz.prog 15 #[.slice a n c, .int .i64 1] w fun e w' => e = .returned (.int .i64 (mkK t n)) ∧ w = w' := by
 rcases h.ptr with rfl | ⟨g1, rfl, _⟩
 ·exact heldRowS_nil a c w
 ·exact heldRowS_a g1 n c lo hi t w hn h h9 E
theorem RowsAt.keep {W W' : World} {lo hi n : Nat} {a : Option Addr} {t : Nat → TR} (h : RowsAt W lo hi a n t) (hk : ∀ k, lo ≤ k → k < hi → W'.heap[k]? = W.heap[k]?) (hs : W.heap.size ≤ W'.heap.size) : RowsAt W' lo hi a n t := by
 refine ⟨?_, fun j hj => IntsAt.keep (h.inn j hj) fun k k1 k2 => hk k (Nat.le_trans (h.low j hj) k1) (Nat.lt_of_lt_of_le k2 (h.top j hj)), h.low, h.top, h.ord⟩
 rcases h.ptr with z | ⟨g, e, g1, g2, g3, g4, g5, g6⟩
 ·exact .inl z
 ·have hk := hk g g1 g2
  exact .inr ⟨g, e, g1, g2, Nat.lt_of_lt_of_le g3 hs, fun i j hi hj => by rw [World.cell?_of_block hk]; exact g4 i j hi hj, fun o => by rw [World.frozen?_of_block hk]; exact g5 o, g6⟩
set_option maxHeartbeats 2000000 in
theorem lawTb_y (lo hi : Int) (w : World) (n : Nat) (R : Nat → RowV) (Z : Nat → List Int) (ok : Bool) (hn : n ≤ 40) (hZ : ∀ i, i < n → (Z i).length ≤ 700)
  (HA : Hid (∀ W, Calls Tryz.prog 11 #[.int .i64 lo, .int .i64 hi] W (RetRows W n R Z ok))) (HB : Hid (∀ W, Calls Tryz.prog 12 #[.int .i64 lo, .int .i64 hi] W (RetRows W n R Z ok))) :
  Calls Tryz.prog 4 #[.int .i64 lo, .int .i64 hi] w fun e w' => e = .returned (.bool true) ∧ Below w.heap.size w w' := by
 go_enter Tryz.func4, Tryz.ntmps4
 go_wp2_with fail
 refine ((unhide HA) _).mono ?_
 rintro e w1 ⟨a1, d1, t1, rfl, i1, e1, b1⟩
 have s1 := b1.size
 go_wp2_with fail
 refine ((unhide HB) _).mono ?_
 rintro e w2 ⟨a2, d2, t2, rfl, i2, e2, b2⟩
 have s2 := b2.size
 have j1 := i1.below b2 (Nat.le_refl _) (Nat.le_refl _)
 have hE2 : ∀ i, i < n → (t2 i).zs.length ≤ 700 := fun i hi => by rw [(e2 i hi).2]; exact hZ i hi
 go_wp2_with fail
 refine (eqRowS_any a2 a1 n d2 d1 _ _ _ _ t2 t1 w2 hn i2 j1 (Nat.le_refl _) s2 (fun i hi => ⟨(e2 i hi).1.trans (e1 i hi).1.symm, (e2 i hi).2.trans (e1 i hi).2.symm, hE2 i hi⟩)).mono ?_
 rintro e w3 ⟨rfl, b3⟩
 have s3 := b3.size
 have i3 := i2.below b3 (Nat.le_refl _) (Nat.le_refl _)
 have j3 := j1.below b3 s2 (Nat.le_refl _)
 clear i1 i2 j1
 go_wp2_with fail
 refine (markRowS_any a2 n d2 _ _ t2 w3 hn i3 s3 s2 hE2).mono ?_
 rintro e w4 ⟨rfl, i4, h4, s4, b4⟩
 have S4 := hide s4
 have j4 := hide (j3.keep (fun k k1 k2 => h4 k (.inl k2) (by omega)) (Nat.le_of_eq s4.symm))
 clear i3 j3 s4 h4
 have x4 : w2.heap.size ≤ w4.heap.size := by have := unhide S4; omega
 have hkk := (mkK_b hE2 n (Nat.le_refl _)).1
 have HH : Hid (∀ W, RowsAt W w1.heap.size w2.heap.size a2 n (fun j => mkT (mkK t2 j) (t2 j)) → w2.heap.size ≤ W.heap.size → Calls Tryz.prog 15 #[.slice a2 n d2, .int .i64 1] W fun e w' => e = .returned (.int .i64 (mkK t2 n)) ∧ W = w') := hide fun W hW hs => heldRowS_any a2 n d2 _ _ t2 W hn hW hs hE2
 have I4 := hide i4
 clear i4
 generalize mkK t2 n = kk at *
 have hk0 : ¬ kk < 0 := by omega
 go_wp2_with fail
 refine ((unhide HH) _ (unhide I4) x4).mono ?_
 rintro e w5 ⟨rfl, rfl⟩
 go_wp2_with fail
 refine ((unhide HB) _).mono ?_
 rintro e w6 ⟨a6, d6, t6, rfl, i6, e6, b6⟩
 have s6 := b6.size
 have j6 := (unhide j4).below b6 (Nat.le_trans s2 x4) (Nat.le_refl _)
 have i46 := (unhide I4).below b6 x4 (Nat.le_refl _)
 go_wp2_with fail
 refine (eqRowS_any a6 a1 n d6 d1 _ _ _ _ t6 t1 w6 hn i6 j6 (Nat.le_refl _) (by omega) (fun i hi => ⟨(e6 i hi).1.trans (e1 i hi).1.symm, (e6 i hi).2.trans (e1 i hi).2.symm, by rw [(e6 i hi).2]; exact hZ i hi⟩)).mono ?_
 rintro e w7 ⟨rfl, b7⟩
 have s7 := b7.size
 have i47 := hide (i46.below b7 (by omega) (Nat.le_refl _))
 clear i46 i6 j6
 go_wp2_with fail
 refine ((unhide HH) _ (unhide i47) (by omega)).mono ?_
 rintro e w8 ⟨rfl, rfl⟩
 go_wp2
 go_ret
 exact ⟨rfl, ((((b1.trans (b2.mono s1)).trans (b3.mono (by omega))).trans (b4.mono s1)).trans (b6.mono (by omega))).trans (b7.mono (by omega))⟩
theorem lawTableBetween (lo hi : Int) (w : World) :
  Calls Tryz.prog 4 #[.int .i64 lo, .int .i64 hi] w fun e w' => e = .returned (.bool true) ∧ Below w.heap.size w w' := by
 refine lawTb_y lo hi w (tbN lo hi) (fun i => rowV ((dcL lo hi).getD i 0)) (fun i => rowFL ((dcL lo hi).getD i 0)) (tbOk lo hi) ?_ (fun i hi2 => ?_) (hide fun W => specTb_a lo hi W) (hide fun W => implTb_a lo hi W)
 ·unfold tbN
  split
  ·rename_i h; simp only [Bool.and_eq_true, decide_eq_true_eq] at h; exact h.2
  ·omega
 ·unfold tbN at hi2
  split at hi2
  ·exact rowFL_len (dcL_mem (gdm (d := 0) hi2))
  ·omega
end Go.Proofs.YtaeabefbohlcpaaGreat
