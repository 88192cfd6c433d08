/- GreatestNumber on both sides, and the law's walk. CountByNumber on both sides, and the law's walk. Lists of forms, and of slices, beside a source that stays. A map keyed by forms. -/
import Derived.Test.YtaeabefbohlcpaaPrim
import Derived.Test.YtaeabefbohlcpaaSd
import Derived.Test.YtaeabefbohlcpaaOs
import Derived.Maps.OwnOps
import Derived.Maps.Views
import Derived.DeepKeys4
import Derived.BigQuiet
namespace Go.Proofs.Ytaeabefbohlcpaa
open Go.RowKit
set_option linter.unusedVariables false
set_option linter.unusedSimpArgs false
attribute [local go_sem] q2 q3 q4 q5 q6 q7 q8 q9 q10 q11 q12

theorem IntsAt.cell {w : World} {lo hi n : Nat} {a : Option Addr} {f : Nat → Int} (h : IntsAt w lo hi a n f) {i : Nat} (hi' : i < n) : ∃ g, a = some ⟨g, 0, none⟩ ∧ g < w.heap.size ∧ w.cell? ⟨g, i, none⟩ = some (.int .i64 (f i)) := by
 rcases h with h | ⟨g, cap, F, ha, h1, h2, h3, r, e⟩
 ·omega
 ·exact ⟨g, ha, r.lt, by rw [r.cell (i := i) (by omega), e i hi']⟩
def hN (d : Int) : Int := ((rfL d).length : Int)
end Go.Proofs.Ytaeabefbohlcpaa
namespace Go.Proofs.Ytaeabefbohlcpaa
open Go.RowKit
set_option linter.unusedVariables false
set_option linter.unusedSimpArgs false
attribute [local go_sem] q2 q3 q4 q5 q6 q7 q8 q9 q10 q11 q12

def RetLen (w : World) (n : Nat) (e : Ending) (w' : World) : Prop := ∃ a c, e = .returned (.slice a n c) ∧ Below w.heap.size w w'
theorem reducedForms_len (d : Int) (w : World) (h0 : -2000 ≤ d) (h1 : d ≤ -3) {h : Nat} (hh : h = (rfL d).length) :
  Calls Try.prog 21 #[.int .i64 d] w (RetLen w h) :=
 (reducedForms_a d w h0 h1).mono fun e w' ⟨a, c, he, _, hb⟩ => ⟨a, c, by rw [hh]; exact he, hb⟩
theorem reList_len (d : Int) (w : World) (h0 : -2000 ≤ d) (h1 : d ≤ -3) {h : Nat} (hh : h = (rfL d).length) :
  Calls Try.prog 16 #[.int .i64 d] w (RetLen w h) :=
 (reList_a d w h0 h1).mono fun e w' ⟨a, c, he, _, hb⟩ => ⟨a, c, by rw [hh]; exact he, hb⟩
def lenOf (v : Value) : Nat := match v with | .slice _ n _ => n | _ => 0
theorem IL.cellAt {w : World} {lo g n c : Nat} {zs : List Int} (h : IL w lo (.slice (some ⟨g, 0, none⟩) n c) zs) {j : Nat} (hj : j < zs.length) : w.cell? ⟨g, j, none⟩ = some (.int .i64 (zs.getD j 0)) := by
 have hn : n = zs.length := h.ints.1
 subst hn
 rw [World.ownsRow.cellAt h j (by omega), List.getElem?_map, List.getElem?_eq_getElem hj, List.getD_eq_getElem?_getD, List.getElem?_eq_getElem hj]
 rfl
theorem IL.frozenAt {w : World} {lo g n c : Nat} {zs : List Int} (h : IL w lo (.slice (some ⟨g, 0, none⟩) n c) zs) (j : Nat) : w.frozen? ⟨g, j, none⟩ = false := by
 have hn : n = zs.length := h.ints.1
 subst hn
 exact World.ownsRow.frozenAt h j
theorem IL.stored {w : World} {lo g n c : Nat} {zs : List Int} (h : IL w lo (.slice (some ⟨g, 0, none⟩) n c) zs) (j : Nat) (z : Int) :
  IL (w.setCell ⟨g, j, none⟩ (.int .i64 z)) lo (.slice (some ⟨g, 0, none⟩) n c) (zs.set j z) ∧ w.grownBy (w.setCell ⟨g, j, none⟩ (.int .i64 z)) (some g) := by
 have hn : n = zs.length := h.ints.1
 subst hn
 have := World.ownsRow.stored h j (.int .i64 z)
 rw [← List.map_set] at this
 unfold IL
 rw [List.length_set]
 exact this
theorem IntsAt.grown {w w' : World} {lo hi n : Nat} {a : Option Addr} {f : Nat → Int} {row : Option Nat} (h : IntsAt w lo hi a n f) (hg : w.grownBy w' row) (hr : ∀ k, row = some k → k < lo ∨ hi ≤ k) (hB : hi ≤ w.heap.size) : IntsAt w' lo hi a n f :=
 h.keep fun k h1 h2 => hg.block k (by omega) (fun e => by have := hr k e.symm; omega)
end Go.Proofs.Ytaeabefbohlcpaa
namespace Go.Proofs.Ytaeabefbohlcpaa
open Go.RowKit
set_option linter.unusedVariables false
set_option linter.unusedSimpArgs false
attribute [local go_sem] q2 q3 q4 q5 q6 q7 q8 q9 q10 q11 q12

def srcF (LO HI : Nat) (a : Option Addr) (fs : List (Int × Int × Int)) (W : World) : Prop := FAt W LO HI a fs
theorem forms_kept {LO HI : Nat} {a : Option Addr} {fs : List (Int × Int × Int)} : Kept LO HI (srcF LO HI a fs) := fun w w' hk h => FormsAt.keep h hk
theorem FAt.low {w : World} {lo lo' hi : Nat} {a : Option Addr} {fs : List (Int × Int × Int)} (h : FAt w lo hi a fs) (h1 : lo' ≤ lo) : FAt w lo' hi a fs := by
 rcases h with h | ⟨g, cap, F, ha, g1, g2, r⟩
 ·exact .inl h
 ·exact .inr ⟨g, cap, F, ha, by omega, g2, r⟩
structure SF (w : World) (LO HI : Nat) (S : World → Prop) (wr : World) (a : Option Addr) (n c : Nat) (l : List (Int × Int × Int)) : Prop where
 len : Hid (n = l.length)
 sd : SD 46 3 w LO HI S wr (.slice a n c) n ((flat3 l).map (Value.int .i64))
theorem SF.fl {w wr : World} {LO HI n c : Nat} {S : World → Prop} {a : Option Addr} {l : List (Int × Int × Int)} (h : SF w LO HI S wr a n c l) : FL wr w.heap.size (.slice a n c) l := by
 have := h.sd.own
 have hn := unhide h.len
 unfold FL FormL; rw [← hn]; exact this
theorem SF.call {w wr w2 : World} {LO HI n c : Nat} {S : World → Prop} {a : Option Addr} {l : List (Int × Int × Int)} (h : SF w LO HI S wr a n c l) (hK : Kept LO HI S) (hb : Below wr.heap.size wr w2) : SF w LO HI S w2 a n c l := ⟨h.len, h.sd.call hK hb⟩
theorem SF.alloc {w wr : World} {LO HI n c : Nat} {S : World → Prop} {a : Option Addr} {l : List (Int × Int × Int)} (h : SF w LO HI S wr a n c l) (hK : Kept LO HI S) (o : Obj) : SF w LO HI S (wr.alloc o) a n c l := ⟨h.len, h.sd.alloc hK o⟩
theorem SF.app {w wr w2 : World} {LO HI n c g cap : Nat} {S : World → Prop} {a : Option Addr} {l : List (Int × Int × Int)} {z : Int × Int × Int} (h : SF w LO HI S wr a n c l) (hK : Kept LO HI S)
  (hown : FL w2 w.heap.size (.slice (some ⟨g, 0, none⟩) (l.length + 1) cap) (l ++ [z])) (hgrow : wr.grownBy w2 (Value.slice a n c).ownBlock) (hat : (Value.slice a n c).ownBlock = some g ∨ g = wr.heap.size) : SF w LO HI S w2 (some ⟨g, 0, none⟩) (l.length + 1) cap (l ++ [z]) := by
 refine ⟨hide (by simp), h.sd.app hK ?_ hgrow hat⟩
 have := hown
 unfold FL FormL at this
 rw [List.length_append] at this
 exact this
theorem SF.ret {w wr : World} {LO HI n c : Nat} {S : World → Prop} {a : Option Addr} {l : List (Int × Int × Int)} (h : SF w LO HI S wr a n c l) {zs : List (Int × Int × Int)} (e : l = zs) {en : Ending} (he : en = .returned (.slice a n c)) : RetFL w zs en wr := by
 subst e
 have hn := unhide h.len
 refine ⟨a, c, ?_, ?_, h.sd.bel⟩
 ·rw [he, ← hn]
 ·have := h.fl; rw [← hn]; exact this
end Go.Proofs.Ytaeabefbohlcpaa
namespace Go.Proofs.Ytaeabefbohlcpaa
open Go.RowKit
set_option linter.unusedVariables false
set_option linter.unusedSimpArgs false
open Go.Maps (Keyed)
open Go.WideElems (Fit)
theorem fk_laid : laidOutB Try.prog = true := by kernel_rfl
theorem fk_row : (46 : TypeId) < Try.prog.types.size := of_decide_eq_true (by kernel_rfl)
theorem fk_wide : (match Try.prog.underlying 46 with | some (.array _ _) | some (.struct _) => true | _ => false) = true := by rw [Try.underlying46]
theorem fk_deep : Try.prog.keyTypeAt 2 46 = true := by kernel_rfl
set_option maxRecDepth 100000 in
theorem fk_law : Keyed Try.prog 46 := Keyed.of_law (deep_law_laid fk_laid (show 2 + 1 ≤ 10000 by decide) fk_row fk_deep fk_wide)
theorem fk_type : Try.prog.keyType 46 = true := by kernel_rfl
theorem fk_cells : Try.prog.cellsOf 46 = 3 := by kernel_rfl
theorem fk_cellsI : Try.prog.cellsOf 3 = 1 := by kernel_rfl
theorem fk_size : ∃ m, Try.prog.types.size = m + 1 := Nat.exists_eq_succ_of_ne_zero (Nat.ne_of_gt (Nat.lt_of_le_of_lt (Nat.zero_le _) fk_row))
theorem fk_zero (w : World) : (zeroValue 3).run Try.prog w = .ok (.int .i64 0) w := by kernel_rfl
theorem fk_keyI (m : Nat) {n : Int} (hn : (Lit.int .i64 n).wf = true) : Try.prog.keyLits (m + 1) 3 [.int .i64 n] = some [.int .i64 n] := by
 unfold Program.keyLits
 simp only [Try.underlying3]
 rw [if_pos ⟨trivial, hn⟩]
theorem fk_formed {a b c : Value} : (Value.agg #[a, b, c]).formed Try.prog 46 = true := by simp only [Value.formed, Try.underlying46, fk_cells]; rfl
theorem fk_key {a b c : Int} (wa : (Lit.int .i64 a).wf = true) (wb : (Lit.int .i64 b).wf = true) (wc : (Lit.int .i64 c).wf = true) : ∃ kl, keyOf Try.prog 46 (.agg #[.int .i64 a, .int .i64 b, .int .i64 c]) = some kl := by
 obtain ⟨m, hm⟩ := fk_size
 unfold keyOf
 simp only [Try.underlying46]
 rw [if_pos (by rw [fk_type, fk_formed]; rfl), hm]
 unfold Program.keyLits
 simp only [Try.underlying46, Value.cells]
 rw [if_pos ⟨by rw [fk_cells]; rfl, by kernel_rfl⟩]
 simp only [List.mapM_cons, List.mapM_nil, fk_cellsI]
 have e0 : ([Value.int .i64 a, .int .i64 b, .int .i64 c].drop 0).take 1 = [.int .i64 a] := rfl
 have e1 : ([Value.int .i64 a, .int .i64 b, .int .i64 c].drop 1).take 1 = [.int .i64 b] := rfl
 have e2 : ([Value.int .i64 a, .int .i64 b, .int .i64 c].drop 2).take 1 = [.int .i64 c] := rfl
 rw [e0, e1, e2, fk_keyI m wa, fk_keyI m wb, fk_keyI m wc]
 exact ⟨_, rfl⟩

def fV (F : Int × Int × Int) : Value := .agg #[.int .i64 F.1, .int .i64 F.2.1, .int .i64 F.2.2]
def SmF (F : Int × Int × Int) : Prop := (-1000000 ≤ F.1 ∧ F.1 ≤ 1000000) ∧ (-1000000 ≤ F.2.1 ∧ F.2.1 ≤ 1000000) ∧ -1000000 ≤ F.2.2 ∧ F.2.2 ≤ 1000000
theorem fk_ex {F : Int × Int × Int} (h : SmF F) : ∃ kl, keyOf Try.prog 46 (fV F) = some kl := by
 obtain ⟨⟨h1, h2⟩, ⟨h3, h4⟩, h5, h6⟩ := h
 exact fk_key (WalkArith.wf_i64 (by omega)) (WalkArith.wf_i64 (by omega)) (WalkArith.wf_i64 (by omega))
def mfAt (w : World) (b : Nat) (fs : List (Int × Int × Int)) (k : Nat) : Prop := ∃ (n : Nat) (D : DataW Unit), w.ownsMap Try.prog 46 (plainElem Try.prog 3) b n D ∧ n ≤ k ∧ Maps.IsMap D ∧ ∀ i, i < k → ∀ kl, keyOf Try.prog 46 (fV (fs.getD i (0, 0, 0))) = some kl → D.atKey kl (.lit (.int .i64 0)) = .lit (.int .i64 i)
theorem mf_kept {w w' : World} {b k : Nat} {row : Option Nat} {fs : List (Int × Int × Int)} (h : mfAt w b fs k) (hg : w.grownBy w' row) (hne : some b ≠ row) : mfAt w' b fs k := by
 obtain ⟨n, D, h1, h2, h3, h4⟩ := h
 exact ⟨n, D, h1.kept hg hne, h2, h3, h4⟩
theorem mf_below {w w' : World} {b k : Nat} {fs : List (Int × Int × Int)} (h : mfAt w b fs k) (hb : Below w.heap.size w w') : mfAt w' b fs k := mf_kept h (bel_grown hb) (by simp)
theorem mf_lt {w : World} {b k : Nat} {fs : List (Int × Int × Int)} (h : mfAt w b fs k) : b < w.heap.size := by
 obtain ⟨n, D, h1, _⟩ := h
 exact h1.lt
theorem mf_made (w : World) (fs : List (Int × Int × Int)) : mfAt (w.alloc (.map #[] 0)) w.heap.size fs 0 :=
 ⟨0, .map [], World.ownsMap_made _ _ _ _, Nat.le_refl _, Maps.isMap_empty, fun i hi => absurd hi (by omega)⟩
theorem mf_look {w : World} {b : Nat} {fs : List (Int × Int × Int)} (h : mfAt w b fs fs.length) {i : Nat} (hi : i < fs.length) (hs : SmF (fs.getD i (0, 0, 0))) : (Instr.lookup 55 (.map (some b)) (fV (fs.getD i (0, 0, 0))) false).run Try.prog w = .ok (.int .i64 (i : Int)) w := by
 obtain ⟨n, D, h1, h2, h3, h4⟩ := h
 obtain ⟨kl, hk⟩ := fk_ex hs
 obtain ⟨c, hrun, hat, _⟩ := h1.lookup_int fk_law Try.underlying55 Try.underlying3 (fk_zero w) hk
 rw [h4 i hi kl hk] at hat
 simp only [DataW.lit.injEq, Lit.int.injEq] at hat
 rw [hrun, ← hat.2]
theorem mf_store {w : World} {b k : Nat} {fs : List (Int × Int × Int)} (h : mfAt w b fs k) (hk : k < fs.length) (hn : fs.Nodup) (hs : SmF (fs.getD k (0, 0, 0))) (hk2 : k ≤ 100000) : ∃ w', (Instr.mapUpdate 55 (.map (some b)) (fV (fs.getD k (0, 0, 0))) (.int .i64 (k : Int))).run Try.prog w = .ok () w' ∧ mfAt w' b fs (k + 1) ∧ w.grownBy w' (some b) := by
 obtain ⟨n, D, h1, h2, h3, h4⟩ := h
 obtain ⟨kl, hkey⟩ := fk_ex hs
 obtain ⟨w', hrun, hown, hgr⟩ := h1.update fk_law Try.underlying55 (by unfold maxLen; omega) hkey (plainElem_int Try.underlying3 (WalkArith.wf_i64 (show -9223372036854775808 ≤ (k : Int) ∧ (k : Int) ≤ 9223372036854775807 by omega)))
 refine ⟨w', hrun, ⟨n + 1, _, hown, by omega, h3.put _ _, fun i hi kl' hkl' => ?_⟩, hgr⟩
 by_cases e : i = k
 ·subst e
  rw [hkey] at hkl'
  cases hkl'
  exact Maps.atKey_put_same h3 (fk_law.key hkey) _ _
 ·rw [Maps.atKey_put_other (fun q => ?_)]
  ·exact h4 i (by omega) kl' hkl'
  ·subst q
   have hv := fk_law.inj hkl' hkey
   have he : fs.getD i (0, 0, 0) = fs.getD k (0, 0, 0) := by
    unfold fV at hv
    simp only [Value.agg.injEq, Array.mk.injEq, List.cons.injEq, Value.int.injEq, true_and, and_true] at hv
    exact Prod.ext hv.1 (Prod.ext hv.2.1 hv.2.2)
   simp only [List.getD_eq_getElem?_getD, List.getElem?_eq_getElem hk, List.getElem?_eq_getElem (show i < fs.length by omega), Option.getD_some] at he
   rcases Nat.lt_trichotomy i k with q | q | q
   ·exact List.pairwise_iff_getElem.1 hn i k (by omega) hk q he
   ·exact e q
   ·omega
end Go.Proofs.Ytaeabefbohlcpaa
