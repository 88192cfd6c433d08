/- Lists of forms, and of slices, beside a source that stays. A map keyed by forms. Two lists of integers compared, both sides. Prime factors: the walks' plain side. -/
import Derived.Test.YtaeabefbohlcpaaGreatSd
import Derived.Test.YtaeabefbohlcpaaGreatDrp
import Derived.Test.YtaeabefbohlcpaaGreatOs
import Derived.Maps.OwnOps
import Derived.Maps.Views
import Derived.DeepKeys4
import Derived.BigQuiet
import Derived.Test.YtaeabefbohlcpaaGreatFac
import Derived.Test.YtaeabefbohlcpaaGreatConv
namespace Go.Proofs.YtaeabefbohlcpaaGreat
open Go.RowKit
set_option linter.unusedVariables false
set_option linter.unusedSimpArgs false
attribute [local go_sem] q2 q3 q4 q5 q6 q7 q8 q9 q10 q11 q12

def srcF (LO HI : Nat) (a : Option Addr) (fs : List (Int × Int × Int)) (W : World) : Prop := FAt W LO HI a fs
theorem forms_kept {LO HI : Nat} {a : Option Addr} {fs : List (Int × Int × Int)} : Kept LO HI (srcF LO HI a fs) := fun w w' hk h => FormsAt.keep h hk
theorem FAt.low {w : World} {lo lo' hi : Nat} {a : Option Addr} {fs : List (Int × Int × Int)} (h : FAt w lo hi a fs) (h1 : lo' ≤ lo) : FAt w lo' hi a fs := by
 rcases h with h | ⟨g, cap, F, ha, g1, g2, r⟩
 ·exact .inl h
 ·exact .inr ⟨g, cap, F, ha, by omega, g2, r⟩
structure SF (w : World) (LO HI : Nat) (S : World → Prop) (wr : World) (a : Option Addr) (n c : Nat) (l : List (Int × Int × Int)) : Prop where
 len : Hid (n = l.length)
 sd : SD 67 3 w LO HI S wr (.slice a n c) n ((flat3 l).map (Value.int .i64))
theorem SF.fl {w wr : World} {LO HI n c : Nat} {S : World → Prop} {a : Option Addr} {l : List (Int × Int × Int)} (h : SF w LO HI S wr a n c l) : FL wr w.heap.size (.slice a n c) l := by
 have := h.sd.own
 have hn := unhide h.len
 unfold FL FormL; rw [← hn]; exact this
theorem SF.call {w wr w2 : World} {LO HI n c : Nat} {S : World → Prop} {a : Option Addr} {l : List (Int × Int × Int)} (h : SF w LO HI S wr a n c l) (hK : Kept LO HI S) (hb : Below wr.heap.size wr w2) : SF w LO HI S w2 a n c l := ⟨h.len, h.sd.call hK hb⟩
theorem SF.alloc {w wr : World} {LO HI n c : Nat} {S : World → Prop} {a : Option Addr} {l : List (Int × Int × Int)} (h : SF w LO HI S wr a n c l) (hK : Kept LO HI S) (o : Obj) : SF w LO HI S (wr.alloc o) a n c l := ⟨h.len, h.sd.alloc hK o⟩
theorem SF.app {w wr w2 : World} {LO HI n c g cap : Nat} {S : World → Prop} {a : Option Addr} {l : List (Int × Int × Int)} {z : Int × Int × Int} (h : SF w LO HI S wr a n c l) (hK : Kept LO HI S)
  (hown : FL w2 w.heap.size (.slice (some ⟨g, 0, none⟩) (l.length + 1) cap) (l ++ [z])) (hgrow : wr.grownBy w2 (Value.slice a n c).ownBlock) (hat : (Value.slice a n c).ownBlock = some g ∨ g = wr.heap.size) : SF w LO HI S w2 (some ⟨g, 0, none⟩) (l.length + 1) cap (l ++ [z]) := by
 refine ⟨hide (by simp), h.sd.app hK ?_ hgrow hat⟩
 have := hown
 unfold FL FormL at this
 rw [List.length_append] at this
 exact this
theorem SF.ret {w wr : World} {LO HI n c : Nat} {S : World → Prop} {a : Option Addr} {l : List (Int × Int × Int)} (h : SF w LO HI S wr a n c l) {zs : List (Int × Int × Int)} (e : l = zs) {en : Ending} (he : en = .returned (.slice a n c)) : RetFL w zs en wr := by
 subst e
 have hn := unhide h.len
 refine ⟨a, c, ?_, ?_, h.sd.bel⟩
 ·rw [he, ← hn]
 ·have := h.fl; rw [← hn]; exact this
theorem Tryz.infoFS : (Tryz.prog.info? 53).map (fun i => (i.zero, i.size, i.bytes)) = some (some (.slice none 0 0), 1, 24) := by kernel_rfl
theorem app_sl (w : World) {ops : Array Oper} {rest : List Oper} {o : Oper} {a : Act} {Q : Exit → Act → World → Prop} (hgd : o.guard = none) (s x : Operand)
  (ho : o.op = .call { callee := .builtin .append, args := #[s, x], argTypes := #[55, 55] })
  (lo : Nat) (v : Value) (n : Nat) (vs : List Value) (u : Value) (B : Nat) (hs : a.eval s = v) (hx : a.eval x = .slice (some ⟨B, 0, none⟩) 1 1)
  (hown : w.ownsRow lo 53 1 v n vs) (hB : w.cell? ⟨B, 0, none⟩ = some u) (hu : u.oneCell' = true) (hlen : n ≤ 1000000000) (hlo : lo ≤ w.heap.size)
  (h : ∀ g cap w', w'.ownsRow lo 53 1 (.slice (some ⟨g, 0, none⟩) (n + 1) cap) (n + 1) (vs ++ [u]) → w.grownBy w' v.ownBlock → (v.ownBlock = some g ∨ g = w.heap.size) → g < w'.heap.size →
   wpList Tryz.prog ops Q rest (a.put o.dst (.slice (some ⟨g, 0, none⟩) (n + 1) cap)) w') : wpList Tryz.prog ops Q (o :: rest) a w := by
 obtain ⟨i0, hi, hz0, hz1, hz2⟩ := info_parts Tryz.infoFS
 refine wpList_append_lies w hgd s x 55 ho lo 53 i0 (.slice none 0 0) 1 24 Tryz.underlying55 hi hz0 hz1 hz2 rfl (by decide) v n _ hs hown ⟨B, 0, none⟩ 1 1 [u] hx rfl ?_ (by simp [hu]) (by decide) (by unfold maxLen; omega) (by omega) hlo _ rfl ?_
 ·intro j u' hu'
  match j with
  | 0 => simp at hu'; subst hu'; simpa [Addr.add] using hB
  | j + 1 => simp at hu'
 ·intro g cap w' h1 h2 h3 h4
  exact h g cap w' h1 h2 h3 h4
end Go.Proofs.YtaeabefbohlcpaaGreat
namespace Go.Proofs.YtaeabefbohlcpaaGreat
open Go.RowKit
set_option linter.unusedVariables false
set_option linter.unusedSimpArgs false
open Go.Maps (Keyed)
open Go.WideElems (Fit)
theorem fk_laid : laidOutB Tryz.prog = true := by kernel_rfl
theorem fk_row : (67 : TypeId) < Tryz.prog.types.size := of_decide_eq_true (by kernel_rfl)
theorem fk_wide : (match Tryz.prog.underlying 67 with | some (.array _ _) | some (.struct _) => true | _ => false) = true := by rw [Tryz.underlying67]
theorem fk_deep : Tryz.prog.keyTypeAt 2 67 = true := by kernel_rfl
set_option maxRecDepth 100000 in
theorem fk_law : Keyed Tryz.prog 67 := Keyed.of_law (deep_law_laid fk_laid (show 2 + 1 ≤ 10000 by decide) fk_row fk_deep fk_wide)
theorem fk_type : Tryz.prog.keyType 67 = true := by kernel_rfl
theorem fk_cells : Tryz.prog.cellsOf 67 = 3 := by kernel_rfl
theorem fk_cellsI : Tryz.prog.cellsOf 3 = 1 := by kernel_rfl
theorem fk_size : ∃ m, Tryz.prog.types.size = m + 1 := Nat.exists_eq_succ_of_ne_zero (Nat.ne_of_gt (Nat.lt_of_le_of_lt (Nat.zero_le _) fk_row))
theorem fk_zero (w : World) : (zeroValue 3).run Tryz.prog w = .ok (.int .i64 0) w := by kernel_rfl
theorem fk_keyI (m : Nat) {n : Int} (hn : (Lit.int .i64 n).wf = true) : Tryz.prog.keyLits (m + 1) 3 [.int .i64 n] = some [.int .i64 n] := by
 unfold Program.keyLits
 simp only [Tryz.underlying3]
 rw [if_pos ⟨trivial, hn⟩]
theorem fk_formed {a b c : Value} : (Value.agg #[a, b, c]).formed Tryz.prog 67 = true := by simp only [Value.formed, Tryz.underlying67, fk_cells]; rfl
theorem fk_key {a b c : Int} (wa : (Lit.int .i64 a).wf = true) (wb : (Lit.int .i64 b).wf = true) (wc : (Lit.int .i64 c).wf = true) : ∃ kl, keyOf Tryz.prog 67 (.agg #[.int .i64 a, .int .i64 b, .int .i64 c]) = some kl := by
 obtain ⟨m, hm⟩ := fk_size
 unfold keyOf
 simp only [Tryz.underlying67]
 rw [if_pos (by rw [fk_type, fk_formed]; rfl), hm]
 unfold Program.keyLits
 simp only [Tryz.underlying67, Value.cells]
 rw [if_pos ⟨by rw [fk_cells]; rfl, by kernel_rfl⟩]
 simp only [List.mapM_cons, List.mapM_nil, fk_cellsI]
 have e0 : ([Value.int .i64 a, .int .i64 b, .int .i64 c].drop 0).take 1 = [.int .i64 a] := rfl
 have e1 : ([Value.int .i64 a, .int .i64 b, .int .i64 c].drop 1).take 1 = [.int .i64 b] := rfl
 have e2 : ([Value.int .i64 a, .int .i64 b, .int .i64 c].drop 2).take 1 = [.int .i64 c] := rfl
 rw [e0, e1, e2, fk_keyI m wa, fk_keyI m wb, fk_keyI m wc]
 exact ⟨_, rfl⟩

def fV (F : Int × Int × Int) : Value := .agg #[.int .i64 F.1, .int .i64 F.2.1, .int .i64 F.2.2]
def SmF (F : Int × Int × Int) : Prop := (-1000000 ≤ F.1 ∧ F.1 ≤ 1000000) ∧ (-1000000 ≤ F.2.1 ∧ F.2.1 ≤ 1000000) ∧ -1000000 ≤ F.2.2 ∧ F.2.2 ≤ 1000000
theorem fk_ex {F : Int × Int × Int} (h : SmF F) : ∃ kl, keyOf Tryz.prog 67 (fV F) = some kl := by
 obtain ⟨⟨h1, h2⟩, ⟨h3, h4⟩, h5, h6⟩ := h
 exact fk_key (WalkArith.wf_i64 (by omega)) (WalkArith.wf_i64 (by omega)) (WalkArith.wf_i64 (by omega))
def mfAt (w : World) (b : Nat) (fs : List (Int × Int × Int)) (k : Nat) : Prop := ∃ (n : Nat) (D : DataW Unit), w.ownsMap Tryz.prog 67 (plainElem Tryz.prog 3) b n D ∧ n ≤ k ∧ Maps.IsMap D ∧ ∀ i, i < k → ∀ kl, keyOf Tryz.prog 67 (fV (fs.getD i (0, 0, 0))) = some kl → D.atKey kl (.lit (.int .i64 0)) = .lit (.int .i64 i)
theorem mf_kept {w w' : World} {b k : Nat} {row : Option Nat} {fs : List (Int × Int × Int)} (h : mfAt w b fs k) (hg : w.grownBy w' row) (hne : some b ≠ row) : mfAt w' b fs k := by
 obtain ⟨n, D, h1, h2, h3, h4⟩ := h
 exact ⟨n, D, h1.kept hg hne, h2, h3, h4⟩
theorem mf_below {w w' : World} {b k : Nat} {fs : List (Int × Int × Int)} (h : mfAt w b fs k) (hb : Below w.heap.size w w') : mfAt w' b fs k := mf_kept h (bel_grown hb) (by simp)
theorem mf_lt {w : World} {b k : Nat} {fs : List (Int × Int × Int)} (h : mfAt w b fs k) : b < w.heap.size := by
 obtain ⟨n, D, h1, _⟩ := h
 exact h1.lt
theorem mf_made (w : World) (fs : List (Int × Int × Int)) : mfAt (w.alloc (.map #[] 0)) w.heap.size fs 0 :=
 ⟨0, .map [], World.ownsMap_made _ _ _ _, Nat.le_refl _, Maps.isMap_empty, fun i hi => absurd hi (by omega)⟩
theorem mf_look {w : World} {b : Nat} {fs : List (Int × Int × Int)} (h : mfAt w b fs fs.length) {i : Nat} (hi : i < fs.length) (hs : SmF (fs.getD i (0, 0, 0))) : (Instr.lookup 70 (.map (some b)) (fV (fs.getD i (0, 0, 0))) false).run Tryz.prog w = .ok (.int .i64 (i : Int)) w := by
 obtain ⟨n, D, h1, h2, h3, h4⟩ := h
 obtain ⟨kl, hk⟩ := fk_ex hs
 obtain ⟨c, hrun, hat, _⟩ := h1.lookup_int fk_law Tryz.underlying70 Tryz.underlying3 (fk_zero w) hk
 rw [h4 i hi kl hk] at hat
 simp only [DataW.lit.injEq, Lit.int.injEq] at hat
 rw [hrun, ← hat.2]
theorem mf_store {w : World} {b k : Nat} {fs : List (Int × Int × Int)} (h : mfAt w b fs k) (hk : k < fs.length) (hn : fs.Nodup) (hs : SmF (fs.getD k (0, 0, 0))) (hk2 : k ≤ 100000) : ∃ w', (Instr.mapUpdate 70 (.map (some b)) (fV (fs.getD k (0, 0, 0))) (.int .i64 (k : Int))).run Tryz.prog w = .ok () w' ∧ mfAt w' b fs (k + 1) ∧ w.grownBy w' (some b) := by
 obtain ⟨n, D, h1, h2, h3, h4⟩ := h
 obtain ⟨kl, hkey⟩ := fk_ex hs
 obtain ⟨w', hrun, hown, hgr⟩ := h1.update fk_law Tryz.underlying70 (by unfold maxLen; omega) hkey (plainElem_int Tryz.underlying3 (WalkArith.wf_i64 (show -9223372036854775808 ≤ (k : Int) ∧ (k : Int) ≤ 9223372036854775807 by omega)))
 refine ⟨w', hrun, ⟨n + 1, _, hown, by omega, h3.put _ _, fun i hi kl' hkl' => ?_⟩, hgr⟩
 by_cases e : i = k
 ·subst e
  rw [hkey] at hkl'
  cases hkl'
  exact Maps.atKey_put_same h3 (fk_law.key hkey) _ _
 ·rw [Maps.atKey_put_other (fun q => ?_)]
  ·exact h4 i (by omega) kl' hkl'
  ·subst q
   have hv := fk_law.inj hkl' hkey
   have he : fs.getD i (0, 0, 0) = fs.getD k (0, 0, 0) := by
    unfold fV at hv
    simp only [Value.agg.injEq, Array.mk.injEq, List.cons.injEq, Value.int.injEq, true_and, and_true] at hv
    exact Prod.ext hv.1 (Prod.ext hv.2.1 hv.2.2)
   simp only [List.getD_eq_getElem?_getD, List.getElem?_eq_getElem hk, List.getElem?_eq_getElem (show i < fs.length by omega), Option.getD_some] at he
   rcases Nat.lt_trichotomy i k with q | q | q
   ·exact List.pairwise_iff_getElem.1 hn i k (by omega) hk q he
   ·exact e q
   ·omega
end Go.Proofs.YtaeabefbohlcpaaGreat
namespace Go.Proofs.YtaeabefbohlcpaaGreat
open Go.RowKit
set_option linter.unusedVariables false
set_option linter.unusedSimpArgs false
attribute [local go_sem] q2 q3 q4 q5 q6 q7 q8 q9 q10 q11 q12

theorem ints_eq {x y : List Int} (hl : x.length = y.length) (h : ∀ i, i < x.length → x.getD i 0 = y.getD i 0) : x = y := by
 refine List.ext_getElem hl fun i h1 h2 => ?_
 have := h i h1
 simpa [List.getD_eq_getElem?_getD, List.getElem?_eq_getElem h1, List.getElem?_eq_getElem h2] using this

set_option maxRecDepth 100000 in
set_option maxHeartbeats 4000000 in
theorem sameValues_a (x y : List Int) (a1 a2 : Option Addr) (n1 n2 c1 c2 l1 u1 l2 u2 : Nat) (w : World) (e1 : Hid (n1 = x.length)) (e2 : Hid (n2 = y.length)) (hi1 : u1 ≤ w.heap.size) (hi2 : u2 ≤ w.heap.size)
  (hx : IntsAt w l1 u1 a1 n1 (fun i => x.getD i 0)) (hy : IntsAt w l2 u2 a2 n2 (fun i => y.getD i 0)) (hb1 : n1 ≤ 1000000000) (hb2 : n2 ≤ 1000000000) :
  Calls Tryz.prog 54 #[.slice a1 n1 c1, .slice a2 n2 c2] w fun e w' => e = .returned (.bool (decide (x = y))) ∧ Below w.heap.size w w' := by
 obtain ⟨b, hbb⟩ : ∃ b, decide (x = y) = b := ⟨_, rfl⟩
 rw [hbb]
 by_cases cn : n1 = n2
 ·subst cn
  have hb0 := Below.refl w.heap.size w
  go_enter Tryz.func54, Tryz.ntmps54
  go_wp2
  go_loopw [14] (fun is wr => ∃ k : Nat, k ≤ n1 ∧ is = .int .i64 (k : Int) ∧ Hid (∀ i, i < k → x.getD i 0 = y.getD i 0) ∧ Below w.heap.size w wr) (fun is _ => n1 - (intOf is).toNat)
  case atStart => exact ⟨0, by omega, rfl, hide (fun i hi => absurd hi (by omega)), hb0⟩
  case round =>
   clear hb0
   obtain ⟨k, hk, rfl, hall, hb⟩ := hrel
   obtain ⟨w1, rfl⟩ : ∃ w1 : World, w1 = wr := ⟨_, rfl⟩
   by_cases ck : k < n1
   ·have hci : (k : Int) < (n1 : Int) := by omega
    obtain ⟨g1, hg1, hz1, d1⟩ := IntsAt.cell (IntsAt.below hx hb hi1) ck
    obtain ⟨g2, hg2, hz2, d2⟩ := IntsAt.cell (IntsAt.below hy hb hi2) ck
    subst hg1 hg2
    obtain ⟨u, hu⟩ : ∃ u, x.getD k 0 = u := ⟨_, rfl⟩
    obtain ⟨v, hv⟩ : ∃ v, y.getD k 0 = v := ⟨_, rfl⟩
    rw [hu] at d1
    rw [hv] at d2
    by_cases ce : u = v
    ·subst ce
     have hall2 : Hid (∀ i, i < k + 1 → x.getD i 0 = y.getD i 0) := hide fun i hi => by
      by_cases q : i < k
      ·exact unhide hall i q
      ·obtain rfl : i = k := by omega
       rw [hu, hv]
     clear hu hv
     go_wp2
     go_roundw
     case rel => first | exact ⟨k + 1, by omega, by first | rfl | go_num, hall2, by (repeat' first | with_reducible (first | exact Below.refl _ _ | assumption | refine gr_alloc ?_ _ | refine below_drewN ?_ _ | refine below_drew ?_ | refine gr_call ?_ (by assumption) | refine Below.setCell ?_ ?_ _) | go_size | omega | (simp; omega))⟩ | ((repeat apply Exists.intro); exact ⟨⟨k + 1, by omega, by first | rfl | go_num, hall2, by (repeat' first | with_reducible (first | exact Below.refl _ _ | assumption | refine gr_alloc ?_ _ | refine below_drewN ?_ _ | refine below_drew ?_ | refine gr_call ?_ (by assumption) | refine Below.setCell ?_ ?_ _) | go_size | omega | (simp; omega))⟩, rfl⟩)
     case measure => simp [intOf]; omega
    ·have HB : Hid (b = false) := hide (by rw [← hbb, decide_eq_false_iff_not]; intro e; subst e; exact ce (hu.symm.trans hv))
     have ce1 : (u != v) = true := by simpa using ce
     have ce2 : (v != u) = true := by simp; exact fun e => ce e.symm
     clear hu hv ce hbb
     go_wp2
     go_ret
     exact ⟨by rw [unhide HB]; rfl, by (repeat' first | with_reducible (first | exact Below.refl _ _ | assumption | refine gr_alloc ?_ _ | refine below_drewN ?_ _ | refine below_drew ?_ | refine gr_call ?_ (by assumption) | refine Below.setCell ?_ ?_ _) | go_size | omega | (simp; omega))⟩
   ·obtain rfl : k = n1 := by omega
    have HB : Hid (b = true) := hide (by rw [← hbb, decide_eq_true_iff]; exact ints_eq ((unhide e1).symm.trans (unhide e2)) (fun i hi => unhide hall i (by have := unhide e1; omega)))
    clear hbb
    go_wp2
    go_ret
    exact ⟨by rw [unhide HB]; rfl, hb⟩
 ·have HB : Hid (b = false) := hide (by rw [← hbb, decide_eq_false_iff_not]; intro e; subst e; exact cn ((unhide e1).trans (unhide e2).symm))
  have cn1 : ((n1 : Int) != (n2 : Int)) = true := by simp; omega
  clear hbb
  go_enter Tryz.func54, Tryz.ntmps54
  go_wp2
  go_ret
  exact ⟨by rw [unhide HB]; rfl, Below.refl _ _⟩

set_option maxRecDepth 100000 in
set_option maxHeartbeats 4000000 in
theorem l1Same_a (x y : List Int) (a1 a2 : Option Addr) (n1 n2 c1 c2 l1 u1 l2 u2 : Nat) (w : World) (e1 : Hid (n1 = x.length)) (e2 : Hid (n2 = y.length)) (hi1 : u1 ≤ w.heap.size) (hi2 : u2 ≤ w.heap.size)
  (hx : IntsAt w l1 u1 a1 n1 (fun i => x.getD i 0)) (hy : IntsAt w l2 u2 a2 n2 (fun i => y.getD i 0)) (hb1 : n1 ≤ 1000000000) (hb2 : n2 ≤ 1000000000) :
  Calls Tryz.prog 50 #[.slice a1 n1 c1, .slice a2 n2 c2] w fun e w' => e = .returned (.bool (decide (x = y))) ∧ Below w.heap.size w w' := by
 obtain ⟨b, hbb⟩ : ∃ b, decide (x = y) = b := ⟨_, rfl⟩
 rw [hbb]
 by_cases cn : n1 = n2
 ·subst cn
  have hb0 := Below.refl w.heap.size w
  go_enter Tryz.func50, Tryz.ntmps50
  go_wp2
  go_loopw [13] (fun is wr => ∃ k : Nat, k ≤ n1 ∧ is = .int .i64 (k : Int) ∧ Hid (∀ i, i < k → x.getD i 0 = y.getD i 0) ∧ Below w.heap.size w wr) (fun is _ => n1 - (intOf is).toNat)
  case atStart => exact ⟨0, by omega, rfl, hide (fun i hi => absurd hi (by omega)), hb0⟩
  case round =>
   clear hb0
   obtain ⟨k, hk, rfl, hall, hb⟩ := hrel
   obtain ⟨w1, rfl⟩ : ∃ w1 : World, w1 = wr := ⟨_, rfl⟩
   by_cases ck : k < n1
   ·have hci : (k : Int) < (n1 : Int) := by omega
    obtain ⟨g1, hg1, hz1, d1⟩ := IntsAt.cell (IntsAt.below hx hb hi1) ck
    obtain ⟨g2, hg2, hz2, d2⟩ := IntsAt.cell (IntsAt.below hy hb hi2) ck
    subst hg1 hg2
    obtain ⟨u, hu⟩ : ∃ u, x.getD k 0 = u := ⟨_, rfl⟩
    obtain ⟨v, hv⟩ : ∃ v, y.getD k 0 = v := ⟨_, rfl⟩
    rw [hu] at d1
    rw [hv] at d2
    by_cases ce : u = v
    ·subst ce
     have hall2 : Hid (∀ i, i < k + 1 → x.getD i 0 = y.getD i 0) := hide fun i hi => by
      by_cases q : i < k
      ·exact unhide hall i q
      ·obtain rfl : i = k := by omega
       rw [hu, hv]
     clear hu hv
     go_wp2
     go_quiet (fail)
     go_wp2
     go_roundw
     case rel => first | exact ⟨k + 1, by omega, by first | rfl | go_num, hall2, by (repeat' first | with_reducible (first | exact Below.refl _ _ | assumption | refine gr_alloc ?_ _ | refine below_drewN ?_ _ | refine below_drew ?_ | refine gr_call ?_ (by assumption) | refine Below.setCell ?_ ?_ _) | go_size | omega | (simp; omega))⟩ | ((repeat apply Exists.intro); exact ⟨⟨k + 1, by omega, by first | rfl | go_num, hall2, by (repeat' first | with_reducible (first | exact Below.refl _ _ | assumption | refine gr_alloc ?_ _ | refine below_drewN ?_ _ | refine below_drew ?_ | refine gr_call ?_ (by assumption) | refine Below.setCell ?_ ?_ _) | go_size | omega | (simp; omega))⟩, rfl⟩)
     case measure => simp [intOf]; omega
    ·have HB : Hid (b = false) := hide (by rw [← hbb, decide_eq_false_iff_not]; intro e; subst e; exact ce (hu.symm.trans hv))
     have ce1 : (u != v) = true := by simpa using ce
     have ce2 : (v != u) = true := by simp; exact fun e => ce e.symm
     clear hu hv ce hbb
     go_wp2
     go_quiet (fail)
     go_wp2
     go_ret
     exact ⟨by rw [unhide HB]; rfl, by (repeat' first | with_reducible (first | exact Below.refl _ _ | assumption | refine gr_alloc ?_ _ | refine below_drewN ?_ _ | refine below_drew ?_ | refine gr_call ?_ (by assumption) | refine Below.setCell ?_ ?_ _) | go_size | omega | (simp; omega))⟩
   ·obtain rfl : k = n1 := by omega
    have HB : Hid (b = true) := hide (by rw [← hbb, decide_eq_true_iff]; exact ints_eq ((unhide e1).symm.trans (unhide e2)) (fun i hi => unhide hall i (by have := unhide e1; omega)))
    clear hbb
    go_wp2
    go_ret
    exact ⟨by rw [unhide HB]; rfl, hb⟩
 ·have HB : Hid (b = false) := hide (by rw [← hbb, decide_eq_false_iff_not]; intro e; subst e; exact cn ((unhide e1).trans (unhide e2).symm))
  have cn1 : ((n1 : Int) != (n2 : Int)) = true := by simp; omega
  clear hbb
  go_enter Tryz.func50, Tryz.ntmps50
  go_wp2
  go_ret
  exact ⟨by rw [unhide HB]; rfl, Below.refl _ _⟩
end Go.Proofs.YtaeabefbohlcpaaGreat
namespace Go.Proofs.YtaeabefbohlcpaaGreat
open Go.RowKit
set_option linter.unusedVariables false
set_option linter.unusedSimpArgs false
attribute [local go_sem] q2 q3 q4 q5 q6 q7 q8 q9 q10 q11 q12

def nI (L : List Nat) : List Int := L.map (fun x : Nat => (x : Int))
theorem nI_len (L : List Nat) : (nI L).length = L.length := by simp [nI]
theorem nI_app (L : List Nat) (p : Nat) : nI (L ++ [p]) = nI L ++ [(p : Int)] := by simp [nI]
theorem nI_get {L : List Nat} {k : Nat} (h : k < L.length) : (nI L).getD k 0 = ((L.getD k 0 : Nat) : Int) := by
 simp [nI, List.getD_eq_getElem?_getD, List.getElem?_map, List.getElem?_eq_getElem h]
structure FcInv (n p m : Nat) (L : List Nat) : Prop where
 e : L ++ fcL p m = fcL 2 n
 p2 : 2 ≤ p
 m1 : 1 ≤ m
 mn : m ≤ n
 low : ∀ q, Pr q → q ∣ m → p ≤ q
theorem FcInv.start {n : Nat} (h : 1 ≤ n) : FcInv n 2 n [] := ⟨rfl, Nat.le_refl _, h, Nat.le_refl _, fun q hq _ => hq.1⟩
theorem FcInv.small {n p m : Nat} {L : List Nat} (h : FcInv n p m L) (hs : m < p * p) (hd : m % p = 0) : m = p := by
 have hp := h.p2
 obtain ⟨k, hk⟩ := Nat.dvd_of_mod_eq_zero hd
 have hm := h.m1
 by_cases k1 : k = 1
 ·subst k1; omega
 ·by_cases k0 : k = 0
  ·subst k0; omega
  ·obtain ⟨r, hr, hrd⟩ := Pr.ex (show 2 ≤ k by omega)
   have h1 := h.low r hr (by rw [hk]; exact Nat.dvd_trans hrd (Nat.dvd_mul_left _ _))
   have h2 := Nat.le_of_dvd (by omega) hrd
   have h3 := Nat.mul_le_mul_left p (show p ≤ k by omega)
   omega
theorem FcInv.next {n p m M : Nat} {L : List Nat} (h : FcInv n p m L) (hd : m % p = 0) (hM : m / p = M) : FcInv n p M (L ++ [p]) ∧ M < m := by
 have hp := h.p2
 have hm := h.m1
 have he : m = p * M := by have := Nat.div_add_mod m p; rw [hd, hM] at this; omega
 have hM1 : 1 ≤ M := by
  rcases Nat.eq_zero_or_pos M with z | z
  ·subst z; omega
  ·exact z
 have hlt : M < m := by
  have := Nat.mul_le_mul_right M hp
  omega
 refine ⟨⟨?_, hp, hM1, by have := h.mn; omega, fun q hq hqd => h.low q hq (by rw [he]; exact Nat.dvd_trans hqd (Nat.dvd_mul_left _ _))⟩, hlt⟩
 rw [← h.e, List.append_assoc]
 congr 1
 by_cases c : p * p ≤ m
 ·rw [fc_dvd hp c hd, hM]; rfl
 ·have hmp := h.small (by omega) hd
  subst hmp
  have : M = 1 := by
   rw [← hM]; exact Nat.div_self (by omega)
  subst this
  have h4 : m * 2 ≤ m * m := Nat.mul_le_mul_left m hp
  rw [fc_end (p := m) (n := m) (by omega) (by omega), fc_nil (p := m) (by omega) (Nat.le_refl _)]; rfl
theorem FcInv.up {n p m : Nat} {L : List Nat} (h : FcInv n p m L) (hd : m % p ≠ 0) : FcInv n (p + 1) m L := by
 have hp := h.p2
 have hm := h.m1
 have hmn := h.mn
 refine ⟨?_, by omega, hm, hmn, fun q hq hqd => ?_⟩
 ·rw [← h.e]
  congr 1
  by_cases c : p * p ≤ m
  ·rw [fc_no hp c hd]
  ·have h4 : (p + 1) * (p + 1) = p * p + 2 * p + 1 := by grind
   by_cases c1 : 1 < m
   ·rw [fc_end (p := p) (by omega) c1, fc_end (p := p + 1) (by omega) c1]
   ·rw [fc_nil (p := p) (by omega) (by omega), fc_nil (p := p + 1) (by omega) (by omega)]
 ·have := h.low q hq hqd
  by_cases e : q = p
  ·subst e; exact absurd (Nat.mod_eq_zero_of_dvd hqd) hd
  ·omega
theorem FcInv.end1 {n p m : Nat} {L : List Nat} (h : FcInv n p m L) (hs : m < p * p) (h1 : 1 < m) : L ++ [m] = fcL 2 n := by rw [← h.e, fc_end hs h1]
theorem FcInv.end0 {n p m : Nat} {L : List Nat} (h : FcInv n p m L) (hs : m < p * p) (h1 : m ≤ 1) : L = fcL 2 n := by rw [← h.e, fc_nil hs h1]; simp
theorem FcInv.len {n p m : Nat} {L : List Nat} (h : FcInv n p m L) (hn : n ≤ 2000) : L.length ≤ 2000 := by
 have h1 : n ≥ 1 := by have := h.m1; have := h.mn; omega
 have := fc_len h1
 rw [← h.e, List.length_append] at this
 omega
theorem FcInv.bd {n p m : Nat} {L : List Nat} (h : FcInv n p m L) (hn : n ≤ 2000) (hs : p * p ≤ m) : p ≤ 44 := by
 have := h.mn
 by_cases c : p ≤ 44
 ·exact c
 ·have := Nat.mul_le_mul (show 45 ≤ p by omega) (show 45 ≤ p by omega)
  omega
theorem tmodN {m p : Nat} : Int.tmod (m : Int) (p : Int) = ((m % p : Nat) : Int) := by rw [Int.tmod_eq_emod_of_nonneg (by omega)]; rfl
theorem tdivN {m p : Nat} : Int.tdiv (m : Int) (p : Int) = ((m / p : Nat) : Int) := by rw [Int.tdiv_eq_ediv_of_nonneg (by omega)]; rfl
end Go.Proofs.YtaeabefbohlcpaaGreat
