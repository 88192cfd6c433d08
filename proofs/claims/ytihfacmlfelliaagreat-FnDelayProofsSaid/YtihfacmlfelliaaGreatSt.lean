/- Squares by name. Quotient powers by name. Slices of Forms in blocks of the call's own, and the laws' helpers over them. SquareTrail on both sides. -/
import Derived.Test.YtihfacmlfelliaaGreatDpB
import Derived.Test.YtihfacmlfelliaaGreatGsq
import Derived.Test.YtihfacmlfelliaaGreatGqu
import Derived.Test.YtihfacmlfelliaaGreatNum
import Derived.Deep.RegionHeld3
import Derived.Deep.DeepCutAuto
import Derived.Deep.AppendLies
namespace Go.Proofs.YtihfacmlfelliaaGreat
open Go.RowKit
set_option linter.unusedVariables false
set_option linter.unusedSimpArgs false
attribute [local go_sem] q2 q3 q4 q5 q6 q7 q8 q9 q10 q11 q12

theorem sq_rwi {D : Int} (F S : T3) (t : Int) (w : World) (h0 : InD D F) (h1 : 0 ≤ t) (h2 : t ≤ 1000000) (hs : S = sqN (rdT F) t.toNat) :
  Calls Tryz.prog 31 #[frm F, .int .i64 t] w fun e w' => e = .returned (frm S) ∧ Below w.heap.size w w' := by
 subst hs; exact square_D F t w h0 h1 h2
theorem sq_rws {D : Int} (F S : T3) (t : Int) (w : World) (h0 : InD D F) (h1 : 0 ≤ t) (h2 : t ≤ 1000000) (hs : S = sqN (rdT F) t.toNat) :
  Calls Tryz.prog 44 #[frm F, .int .i64 t] w fun e w' => e = .returned (frm S) ∧ Below w.heap.size w w' := by
 subst hs; exact dlSquare_D F t w h0 h1 h2
end Go.Proofs.YtihfacmlfelliaaGreat
namespace Go.Proofs.YtihfacmlfelliaaGreat
open Go.RowKit
set_option linter.unusedVariables false
set_option linter.unusedSimpArgs false
attribute [local go_sem] q2 q3 q4 q5 q6 q7 q8 q9 q10 q11 q12

theorem qu_rw {D : Int} (F P : T3) (t l : Int) (w : World) (h0 : Frm D F) (h1 : 0 ≤ t) (h2 : t ≤ 1000000) (h3 : 2 ≤ l) (h4 : l ≤ 1000) (hp : P = quD D F t l) :
  Calls Tryz.prog 35 #[frm F, .int .i64 t, .int .i64 l] w fun e w' => e = .returned (frm P) ∧ Below w.heap.size w w' := by
 subst hp; exact quotientPower_D F t l w h0 h1 h2 h3 h4
theorem dq_rw {D : Int} (F P : T3) (t l : Int) (w : World) (h0 : Frm D F) (h1 : 0 ≤ t) (h2 : t ≤ 1000000) (h3 : 2 ≤ l) (h4 : l ≤ 1000) (hp : P = quD D F t l) :
  Calls Tryz.prog 48 #[frm F, .int .i64 t, .int .i64 l] w fun e w' => ∃ v, e = .returned v ∧ TupE (frm P) w' v ∧ Below w.heap.size w w' := by
 subst hp; exact (dlQuotient_D F t l w h0 h1 h2 h3 h4).mono fun e w' ⟨r, he, hb⟩ => ⟨_, he, ⟨r, rfl⟩, hb⟩
end Go.Proofs.YtihfacmlfelliaaGreat
namespace Go.Proofs.YtihfacmlfelliaaGreat
open Go.RowKit
set_option linter.unusedVariables false
set_option linter.unusedSimpArgs false

def FormsAt (w : World) (lo hi : Nat) (a : Option Addr) (n : Nat) (f : Nat → Int) : Prop :=
 n = 0 ∨ ∃ g cap F, a = some ⟨g, 0, none⟩ ∧ lo ≤ g ∧ g < hi ∧ n ≤ cap ∧ w.rowIs g 25 (cap * 3) F ∧ ∀ i, i < n * 3 → F i = .int .i64 (f i)
theorem FormsAt.keep {w w' : World} {lo hi : Nat} {a : Option Addr} {n : Nat} {f : Nat → Int} (h : FormsAt w lo hi a n f) (hk : ∀ k, lo ≤ k → k < hi → w'.heap[k]? = w.heap[k]?) : FormsAt w' lo hi a n f := by
 rcases h with h | ⟨g, cap, F, ha, h1, h2, h3, h4, h5⟩
 ·exact .inl h
 ·exact .inr ⟨g, cap, F, ha, h1, h2, h3, h4.of_block (hk g h1 h2), h5⟩
theorem FormsAt.below {w w' : World} {lo hi B : Nat} {a : Option Addr} {n : Nat} {f : Nat → Int} (h : FormsAt w lo hi a n f) (hb : Below B w w') (hB : hi ≤ B) : FormsAt w' lo hi a n f :=
 h.keep fun k _ h2 => hb.block k (by omega)

theorem Tryz.infoForm : (Tryz.prog.info? 25).map (fun i => (i.zero, i.size, i.bytes)) = some (some (.agg #[.int .i64 0, .int .i64 0, .int .i64 0]), 3, 24) := by kernel_rfl
def FormL (w : World) (lo : Nat) (v : Value) (n : Nat) (zs : List Int) : Prop := w.ownsRow lo 25 3 v n (zs.map (Value.int .i64))
theorem FormL.nil (w : World) (lo : Nat) : FormL w lo (.slice none 0 0) 0 [] := World.ownsRow_nil _ _ _ _
theorem FormL.made (w : World) (lo : Nat) (h : lo ≤ w.heap.size) : FormL (w.alloc (.cells #[] 25)) lo (.slice (some ⟨w.heap.size, 0, none⟩) 0 0) 0 [] :=
 World.ownsRow_made w #[] 0 h (by decide) rfl
theorem FormL.alloc {w : World} {lo : Nat} {v : Value} {n : Nat} {zs : List Int} (h : FormL w lo v n zs) (o : Obj) : FormL (w.alloc o) lo v n zs := World.ownsRow.alloc h o
theorem FormL.kept {w w' : World} {lo : Nat} {v : Value} {n : Nat} {zs : List Int} {row : Option Nat} (h : FormL w lo v n zs) (hg : w.grownBy w' row) (hne : v.ownBlock = none ∨ v.ownBlock ≠ row) : FormL w' lo v n zs := World.ownsRow.kept h hg hne
theorem FormL.lt {w : World} {lo : Nat} {v : Value} {n : Nat} {zs : List Int} (h : FormL w lo v n zs) : ∀ k, v.ownBlock = some k → lo ≤ k ∧ k < w.heap.size := World.ownsRow.lt h
theorem FormL.below {w w' : World} {lo : Nat} {v : Value} {n : Nat} {zs : List Int} (h : FormL w lo v n zs) (hb : Below w.heap.size w w') : FormL w' lo v n zs :=
 h.kept (row := none) ⟨hb.os, hb.tape, hb.output, hb.size, fun k hk _ => hb.block k hk⟩ (by cases v.ownBlock <;> simp)
theorem FormL.len {w : World} {lo : Nat} {v : Value} {n : Nat} {zs : List Int} (h : FormL w lo v n zs) : zs.length = n * 3 := by
 have := h.1
 simpa using this
theorem FormL.at {w : World} {lo : Nat} {a : Option Addr} {n m c : Nat} {zs : List Int} (h : FormL w lo (.slice a m c) n zs) : m = n ∧ FormsAt w lo w.heap.size a n (fun i => zs.getD i 0) := by
 have hl := h.len
 rcases h.2 with ⟨h1, h2⟩ | ⟨g, cap, cur, h1, h2, h3, h4, h5, h6, h7⟩
 ·simp only [Value.slice.injEq] at h1
  exact ⟨by omega, .inl h2⟩
 ·simp only [Value.slice.injEq] at h1
  obtain ⟨rfl, rfl, rfl⟩ := h1
  refine ⟨rfl, .inr ⟨g, c, fun i => cur.getD i undef, rfl, h2, (Array.getElem?_eq_some_iff.1 h3).1, h4, ⟨cur, h3, by omega, fun i hi => ?_⟩, fun i hi => ?_⟩⟩
  ·rw [Array.getElem?_eq_getElem (by omega)]; simp [Array.getD, show i < cur.size from by omega]
  ·have hi0 : i < zs.length := by omega
   have e : cur.toList[i]? = (zs.map (Value.int .i64))[i]? := by
    rw [← h7, List.getElem?_take, if_pos (by omega)]
   rw [List.getElem?_map, List.getElem?_eq_getElem hi0] at e
   simp only [Option.map_some] at e
   have hi2 : i < cur.size := by omega
   rw [Array.getElem?_toList, Array.getElem?_eq_getElem hi2] at e
   have e2 : cur[i] = Value.int .i64 zs[i] := by simpa using e
   have e3 : zs.getD i 0 = zs[i] := by rw [List.getD_eq_getElem?_getD, List.getElem?_eq_getElem hi0]; rfl
   show cur.getD i undef = .int .i64 (zs.getD i 0)
   rw [e3, ← e2]
   simp [Array.getD, hi2]
theorem app_Form (w : World) {ops : Array Oper} {rest : List Oper} {o : Oper} {a : Act} {Q : Exit → Act → World → Prop} (hgd : o.guard = none) (s x : Operand)
  (ho : o.op = .call { callee := .builtin .append, args := #[s, x], argTypes := #[39, 39] })
  (lo : Nat) (v : Value) (n : Nat) (zs : List Int) (x0 x1 x2 : Int) (B : Nat) (hs : a.eval s = v) (hx : a.eval x = .slice (some ⟨B, 0, none⟩) 1 1)
  (hown : FormL w lo v n zs) (hB0 : w.cell? ⟨B, 0, none⟩ = some (.int .i64 x0)) (hB1 : w.cell? ⟨B, 1, none⟩ = some (.int .i64 x1)) (hB2 : w.cell? ⟨B, 2, none⟩ = some (.int .i64 x2)) (hlen : n ≤ 100000000) (hlo : lo ≤ w.heap.size)
  (h : ∀ g cap w', FormL w' lo (.slice (some ⟨g, 0, none⟩) (n + 1) cap) (n + 1) (zs ++ [x0, x1, x2]) → w.grownBy w' v.ownBlock → (v.ownBlock = some g ∨ g = w.heap.size) → g < w'.heap.size →
   wpList Tryz.prog ops Q rest (a.put o.dst (.slice (some ⟨g, 0, none⟩) (n + 1) cap)) w') : wpList Tryz.prog ops Q (o :: rest) a w := by
 obtain ⟨i0, hi, hz0, hz1, hz2⟩ := info_parts Tryz.infoForm
 refine wpList_append_lies w hgd s x 39 ho lo 25 i0 (.agg #[.int .i64 0, .int .i64 0, .int .i64 0]) 3 24 Tryz.underlying39 hi hz0 hz1 hz2 rfl (by decide) v n _ hs hown ⟨B, 0, none⟩ 1 1 ([x0, x1, x2].map (Value.int .i64)) hx rfl ?_ (by simp [Value.oneCell']) (by decide) (by unfold maxLen; omega) (by omega) hlo _ rfl ?_
 ·intro j u hu
  match j with
  | 0 => simp at hu; subst hu; simpa [Addr.add] using hB0
  | 1 => simp at hu; subst hu; simpa [Addr.add] using hB1
  | 2 => simp at hu; subst hu; simpa [Addr.add] using hB2
  | j + 3 => simp at hu
 ·intro g cap w' h1 h2 h3 h4
  refine h g cap w' ?_ h2 h3 h4
  unfold FormL
  rw [List.map_append]
  exact h1
def RetForms (w : World) (n : Nat) (f : Nat → Int) (ok : Bool) (e : Ending) (w' : World) : Prop :=
 ∃ a c, e = .returned (.tuple #[.slice a n c, .bool ok]) ∧ FormsAt w' w.heap.size w'.heap.size a n f ∧ Below w.heap.size w w'
end Go.Proofs.YtihfacmlfelliaaGreat
namespace Go.Proofs.YtihfacmlfelliaaGreat
open Go.RowKit
set_option linter.unusedVariables false
set_option linter.unusedSimpArgs false
attribute [local go_sem] q2 q3 q4 q5 q6 q7 q8 q9 q10 q11 q12

noncomputable def stL (F : T3) : Nat → List Int
 | 0 => []
 | n + 1 => stL F n ++ [(sqN (rdT F) n).1, (sqN (rdT F) n).2.1, (sqN (rdT F) n).2.2]
theorem stL_len (F : T3) : ∀ n, (stL F n).length = n * 3
 | 0 => rfl
 | n + 1 => by rw [stL, List.length_append, stL_len F n]; simp; omega
theorem stL_at (F : T3) (n : Nat) : (stL F (n + 1)).getD (n * 3) 0 = (sqN (rdT F) n).1 ∧ (stL F (n + 1)).getD (n * 3 + 1) 0 = (sqN (rdT F) n).2.1 ∧ (stL F (n + 1)).getD (n * 3 + 2) 0 = (sqN (rdT F) n).2.2 := by
 have hl := stL_len F n
 simp only [stL, List.getD_eq_getElem?_getD]
 refine ⟨?_, ?_, ?_⟩ <;> rw [List.getElem?_append_right (by omega)] <;> simp [hl]
noncomputable def stN (F : T3) (t : Int) : Nat := if srB F t then t.toNat + 1 else 0
noncomputable def stF (F : T3) (t : Int) (i : Nat) : Int := (stL F (t.toNat + 1)).getD i 0
theorem FormL.one {w : World} {lo : Nat} (x y z : Int) (h : lo ≤ w.heap.size) : FormL (w.alloc (.cells #[.int .i64 x, .int .i64 y, .int .i64 z] 25)) lo (.slice (some ⟨w.heap.size, 0, none⟩) 1 1) 1 [x, y, z] :=
 World.ownsRow_lit (size := 3) w #[.int .i64 x, .int .i64 y, .int .i64 z] 1 h (by decide) rfl
theorem st_next {D : Int} {F : T3} (h : InD D F) (p : Nat) : sqN (rdT F) (p + 1) = sqN (rdT (sqN (rdT F) p)) (1 : Int).toNat := by
 have hr : RcT (sqN (rdT F) p) := sqN_rc p h.rd (rd_rc h.cl)
 rw [rd_same hr, sqN_succ]
 rfl

set_option maxRecDepth 100000 in
set_option maxHeartbeats 4000000 in
theorem implSquareTrail (F : T3) (t : Int) (w : World) (i0 : I64T F) : Calls Tryz.prog 16 #[frm F, .int .i64 t] w (RetForms w (stN F t) (stF F t) (srB F t)) := by
 cases k0 : clB F
 ·have HN : stN F t = 0 ∧ srB F t = false := by simp [stN, srB, k0]
  rw [HN.1, HN.2]
  clear HN
  go_enter Tryz.func16, Tryz.ntmps16
  go_wp2_with fail
  refine (isClass_p F _ i0).mono ?_
  rintro en w1 ⟨rfl, hb1⟩
  have tq0 := Ri3.c hb1 w.heap.size F.1 F.2.1 F.2.2
  try clear c00 c01 c02
  obtain ⟨c00, c01, c02, z0⟩ := tq0
  have hs1 := hb1.size
  have o10 := z0
  rw [k0]
  go_wp2
  go_ret2
  exact ⟨_, _, rfl, .inl rfl, byGG⟩
 ·cases k1 : tmB t
  ·have HN : stN F t = 0 ∧ srB F t = false := by simp [stN, srB, k0, k1]
   rw [HN.1, HN.2]
   clear HN
   go_enter Tryz.func16, Tryz.ntmps16
   go_wp2_with fail
   refine (isClass_p F _ i0).mono ?_
   rintro en w1 ⟨rfl, hb1⟩
   have tq0 := Ri3.c hb1 w.heap.size F.1 F.2.1 F.2.2
   try clear c00 c01 c02
   obtain ⟨c00, c01, c02, z0⟩ := tq0
   have hs1 := hb1.size
   have o10 := z0
   rw [k0]
   go_wp2_with (go_at_call 28; refine (isTime_b _ _).mono ?_; rintro e w' ⟨rfl, rfl⟩)
   go_ret2
   exact ⟨_, _, rfl, .inl rfl, byGG⟩
  ·have HN : stN F t = t.toNat + 1 ∧ srB F t = true := by simp [stN, srB, k0, k1]
   have ht := inB_true k1
   have h0 := (frm_of k0).i
   rw [HN.1, HN.2]
   clear HN
   obtain ⟨tn, rfl⟩ := Int.eq_ofNat_of_zero_le (show 0 ≤ t by omega)
   have hF : stF F (tn : Int) = fun i => (stL F (tn + 1)).getD i 0 := rfl
   rw [hF]
   clear hF
   have htn : (tn : Int).toNat = tn := rfl
   rw [htn]
   clear htn
   go_enter Tryz.func16, Tryz.ntmps16
   go_wp2_with fail
   refine (isClass_p F _ i0).mono ?_
   rintro en w1 ⟨rfl, hb1⟩
   have tq0 := Ri3.c hb1 w.heap.size F.1 F.2.1 F.2.2
   try clear c00 c01 c02
   obtain ⟨c00, c01, c02, z0⟩ := tq0
   have hs1 := hb1.size
   have o10 := z0
   rw [k0]
   go_wp2_with (go_at_call 28; refine (isTime_b _ _).mono ?_; rintro e w' ⟨rfl, rfl⟩)
   refine (reduced_D F _ h0).mono ?_
   rintro en w2 ⟨rfl, hb2⟩
   have tq0 := Ri3.c hb2 w.heap.size F.1 F.2.1 F.2.2
   try clear c00 c01 c02
   obtain ⟨c00, c01, c02, z0⟩ := tq0
   have hs2 := hb2.size
   have o20 := z0
   go_wp2
   go_loopw [1, 6] (fun s1 s6 wr => ∃ (n : Nat) (a : Option Addr) (c : Nat), s1 = .int .i64 ((tn : Int) + 1 - n) ∧ s6 = .slice a n c ∧ 1 ≤ n ∧ n ≤ tn + 1 ∧ FormL wr w.heap.size (.slice a n c) n (stL F n) ∧ Below w.heap.size w wr) (fun s1 s6 _ => (intOf s1).toNat)
   case atStart =>
    refine ⟨1, _, _, by first | rfl | (congr 1; omega), rfl, by omega, by omega, ?_, ?_⟩
    ·exact FormL.one (rdT F).1 (rdT F).2.1 (rdT F).2.2 (by first | omega | (simp; omega))
    ·(repeat' first | with_reducible (first | exact Below.refl _ _ | assumption | refine gr_alloc ?_ _ | refine below_drewN ?_ _ | refine below_drew ?_ | refine gr_call ?_ (by assumption) | refine Below.setCell ?_ ?_ _) | go_size | omega | (simp; omega))
   case round =>
    clear c00 c01 c02 hb1 hb2
    obtain ⟨n, a, c, rfl, rfl, hn1, hn2, hl, hb⟩ := hrel
    obtain ⟨wl, rfl⟩ : ∃ wl : World, wl = wr := ⟨_, rfl⟩
    have hz := hb.size
    by_cases q : n = tn + 1
    ·subst q
     go_wp2
     go_ret2
     exact ⟨a, c, rfl, hl.at.2.keep (fun _ _ _ => rfl), hb⟩
    ·obtain ⟨p, rfl⟩ : ∃ p, n = p + 1 := ⟨n - 1, by omega⟩
     have hpt : (p : Int) + 1 ≤ (tn : Int) := by omega
     have hX : InD (dT F) (sqN (rdT F) p) := sqN_in p h0.rd
     obtain ⟨e0, e1, e2⟩ := stL_at F p
     rcases hl.at.2 with hx | ⟨g, cap, G, rfl, hg1, hg2, hcap, hr, hG⟩
     ·cases hx
     have d0 := hr.cell (i := p * 3) (by omega)
     have d1 := hr.cell (i := p * 3 + 1) (by omega)
     have d2 := hr.cell (i := p * 3 + 2) (by omega)
     rw [hG _ (by omega)] at d0
     change _ = some (Value.int .i64 ((stL F (p + 1)).getD (p * 3) 0)) at d0
     rw [e0] at d0
     rw [hG _ (by omega)] at d1
     change _ = some (Value.int .i64 ((stL F (p + 1)).getD (p * 3 + 1) 0)) at d1
     rw [e1] at d1
     rw [hG _ (by omega)] at d2
     change _ = some (Value.int .i64 ((stL F (p + 1)).getD (p * 3 + 2) 0)) at d2
     rw [e2] at d2
     clear e0 e1 e2
     have HG := hide hG
     clear hG
     go_wp2_with fail
     refine (sq_rwi (sqN (rdT F) p) (sqN (rdT F) (p + 1)) 1 _ hX (by omega) (by omega) (st_next h0 p)).mono ?_
     rintro en w2 ⟨rfl, hb3⟩
     have hbw : Below wl.heap.size wl w2 := byGG
     have hl2 := hl.below hbw
     have hz2 := hbw.size
     have hb2 : Below w.heap.size w w2 := hb.trans (hbw.mono hz)
     have hz3 : w.heap.size ≤ w2.heap.size := Nat.le_trans hz hz2
     go_wp2_with (at_builtin; refine app_Form _ rfl (.tmp 23) (.tmp 31) rfl w.heap.size (.slice (some ⟨g, 0, none⟩) (p + 1) c) (p + 1) (stL F (p + 1)) (sqN (rdT F) (p + 1)).1 (sqN (rdT F) (p + 1)).2.1 (sqN (rdT F) (p + 1)).2.2 w2.heap.size rfl rfl (hl2.alloc _) (by simp) (by simp) (by simp) (by omega) (by simp; omega) ?_; intro g2 cap2 w3 hown hgrow hat hlt)
     go_roundw
     case rel =>
      refine ⟨p + 1 + 1, some ⟨g2, 0, none⟩, cap2, by first | rfl | (congr 1; omega), rfl, by omega, by omega, hown, (hb2.alloc hz3 _).grown hgrow (by simp; omega) (fun k hk => (hl2.lt k hk).1)⟩
     case measure => (simp [intOf] <;> omega)

end Go.Proofs.YtihfacmlfelliaaGreat
