/- The forms of a genus: genusWith. The class group in memory: groupOf. -/
import Derived.Test.YtaeabefbohlcpaaGreatFaw
import Derived.Test.YtaeabefbohlcpaaGreatGnv
import Derived.Test.YtaeabefbohlcpaaGreatRfl
import Derived.Test.YtaeabefbohlcpaaGreatOwn
namespace Go.Proofs.YtaeabefbohlcpaaGreat
open Go.RowKit
set_option linter.unusedVariables false
set_option linter.unusedSimpArgs false
attribute [local go_sem] q2 q3 q4 q5 q6 q7 q8 q9 q10 q11 q12

noncomputable def gwK (fs : List (Int × Int × Int)) (vs : List Int) (k : Nat) : List (Int × Int × Int) := flN (fun i => decide (gvL (fs.getD i (0, 0, 0)) = vs)) (fun i => fs.getD i (0, 0, 0)) k
theorem gw_len (fs : List (Int × Int × Int)) (vs : List Int) (k : Nat) : (gwK fs vs k).length ≤ k := flN_len _ _ _
theorem gw_head {fs : List (Int × Int × Int)} {vs : List Int} : ∀ {k : Nat}, (∃ i, i < k ∧ gvL (fs.getD i (0, 0, 0)) = vs) → ∃ j, j < k ∧ gvL (fs.getD j (0, 0, 0)) = vs ∧ (∀ i, i < j → gvL (fs.getD i (0, 0, 0)) ≠ vs) ∧ 0 < (gwK fs vs k).length ∧ (gwK fs vs k).getD 0 (0, 0, 0) = fs.getD j (0, 0, 0)
 | 0, h => by obtain ⟨i, hi, _⟩ := h; omega
 | k + 1, h => by
  by_cases q : ∃ i, i < k ∧ gvL (fs.getD i (0, 0, 0)) = vs
  ·obtain ⟨j, h1, h2, h3, h4, h5⟩ := gw_head q
   refine ⟨j, by omega, h2, h3, ?_, ?_⟩ <;> unfold gwK at h4 h5 ⊢ <;> rw [flN] <;> split
   ·rw [List.length_append]; omega
   ·exact h4
   ·rw [List.getD_eq_getElem?_getD, List.getElem?_append_left h4, ← List.getD_eq_getElem?_getD]; exact h5
   ·exact h5
  ·obtain ⟨i, hi, he⟩ := h
   obtain rfl : i = k := by
    by_cases e : i = k
    ·exact e
    ·exact absurd ⟨i, by omega, he⟩ q
   have hnil : flN (fun i => decide (gvL (fs.getD i (0, 0, 0)) = vs)) (fun i => fs.getD i (0, 0, 0)) i = [] := by
    rw [List.eq_nil_iff_forall_not_mem]
    intro x hx
    obtain ⟨j, hj, hp, _⟩ := flN_mem hx
    exact q ⟨j, hj, by simpa using hp⟩
   refine ⟨i, by omega, he, fun j hj hje => q ⟨j, hj, hje⟩, ?_, ?_⟩ <;> unfold gwK <;> rw [flN, if_pos (by simpa using he), hnil] <;> simp
theorem gw_yes {fs : List (Int × Int × Int)} {vs : List Int} {k : Nat} {x : Int × Int × Int} (hx : fs.getD k (0, 0, 0) = x) (h : gvL x = vs) : gwK fs vs (k + 1) = gwK fs vs k ++ [x] := by
 subst hx; exact flN_yes (p := fun i => decide (gvL (fs.getD i (0, 0, 0)) = vs)) (by simpa using h)
theorem gw_no {fs : List (Int × Int × Int)} {vs : List Int} {k : Nat} {x : Int × Int × Int} (hx : fs.getD k (0, 0, 0) = x) (h : ¬ gvL x = vs) : gwK fs vs (k + 1) = gwK fs vs k := by
 subst hx; exact flN_no (p := fun i => decide (gvL (fs.getD i (0, 0, 0)) = vs)) (by simpa using h)
theorem gvL_len {d : Int} {F : Int × Int × Int} (h0 : -2000 ≤ d) (h1 : d ≤ -3) (hd : discI F.1 F.2.1 F.2.2 = d) : (gvL F).length ≤ 2002 := by
 unfold gvL vlL; rw [List.length_map, hd]; exact chL_len h0 h1
theorem rf_at {d : Int} (hd : negB d = true) {k : Nat} (hk : k < (rfL d).length) : RedC ((rfL d).getD k (0, 0, 0)).1 ((rfL d).getD k (0, 0, 0)).2.1 ((rfL d).getD k (0, 0, 0)).2.2 ∧ discI ((rfL d).getD k (0, 0, 0)).1 ((rfL d).getD k (0, 0, 0)).2.1 ((rfL d).getD k (0, 0, 0)).2.2 = d := by
 obtain ⟨h1, h2⟩ := rf_in hd (gdm (d := (0, 0, 0)) hk)
 exact ⟨h2, h1.d⟩

set_option maxRecDepth 100000 in
set_option maxHeartbeats 4000000 in
theorem genusWith_a (d : Int) (vs : List Int) (av : Option Addr) (nv cv lv uv : Nat) (w : World) (hd : negB d = true) (ev : Hid (nv = vs.length)) (hiv : uv ≤ w.heap.size) (hv : IntsAt w lv uv av nv (fun i => vs.getD i 0)) (hnv : nv ≤ 1000000000) :
  Calls Tryz.prog 67 #[.int .i64 d, .slice av nv cv] w (RetFL w (gwK (rfL d) vs (rfL d).length)) := by
 obtain ⟨d0, d1⟩ := neg_true hd
 have HLen := rfL_len d0 d1
 have HRF := fun k hk => rf_at hd (k := k) hk
 have HND := rf_nodup d
 have HC : ∀ W, Calls Tryz.prog 61 #[.int .i64 d] W (RetFL W (rfL d)) := fun W => reducedForms_a d W d0 d1
 have HC := hide HC
 generalize rfL d = fs at *
 go_enter Tryz.func67, Tryz.ntmps67
 go_wp2_with (go_at_call 61; refine ((unhide HC) _).mono ?_; rintro e wA ⟨a0, c0, rfl, hlA, hbA⟩)
 have hS : FAt wA (w.heap.size + 1) wA.heap.size a0 fs := hlA.at.2.low (by simp)
 have hK := forms_kept (LO := (w.heap.size + 1)) (HI := wA.heap.size) (a := a0) (fs := fs)
 have hsd : SF w (w.heap.size + 1) wA.heap.size (srcF (w.heap.size + 1) wA.heap.size a0 fs) wA (some ⟨w.heap.size, 0, none⟩) 0 0 [] := ⟨hide rfl, SD.startM hbA hS (Nat.le_refl _)⟩
 obtain ⟨HI, hHI⟩ : ∃ HI, wA.heap.size = HI := ⟨_, rfl⟩
 rw [hHI] at hsd hK hS
 clear hlA hS
 go_loopw [5, 12] (fun ls is wr => ∃ (k n9 c : Nat) (a : Option Addr) (l : List (Int × Int × Int)), is = .int .i64 (k : Int) ∧ ls = .slice a n9 c ∧ k ≤ fs.length ∧ n9 ≤ k ∧ Hid (l = gwK fs vs k) ∧ SF w (w.heap.size + 1) HI (srcF (w.heap.size + 1) HI a0 fs) wr a n9 c l) (fun _ is _ => fs.length - (intOf is).toNat)
 case atStart => exact ⟨0, 0, 0, _, [], rfl, rfl, by omega, by omega, hide rfl, hsd⟩
 case round =>
  clear hsd hbA
  obtain ⟨k, n9, c, a, l, rfl, rfl, hk, hnk, hl, hsd⟩ := hrel
  obtain ⟨w1, rfl⟩ : ∃ w1 : World, w1 = wr := ⟨_, rfl⟩
  have hz := hsd.sd.bel.size
  have hln := hsd.len
  have hlb : l.length ≤ 3000 := by have := unhide hln; omega
  by_cases c9 : k < fs.length
  ·have hci : (k : Int) < (fs.length : Int) := by omega
   obtain ⟨g0, hg0, hg2, e0, e1, e2⟩ := FAt.cells hsd.sd.src c9
   obtain ⟨hrc, hdi⟩ := HRF k c9
   obtain ⟨X, hX⟩ : ∃ X, fs.getD k (0, 0, 0) = X := ⟨_, rfl⟩
   rw [hX] at e0 e1 e2 hrc hdi
   obtain ⟨x, y, z⟩ := X
   simp only at e0 e1 e2 hrc hdi
   have hgl := gvL_len (F := (x, y, z)) d0 d1 hdi
   subst hg0
   have HS : ∀ (W : World) (a2 : Option Addr) (c2 : Nat), Below w.heap.size w W → IL W w1.heap.size (.slice a2 (gvL (x, y, z)).length c2) (gvL (x, y, z)) → Calls Tryz.prog 54 #[.slice a2 (gvL (x, y, z)).length c2, .slice av nv cv] W fun e w' => e = .returned (.bool (decide (gvL (x, y, z) = vs))) ∧ Below W.heap.size W w' := fun W a2 c2 hb hl2 =>
    sameValues_a _ _ _ _ _ _ _ _ _ _ _ _ W (hide rfl) ev (Nat.le_refl _) (Nat.le_trans hiv hb.size) hl2.ints.2 (hv.below hb hiv) (by omega) hnv
   have HS := hide HS
   by_cases cg : gvL (x, y, z) = vs
   ·have YES := hide ((congrArg (· ++ [(x, y, z)]) (unhide hl)).trans (gw_yes hX cg).symm)
    have cd : decide (gvL (x, y, z) = vs) = true := by simpa using cg
    rw [cd] at HS
    clear hX cd cg
    go_wp2_with (first | (go_at_call 68; refine (genusValues_a x y z d _ hrc hd hdi).mono ?_; rintro e w2 ⟨a2, c2, rfl, hl2, hb2⟩; have f00 := cell_call hb2 (a := ⟨w1.heap.size, 0, none⟩) (v := .int .i64 x) (by first | assumption | go_simp); have f01 := cell_call hb2 (a := ⟨w1.heap.size, 1, none⟩) (v := .int .i64 y) (by first | assumption | go_simp); have f02 := cell_call hb2 (a := ⟨w1.heap.size, 2, none⟩) (v := .int .i64 z) (by first | assumption | go_simp); have hs2 := (hsd.alloc hK _).call hK hb2; have hz2 := hs2.sd.bel.size) | (go_at_call 54; refine ((unhide HS) _ _ _ hs2.sd.bel (hl2.raise (by simp))).mono ?_; rintro e w3 ⟨rfl, hb3⟩; have f00 := cell_call hb3 (a := ⟨w1.heap.size, 0, none⟩) (v := .int .i64 x) (by assumption); have f01 := cell_call hb3 (a := ⟨w1.heap.size, 1, none⟩) (v := .int .i64 y) (by assumption); have f02 := cell_call hb3 (a := ⟨w1.heap.size, 2, none⟩) (v := .int .i64 z) (by assumption); have hs3 := hs2.call hK hb3; have hz3 := hs3.sd.bel.size) | (at_builtin; refine app_FL _ rfl (.tmp 20) (.tmp 22) rfl w.heap.size (.slice a n9 c) l x y z w3.heap.size rfl rfl (hs3.alloc hK _).fl (by go_simp) (by go_simp) (by go_simp) (by omega) (by first | omega | (simp; omega)) ?_; intro g cap w4 hown hgrow hat hlt))
    go_roundw
    case rel =>
     have hs4 := (hs3.alloc hK _).app hK hown hgrow hat
     exact ⟨k + 1, l.length + 1, cap, some ⟨g, 0, none⟩, _, by go_num, rfl, by omega, by have := unhide hln; omega, YES, hs4⟩
    case measure => simp [intOf]; omega
   ·have NO := hide ((unhide hl).trans (gw_no hX cg).symm)
    have cd : decide (gvL (x, y, z) = vs) = false := by simpa using cg
    rw [cd] at HS
    clear hX cd cg
    go_wp2_with (first | (go_at_call 68; refine (genusValues_a x y z d _ hrc hd hdi).mono ?_; rintro e w2 ⟨a2, c2, rfl, hl2, hb2⟩; have f00 := cell_call hb2 (a := ⟨w1.heap.size, 0, none⟩) (v := .int .i64 x) (by first | assumption | go_simp); have f01 := cell_call hb2 (a := ⟨w1.heap.size, 1, none⟩) (v := .int .i64 y) (by first | assumption | go_simp); have f02 := cell_call hb2 (a := ⟨w1.heap.size, 2, none⟩) (v := .int .i64 z) (by first | assumption | go_simp); have hs2 := (hsd.alloc hK _).call hK hb2; have hz2 := hs2.sd.bel.size) | (go_at_call 54; refine ((unhide HS) _ _ _ hs2.sd.bel (hl2.raise (by simp))).mono ?_; rintro e w3 ⟨rfl, hb3⟩; have f00 := cell_call hb3 (a := ⟨w1.heap.size, 0, none⟩) (v := .int .i64 x) (by assumption); have f01 := cell_call hb3 (a := ⟨w1.heap.size, 1, none⟩) (v := .int .i64 y) (by assumption); have f02 := cell_call hb3 (a := ⟨w1.heap.size, 2, none⟩) (v := .int .i64 z) (by assumption); have hs3 := hs2.call hK hb3; have hz3 := hs3.sd.bel.size))
    go_roundw
    case rel => first | exact ⟨k + 1, n9, c, _, l, by first | rfl | go_num, rfl, by omega, by omega, NO, hs3⟩ | ((repeat apply Exists.intro); exact ⟨⟨k + 1, n9, c, _, l, by first | rfl | go_num, rfl, by omega, by omega, NO, hs3⟩, rfl⟩)
    case measure => simp [intOf]; omega
  ·obtain rfl : k = fs.length := by omega
   go_wp2
   go_ret
   exact hsd.ret (unhide hl) rfl
end Go.Proofs.YtaeabefbohlcpaaGreat
namespace Go.Proofs.YtaeabefbohlcpaaGreat
open Go.RowKit
set_option linter.unusedVariables false
set_option linter.unusedSimpArgs false
attribute [local go_sem] q2 q3 q4 q5 q6 q7 q8 q9 q10 q11 q12

def grpS (HI gb : Nat) (fs : List (Int × Int × Int)) (W : World) : Prop := gb < HI ∧ ∃ (a : Option Addr) (c mb lo : Nat), W.cell? ⟨gb, 0, none⟩ = some (.slice a fs.length c) ∧ W.cell? ⟨gb, 1, none⟩ = some (.map (some mb)) ∧ FAt W lo HI a fs ∧ mb < HI ∧ mfAt W mb fs fs.length
theorem mf_heap {w w' : World} {b k : Nat} {fs : List (Int × Int × Int)} (h : mfAt w b fs k) (hh : w'.heap[b]? = w.heap[b]?) : mfAt w' b fs k := by
 obtain ⟨n, D, ⟨es, clock, h1, h2, h3, h4⟩, r⟩ := h
 exact ⟨n, D, ⟨es, clock, hh.trans h1, h2, h3, h4⟩, r⟩
theorem grp_kept {HI gb : Nat} {fs : List (Int × Int × Int)} : Kept 0 HI (grpS HI gb fs) := by
 intro w w' hk h
 obtain ⟨h0, a, c, mb, lo, h1, h2, h3, h4, h5⟩ := h
 exact ⟨h0, a, c, mb, lo, (World.cell?_of_block (hk gb (Nat.zero_le _) h0)).trans h1, (World.cell?_of_block (hk gb (Nat.zero_le _) h0)).trans h2, FormsAt.keep h3 (fun k _ h => hk k (Nat.zero_le _) h), h4, mf_heap h5 (hk mb (Nat.zero_le _) h4)⟩
theorem grp_call {HI gb : Nat} {fs : List (Int × Int × Int)} {w w' : World} (h : grpS HI gb fs w) (hb : Below w.heap.size w w') (hH : HI ≤ w.heap.size) : grpS HI gb fs w' := grp_kept w w' (fun k _ hk => hb.block k (Nat.lt_of_lt_of_le hk hH)) h
theorem grp_up {HI HI2 gb : Nat} {fs : List (Int × Int × Int)} {w : World} (h : grpS HI gb fs w) (hH : HI ≤ HI2) : grpS HI2 gb fs w := by
 obtain ⟨h0, a, c, mb, lo, h1, h2, h3, h4, h5⟩ := h
 refine ⟨by omega, a, c, mb, lo, h1, h2, ?_, by omega, h5⟩
 rcases h3 with h | ⟨g, cap, F, ha, g1, g2, r⟩
 ·exact .inl h
 ·exact .inr ⟨g, cap, F, ha, g1, by omega, r⟩
theorem rf_sm {d : Int} (hd : negB d = true) {k : Nat} (hk : k < (rfL d).length) : SmF ((rfL d).getD k (0, 0, 0)) := by
 obtain ⟨h1, _⟩ := rf_at hd hk
 obtain ⟨s1, s2, s3, s4⟩ := red_small h1.cls.ok h1.red
 have a0 := h1.cls.ok.a0
 have c0 := h1.cls.ok.c0
 unfold SmF
 omega
theorem cmp_rwY {D : Int} (F G X : Int × Int × Int) (w : World) (h : InD D F) (h2 : InD D G) (hX : cmp F G = X) : Calls Tryz.prog 100 #[frm F, frm G] w fun e w' => e = .returned (frm X) ∧ Below w.heap.size w w' := by
 subst hX; exact compose_D F G w h h2
set_option maxRecDepth 100000 in
set_option maxHeartbeats 4000000 in
theorem groupOf_a (d : Int) (w : World) (hd : negB d = true) :
  Calls Tryz.prog 43 #[.int .i64 d] w fun e w' => ∃ gb, e = .returned (.pointer (some ⟨gb, 0, none⟩)) ∧ grpS w'.heap.size gb (rfL d) w' ∧ Below w.heap.size w w' := by
 obtain ⟨d0, d1⟩ := neg_true hd
 have HLen := rfL_len d0 d1
 have HND := rf_nodup d
 have HSM := fun k hk => rf_sm hd (k := k) hk
 have HC : ∀ W, Calls Tryz.prog 61 #[.int .i64 d] W (RetFL W (rfL d)) := fun W => reducedForms_a d W d0 d1
 have HC := hide HC
 generalize rfL d = fs at *
 have hmm := @run_makeMap Tryz.prog
 go_enter Tryz.func43, Tryz.ntmps43
 go_wp2_with (go_at_call 61; refine ((unhide HC) _).mono ?_; rintro e wA ⟨a0, c0, rfl, hlA, hbA⟩)
 have hS : FAt wA w.heap.size wA.heap.size a0 fs := hlA.at.2
 have hsz := hbA.size
 go_loopw [16] (fun is wr => ∃ k : Nat, is = .int .i64 (k : Int) ∧ k ≤ fs.length ∧ mfAt wr wA.heap.size fs k ∧ wr.cell? ⟨wA.heap.size + 1, 0, none⟩ = some (.slice a0 fs.length c0) ∧ wr.cell? ⟨wA.heap.size + 1, 1, none⟩ = some (.map (some wA.heap.size)) ∧ FAt wr w.heap.size wA.heap.size a0 fs ∧ Below w.heap.size w wr) (fun is _ => fs.length - (intOf is).toNat)
 case atStart =>
  refine ⟨0, rfl, by omega, mf_below (mf_made wA fs) byGG, by go_simp, by go_simp, hS.below (B := wA.heap.size) byGG (Nat.le_refl _), byGG⟩
 case round =>
  clear hbA hlA hS
  obtain ⟨k, rfl, hk, hmf, c00, c01, hFA, hb⟩ := hrel
  obtain ⟨w1, rfl⟩ : ∃ w1 : World, w1 = wr := ⟨_, rfl⟩
  have hz := hb.size
  have hz1 : wA.heap.size + 1 < w1.heap.size := World.block_lt_of_cell? _ _ c00
  by_cases c9 : k < fs.length
  ·have hci : (k : Int) < (fs.length : Int) := by omega
   obtain ⟨g0, hg0, hg2, e0, e1, e2⟩ := FAt.cells hFA c9
   have hsm := HSM k c9
   obtain ⟨w2, hrun, hmf2, hg⟩ := mf_store (w := (w1.alloc (.cells #[.int .i64 (fs.getD k (0, 0, 0)).1, .int .i64 (fs.getD k (0, 0, 0)).2.1, .int .i64 (fs.getD k (0, 0, 0)).2.2] 67)).drew) (b := wA.heap.size) (k := k) (mf_below hmf byGG) c9 HND hsm (by omega)
   unfold fV at hrun
   generalize fs.getD k (0, 0, 0) = X at *
   obtain ⟨x, y, z⟩ := X
   simp only at hrun hg e0 e1 e2 hsm
   have HRES : Hid (mfAt w2 wA.heap.size fs (k + 1) ∧ w2.cell? ⟨wA.heap.size + 1, 0, none⟩ = some (.slice a0 fs.length c0) ∧ w2.cell? ⟨wA.heap.size + 1, 1, none⟩ = some (.map (some wA.heap.size)) ∧ FAt w2 w.heap.size wA.heap.size a0 fs ∧ Below w.heap.size w w2) := hide (by
    have hne : (some (wA.heap.size + 1) : Option Nat) ≠ some wA.heap.size := by simp
    have hal : ∀ (a : Addr), a.block < w1.heap.size → ((w1.alloc (.cells #[.int .i64 x, .int .i64 y, .int .i64 z] 67)).drew).cell? a = w1.cell? a := fun a ha => Below.cell (B := w1.heap.size) byGG ha
    refine ⟨hmf2, ?_, ?_, ?_, ?_⟩
    ·exact ((hg.cell_far ⟨wA.heap.size + 1, 0, none⟩ (by simp; omega) hne).trans (hal _ (by simp; omega))).trans c00
    ·exact ((hg.cell_far ⟨wA.heap.size + 1, 1, none⟩ (by simp; omega) hne).trans (hal _ (by simp; omega))).trans c01
    ·refine FormsAt.keep hFA fun j h1 h2 => ?_
     have q1 := hg.block j (by simp; omega) (fun e => by simp only [Option.some.injEq] at e; omega)
     have q2 : ((w1.alloc (.cells #[.int .i64 x, .int .i64 y, .int .i64 z] 67)).drew).heap[j]? = w1.heap[j]? := Below.block (B := w1.heap.size) byGG j (by omega)
     exact q1.trans q2
    ·have hbW : Below w.heap.size w ((w1.alloc (.cells #[.int .i64 x, .int .i64 y, .int .i64 z] 67)).drew) := byGG
     exact hbW.grown hg (by simp; omega) (fun k hk => by cases hk; exact hsz))
   subst hg0
   clear hmf2 hg HSM
   go_wp2
   go_region
   all_goals
    obtain ⟨r0, r1, r2, r3, r4⟩ := unhide HRES
    go_wp2
    go_roundw
    case rel => exact ⟨k + 1, by first | rfl | go_num, by omega, r0, r1, r2, r3, r4⟩
    case measure => simp [intOf]; omega
  ·obtain rfl : k = fs.length := by omega
   go_wp2
   go_ret
   have hmb := mf_lt hmf
   exact ⟨_, rfl, ⟨hz1, a0, c0, wA.heap.size, w.heap.size, c00, c01, (by
    rcases hFA with h | ⟨g, cap, F, ha, g1, g2, r⟩
    ·exact .inl h
    ·exact .inr ⟨g, cap, F, ha, g1, by omega, r⟩), hmb, hmf⟩, hb⟩
end Go.Proofs.YtaeabefbohlcpaaGreat
