/- DiscriminantsWithFactors, impl. -/
import Derived.Test.YtaeabefbohlcpaaRwt
import Derived.Test.YtaeabefbohlcpaaCha
import Derived.Test.YtaeabefbohlcpaaFaw
import Derived.Test.YtaeabefbohlcpaaMpf
import Derived.Test.YtaeabefbohlcpaaPrim
import Derived.Test.YtaeabefbohlcpaaSd
namespace Go.Proofs.Ytaeabefbohlcpaa
open Go.RowKit
set_option linter.unusedVariables false
set_option linter.unusedSimpArgs false
attribute [local go_sem] q2 q3 q4 q5 q6 q7 q8 q9 q10 q11 q12

def zlD (n : Nat) (z : Nat → Int) : List Int := (List.range n).map z
theorem zlD_len (n : Nat) (z : Nat → Int) : (zlD n z).length = n := by simp [zlD]
theorem zlD_at {n : Nat} {z : Nat → Int} {i : Nat} (h : i < n) : (zlD n z).getD i 0 = z i := by
 unfold zlD
 rw [List.getD_eq_getElem?_getD, List.getElem?_map, List.getElem?_eq_getElem (by simpa using h)]; simp
noncomputable def dfP (h : Int) (zs : List Int) (d : Int) : Bool := decide (((rfL d).length : Int) = h) && decide (rowFL d = zs)
noncomputable def dfL (h : Int) (zs ds : List Int) (k : Nat) : List Int := flN (fun i => dfP h zs (ds.getD i 0)) (fun i => ds.getD i 0) k
theorem df_yes {h : Int} {zs ds : List Int} {k : Nat} {x : Int} (hx : ds.getD k 0 = x) (hp : dfP h zs x = true) : dfL h zs ds (k + 1) = dfL h zs ds k ++ [x] := by
 subst hx; exact flN_yes (p := fun i => dfP h zs (ds.getD i 0)) hp
theorem df_no {h : Int} {zs ds : List Int} {k : Nat} {x : Int} (hx : ds.getD k 0 = x) (hp : dfP h zs x = false) : dfL h zs ds (k + 1) = dfL h zs ds k := by
 subst hx; exact flN_no (p := fun i => dfP h zs (ds.getD i 0)) hp
noncomputable def dfR (n : Nat) (z : Nat → Int) : List Int := if chB z n then dfL (cprV z n) (zlD n z) (dcL (-2000) (-3)) (dcL (-2000) (-3)).length else []
theorem dfR_len (n : Nat) (z : Nat → Int) : (dfR n z).length ≤ 1000000000 := by
 unfold dfR
 split
 ·have h1 : (dfL (cprV z n) (zlD n z) (dcL (-2000) (-3)) (dcL (-2000) (-3)).length).length ≤ (dcL (-2000) (-3)).length := flN_len _ _ _
  have h2 := dcL_len (lo := -2000) (hi := -3) (by omega) (by omega)
  omega
 ·simp
set_option maxRecDepth 100000 in
set_option maxHeartbeats 4000000 in
theorem like_df (d h : Int) (p q : Addr) (a : Option Addr) (c lo hi n : Nat) (zs : List Int) (w : World) (hd : negB d = true) (hn : n = zs.length) (hn2 : n ≤ 2000000)
  (hp : w.cell? p = some (.int .i64 h)) (hq : w.cell? q = some (.slice a n c)) (hhi : hi ≤ w.heap.size) (hA : IntsAt w lo hi a n (fun i => zs.getD i 0)) :
  Calls Try.prog 26 #[.int .i64 d, .pointer (some p), .pointer (some q)] w fun e w' => e = .returned (.bool (dfP h zs d)) ∧ Below w.heap.size w w' := by
 obtain ⟨d0, d1⟩ := neg_true hd
 have hq9 := os_q hd
 have HF : Hid (∀ W, Calls Try.prog 21 #[.int .i64 d] W (RetLen W (rfL d).length)) := hide fun W => reducedForms_len d W d0 d1 rfl
 have HG : Hid (∀ W, Calls Try.prog 29 #[.int .i64 d] W fun e w' => ∃ gb, e = .returned (.pointer (some ⟨gb, 0, none⟩)) ∧ grpS w'.heap.size gb (rfL d) w' ∧ Below W.heap.size W w') := hide fun W => groupOf_a d W hd
 have HO : Hid (∀ W gb, grpS W.heap.size gb (rfL d) W → Calls Try.prog 30 #[.pointer (some ⟨gb, 0, none⟩)] W (RetIL W (orL d))) := hide fun W gb h => orders_a d W.heap.size gb W hd h (Nat.le_refl _)
 have HI : Hid (∀ (W : World) (a : Option Addr) (c lo hi : Nat), hi ≤ W.heap.size → IntsAt W lo hi a (orL d).length (fun i => (orL d).getD i 0) → Calls Try.prog 28 #[.slice a (orL d).length c] W (RetIL W (rowFL d))) := hide fun W a c lo hi h1 h2 => invariants_a (orL d) a _ c lo hi W hq9 (hide rfl) h1 h2
 have HS : Hid (∀ (W : World) (a1 : Option Addr) (c1 l1 u1 : Nat), u1 ≤ W.heap.size → IntsAt W l1 u1 a1 (rowFL d).length (fun i => (rowFL d).getD i 0) → Below w.heap.size w W → Calls Try.prog 27 #[.slice a1 (rowFL d).length c1, .slice a n c] W fun e w' => e = .returned (.bool (decide (rowFL d = zs))) ∧ Below W.heap.size W w') := hide fun W a1 c1 l1 u1 h1 h2 h3 =>
  sameValues_a (rowFL d) zs a1 a _ _ c1 c l1 u1 lo hi W (hide rfl) (hide hn) h1 (Nat.le_trans hhi h3.size) h2 (hA.below h3 hhi) (by have := rowFL_len hd; omega) (by omega)
 have HV : Hid (dfP h zs d = (decide (((rfL d).length : Int) = h) && decide (rowFL d = zs))) := hide rfl
 have hl := rfL_len d0 d1
 clear hA hn hq9
 generalize dfP h zs d = P at *
 generalize (rfL d).length = m at *
 generalize rfL d = rfs at *
 generalize rowFL d = xs at *
 generalize orL d = os at *
 by_cases ce : (m : Int) = h
 ·have HB : Hid (P = decide (xs = zs)) := hide ((unhide HV).trans (by simp [ce]))
  clear HV
  generalize decide (xs = zs) = bb at *
  have tt : ((m : Int) == h) = true := by simpa using ce
  have td : decide ((m : Int) = h) = true := by simpa using ce
  go_enter Try.func26, Try.ntmps26
  go_upto_region 1 with fail
  first | (go_region_with (first | (go_at_call 21; refine ((unhide HF) _).mono ?_; rintro e w2 ⟨a2, c2, rfl, hb2⟩; have cp := cell_call hb2 (a := p) (v := .int .i64 h) (by first | assumption | go_simp); have cq := cell_call hb2 (a := q) (v := .slice a n c) (by first | assumption | go_simp)) | (go_at_call 29; refine ((unhide HG) _).mono ?_; rintro e w3 ⟨gb, rfl, hG3, hb3⟩; have cp := cell_call hb3 (a := p) (v := .int .i64 h) (by first | assumption | go_simp); have cq := cell_call hb3 (a := q) (v := .slice a n c) (by first | assumption | go_simp)) | (go_at_call 30; refine ((unhide HO) _ _ (by first | assumption | exact hG3.drew)).mono ?_; rintro e w4 ⟨a4, c4, rfl, hl4, hb4⟩; have cp := cell_call hb4 (a := p) (v := .int .i64 h) (by first | assumption | go_simp); have cq := cell_call hb4 (a := q) (v := .slice a n c) (by first | assumption | go_simp)) | (go_at_call 28; refine ((unhide HI) _ _ _ _ _ (by first | exact Nat.le_refl _ | omega) (by first | exact hl4.ints.2 | assumption)).mono ?_; rintro e w5 ⟨a5, c5, rfl, hl5, hb5⟩; have cp := cell_call hb5 (a := p) (v := .int .i64 h) (by first | assumption | go_simp); have cq := cell_call hb5 (a := q) (v := .slice a n c) (by first | assumption | go_simp)) | (go_at_call 27; refine ((unhide HS) _ _ _ _ _ (by first | exact Nat.le_refl _ | omega) hl5.ints.2 byGG).mono ?_; rintro e w6 ⟨rfl, hb6⟩))) | fail
  all_goals
   go_wp2
   go_ret
   exact ⟨ret_bool (by rw [unhide HB]), byGG⟩
 ·have tt : ((m : Int) == h) = false := by simpa using ce
  have td : decide ((m : Int) = h) = false := by simpa using ce
  have HB : Hid (P = false) := hide ((unhide HV).trans (by simp [ce]))
  clear HV
  go_enter Try.func26, Try.ntmps26
  go_upto_region 1 with fail
  first | (go_region_with (first | (go_at_call 21; refine ((unhide HF) _).mono ?_; rintro e w2 ⟨a2, c2, rfl, hb2⟩; have cp := cell_call hb2 (a := p) (v := .int .i64 h) (by first | assumption | go_simp); have cq := cell_call hb2 (a := q) (v := .slice a n c) (by first | assumption | go_simp)) | (go_at_call 29; refine ((unhide HG) _).mono ?_; rintro e w3 ⟨gb, rfl, hG3, hb3⟩; have cp := cell_call hb3 (a := p) (v := .int .i64 h) (by first | assumption | go_simp); have cq := cell_call hb3 (a := q) (v := .slice a n c) (by first | assumption | go_simp)) | (go_at_call 30; refine ((unhide HO) _ _ (by first | assumption | exact hG3.drew)).mono ?_; rintro e w4 ⟨a4, c4, rfl, hl4, hb4⟩; have cp := cell_call hb4 (a := p) (v := .int .i64 h) (by first | assumption | go_simp); have cq := cell_call hb4 (a := q) (v := .slice a n c) (by first | assumption | go_simp)) | (go_at_call 28; refine ((unhide HI) _ _ _ _ _ (by first | exact Nat.le_refl _ | omega) (by first | exact hl4.ints.2 | assumption)).mono ?_; rintro e w5 ⟨a5, c5, rfl, hl5, hb5⟩; have cp := cell_call hb5 (a := p) (v := .int .i64 h) (by first | assumption | go_simp); have cq := cell_call hb5 (a := q) (v := .slice a n c) (by first | assumption | go_simp)) | (go_at_call 27; refine ((unhide HS) _ _ _ _ _ (by first | exact Nat.le_refl _ | omega) hl5.ints.2 byGG).mono ?_; rintro e w6 ⟨rfl, hb6⟩))) | fail
  all_goals
   go_wp2
   go_ret
   exact ⟨ret_bool (by rw [unhide HB]), byGG⟩

set_option maxRecDepth 100000 in
set_option maxHeartbeats 4000000 in
theorem discsLike_df (h : Int) (p q : Addr) (a9 : Option Addr) (c9 lo9 hi9 nz : Nat) (zs : List Int) (w : World) (hnz : Hid (nz = zs.length)) (hn2 : nz ≤ 2000000)
  (hp : w.cell? p = some (.int .i64 h)) (hq : w.cell? q = some (.slice a9 nz c9)) (hhi : hi9 ≤ w.heap.size) (HA : Hid (IntsAt w lo9 hi9 a9 nz (fun i => zs.getD i 0))) :
  Calls Try.prog 18 #[.int .i64 (-2000), .int .i64 (-3), .func (.func 26) #[] #[.pointer (some p), .pointer (some q)]] w (RetIL w (dfL h zs (dcL (-2000) (-3)) (dcL (-2000) (-3)).length)) := by
 have HC : ∀ W, Calls Try.prog 36 #[.int .i64 (-2000), .int .i64 (-3)] W (RetIL W (dcL (-2000) (-3))) := fun W => discsIn_a (-2000) (-3) W (by omega) (by omega)
 have HC := hide HC
 have hlen := dcL_len (lo := -2000) (hi := -3) (by omega) (by omega)
 have HM := fun x hx => dcL_mem (lo := -2000) (hi := -3) (x := x) hx
 generalize dcL (-2000) (-3) = ds at *
 go_enter Try.func18, Try.ntmps18
 go_wp2_with (go_at_call 36; refine ((unhide HC) _).mono ?_; rintro e wA ⟨a0, c0, rfl, hlA, hbA⟩)
 have hS : IntsAt wA (w.heap.size + 1) wA.heap.size a0 ds.length (fun i => ds.getD i 0) := hlA.ints.2.weak (by simp) (Nat.le_refl _)
 have hsd := SI.startM (S := srcI (w.heap.size + 1) wA.heap.size a0 ds.length (fun i => ds.getD i 0)) hbA hS (Nat.le_refl _)
 have hK := ints_kept (LO := (w.heap.size + 1)) (HI := wA.heap.size) (n := ds.length) (a := a0) (f := fun i => ds.getD i 0)
 obtain ⟨HI, hHI⟩ : ∃ HI, wA.heap.size = HI := ⟨_, rfl⟩
 rw [hHI] at hsd hK hS
 clear hlA hS
 go_loopw [7, 15] (fun ls is wr => ∃ (k n9 c : Nat) (a : Option Addr) (l : List Int), is = .int .i64 (k : Int) ∧ ls = .slice a n9 c ∧ k ≤ ds.length ∧ n9 ≤ k ∧ Hid (l = dfL h zs ds k) ∧ SI w (w.heap.size + 1) HI (srcI (w.heap.size + 1) HI a0 ds.length (fun i => ds.getD i 0)) wr a n9 c l) (fun _ is _ => ds.length - (intOf is).toNat)
 case atStart => exact ⟨0, 0, 0, _, _, rfl, rfl, by omega, by omega, hide rfl, hsd⟩
 case round =>
  clear hsd hbA
  obtain ⟨k, n9, c, a, l, rfl, rfl, hk, hnk, hl, hsd⟩ := hrel
  obtain ⟨w1, rfl⟩ : ∃ w1 : World, w1 = wr := ⟨_, rfl⟩
  have hz := hsd.sd.bel.size
  have hln := hsd.len
  have hlb : l.length ≤ 3000 := by have := unhide hln; omega
  by_cases c99 : k < ds.length
  ·have hci : (k : Int) < (ds.length : Int) := by omega
   obtain ⟨g0, hg0, hg2, d0⟩ := IntsAt.cell hsd.sd.src c99
   have hx := HM _ (gdm (d := 0) c99)
   obtain ⟨x, hxx⟩ : ∃ x, ds.getD k 0 = x := ⟨_, rfl⟩
   rw [hxx] at d0 hx
   subst hg0
   have hcp := cell_call hsd.sd.bel hp
   have hcq := cell_call hsd.sd.bel hq
   have HCL0 : ∀ W, Below w.heap.size w W → Calls Try.prog 26 #[.int .i64 x, .pointer (some p), .pointer (some q)] W fun e w' => e = .returned (.bool (dfP h zs x)) ∧ Below W.heap.size W w' := fun W hb => like_df x h p q a9 c9 lo9 hi9 nz zs W hx (unhide hnz) hn2 (cell_call hb hp) (cell_call hb hq) (Nat.le_trans hhi hb.size) ((unhide HA).below hb hhi)
   cases cp : dfP h zs x
   ·have NO := hide ((unhide hl).trans (df_no hxx cp).symm)
    rw [cp] at HCL0
    have HCL := hide HCL0
    clear HCL0
    clear hxx cp
    go_wp2_with (go_at_call 26; refine ((unhide HCL) _ (by first | exact hsd.sd.bel | exact byGG)).mono ?_; rintro e w2 ⟨rfl, hb2⟩; have hs2 := hsd.call hK hb2; have hz2 := hs2.sd.bel.size)
    go_roundw
    case rel => first | exact ⟨k + 1, n9, c, _, l, by first | rfl | go_num, rfl, by omega, by omega, NO, hs2⟩ | ((repeat apply Exists.intro); exact ⟨⟨k + 1, n9, c, _, l, by first | rfl | go_num, rfl, by omega, by omega, NO, hs2⟩, rfl⟩)
    case measure => simp [intOf]; omega
   ·have YES := hide ((congrArg (· ++ [x]) (unhide hl)).trans (df_yes hxx cp).symm)
    rw [cp] at HCL0
    have HCL := hide HCL0
    clear HCL0
    clear hxx cp
    go_wp2_with (first | (go_at_call 26; refine ((unhide HCL) _ (by first | exact hsd.sd.bel | exact byGG)).mono ?_; rintro e w2 ⟨rfl, hb2⟩; have hs2 := hsd.call hK hb2; have hz2 := hs2.sd.bel.size) | (at_builtin; refine app_int _ rfl (.tmp 22) (.tmp 24) rfl w.heap.size (.slice a n9 c) l x w2.heap.size rfl rfl (hs2.alloc hK _).il (by go_simp) (by omega) (by first | omega | (simp; omega)) ?_; intro g cap w3 hown hgrow hat hlt))
    go_roundw
    case rel =>
     have hs3 := (hs2.alloc hK _).app hK hown hgrow hat
     exact ⟨k + 1, l.length + 1, cap, some ⟨g, 0, none⟩, _, by go_num, rfl, by omega, by have := unhide hln; omega, YES, hs3⟩
    case measure => simp [intOf]; omega
  ·obtain rfl : k = ds.length := by omega
   go_wp2
   go_ret
   exact hsd.ret (unhide hl) rfl

set_option maxRecDepth 100000 in
set_option maxHeartbeats 4000000 in
theorem implDwf_a (g n : Nat) (z : Nat → Int) (w : World) (hn : n ≤ 2000000) (hR : RowI w g n z) : Calls Try.prog 12 #[.slice (some ⟨g, 0, none⟩) n n] w (RetInts w (dfR n z).length (fun i => (dfR n z).getD i 0) (chB z n)) := by
 have hA : IntsAt w 0 w.heap.size (some ⟨g, 0, none⟩) n (fun i => (zlD n z).getD i 0) := (hR.at (Nat.zero_le _)).congr fun i hi => (zlD_at hi).symm
 have HCH : Hid (∀ W, Below w.heap.size w W → Calls Try.prog 25 #[.slice (some ⟨g, 0, none⟩) n n] W fun e w' => e = .returned (.tuple #[.int .i64 (cprV z n), .bool (chB z n)]) ∧ W = w') := hide fun W hb => isChain_a _ n z W (hR.arg.below hb) hn
 cases h : chB z n
 ·have hL : dfR n z = [] := by simp [dfR, h]
  rw [h] at HCH
  have HL := hide hL
  clear hL hA hR h
  generalize cprV z n = P at *
  go_enter Try.func12, Try.ntmps12
  go_wp2_with (go_at_call 25; refine ((unhide HCH) _ byGG).mono ?_; rintro e w1 ⟨rfl, rfl⟩)
  go_ret2
  exact ⟨_, _, by rw [unhide HL]; rfl, .inl (by rw [unhide HL]; rfl), byGG⟩
 ·have hL : dfR n z = dfL (cprV z n) (zlD n z) (dcL (-2000) (-3)) (dcL (-2000) (-3)).length := by simp [dfR, h]
  rw [h] at HCH
  have HL := hide hL
  have HC : Hid (∀ W p q, Below w.heap.size w W → W.cell? p = some (.int .i64 (cprV z n)) → W.cell? q = some (.slice (some ⟨g, 0, none⟩) n n) → Calls Try.prog 18 #[.int .i64 (-2000), .int .i64 (-3), .func (.func 26) #[] #[.pointer (some p), .pointer (some q)]] W (RetIL W (dfL (cprV z n) (zlD n z) (dcL (-2000) (-3)) (dcL (-2000) (-3)).length))) := hide fun W p q hb hp hq =>
   discsLike_df _ p q _ n 0 w.heap.size n _ W (hide (zlD_len n z).symm) hn hp hq hb.size (hide (hA.below hb (Nat.le_refl _)))
  clear hL hA hR h
  generalize dfL (cprV z n) (zlD n z) (dcL (-2000) (-3)) (dcL (-2000) (-3)).length = zs at *
  generalize cprV z n = P at *
  go_enter Try.func12, Try.ntmps12
  go_wp2_with (first | (go_at_call 25; refine ((unhide HCH) _ byGG).mono ?_; rintro e w1 ⟨rfl, rfl⟩) | (go_at_call 18; refine ((unhide HC) _ _ _ byGG byCT byCT).mono ?_; rintro e w1 ⟨a, c, rfl, hl, hb⟩))
  go_ret2
  refine ⟨a, c, by rw [unhide HL]; rfl, ?_, byGG⟩
  rw [unhide HL]
  exact hl.ints.2.weak (by first | (simp; done) | (simp; omega) | go_size) (Nat.le_refl _)
end Go.Proofs.Ytaeabefbohlcpaa
