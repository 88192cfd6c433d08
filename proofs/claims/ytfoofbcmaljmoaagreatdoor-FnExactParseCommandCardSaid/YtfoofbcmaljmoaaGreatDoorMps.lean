/- A map keyed by strings: the kinds of commands. -/
import Derived.Test.YtfoofbcmaljmoaaGreatDoorPcq
import Derived.Maps.OwnOps
import Derived.Maps.Views
import Derived.DeepKeys4
import Derived.BigQuiet
namespace Go.Proofs.YtfoofbcmaljmoaaGreatDoor
open Go.RowKit
set_option linter.unusedVariables false
set_option linter.unusedSimpArgs false
attribute [local go_sem] q2 q3 q4 q5 q6 q7 q8 q9 q10 q11 q12

open Go.Maps (Keyed)
open Go.WideElems (Fit)
theorem sk_law : Keyed Tryz.prog 9 := Maps.string_keyed Tryz.underlying9
theorem sk_zero (w : World) : (zeroValue 3).run Tryz.prog w = .ok (.int .i64 0) w := by kernel_rfl
theorem sk_key {s : ByteArray} (h : s.size ≤ 9000000) : ∃ kl, keyOf Tryz.prog 9 (.string s) = some kl := by
 exact ⟨_, Go.WideMaps.keyOf_string_mk Tryz.underlying9 (by unfold maxLen; omega)⟩
def kdJ : Nat → ByteArray → Int
 | 0, _ => 0
 | j + 1, x => if x = kws.getD j ⟨#[]⟩ then (j : Int) + 1 else kdJ j x
theorem kdJ_5 (x : ByteArray) : kdJ 5 x = kdV x := by
 have e : ∀ j, j < 5 → kws.getD j ⟨#[]⟩ = tx (kwB ((j : Int) + 1)) := by
  intro j hj
  have : j = 0 ∨ j = 1 ∨ j = 2 ∨ j = 3 ∨ j = 4 := by omega
  rcases this with rfl | rfl | rfl | rfl | rfl <;> rfl
 unfold kdV
 simp only [kdJ]
 have n : ∀ a b : List UInt8, a ≠ b → tx a ≠ tx b := fun a b h e => h (tx_inj e)
 show (if x = tx [109, 111, 118, 101] then (4 : Int) + 1 else if x = tx [105, 110, 118] then (3 : Int) + 1 else if x = tx [109, 117, 108] then (2 : Int) + 1 else if x = tx [100, 114, 111, 112] then (1 : Int) + 1 else if x = tx [97, 100, 100] then (0 : Int) + 1 else 0) = _
 by_cases h1 : x = tx [97, 100, 100]
 ·subst h1; decide
 ·by_cases h2 : x = tx [100, 114, 111, 112]
  ·subst h2; decide
  ·by_cases h3 : x = tx [109, 117, 108]
   ·subst h3; decide
   ·by_cases h4 : x = tx [105, 110, 118]
    ·subst h4; decide
    ·by_cases h5 : x = tx [109, 111, 118, 101]
     ·subst h5; decide
     ·simp [h1, h2, h3, h4, h5]
theorem kws_sz (j : Nat) : (kws.getD j ⟨#[]⟩).size ≤ 9000000 := by
 by_cases h : j < 5
 ·have : j = 0 ∨ j = 1 ∨ j = 2 ∨ j = 3 ∨ j = 4 := by omega
  rcases this with rfl | rfl | rfl | rfl | rfl <;> decide
 ·rw [List.getD_eq_getElem?_getD, List.getElem?_eq_none (by simp [kws]; omega)]; decide
def msAt (w : World) (b j : Nat) : Prop := ∃ (n : Nat) (D : DataW Unit), w.ownsMap Tryz.prog 9 (plainElem Tryz.prog 3) b n D ∧ n ≤ j ∧ Maps.IsMap D ∧ ∀ x kl, keyOf Tryz.prog 9 (.string x) = some kl → D.atKey kl (.lit (.int .i64 0)) = .lit (.int .i64 (kdJ j x))
theorem bel_grown9 {w w' : World} (hb : Below w.heap.size w w') : w.grownBy w' none := ⟨hb.os, hb.tape, hb.output, hb.size, fun k hk _ => hb.block k hk⟩
theorem ms_kept {w w' : World} {b j : Nat} {row : Option Nat} (h : msAt w b j) (hg : w.grownBy w' row) (hne : some b ≠ row) : msAt w' b j := by
 obtain ⟨n, D, h1, h2, h3, h4⟩ := h
 exact ⟨n, D, h1.kept hg hne, h2, h3, h4⟩
theorem ms_below {w w' : World} {b j : Nat} (h : msAt w b j) (hb : Below w.heap.size w w') : msAt w' b j := ms_kept h (bel_grown9 hb) (by simp)
theorem ms_made (w : World) : msAt (w.alloc (.map #[] 0)) w.heap.size 0 :=
 ⟨0, .map [], World.ownsMap_made _ _ _ _, Nat.le_refl _, Maps.isMap_empty, fun x kl _ => rfl⟩
theorem ms_look {w : World} {b : Nat} (h : msAt w b 5) {x : ByteArray} (hs : x.size ≤ 9000000) : (Instr.lookup 32 (.map (some b)) (.string x) false).run Tryz.prog w = .ok (.int .i64 (kdV x)) w := by
 obtain ⟨n, D, h1, h2, h3, h4⟩ := h
 obtain ⟨kl, hk⟩ := sk_key hs
 obtain ⟨c, hrun, hat, _⟩ := h1.lookup_int sk_law Tryz.underlying32 Tryz.underlying3 (sk_zero w) hk
 rw [h4 x kl hk, kdJ_5] at hat
 simp only [DataW.lit.injEq, Lit.int.injEq] at hat
 rw [hrun, ← hat.2]
theorem ms_store {w : World} {b j : Nat} (h : msAt w b j) (hj : j ≤ 10) : ∃ w', (Instr.mapUpdate 32 (.map (some b)) (.string (kws.getD j ⟨#[]⟩)) (.int .i64 ((j : Int) + 1))).run Tryz.prog w = .ok () w' ∧ msAt w' b (j + 1) ∧ w.grownBy w' (some b) := by
 obtain ⟨n, D, h1, h2, h3, h4⟩ := h
 obtain ⟨kl, hkey⟩ := sk_key (kws_sz j)
 obtain ⟨w', hrun, hown, hgr⟩ := h1.update sk_law Tryz.underlying32 (by unfold maxLen; omega) hkey (plainElem_int Tryz.underlying3 (WalkArith.wf_i64 (show -9223372036854775808 ≤ (j : Int) + 1 ∧ (j : Int) + 1 ≤ 9223372036854775807 by omega)))
 refine ⟨w', hrun, ⟨n + 1, _, hown, by omega, h3.put _ _, fun x kl' hkl' => ?_⟩, hgr⟩
 rw [kdJ]
 by_cases e : x = kws.getD j ⟨#[]⟩
 ·rw [if_pos e]
  subst e
  rw [hkey] at hkl'
  cases hkl'
  exact Maps.atKey_put_same h3 (sk_law.key hkey) _ _
 ·rw [if_neg e, Maps.atKey_put_other (fun q => ?_)]
  ·exact h4 x kl' hkl'
  ·subst q
   have hv := sk_law.inj hkl' hkey
   simp only [Value.string.injEq] at hv
   exact e hv
theorem ms_all (w : World) : ∃ a b c d e : World, (Instr.mapUpdate 32 (.map (some w.heap.size)) (.string { data := #[97, 100, 100] }) (.int .i64 1)).run Tryz.prog (w.alloc (.map #[] 0)) = .ok () a ∧ (Instr.mapUpdate 32 (.map (some w.heap.size)) (.string { data := #[100, 114, 111, 112] }) (.int .i64 2)).run Tryz.prog a = .ok () b ∧ (Instr.mapUpdate 32 (.map (some w.heap.size)) (.string { data := #[109, 117, 108] }) (.int .i64 3)).run Tryz.prog b = .ok () c ∧ (Instr.mapUpdate 32 (.map (some w.heap.size)) (.string { data := #[105, 110, 118] }) (.int .i64 4)).run Tryz.prog c = .ok () d ∧ (Instr.mapUpdate 32 (.map (some w.heap.size)) (.string { data := #[109, 111, 118, 101] }) (.int .i64 5)).run Tryz.prog d = .ok () e ∧ msAt e w.heap.size 5 ∧ Below w.heap.size w e := by
 have h0 : Below w.heap.size w (w.alloc (.map #[] 0)) := below_alloc_self _ _
 obtain ⟨a, ra, ma, ga⟩ := ms_store (j := 0) (ms_made w) (by omega)
 obtain ⟨b, rb, mb, gb⟩ := ms_store (j := 1) (ma) (by omega)
 obtain ⟨c, rc, mc, gc⟩ := ms_store (j := 2) (mb) (by omega)
 obtain ⟨d, rd, md, gd⟩ := ms_store (j := 3) (mc) (by omega)
 obtain ⟨e, re, me, ge⟩ := ms_store (j := 4) (md) (by omega)
 have ha : Below w.heap.size w a := h0.grown ga (by have := h0.size; omega) (fun k hk => by cases hk; exact Nat.le_refl _)
 have hb : Below w.heap.size w b := ha.grown gb (by have := ha.size; omega) (fun k hk => by cases hk; exact Nat.le_refl _)
 have hc : Below w.heap.size w c := hb.grown gc (by have := hb.size; omega) (fun k hk => by cases hk; exact Nat.le_refl _)
 have hd : Below w.heap.size w d := hc.grown gd (by have := hc.size; omega) (fun k hk => by cases hk; exact Nat.le_refl _)
 have he : Below w.heap.size w e := hd.grown ge (by have := hd.size; omega) (fun k hk => by cases hk; exact Nat.le_refl _)
 exact ⟨a, b, c, d, e, ra, rb, rc, rd, re, me, he⟩
theorem cell_hq {w w' : World} {b j : Nat} {v : Value} (e : w'.heap[b]? = w.heap[b]?) (h : w.cell? ⟨b, j, none⟩ = some v) : w'.cell? ⟨b, j, none⟩ = some v := by
 have : w'.cell? ⟨b, j, none⟩ = w.cell? ⟨b, j, none⟩ := by simp [World.cell?, e]
 rw [this]; exact h
theorem frz_hq {w w' : World} {b j : Nat} {v : Bool} (e : w'.heap[b]? = w.heap[b]?) (h : w.frozen? ⟨b, j, none⟩ = v) : w'.frozen? ⟨b, j, none⟩ = v := by
 have : w'.frozen? ⟨b, j, none⟩ = w.frozen? ⟨b, j, none⟩ := by simp [World.frozen?, e]
 rw [this]; exact h
end Go.Proofs.YtfoofbcmaljmoaaGreatDoor
