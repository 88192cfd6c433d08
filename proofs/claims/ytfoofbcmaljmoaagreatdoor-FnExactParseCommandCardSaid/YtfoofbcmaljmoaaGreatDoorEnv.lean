/- The library's variables; Split, Atoi, FieldsFunc as the program calls them. -/
import Derived.Test.YtfoofbcmaljmoaaGreatDoorPrs
import Derived.Test.YtfoofbcmaljmoaaGreatDoorIto
import Derived.Test.YtfoofbcmaljmoaaGreatDoorStrL
import Derived.Test.YtfoofbcmaljmoaaGreatDoorSd
import Derived.Test.YtfoofbcmaljmoaaGreatDoorSh
import Derived.Shelf.Abstract
namespace Go.Proofs.YtfoofbcmaljmoaaGreatDoor
open Go.RowKit
set_option linter.unusedVariables false
set_option linter.unusedSimpArgs false
attribute [local go_sem] q2 q3 q4 q5 q6 q7 q8 q9 q10 q11 q12

def IfV (ev : Value) : Prop := ev = .nilIface ∨ ∃ te pe, ev = .iface te pe
structure Env (w : World) : Prop where
 tab : Tab w
 max : ∃ m, w.cell? ⟨0, 0, none⟩ = some (.int .i64 m)
 syn : ∃ ev, w.cell? ⟨3, 0, none⟩ = some ev ∧ IfV ev
 rng : ∃ ev, w.cell? ⟨4, 0, none⟩ = some ev ∧ IfV ev
theorem Env.below {w w' : World} (h : Env w) (hb : Below w.heap.size w w') : Env w' :=
 ⟨h.tab.below hb, let ⟨m, hm⟩ := h.max; ⟨m, cell_call hb hm⟩, let ⟨m, hm, h2⟩ := h.syn; ⟨m, cell_call hb hm, h2⟩, let ⟨m, hm, h2⟩ := h.rng; ⟨m, cell_call hb hm, h2⟩⟩
theorem sl_lit (w : World) (zs : List ByteArray) (h : zs.length ≤ maxLen) : SL (w.alloc (.cells (zs.map Value.string).toArray 9)) w.heap.size (.slice (some ⟨w.heap.size, 0, none⟩) zs.length zs.length) zs := by
 have := World.ownsRow_lit (base := w.heap.size) (e := 9) (size := 1) w (zs.map Value.string).toArray zs.length (Nat.le_refl _) h (by simp)
 simpa [SL] using this
theorem split_a (s : ByteArray) (hs : s.size ≤ 9000000) (w : World) (hE : Env w) :
  Calls Tryz.prog 8 #[.string s, .string (tx [32])] w fun e w' => e = .returned (.slice (some ⟨w.heap.size, 0, none⟩) (spW s).length (spW s).length) ∧ SL w' w.heap.size (.slice (some ⟨w.heap.size, 0, none⟩) (spW s).length (spW s).length) (spW s) ∧ Below w.heap.size w w' := by
 obtain ⟨m, hm⟩ := hE.max
 have h1 : 1 ≤ (tx [32]).size := by rw [tx_size]; decide
 have hl : (spW s).length = Lib.countB s (tx [32]) + 1 := Lib.splitB_all (tx [32]) h1 0 _ s rfl
 have hc := Lib.countB_le (tx [32]) h1 s.size s (Nat.le_refl _)
 refine (Any.strings_Split Tryz.lays146 (by kernel_rfl) s (tx [32]) m w (by omega) hm h1).mono ?_
 rintro e w' ⟨rfl, rfl⟩
 rw [hl]
 refine ⟨rfl, ?_, below_alloc_self _ _⟩
 rw [← hl]
 exact sl_lit w (spW s) (by rw [hl]; unfold maxLen; omega)
theorem spW_len (s : ByteArray) : (spW s).length ≤ s.size + 1 := by
 have h1 : 1 ≤ (tx [32]).size := by rw [tx_size]; decide
 have hl : (spW s).length = Lib.countB s (tx [32]) + 1 := Lib.splitB_all (tx [32]) h1 0 _ s rfl
 have hc := Lib.countB_le (tx [32]) h1 s.size s (Nat.le_refl _)
 omega
theorem atoi_ok (s : ByteArray) (hs : s.size ≤ 9000000) (w : World) (h : iiOk s = true) :
  Calls Tryz.prog 37 #[.string s] w fun e w' => e = .returned (.tuple #[.int .i64 (iiV s), .nilIface]) ∧ Below w.heap.size w w' := by
 unfold iiOk at h
 unfold iiV
 cases ha : Lib.atoiAll s.data.toList
 ·rename_i v
  refine (Any.strconv_Atoi_ok Tryz.laysC172 s (by omega) v ha w).mono ?_
  rintro e w' ⟨rfl, hw⟩
  refine ⟨rfl, ?_⟩
  rcases hw with rfl | ⟨t, rfl⟩
  ·exact Below.refl _ _
  ·exact Lib.bytesWorld_below _ _ _
 ·rw [ha] at h; cases h
 ·rw [ha] at h; cases h
theorem atoi_no (s : ByteArray) (hs : s.size ≤ 9000000) (w : World) (hE : Env w) (h : iiOk s = false) :
  Calls Tryz.prog 37 #[.string s] w fun e w' => ∃ (x : Int) (T N : Nat), e = .returned (.tuple #[.int .i64 x, .iface T (.pointer (some ⟨N, 0, none⟩))]) ∧ Below w.heap.size w w' := by
 unfold iiOk at h
 obtain ⟨ev, hv, he⟩ := hE.syn
 obtain ⟨ev2, hv2, he2⟩ := hE.rng
 cases ha : Lib.atoiAll s.data.toList
 ·rw [ha] at h; cases h
 ·refine (Any.strconv_Atoi_syntax Tryz.laysC172 s (by omega) ha ev w hv he).mono ?_
  rintro e w' ⟨N, rfl, _, _, hb⟩
  exact ⟨_, _, N, rfl, hb⟩
 ·refine (Any.strconv_Atoi_range Tryz.laysC172 s (by omega) ha ev2 w hv2 he2).mono ?_
  rintro e w' ⟨N, rfl, _, _, hb⟩
  exact ⟨_, _, N, rfl, hb⟩
set_option maxRecDepth 100000 in
theorem clo_a (x : Nat) (w : World) (h : x ≤ 1114111) : Calls Tryz.prog 36 #[.int .i32 (x : Int)] w fun e w' => e = .returned (.bool (nmP x)) ∧ w = w' := by
 by_cases q : x = 45
 ·subst q
  go_enter Tryz.func36, Tryz.ntmps36
  go_wp2
  go_ret
  exact ⟨rfl, rfl⟩
 ·have q1 : ¬ (x : Int) = 45 := by omega
  have q2 : ((x : Int) != 45) = true := by simpa using q1
  by_cases q3 : x < 48
  ·have q4 : (x : Int) < 48 := by omega
   have hv : Hid (nmP x = true) := hide (by simp [nmP, q, q3])
   go_enter Tryz.func36, Tryz.ntmps36
   go_wp2
   go_ret
   exact ⟨ret_bool (by rw [unhide hv]), rfl⟩
  ·have q4 : ¬ (x : Int) < 48 := by omega
   by_cases q5 : 57 < x
   ·have q6 : (57 : Int) < (x : Int) := by omega
    have hv : Hid (nmP x = true) := hide (by simp [nmP, q, q3, q5])
    go_enter Tryz.func36, Tryz.ntmps36
    go_wp2
    go_ret
    exact ⟨ret_bool (by rw [unhide hv]), rfl⟩
   ·have q6 : ¬ (57 : Int) < (x : Int) := by omega
    have hv : Hid (nmP x = false) := hide (by simp [nmP, q, q3, q5])
    go_enter Tryz.func36, Tryz.ntmps36
    go_wp2
    go_ret
    exact ⟨ret_bool (by rw [unhide hv]), rfl⟩
theorem fields_a (s : ByteArray) (hs : s.size ≤ 9000000) (w : World) :
  Calls Tryz.prog 35 #[.string s, .func (.func 36) #[] #[]] w fun e w' => ∃ A, e = .returned (.slice (some ⟨A, 0, none⟩) (Lib.goFieldsP nmP s).length (Lib.goFieldsP nmP s).length) ∧ SL w' w.heap.size (.slice (some ⟨A, 0, none⟩) (Lib.goFieldsP nmP s).length (Lib.goFieldsP nmP s).length) (Lib.goFieldsP nmP s) ∧ Below w.heap.size w w' := by
 refine (Any.strings_FieldsFunc_runes Tryz.lays229 36 #[] (enters_of Tryz.func36 (by kernel_rfl) rfl) nmP s w (by omega) ?_ (by kernel_rfl) (by kernel_rfl)).mono ?_
 ·intro W x hx hb
  show Calls Tryz.prog 36 #[.int .i32 (x : Int)] W _
  refine (clo_a x W hx).mono ?_
  rintro e w' ⟨rfl, rfl⟩
  exact ⟨rfl, 0, rfl⟩
 ·rintro e w' ⟨A, rfl, hA, hown, hb⟩
  exact ⟨A, rfl, hown, hb⟩
def srcStr (LO HI : Nat) (a : Option Addr) (n : Nat) (f : Nat → ByteArray) (W : World) : Prop := StrsAt W LO HI a n f
theorem strs_kept {LO HI n : Nat} {a : Option Addr} {f : Nat → ByteArray} : Kept LO HI (srcStr LO HI a n f) := fun w w' hk h => StrsAt.keep h hk
theorem StrsAt.cell {w : World} {lo hi n : Nat} {a : Option Addr} {f : Nat → ByteArray} (h : StrsAt w lo hi a n f) {k : Nat} (hk : k < n) : ∃ g, a = some ⟨g, 0, none⟩ ∧ g < w.heap.size ∧ w.cell? ⟨g, k, none⟩ = some (.string (f k)) := by
 rcases h with rfl | ⟨g, cap, F, rfl, h1, h2, h3, h4, h5⟩
 ·omega
 ·exact ⟨g, rfl, h4.lt, by rw [h4.cell (by omega), h5 k hk]⟩
theorem fields_sz (s : ByteArray) : ∀ x ∈ Lib.goFieldsP nmP s, x.size ≤ s.size := by
 intro x hx
 unfold Lib.goFieldsP at hx
 obtain ⟨y, _, rfl⟩ := List.mem_map.1 hx
 rw [ByteArray.size_extract]
 omega
end Go.Proofs.YtfoofbcmaljmoaaGreatDoor
