/- l1Split. -/
import Derived.Test.YtfoofbcmaljmoaaGreatDoorEnv
namespace Go.Proofs.YtfoofbcmaljmoaaGreatDoor
open Go.RowKit
set_option linter.unusedVariables false
set_option linter.unusedSimpArgs false
attribute [local go_sem] q2 q3 q4 q5 q6 q7 q8 q9 q10 q11 q12

theorem at_drop {s : ByteArray} {k : Nat} (h : k < s.size) : s.data.toList.drop k = s[k] :: s.data.toList.drop (k + 1) := by
 have hl : k < s.data.toList.length := by rw [Array.length_toList]; exact h
 rw [List.drop_eq_getElem_cons hl]; rfl
def pc (s : ByteArray) (a b : Nat) : List UInt8 := (s.data.toList.drop a).take (b - a)
theorem pc_ex (s : ByteArray) (a b : Nat) : s.extract a b = tx (pc s a b) := by rw [← tx_of (s.extract a b), Lib.extract_data]; rfl
theorem pc_one {s : ByteArray} {a k : Nat} (ha : a ≤ k) (h : k < s.size) : pc s a (k + 1) = pc s a k ++ [s[k]] := by
 have hl : k < s.data.toList.length := by rw [Array.length_toList]; exact h
 unfold pc
 rw [show k + 1 - a = (k - a) + 1 by omega, List.take_succ_eq_append_getElem (by rw [List.length_drop]; omega)]
 congr 1
 rw [List.getElem_drop]
 have : a + (k - a) = k := by omega
 simp only [this]
 rfl
theorem pc_self (s : ByteArray) (a : Nat) : pc s a a = [] := by simp [pc]
def spR (c : UInt8) (s : ByteArray) (a k : Nat) : List ByteArray := (spl c (pc s a k) (s.data.toList.drop k)).map tx
theorem spR_hit {c : UInt8} {s : ByteArray} {a k : Nat} (h : k < s.size) (e : s[k] = c) : spR c s a k = tx (pc s a k) :: spR c s (k + 1) (k + 1) := by
 unfold spR
 rw [at_drop h, spl, if_pos e, pc_self, List.map_cons]
theorem spR_miss {c : UInt8} {s : ByteArray} {a k : Nat} (ha : a ≤ k) (h : k < s.size) (e : ¬ s[k] = c) : spR c s a k = spR c s a (k + 1) := by
 unfold spR
 rw [at_drop h, spl, if_neg e, pc_one ha h]
theorem spR_end (c : UInt8) (s : ByteArray) (a : Nat) : spR c s a s.size = [tx (pc s a s.size)] := by
 unfold spR
 have : s.data.toList.drop s.size = [] := List.drop_eq_nil_of_le (by rw [Array.length_toList]; exact Nat.le_refl _)
 rw [this, spl]; rfl
def spL (c : UInt8) (s : ByteArray) : List ByteArray := (spl c [] s.data.toList).map tx
theorem spR_start (c : UInt8) (s : ByteArray) : spR c s 0 0 = spL c s := by
 unfold spR spL; rw [pc_self]; rfl
def RetSL (w : World) (zs : List ByteArray) (e : Ending) (w' : World) : Prop := ∃ a c, e = .returned (.slice a zs.length c) ∧ SL w' w.heap.size (.slice a zs.length c) zs ∧ Below w.heap.size w w'
set_option maxRecDepth 100000 in
set_option maxHeartbeats 4000000 in
theorem l1Split_a (s : ByteArray) (c : UInt8) (hs : s.size ≤ 2100000) (w : World) : Calls Tryz.prog 13 #[.string s, .int .u8 (c.toNat : Int)] w (RetSL w (spL c s)) := by
 go_enter Tryz.func13, Tryz.ntmps13
 go_wp2_with fail
 go_loopw [5, 6, 7] (fun ls fs is wr => ∃ (a k n9 c9 : Nat) (p : Option Addr) (l : List ByteArray), fs = .int .i64 (a : Int) ∧ is = .int .i64 (k : Int) ∧ ls = .slice p n9 c9 ∧ a ≤ k ∧ k ≤ s.size ∧ n9 ≤ k ∧ Hid (n9 = l.length) ∧ Hid (l ++ spR c s a k = spL c s) ∧ SL wr w.heap.size (.slice p n9 c9) l ∧ Below w.heap.size w wr) (fun _ _ is _ => s.size - (intOf is).toNat)
 case atStart => exact ⟨0, 0, 0, 0, none, [], rfl, rfl, rfl, by omega, by omega, by omega, hide rfl, hide (by rw [spR_start]; rfl), SL.nil _ _, Below.refl _ _⟩
 case round =>
  obtain ⟨a, k, n9, c9, p, l, rfl, rfl, rfl, hak, hk, hnk, hnl, hl, hsl, hb⟩ := hrel
  obtain ⟨w1, rfl⟩ : ∃ w1 : World, w1 = wr := ⟨_, rfl⟩
  have hz := hb.size
  have hlb : l.length ≤ 3000000 := by have := unhide hnl; omega
  by_cases q : k < s.size
  ·have q2 : (k : Int) < (s.size : Int) := by omega
   by_cases e : s[k] = c
   ·have e2 : (s[k].toNat : Int) = (c.toNat : Int) := by rw [e]
    have e3 : ((s[k].toNat : Int) == (c.toNat : Int)) = true := by simpa using e2
    have HN := hide (show (l ++ [tx (pc s a k)]) ++ spR c s (k + 1) (k + 1) = spL c s by rw [← unhide hl, spR_hit q e, List.append_assoc]; rfl)
    have hx := pc_ex s a k
    obtain ⟨x, hxx⟩ : ∃ x, tx (pc s a k) = x := ⟨_, rfl⟩
    rw [hxx] at HN hx
    clear hxx e e2
    go_wp2_with (at_builtin; refine app_str _ rfl (.tmp 19) (.tmp 24) rfl w.heap.size (.slice p n9 c9) l x w1.heap.size rfl rfl (hsl.alloc _) (by go_simp) (by omega) (by first | omega | (simp; omega)) ?_; intro g cap w3 hown hgrow hat hlt)
    go_roundw
    case rel =>
     have hb3 : Below w.heap.size w w3 := (hb.alloc (by omega) _).grown hgrow (by simp; omega) (fun k hk => (hsl.lt k hk).1)
     exact ⟨k + 1, k + 1, l.length + 1, cap, some ⟨g, 0, none⟩, l ++ [x], by first | rfl | go_num, by first | rfl | go_num, rfl, by omega, by omega, by have := unhide hnl; omega, hide (by simp), HN, by simpa using hown, hb3⟩
    case measure => simp [intOf]; omega
   ·have e2 : ¬ (s[k].toNat : Int) = (c.toNat : Int) := fun h => e (UInt8.toNat_inj.1 (by omega))
    have e3 : ((s[k].toNat : Int) == (c.toNat : Int)) = false := by simpa using e2
    have HN := hide (show l ++ spR c s a (k + 1) = spL c s by rw [← unhide hl, spR_miss hak q e])
    clear e e2
    go_wp2_with fail
    go_roundw
    case rel => first | exact ⟨a, k + 1, n9, c9, p, l, rfl, by first | rfl | go_num, rfl, by omega, by omega, by omega, hnl, HN, hsl, hb⟩ | ((repeat apply Exists.intro); exact ⟨⟨a, k + 1, n9, c9, p, l, rfl, by first | rfl | go_num, rfl, by omega, by omega, by omega, hnl, HN, hsl, hb⟩, rfl⟩)
    case measure => simp [intOf]; omega
  ·obtain rfl : k = s.size := by omega
   have HN := hide (show l ++ [tx (pc s a s.size)] = spL c s by rw [← unhide hl, spR_end])
   have hx := pc_ex s a s.size
   obtain ⟨x, hxx⟩ : ∃ x, tx (pc s a s.size) = x := ⟨_, rfl⟩
   rw [hxx] at HN hx
   clear hxx
   go_wp2_with (at_builtin; refine app_str _ rfl (.tmp 28) (.tmp 32) rfl w.heap.size (.slice p n9 c9) l x w1.heap.size rfl rfl (hsl.alloc _) (by go_simp) (by omega) (by first | omega | (simp; omega)) ?_; intro g cap w3 hown hgrow hat hlt)
   go_ret
   have hb3 : Below w.heap.size w w3 := (hb.alloc (by omega) _).grown hgrow (by simp; omega) (fun k hk => (hsl.lt k hk).1)
   have hL : (spL c s).length = l.length + 1 := by rw [← unhide HN]; simp
   refine ⟨some ⟨g, 0, none⟩, cap, by first | (rw [hL]; done) | (rw [hL]; rfl) | (simp [results, hL]; done), ?_, hb3⟩
   rw [hL, ← unhide HN]
   exact hown
end Go.Proofs.YtfoofbcmaljmoaaGreatDoor
