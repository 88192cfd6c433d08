/- Plain: texts taken apart: split at a byte, fields of digits, numbers read. -/
import Derived.Test.YtfoofbcmaljmoaaGreatDoorTxp
import Derived.Lib.Split
import Derived.Lib.Join
import Derived.Lib.FieldsP
import Derived.Lib.AtoiAll
import Derived.Laws.RangeString
namespace Go.Proofs.YtfoofbcmaljmoaaGreatDoor
open Go.RowKit
set_option linter.unusedVariables false
set_option linter.unusedSimpArgs false

theorem pu_app : ∀ (x y : List UInt8) (a v : Nat), Lib.parseUint10 a x = .ok v → Lib.parseUint10 a (x ++ y) = Lib.parseUint10 v y
 | [], y, a, v, h => by
  simp only [Lib.parseUint10] at h
  injection h with h
  rw [h]; rfl
 | c :: r, y, a, v, h => by
  simp only [Lib.parseUint10, List.cons_append] at h ⊢
  split at h
  ·rename_i hc
   rw [if_pos hc]
   split at h
   ·cases h
   ·rename_i h1
    rw [if_neg h1]
    split at h
    ·cases h
    ·rename_i h2
     rw [if_neg h2]
     exact pu_app r y _ v h
  ·cases h
theorem dgb_nat {d : Nat} (h : d < 10) : (dgb d).toNat = 48 + d := by
 unfold dgb
 simp only [UInt8.toNat_ofNat']
 omega
theorem pu_dec : ∀ (u : Nat), u < 18446744073709551616 → Lib.parseUint10 0 (Lib.decDigits u) = .ok u := by
 intro u
 induction u using Nat.strongRecOn with
 | _ u ih =>
  intro hu
  by_cases q : u < 10
  ·rw [dg_small q]
   simp only [Lib.parseUint10, dgb_nat q]
   rw [if_pos (by omega), if_neg (by omega), if_neg (by omega)]
   congr 1
   omega
  ·rw [dg_next q rfl rfl, pu_app _ _ _ _ (ih (u / 10) (by omega) (by omega))]
   simp only [Lib.parseUint10, dgb_nat (show u % 10 < 10 by omega)]
   rw [if_pos (by omega), if_neg (by omega), if_neg (by omega)]
   congr 1
   omega
def DgC (c : UInt8) : Prop := 48 ≤ c.toNat ∧ c.toNat ≤ 57
theorem dec_all : ∀ (u : Nat), ∀ c ∈ Lib.decDigits u, DgC c := by
 intro u
 induction u using Nat.strongRecOn with
 | _ u ih =>
  intro c hc
  by_cases q : u < 10
  ·rw [dg_small q] at hc
   simp at hc
   subst hc
   have := dgb_nat q
   exact ⟨by omega, by omega⟩
  ·rw [dg_next q rfl rfl] at hc
   rcases List.mem_append.1 hc with hc | hc
   ·exact ih _ (by omega) c hc
   ·simp at hc
    subst hc
    have := dgb_nat (show u % 10 < 10 by omega)
    exact ⟨by omega, by omega⟩
theorem dec_ne (u : Nat) : Lib.decDigits u ≠ [] := by
 by_cases q : u < 10
 ·rw [dg_small q]; simp
 ·rw [dg_next q rfl rfl]; simp
def NmC (c : UInt8) : Prop := c.toNat = 45 ∨ DgC c
theorem itoa_all (x : Int) : ∀ c ∈ Lib.itoa x, NmC c := by
 intro c hc
 by_cases q : 0 ≤ x
 ·rw [itoa_pos q] at hc; exact .inr (dec_all _ c hc)
 ·rw [itoa_neg' (by omega)] at hc
  rcases List.mem_cons.1 hc with rfl | hc
  ·exact .inl rfl
  ·exact .inr (dec_all _ c hc)
theorem itoa_ne (x : Int) : Lib.itoa x ≠ [] := by
 by_cases q : 0 ≤ x
 ·rw [itoa_pos q]; exact dec_ne _
 ·rw [itoa_neg' (by omega)]; simp
theorem atoi_itoa {x : Int} (h : I64 x) : Lib.atoiAll (Lib.itoa x) = .ok x := by
 obtain ⟨h0, h1⟩ := h
 by_cases q : 0 ≤ x
 ·rw [itoa_pos q]
  obtain ⟨c, r, hc⟩ : ∃ c r, Lib.decDigits x.toNat = c :: r := by
   cases hd : Lib.decDigits x.toNat with
   | nil => exact absurd hd (dec_ne _)
   | cons c r => exact ⟨c, r, rfl⟩
  have hg : DgC c := dec_all x.toNat c (by rw [hc]; simp)
  have hp : Lib.parseMag (c :: r) = .ok x.toNat := by
   unfold Lib.parseMag
   rw [if_neg (by simp), ← hc]
   exact pu_dec _ (by omega)
  unfold DgC at hg
  rw [hc]
  unfold Lib.atoiAll
  simp only
  rw [if_neg (by omega), hp]
  simp only
  rw [if_neg (by omega), if_neg (by omega), if_neg (by omega)]
  congr 1
  omega
 ·rw [itoa_neg' (by omega)]
  unfold Lib.atoiAll
  simp only
  have hp : Lib.parseMag (Lib.decDigits x.natAbs) = .ok x.natAbs := by
   unfold Lib.parseMag
   rw [if_neg (dec_ne _)]
   exact pu_dec _ (by omega)
  have e : (45 : UInt8).toNat = 45 := rfl
  rw [if_pos (.inr e), hp]
  simp only
  rw [if_neg (by rw [e]; omega), if_neg (by omega), if_pos e]
  congr 1
  omega
def jn (c : UInt8) : List (List UInt8) → List UInt8
 | [] => []
 | [x] => x
 | x :: y :: r => x ++ c :: jn c (y :: r)
theorem jn_join (c : UInt8) : ∀ ws, Lib.join ws [c] = jn c ws
 | [] => rfl
 | [x] => by simp [Lib.join, List.intercalate, jn]
 | x :: y :: r => by
  have ih := jn_join c (y :: r)
  rw [jn, ← ih]
  simp [Lib.join, List.intercalate, List.intersperse]
theorem occ_no (c : UInt8) : ∀ (w : List UInt8) (j : Nat), c ∉ w → Lib.occAt w [c] j = false
 | [], j, _ => by simp [Lib.occAt]
 | b :: w, 0, h => by
  simp only [List.mem_cons, not_or] at h
  simp [Lib.occAt, List.isPrefixOf, h.1]
 | b :: w, j + 1, h => by
  simp only [List.mem_cons, not_or] at h
  have := occ_no c w j h.2
  simpa [Lib.occAt] using this
theorem index_miss (c : UInt8) (w : List UInt8) (h : c ∉ w) : Lib.index w [c] = -1 := Lib.index_none fun j _ => occ_no c w j h
theorem index_hit (c : UInt8) (w r : List UInt8) (h : c ∉ w) : Lib.index (w ++ c :: r) [c] = w.length := by
 refine Lib.index_first (by simp) (by simp [Lib.occAt]) fun j hj => ?_
 unfold Lib.occAt
 rw [List.drop_append_of_le_length (by omega)]
 have : w.drop j ≠ [] := fun e => by have := congrArg List.length e; simp at this; omega
 cases hd : w.drop j with
 | nil => exact absurd hd this
 | cons b t =>
  have hb : b ∈ w := List.mem_of_mem_drop (i := j) (by rw [hd]; simp)
  have : c ≠ b := fun e => h (e ▸ hb)
  simp [List.isPrefixOf, this]
theorem split_jn (c : UInt8) : ∀ (ws : List (List UInt8)), ws ≠ [] → (∀ w ∈ ws, c ∉ w) → Lib.count (jn c ws) [c] + 1 = ws.length ∧ Lib.splitK [c] 0 (Lib.count (jn c ws) [c]) (jn c ws) = ws
 | [], h, _ => absurd rfl h
 | [x], _, h => by
  have hm := index_miss c x (h x (by simp))
  rw [jn, Lib.count_miss hm]
  exact ⟨rfl, rfl⟩
 | x :: y :: r, _, h => by
  have hx := h x (by simp)
  have hi := index_hit c x (jn c (y :: r)) hx
  obtain ⟨h1, h2⟩ := split_jn c (y :: r) (by simp) (fun w hw => h w (by simp [hw]))
  have hd : (x ++ c :: jn c (y :: r)).drop (x.length + [c].length) = jn c (y :: r) := by
   rw [List.drop_append]; simp
  have hc : Lib.count (jn c (x :: y :: r)) [c] = Lib.count (jn c (y :: r)) [c] + 1 := by
   rw [jn, Lib.count_hit (by simp) hi, hd]; omega
  refine ⟨by rw [hc, h1]; simp, ?_⟩
  rw [hc, Lib.splitK, jn, hi, if_neg (by first | (simp; done) | (simp; omega))]
  have e : ((x.length : Nat) : Int).toNat = x.length := by simp
  rw [e, hd, h2]
  simp
def spl (c : UInt8) : List UInt8 → List UInt8 → List (List UInt8)
 | cur, [] => [cur]
 | cur, b :: l => if b = c then cur :: spl c [] l else spl c (cur ++ [b]) l
theorem spl_word (c : UInt8) : ∀ (w cur r : List UInt8), c ∉ w → spl c cur (w ++ r) = spl c (cur ++ w) r
 | [], cur, r, _ => by simp
 | b :: w, cur, r, h => by
  simp only [List.mem_cons, not_or] at h
  rw [List.cons_append, spl, if_neg (fun e => h.1 e.symm), spl_word c w _ r h.2]
  simp
theorem spl_jn (c : UInt8) : ∀ (ws : List (List UInt8)), ws ≠ [] → (∀ w ∈ ws, c ∉ w) → spl c [] (jn c ws) = ws
 | [], h, _ => absurd rfl h
 | [x], _, h => by
  have := spl_word c x [] [] (h x (by simp))
  simpa [jn, spl] using this
 | x :: y :: r, _, h => by
  rw [jn, spl_word c x [] _ (h x (by simp)), List.nil_append, spl, if_pos rfl, spl_jn c (y :: r) (by simp) (fun w hw => h w (by simp [hw]))]
theorem spl_len (c : UInt8) : ∀ (l cur : List UInt8), (spl c cur l).length ≤ l.length + 1
 | [], _ => by simp [spl]
 | b :: l, cur => by
  rw [spl]
  split
  ·have := spl_len c l []; simp; omega
  ·have := spl_len c l (cur ++ [b]); simp; omega
def nmP (x : Nat) : Bool := !(x == 45) && (decide (x < 48) || decide (57 < x))
theorem nmP_no {c : UInt8} (h : NmC c) : nmP c.toNat = false := by
 unfold NmC DgC at h
 unfold nmP
 rcases h with h | h
 ·simp [h]
 ·have e1 : ¬ c.toNat < 48 := by omega
  have e2 : ¬ 57 < c.toNat := by omega
  simp [e1, e2]
theorem get_at {s : ByteArray} {pre post : List UInt8} {c : UInt8} (h : s.data.toList = pre ++ c :: post) : ∃ hp : pre.length < s.size, s[pre.length]'hp = c := by
 have hs : s.size = (pre ++ c :: post).length := by rw [Lib.size_eq, h]
 have hp : pre.length < s.size := by rw [hs]; simp
 refine ⟨hp, ?_⟩
 have h1 : s[pre.length]'hp = s.data.toList[pre.length]'(by rw [h]; simp) := rfl
 rw [h1]
 simp [h]
theorem dec_at {s : ByteArray} {pre post : List UInt8} {c : UInt8} (h : s.data.toList = pre ++ c :: post) (hc : c.toNat < 128) : pre.length < s.size ∧ Utf8.decode s pre.length = (c.toNat, 1) := by
 obtain ⟨hp, e⟩ := get_at h
 refine ⟨hp, ?_⟩
 have := decode_ascii s pre.length hp (by rw [e]; exact hc)
 rw [e] at this
 exact this
theorem nm_asc {c : UInt8} (h : NmC c) : c.toNat < 128 := by unfold NmC DgC at h; omega
theorem sp_word (s : ByteArray) : ∀ (w pre post : List UInt8) (f a : Nat) (acc : List (Nat × Nat)), s.data.toList = pre ++ w ++ post → (∀ c ∈ w, NmC c) →
  Lib.spansFromP nmP s (w.length + f) pre.length (some a) acc = Lib.spansFromP nmP s f (pre.length + w.length) (some a) acc
 | [], pre, post, f, a, acc, _, _ => by simp
 | c :: w, pre, post, f, a, acc, h, hc => by
  have hc0 := hc c (by simp)
  obtain ⟨hp, hd⟩ := dec_at (s := s) (pre := pre) (post := w ++ post) (by simpa using h) (nm_asc hc0)
  have ih := sp_word s w (pre ++ [c]) post f a acc (by simpa using h) (fun x hx => hc x (by simp [hx]))
  rw [show (c :: w).length + f = (w.length + f) + 1 by simp; omega, Lib.spansFromP, if_pos hp, hd, nmP_no hc0]
  simp only [List.length_append, List.length_cons, List.length_nil] at ih
  rw [if_neg (by simp)]
  simp only
  rw [ih]
  congr 1
  simp; omega
theorem sp_first (s : ByteArray) (w pre post : List UInt8) (f : Nat) (acc : List (Nat × Nat)) (hw : w ≠ []) (h : s.data.toList = pre ++ w ++ post) (hc : ∀ c ∈ w, NmC c) :
  Lib.spansFromP nmP s (w.length + f) pre.length none acc = Lib.spansFromP nmP s f (pre.length + w.length) (some pre.length) acc := by
 cases w with
 | nil => exact absurd rfl hw
 | cons c w =>
  have hc0 := hc c (by simp)
  obtain ⟨hp, hd⟩ := dec_at (s := s) (pre := pre) (post := w ++ post) (by simpa using h) (nm_asc hc0)
  have ih := sp_word s w (pre ++ [c]) post f pre.length acc (by simpa using h) (fun x hx => hc x (by simp [hx]))
  rw [show (c :: w).length + f = (w.length + f) + 1 by simp; omega, Lib.spansFromP, if_pos hp, hd, nmP_no hc0]
  simp only [List.length_append, List.length_cons, List.length_nil] at ih
  rw [if_neg (by simp)]
  simp only
  rw [ih]
  congr 1
  simp; omega
def wPl (pos : Nat) : List (List UInt8) → List (Nat × Nat)
 | [] => []
 | x :: r => (pos, pos + x.length) :: wPl (pos + x.length + 1) r
theorem sp_jn (s : ByteArray) (c : UInt8) (hc : c.toNat < 128) (hp : nmP c.toNat = true) : ∀ (ws : List (List UInt8)) (pre : List UInt8) (f : Nat) (acc : List (Nat × Nat)), ws ≠ [] → (∀ w ∈ ws, w ≠ [] ∧ ∀ x ∈ w, NmC x) → s.data.toList = pre ++ jn c ws →
  Lib.closeSpans s (Lib.spansFromP nmP s ((jn c ws).length + f) pre.length none acc) = acc ++ wPl pre.length ws
 | [], _, _, _, h, _, _ => absurd rfl h
 | [x], pre, f, acc, _, h, hs => by
  have hs' : s.data.toList = pre ++ x ++ [] := by simpa [jn] using hs
  have hz : s.size = pre.length + x.length := by rw [Lib.size_eq, hs']; simp
  rw [jn, sp_first s x pre [] f acc (h x (by simp)).1 hs' (h x (by simp)).2, Lib.spansFromP_end _ _ _ _ _ _ (by omega)]
  simp [Lib.closeSpans, wPl, hz]
 | x :: y :: r, pre, f, acc, _, h, hs => by
  have hs' : s.data.toList = pre ++ x ++ c :: jn c (y :: r) := by simpa [jn] using hs
  rw [jn, show (x ++ c :: jn c (y :: r)).length + f = x.length + (((jn c (y :: r)).length + f) + 1) by simp; omega]
  rw [sp_first s x pre _ _ acc (h x (by simp)).1 hs' (h x (by simp)).2]
  obtain ⟨hq, hd⟩ := dec_at (s := s) (pre := pre ++ x) (post := jn c (y :: r)) hs' hc
  rw [List.length_append] at hq hd
  rw [Lib.spansFromP, if_pos hq, hd, if_pos hp]
  simp only
  have ih := sp_jn s c hc hp (y :: r) (pre ++ x ++ [c]) f (acc ++ [(pre.length, pre.length + x.length)]) (by simp) (fun w hw => h w (by simp [hw])) (by simpa using hs')
  simp only [List.length_append, List.length_cons, List.length_nil] at ih
  rw [show pre.length + x.length + 1 = pre.length + x.length + (0 + 1) by omega, ih]
  show _ = acc ++ ((pre.length, pre.length + x.length) :: wPl (pre.length + x.length + 1) (y :: r))
  simp
theorem wPl_ex (s : ByteArray) (c : UInt8) : ∀ (ws : List (List UInt8)) (pre : List UInt8), s.data.toList = pre ++ jn c ws → (wPl pre.length ws).map (fun x => s.extract x.1 x.2) = ws.map tx
 | [], _, _ => rfl
 | [x], pre, h => by
  have e : s.extract pre.length (pre.length + x.length) = tx x := by
   rw [← tx_of (s.extract pre.length (pre.length + x.length)), Lib.extract_data, h]
   simp [jn]
  simp [wPl, e]
 | x :: y :: r, pre, h => by
  have e : s.extract pre.length (pre.length + x.length) = tx x := by
   rw [← tx_of (s.extract pre.length (pre.length + x.length)), Lib.extract_data, h]
   simp [jn]
  have ih := wPl_ex s c (y :: r) (pre ++ x ++ [c]) (by simpa [jn] using h)
  rw [wPl, List.map_cons, e, List.map_cons]
  simp only [List.length_append, List.length_cons, List.length_nil] at ih
  rw [show pre.length + x.length + 1 = pre.length + x.length + (0 + 1) by omega, ih]
theorem fields_jn (c : UInt8) (hc : c.toNat < 128) (hp : nmP c.toNat = true) (ws : List (List UInt8)) (hn : ws ≠ []) (h : ∀ w ∈ ws, w ≠ [] ∧ ∀ x ∈ w, NmC x) : Lib.goFieldsP nmP (tx (jn c ws)) = ws.map tx := by
 have hs : (tx (jn c ws)).data.toList = [] ++ jn c ws := by rw [tx_list]; rfl
 have h1 := sp_jn (tx (jn c ws)) c hc hp ws [] 0 [] hn h hs
 unfold Lib.goFieldsP Lib.spansOfP
 rw [tx_size, show (jn c ws).length = (jn c ws).length + 0 by rfl]
 simp only [List.length_nil] at h1
 rw [h1, List.nil_append]
 exact wPl_ex _ c ws [] hs
theorem closeSpans_len (s : ByteArray) (x : List (Nat × Nat) × Option Nat) : (Lib.closeSpans s x).length ≤ x.1.length + 1 := by
 unfold Lib.closeSpans
 split <;> simp
theorem spans_len (p : Nat → Bool) (s : ByteArray) : ∀ (f pos : Nat) (st : Option Nat) (acc : List (Nat × Nat)), (Lib.spansFromP p s f pos st acc).1.length ≤ acc.length + f
 | 0, pos, st, acc => by simp [Lib.spansFromP]
 | f + 1, pos, st, acc => by
  unfold Lib.spansFromP
  split
  ·split
   ·split
    ·have := spans_len p s f (pos + (Utf8.decode s pos).2) none (acc ++ [(‹Nat›, pos)])
     simp at this ⊢; omega
    ·have := spans_len p s f (pos + (Utf8.decode s pos).2) none acc
     omega
   ·split
    ·have := spans_len p s f (pos + (Utf8.decode s pos).2) (some ‹Nat›) acc
     omega
    ·have := spans_len p s f (pos + (Utf8.decode s pos).2) (some pos) acc
     omega
  ·simp
theorem fields_len (p : Nat → Bool) (s : ByteArray) : (Lib.goFieldsP p s).length ≤ s.size + 1 := by
 unfold Lib.goFieldsP Lib.spansOfP
 rw [List.length_map]
 have h1 := closeSpans_len s (Lib.spansFromP p s s.size 0 none [])
 have h2 := spans_len p s s.size 0 none []
 simp at h2
 omega
end Go.Proofs.YtfoofbcmaljmoaaGreatDoor
