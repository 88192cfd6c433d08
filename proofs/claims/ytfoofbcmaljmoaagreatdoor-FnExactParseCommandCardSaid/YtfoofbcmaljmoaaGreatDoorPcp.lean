/- Plain: forms read back from their texts. -/
import Derived.Test.YtfoofbcmaljmoaaGreatDoorPrq
import Derived.Test.YtfoofbcmaljmoaaGreatDoorForm
namespace Go.Proofs.YtfoofbcmaljmoaaGreatDoor
open Go.RowKit
set_option linter.unusedVariables false
set_option linter.unusedSimpArgs false

theorem sp_par (s : ByteArray) (c d : UInt8) (hc : c.toNat < 128) (hp : nmP c.toNat = true) (hd1 : d.toNat < 128) (hd2 : nmP d.toNat = true) : ∀ (ws : List (List UInt8)) (pre : List UInt8) (f : Nat) (acc : List (Nat × Nat)), ws ≠ [] → (∀ w ∈ ws, w ≠ [] ∧ ∀ x ∈ w, NmC x) → s.data.toList = pre ++ jn c ws ++ [d] →
  Lib.closeSpans s (Lib.spansFromP nmP s ((jn c ws).length + (f + 1)) pre.length none acc) = acc ++ wPl pre.length ws
 | [], _, _, _, h, _, _ => absurd rfl h
 | [x], pre, f, acc, _, h, hs => by
  have hs' : s.data.toList = pre ++ x ++ [d] := by simpa [jn] using hs
  have hz : s.size = pre.length + x.length + 1 := by rw [Lib.size_eq, hs']; simp; omega
  rw [jn, sp_first s x pre [d] (f + 1) acc (h x (by simp)).1 hs' (h x (by simp)).2]
  obtain ⟨hq, hd⟩ := dec_at (s := s) (pre := pre ++ x) (post := []) hs' hd1
  rw [List.length_append] at hq hd
  rw [Lib.spansFromP, if_pos hq, hd, if_pos hd2]
  simp only
  rw [Lib.spansFromP_end _ _ _ _ _ _ (by omega)]
  simp [Lib.closeSpans, wPl]
 | x :: y :: r, pre, f, acc, _, h, hs => by
  have hs' : s.data.toList = pre ++ x ++ c :: (jn c (y :: r) ++ [d]) := by simpa [jn] using hs
  rw [jn, show (x ++ c :: jn c (y :: r)).length + (f + 1) = x.length + (((jn c (y :: r)).length + (f + 1)) + 1) by simp; omega]
  rw [sp_first s x pre _ _ acc (h x (by simp)).1 hs' (h x (by simp)).2]
  obtain ⟨hq, hd⟩ := dec_at (s := s) (pre := pre ++ x) (post := jn c (y :: r) ++ [d]) hs' hc
  rw [List.length_append] at hq hd
  rw [Lib.spansFromP, if_pos hq, hd, if_pos hp]
  simp only
  have ih := sp_par s c d hc hp hd1 hd2 (y :: r) (pre ++ x ++ [c]) f (acc ++ [(pre.length, pre.length + x.length)]) (by simp) (fun w hw => h w (by simp [hw])) (by simpa using hs')
  simp only [List.length_append, List.length_cons, List.length_nil] at ih
  rw [show pre.length + x.length + 1 = pre.length + x.length + (0 + 1) by omega, ih]
  show _ = acc ++ ((pre.length, pre.length + x.length) :: wPl (pre.length + x.length + 1) (y :: r))
  simp
theorem wPl_ex2 (s : ByteArray) (c : UInt8) (post : List UInt8) : ∀ (ws : List (List UInt8)) (pre : List UInt8), s.data.toList = pre ++ jn c ws ++ post → (wPl pre.length ws).map (fun x => s.extract x.1 x.2) = ws.map tx
 | [], _, _ => rfl
 | [x], pre, h => by
  have e : s.extract pre.length (pre.length + x.length) = tx x := by
   rw [← tx_of (s.extract pre.length (pre.length + x.length)), Lib.extract_data, h]
   simp [jn]
  simp [wPl, e]
 | x :: y :: r, pre, h => by
  have e : s.extract pre.length (pre.length + x.length) = tx x := by
   rw [← tx_of (s.extract pre.length (pre.length + x.length)), Lib.extract_data, h]
   simp [jn]
  have ih := wPl_ex2 s c post (y :: r) (pre ++ x ++ [c]) (by simpa [jn] using h)
  rw [wPl, List.map_cons, e, List.map_cons]
  simp only [List.length_append, List.length_cons, List.length_nil] at ih
  rw [show pre.length + x.length + 1 = pre.length + x.length + (0 + 1) by omega, ih]
theorem fm_jn (a b c : Int) : fmT a b c = [40] ++ jn 44 ([a, b, c].map Lib.itoa) ++ [41] := by simp [fmT, jn]
theorem fields_fm {a b c : Int} : Lib.goFieldsP nmP (tx (fmT a b c)) = ([a, b, c].map Lib.itoa).map tx := by
 have hs : (tx (fmT a b c)).data.toList = [40] ++ jn 44 ([a, b, c].map Lib.itoa) ++ [41] := by rw [tx_list, fm_jn]
 have hz : (tx (fmT a b c)).size = (jn 44 ([a, b, c].map Lib.itoa)).length + (0 + 1) + 1 := by rw [tx_size, fm_jn]; simp
 have hw : ∀ w ∈ [a, b, c].map Lib.itoa, w ≠ [] ∧ ∀ x ∈ w, NmC x := by
  intro w hw
  obtain ⟨x, _, rfl⟩ := List.mem_map.1 hw
  exact ⟨itoa_ne x, itoa_all x⟩
 have h1 := sp_par (tx (fmT a b c)) 44 41 (by decide) (by decide) (by decide) (by decide) ([a, b, c].map Lib.itoa) [40] 0 [] (by simp) hw hs
 obtain ⟨hq, hd⟩ := dec_at (s := tx (fmT a b c)) (pre := []) (post := jn 44 ([a, b, c].map Lib.itoa) ++ [41]) (by rw [hs]; simp) (show (40 : UInt8).toNat < 128 by decide)
 unfold Lib.goFieldsP Lib.spansOfP
 simp only [List.length_nil] at hd hq
 rw [hz, Lib.spansFromP, if_pos hq, hd, if_pos (show nmP (40 : UInt8).toNat = true by decide)]
 simp only [List.length_cons, List.length_nil, Nat.zero_add] at h1 ⊢
 rw [h1, List.nil_append]
 exact wPl_ex2 _ 44 [41] _ [40] hs
theorem ii_fm {a b c : Int} (h0 : I64 a) (h1 : I64 b) (h2 : I64 c) : iiL (tx (fmT a b c)) = [a, b, c] := by
 have e : ∀ x ∈ [a, b, c], I64 x := by
  intro x hx
  simp only [List.mem_cons, List.not_mem_nil, or_false] at hx
  rcases hx with rfl | rfl | rfl <;> assumption
 unfold iiL
 rw [fields_fm, List.map_map, List.map_map, List.all_map]
 have e1 : ([a, b, c].all ((iiOk ∘ tx) ∘ Lib.itoa)) = true := List.all_eq_true.2 fun x hx => (ii_itoa (e x hx)).1
 have e2 : ([a, b, c].map ((iiV ∘ tx) ∘ Lib.itoa)) = [a, b, c] := by
  have : ∀ x ∈ [a, b, c], ((iiV ∘ tx) ∘ Lib.itoa) x = x := fun x hx => (ii_itoa (e x hx)).2
  rw [List.map_congr_left this, List.map_id']
 first
  | (rw [if_pos (by simpa [Function.comp_def] using e1)]; simpa [Function.comp_def] using e2)
  | simp_all [Function.comp_def]
def pfB (w : ByteArray) : Bool := decide ((iiL w).length = 3) && (formB ((iiL w).getD 0 0) ((iiL w).getD 1 0) ((iiL w).getD 2 0) && decide (tx (fmT ((iiL w).getD 0 0) ((iiL w).getD 1 0) ((iiL w).getD 2 0)) = w))
def pfV (w : ByteArray) : Int × Int × Int := if pfB w then ((iiL w).getD 0 0, (iiL w).getD 1 0, (iiL w).getD 2 0) else (0, 0, 0)
theorem i64m {x : Int} (h : -1000000 ≤ x ∧ x ≤ 1000000) : I64 x := ⟨by omega, by omega⟩
theorem pf_form {F : Int × Int × Int} (h : formB F.1 F.2.1 F.2.2 = true) : pfV (tx (fmT F.1 F.2.1 F.2.2)) = F := by
 obtain ⟨h0, h1, h2⟩ := form_true h
 have e := ii_fm (i64m h0) (i64m h1) (i64m h2)
 have hb : pfB (tx (fmT F.1 F.2.1 F.2.2)) = true := by
  unfold pfB
  rw [e]
  simp [h]
 unfold pfV
 rw [if_pos hb, e]
 rfl
def fiOk (l : List UInt8) : Bool := decide (2 ≤ l.length) && (decide (l.head? = some 40) && decide (l.getLast? = some 41))
def fiM (l : List UInt8) : List UInt8 := if fiOk l then (l.drop 1).take (l.length - 2) else []
def fsOk (l : List UInt8) : Bool := decide ((spl 44 [] l).length = 3) && (spl 44 [] l).all (fun x => (foI x).2)
def fsL (l : List UInt8) : List Int := if fsOk l then (spl 44 [] l).map (fun x => (foI x).1) else []
def frB (l : List UInt8) : Bool := fiOk l && fsOk (fiM l)
def frV (l : List UInt8) : Int × Int × Int := if frB l then ((fsL (fiM l)).getD 0 0, (fsL (fiM l)).getD 1 0, (fsL (fiM l)).getD 2 0) else (0, 0, 0)
theorem fr_form {F : Int × Int × Int} (h : formB F.1 F.2.1 F.2.2 = true) : frB (fmT F.1 F.2.1 F.2.2) = true ∧ frV (fmT F.1 F.2.1 F.2.2) = F := by
 obtain ⟨h0, h1, h2⟩ := form_true h
 have e := fm_jn F.1 F.2.1 F.2.2
 obtain ⟨m, hm⟩ : ∃ m, jn 44 ([F.1, F.2.1, F.2.2].map Lib.itoa) = m := ⟨_, rfl⟩
 have hok : fiOk (fmT F.1 F.2.1 F.2.2) = true := by
  rw [e, hm]
  unfold fiOk
  rw [List.getLast?_concat]
  simp
 have hmid : fiM (fmT F.1 F.2.1 F.2.2) = m := by
  unfold fiM
  rw [if_pos hok, e, hm]
  simp
 have hs : spl 44 [] m = [F.1, F.2.1, F.2.2].map Lib.itoa := by
  rw [← hm]
  refine spl_jn 44 _ (by simp) ?_
  intro w hw
  obtain ⟨x, _, rfl⟩ := List.mem_map.1 hw
  intro h9
  have := itoa_all x _ h9
  revert this
  unfold NmC DgC
  decide
 have i0 := foI_itoa h0.1 h0.2
 have i1 := foI_itoa h1.1 h1.2
 have i2 := foI_itoa h2.1 h2.2
 have hfs : fsOk m = true := by
  unfold fsOk
  rw [hs]
  simp [i0, i1, i2]
 have hfl : fsL m = [F.1, F.2.1, F.2.2] := by
  unfold fsL
  rw [if_pos hfs, hs]
  simp [i0, i1, i2]
 have hb : frB (fmT F.1 F.2.1 F.2.2) = true := by unfold frB; rw [hok, hmid, hfs]; rfl
 refine ⟨hb, ?_⟩
 unfold frV
 rw [if_pos hb, hmid, hfl]
 rfl
end Go.Proofs.YtfoofbcmaljmoaaGreatDoor
