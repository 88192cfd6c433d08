/- The orders of the classes out of the table: grOrder, grOrders. A list of lists of forms, each in a block of its own. -/
import Derived.Test.YtaeabefbohlcpaaGreatGtt
import Derived.Test.YtaeabefbohlcpaaGreatFaw
import Derived.Deep.RegionLaw
namespace Go.Proofs.YtaeabefbohlcpaaGreat
open Go.RowKit
set_option linter.unusedVariables false
set_option linter.unusedSimpArgs false
attribute [local go_sem] q2 q3 q4 q5 q6 q7 q8 q9 q10 q11 q12

theorem orL_get {d : Int} {k : Nat} (hk : k < (rfL d).length) : (orL d).getD k 0 = ((orN d ((rfL d).getD k (0, 0, 0)) : Nat) : Int) := by
 unfold orL
 rw [List.getD_eq_getElem?_getD, List.getElem?_map, List.getElem?_eq_getElem hk, List.getD_eq_getElem?_getD, List.getElem?_eq_getElem hk]; rfl
set_option maxRecDepth 100000 in
set_option maxHeartbeats 4000000 in
theorem grOrder_a (d : Int) (HI g n : Nat) (T : Nat → Nat → Nat) (fs : List (Int × Int × Int)) (i : Nat) (w : World) (hR : RfS d fs) (hG : tabS HI g n T w) (hn : Hid (n = fs.length)) (hi : i < n)
  (HT : ∀ i j, i < fs.length → j < fs.length → T i j < fs.length ∧ fs.getD (T i j) (0, 0, 0) = cmp (fs.getD i (0, 0, 0)) (fs.getD j (0, 0, 0))) {N : Nat} (hN : orN d (fs.getD i (0, 0, 0)) = N) :
  Calls Tryz.prog 71 #[.slice (some ⟨g, 0, none⟩) n n, .int .i64 (i : Int)] w fun e w' => e = .returned (.int .i64 (N : Int)) ∧ w = w' := by
 have hif : i < fs.length := by rw [← unhide hn]; exact hi
 have hor := (or_is (hR.inn i hif).1)
 rw [hN] at hor
 obtain ⟨n1, n2, -, -⟩ := hor
 have HR := hide hR
 have HNN := hide hN
 have HT := hide HT
 have HG := hide hG.2
 have hst := hR.one hif
 have hn6 : n ≤ 676 := by have := hR.len; have := unhide hn; omega
 clear hN hG
 go_enter Tryz.func71, Tryz.ntmps71
 go_wp2
 go_loop [5, 6] (fun ks ps => ∃ m p : Nat, ks = .int .i64 (m : Int) ∧ ps = .int .i64 (p : Int) ∧ 1 ≤ m ∧ m ≤ N ∧ p < n ∧ Hid (fs.getD p (0, 0, 0) = poN d (fs.getD i (0, 0, 0)) m)) (fun ks _ => N - (intOf ks).toNat)
 case atStart => exact ⟨1, i, rfl, rfl, by omega, n1, hi, hide hst⟩
 case round =>
  clear hst
  obtain ⟨m, p, rfl, rfl, m1, m2, hp, he⟩ := hrel
  have hpf : p < fs.length := by rw [← unhide hn]; exact hp
  have hnz := (unhide HR).nz hif hpf (unhide he) m1 (by rw [unhide HNN]; exact m2)
  rw [unhide HNN] at hnz
  by_cases cm : m = N
  ·have hp0 := hnz.2 cm
   clear hnz
   subst hp0 cm
   go_wp2
   go_ret
   exact ⟨rfl, rfl⟩
  ·have hmN : m < N := by omega
   have hp0 : ((p : Int) != 0) = true := by
    have : ¬ p = 0 := fun e => cm (hnz.1 e)
    simp; omega
   obtain ⟨gp, gp1, gp2, gp3⟩ := unhide HG p hp
   have q3 := gp3 i hi
   obtain ⟨hr, hre⟩ := unhide HT p i hpf hif
   obtain ⟨r, hrr⟩ : ∃ r, T p i = r := ⟨_, rfl⟩
   rw [hrr] at q3 hr hre
   have hrn : r < n := by rw [unhide hn]; exact hr
   have HRE : Hid (fs.getD r (0, 0, 0) = poN d (fs.getD i (0, 0, 0)) (m + 1)) := hide (by rw [hre, unhide he]; rfl)
   have hpn : (p : Int) < (n : Int) := by omega
   have hin : (i : Int) < (n : Int) := by omega
   clear hnz hre hrr cm gp3 hr
   go_wp2
   go_round
   case rel => first | exact ⟨m + 1, r, by first | rfl | go_num, rfl, by omega, by omega, hrn, HRE⟩ | ((repeat apply Exists.intro); exact ⟨⟨m + 1, r, by first | rfl | go_num, rfl, by omega, by omega, hrn, HRE⟩, rfl⟩)
   case measure => simp [intOf]; omega
set_option maxRecDepth 100000 in
set_option maxHeartbeats 4000000 in
theorem grOrders_a (d : Int) (HI g n : Nat) (T : Nat → Nat → Nat) (w : World) (hd : negB d = true) (hG : tabS HI g n T w) (hHI : HI ≤ w.heap.size) (hn : Hid (n = (rfL d).length))
  (HT : ∀ i j, i < (rfL d).length → j < (rfL d).length → T i j < (rfL d).length ∧ (rfL d).getD (T i j) (0, 0, 0) = cmp ((rfL d).getD i (0, 0, 0)) ((rfL d).getD j (0, 0, 0))) :
  Calls Tryz.prog 56 #[.slice (some ⟨g, 0, none⟩) n n] w (RetIL w (orL d)) := by
 have hR := rfs hd
 have hn6 : n ≤ 676 := by have := hR.len; have := unhide hn; omega
 have HC : Hid (∀ (W : World) (k : Nat), tabS HI g n T W → k < n → Calls Tryz.prog 71 #[.slice (some ⟨g, 0, none⟩) n n, .int .i64 (k : Int)] W fun e w' => e = .returned (.int .i64 ((orN d ((rfL d).getD k (0, 0, 0)) : Nat) : Int)) ∧ W = w') := hide fun W k h1 h2 =>
  grOrder_a d HI g n T (rfL d) k W hR h1 hn h2 HT rfl
 have HOG : Hid (∀ k, k < n → (orL d).getD k 0 = ((orN d ((rfL d).getD k (0, 0, 0)) : Nat) : Int)) := hide fun k hk => orL_get (by rw [← unhide hn]; exact hk)
 have HOL : Hid ((orL d).length = n) := hide (by unfold orL; rw [List.length_map]; exact (unhide hn).symm)
 obtain ⟨OL, hOL⟩ : ∃ OL, orL d = OL := ⟨_, rfl⟩
 rw [hOL] at HOG HOL ⊢
 clear hOL hR HT
 obtain ⟨j0, hj0, hy0, hy1, hy2⟩ := info_parts Tryz.infoInt'
 go_enter Tryz.func56, Tryz.ntmps56
 go_wp2_with (at_make; refine wpList_make_full _ rfl (.tmp 6) (.tmp 6) 22 rfl w.heap.size 3 j0 (.int .i64 0) 1 Tryz.underlying22 hj0 hy0 hy1 .i64 .i64 _ _ n rfl rfl rfl rfl (by rw [hy2]; omega) (by unfold maxLen; omega) (Nat.le_refl _) ?_; intro w3 hown3 hgrow3)
 have hrow3 := IL.of_row hown3 (fun j hj => made_at hj)
 have hb3 : Below w.heap.size w w3 := (Below.refl _ _).grown hgrow3 (Nat.le_refl _) (fun k hk => by cases hk)
 clear hown3 hgrow3
 go_loopw [10] (fun is wr => ∃ (k : Nat) (l : List Int), is = .int .i64 (k : Int) ∧ k ≤ n ∧ Hid (l.length = n) ∧ IL wr w.heap.size (.slice (some ⟨w.heap.size, 0, none⟩) n n) l ∧ Hid (∀ j, j < k → l.getD j 0 = OL.getD j 0) ∧ Below w.heap.size w wr) (fun is _ => n - (intOf is).toNat)
 case atStart => exact ⟨0, _, rfl, by omega, hide (by simp), hrow3, hide (fun j h => absurd h (by omega)), hb3⟩
 case round =>
  clear hrow3 hb3
  obtain ⟨k, l, rfl, hk, hll, hrow, hdone, hb⟩ := hrel
  obtain ⟨w1, rfl⟩ : ∃ w1 : World, w1 = wr := ⟨_, rfl⟩
  by_cases ck : k < n
  ·have hci : (k : Int) < (n : Int) := by omega
   have q1 := IL.cellAt hrow (j := k) (by rw [unhide hll]; exact ck)
   have q2 := IL.frozenAt hrow k
   have hT1 : tabS HI g n T w1 := tab_kept w w1 (fun j _ h => hb.block j (by omega)) hG
   have HCk := unhide HC w1 k hT1 ck
   have hok := unhide HOG k ck
   obtain ⟨v, hv⟩ : ∃ v : Int, ((orN d ((rfL d).getD k (0, 0, 0)) : Nat) : Int) = v := ⟨_, rfl⟩
   rw [hv] at HCk hok
   have HCk := hide HCk
   have HOK := hide hok
   clear hv hok
   generalize l.getD k 0 = v8 at *
   go_wp2_with (go_at_call 71; refine (unhide HCk).mono ?_; rintro e w2 ⟨rfl, rfl⟩)
   go_roundw
   case rel =>
    obtain ⟨hrow7, hg7⟩ := IL.stored hrow k v
    have hlo : w.heap.size ≤ w1.heap.size := hb.size
    have hl7 : Hid ((l.set k v).length = n) := hide (by rw [List.length_set]; exact unhide hll)
    have hd7 : Hid (∀ j', j' < k + 1 → (l.set k v).getD j' 0 = OL.getD j' 0) := hide fun j' hj' => by
     have hll9 := unhide hll
     rw [List.getD_eq_getElem?_getD, List.getElem?_set]
     by_cases e : k = j'
     ·subst e; rw [if_pos rfl, if_pos (by omega), unhide HOK]; rfl
     ·rw [if_neg e, ← List.getD_eq_getElem?_getD]; exact unhide hdone j' (by omega)
    have hb7 := hb.grown hg7 hlo (fun j hj => by cases hj; exact Nat.le_refl _)
    first | exact ⟨k + 1, _, by first | rfl | go_num, by omega, hl7, hrow7, hd7, hb7⟩ | ((repeat apply Exists.intro); exact ⟨⟨k + 1, _, by first | rfl | go_num, by omega, hl7, hrow7, hd7, hb7⟩, rfl⟩)
   case measure => simp [intOf]; omega
  ·obtain rfl : k = n := by omega
   have hle : l = OL := ints_eq ((unhide hll).trans (unhide HOL).symm) (fun i hi => unhide hdone i (by rw [unhide hll] at hi; exact hi))
   go_wp2
   go_ret
   exact ⟨some ⟨w.heap.size, 0, none⟩, _, by rw [unhide HOL]; rfl, by rw [unhide HOL, ← hle]; exact hrow, hb⟩
end Go.Proofs.YtaeabefbohlcpaaGreat
namespace Go.Proofs.YtaeabefbohlcpaaGreat
open Go.RowKit
set_option linter.unusedVariables false
set_option linter.unusedSimpArgs false
attribute [local go_sem] q2 q3 q4 q5 q6 q7 q8 q9 q10 q11 q12

abbrev GR := Nat × Nat × Nat × Int × Int × Int
def gr0 : GR := (0, 0, 0, 0, 0, 0)
def rsV (r : GR) : Value := .slice (some ⟨r.1, 0, none⟩) r.2.1 r.2.2.1
def GIn (w W : World) (HI K : Nat) (r : GR) : Prop := HI ≤ r.1 ∧ r.2.1 ≤ K ∧ ∃ l : List (Int × Int × Int), r.2.1 = l.length ∧ 0 < l.length ∧ l.getD 0 (0, 0, 0) = r.2.2.2 ∧ FL W w.heap.size (.slice (some ⟨r.1, 0, none⟩) r.2.1 r.2.2.1) l
structure GX (w : World) (HI K : Nat) (S : World → Prop) (wr : World) (a : Option Addr) (n9 c : Nat) (rs : List GR) : Prop where
 sd : SD 53 1 w w.heap.size HI S wr (.slice a n9 c) n9 (rs.map rsV)
 len : Hid (n9 = rs.length)
 inn : ∀ j, j < rs.length → GIn w wr HI K (rs.getD j gr0)
 dis : ∀ i j, i < rs.length → j < rs.length → i ≠ j → (rs.getD i gr0).1 ≠ (rs.getD j gr0).1
theorem GIn.call {w W W' : World} {HI K : Nat} {r : GR} (h : GIn w W HI K r) (hb : Below W.heap.size W W') : GIn w W' HI K r := by
 obtain ⟨h1, h2, l, h3, h4, h5, h6⟩ := h
 exact ⟨h1, h2, l, h3, h4, h5, h6.below hb⟩
theorem GX.call {w wr w2 : World} {HI K n9 c : Nat} {S : World → Prop} {a : Option Addr} {rs : List GR} (h : GX w HI K S wr a n9 c rs) (hK : Kept w.heap.size HI S) (hb : Below wr.heap.size wr w2) : GX w HI K S w2 a n9 c rs :=
 ⟨h.sd.call hK hb, h.len, fun j hj => (h.inn j hj).call hb, h.dis⟩
theorem FL.row {w : World} {lo g n c : Nat} {l : List (Int × Int × Int)} (h : FL w lo (.slice (some ⟨g, 0, none⟩) n c) l) : ∃ cur, w.heap[g]? = some (.cells cur 67 (0, 0)) := by
 rcases h.2 with ⟨h1, h2⟩ | ⟨g', cap, cur, h1, h2, h3, h4⟩
 ·cases h1
 ·simp only [Value.slice.injEq, Option.some.injEq, Addr.mk.injEq] at h1
  obtain ⟨⟨rfl, _⟩, _⟩ := h1
  exact ⟨cur, h3⟩
theorem row_ne {w : World} {lo lo2 g n c n9 : Nat} {v : Value} {vs : List Value} {l : List (Int × Int × Int)} (h : FL w lo (.slice (some ⟨g, 0, none⟩) n c) l) (h2 : w.ownsRow lo2 53 1 v n9 vs) : v.ownBlock ≠ some g := by
 intro e
 obtain ⟨cur, hc⟩ := h.row
 rcases h2.2 with ⟨q1, q2⟩ | ⟨g', cap, cur', q1, q2, q3, q4⟩
 ·rw [q1] at e; cases e
 ·rw [q1] at e
  simp only [Value.ownBlock, Option.some.injEq] at e
  subst e
  rw [q3] at hc
  simp only [Option.some.injEq, Obj.cells.injEq] at hc
  exact absurd hc.2.1 (by decide)
theorem GX.at {w wr : World} {HI K n9 c : Nat} {S : World → Prop} {a : Option Addr} {rs : List GR} (h : GX w HI K S wr a n9 c rs) {i : Nat} (hi : i < n9) :
  ∃ go, a = some ⟨go, 0, none⟩ ∧ go < wr.heap.size ∧ wr.cell? ⟨go, i, none⟩ = some (.slice (some ⟨(rs.getD i gr0).1, 0, none⟩) (rs.getD i gr0).2.1 (rs.getD i gr0).2.2.1) ∧ wr.frozen? ⟨go, i, none⟩ = false ∧ 0 < (rs.getD i gr0).2.1 ∧ (rs.getD i gr0).1 < wr.heap.size ∧
   wr.cell? ⟨(rs.getD i gr0).1, 0, none⟩ = some (.int .i64 (rs.getD i gr0).2.2.2.1) ∧ wr.cell? ⟨(rs.getD i gr0).1, 1, none⟩ = some (.int .i64 (rs.getD i gr0).2.2.2.2.1) ∧ wr.cell? ⟨(rs.getD i gr0).1, 2, none⟩ = some (.int .i64 (rs.getD i gr0).2.2.2.2.2) := by
 have hl := unhide h.len
 obtain ⟨h1, h2, l, h3, h4, h5, h6⟩ := h.inn i (by omega)
 obtain ⟨go, cap, e⟩ : ∃ g cap, Value.slice a n9 c = .slice (some ⟨g, 0, none⟩) n9 cap := by
  rcases h.sd.own.2 with ⟨q1, q2⟩ | ⟨g, cap, cur, q1, _⟩
  ·omega
  ·exact ⟨g, cap, q1⟩
 simp only [Value.slice.injEq] at e
 obtain ⟨rfl, -, rfl⟩ := e
 obtain ⟨g3, q1, q2, q3, q4, q5⟩ := h6.at.2.cells h4
 simp only [Option.some.injEq, Addr.mk.injEq] at q1
 obtain ⟨rfl, _⟩ := q1
 rw [h5] at q3 q4 q5
 refine ⟨go, rfl, (World.ownsRow.lt h.sd.own go rfl).2, ?_, World.ownsRow.frozenAt h.sd.own i, by omega, q2, by simpa using q3, by simpa using q4, by simpa using q5⟩
 rw [World.ownsRow.cellAt h.sd.own i (by omega), List.getElem?_map, List.getElem?_eq_getElem (by omega), List.getD_eq_getElem?_getD, List.getElem?_eq_getElem (by omega)]; rfl
theorem gdA {α : Type} {l : List α} {x d : α} {i : Nat} : (l ++ [x]).getD i d = if i = l.length then x else if i < l.length then l.getD i d else d := by
 by_cases q : i < l.length
 ·rw [if_neg (by omega), if_pos q, List.getD_eq_getElem?_getD, List.getElem?_append_left q, ← List.getD_eq_getElem?_getD]
 ·by_cases e : i = l.length
  ·subst e; rw [if_pos rfl, List.getD_eq_getElem?_getD]; simp
  ·rw [if_neg e, if_neg q, List.getD_eq_getElem?_getD, List.getElem?_eq_none (by simp; omega)]; rfl
theorem gdS {α : Type} {l : List α} {x d : α} {i j : Nat} (hi : i < l.length) : (l.set i x).getD j d = if i = j then x else l.getD j d := by
 simp only [List.getD_eq_getElem?_getD, List.getElem?_set]
 by_cases q : i = j
 ·rw [if_pos q, if_pos hi, if_pos q]; rfl
 ·rw [if_neg q, if_neg q]
theorem GX.new {w wr w2 : World} {HI K n9 c g cap : Nat} {S : World → Prop} {a : Option Addr} {rs : List GR} {x y z : Int} {o2 : Obj} (h : GX w HI K S wr a n9 c rs) (hK : Kept w.heap.size HI S) (hK1 : 1 ≤ K)
  (hown : w2.ownsRow w.heap.size 53 1 (.slice (some ⟨g, 0, none⟩) (n9 + 1) cap) (n9 + 1) (rs.map rsV ++ [.slice (some ⟨wr.heap.size, 0, none⟩) 1 1]))
  (hgrow : ((wr.alloc (.cells #[.int .i64 x, .int .i64 y, .int .i64 z] 67)).alloc o2).grownBy w2 (Value.slice a n9 c).ownBlock) (hat : (Value.slice a n9 c).ownBlock = some g ∨ g = ((wr.alloc (.cells #[.int .i64 x, .int .i64 y, .int .i64 z] 67)).alloc o2).heap.size) :
  GX w HI K S w2 (some ⟨g, 0, none⟩) (n9 + 1) cap (rs ++ [(wr.heap.size, 1, 1, x, y, z)]) := by
 have hl := unhide h.len
 have hs : w.heap.size ≤ wr.heap.size := h.sd.bel.size
 have hH := h.sd.hi
 have hlt : ∀ r : GR, GIn w wr HI K r → r.1 < wr.heap.size := fun r hr => by
  obtain ⟨h1, h2, l, h3, h4, h5, h6⟩ := hr
  exact (FL.lt h6 r.1 rfl).2
 have hnew : GIn w w2 HI K (wr.heap.size, 1, 1, x, y, z) := by
  refine ⟨hH, hK1, [(x, y, z)], rfl, by simp, rfl, ?_⟩
  have q1 : FL (wr.alloc (.cells #[.int .i64 x, .int .i64 y, .int .i64 z] 67)) w.heap.size (.slice (some ⟨wr.heap.size, 0, none⟩) 1 1) [(x, y, z)] := World.ownsRow_lit (size := 3) wr #[.int .i64 x, .int .i64 y, .int .i64 z] 1 hs (by decide) rfl
  refine World.ownsRow.kept (q1.alloc o2) hgrow (.inr fun e => ?_)
  have := World.ownsRow.lt h.sd.own wr.heap.size e.symm
  omega
 have hold : ∀ r, GIn w wr HI K r → GIn w w2 HI K r := fun r hr => by
  obtain ⟨h1, h2, l, h3, h4, h5, h6⟩ := hr
  exact ⟨h1, h2, l, h3, h4, h5, World.ownsRow.kept ((h6.alloc _).alloc o2) hgrow (.inr fun e => row_ne h6 h.sd.own e.symm)⟩
 refine ⟨?_, hide (by simp; omega), fun j hj => ?_, fun i j hi hj hij => ?_⟩
 ·rw [List.map_append]
  exact ((h.sd.alloc hK _).alloc hK _).app hK hown hgrow hat
 ·rw [gdA]
  split
  ·exact hnew
  ·rw [if_pos (by simp at hj; omega)]
   exact hold _ (h.inn j (by simp at hj; omega))
 ·simp only [List.length_append, List.length_cons, List.length_nil] at hi hj
  rw [gdA, gdA]
  by_cases ei : i = rs.length
  ·rw [if_pos ei, if_neg (by omega), if_pos (by omega)]
   have := hlt _ (h.inn j (by omega))
   simp only; omega
  ·by_cases ej : j = rs.length
   ·rw [if_neg ei, if_pos (by omega), if_pos ej]
    have := hlt _ (h.inn i (by omega))
    simp only; omega
   ·rw [if_neg ei, if_pos (by omega), if_neg ej, if_pos (by omega)]
    exact h.dis i j (by omega) (by omega) hij
theorem GX.set {w wr W w7 : World} {HI K n9 c g cap i go : Nat} {S : World → Prop} {a : Option Addr} {rs : List GR} {l : List (Int × Int × Int)} {f : Int × Int × Int} (h : GX w HI K S wr a n9 c rs) (hK : Kept w.heap.size HI S) (hi : i < n9) (ha : a = some ⟨go, 0, none⟩) (hb : Below wr.heap.size wr W)
  (hl : l.getD 0 (0, 0, 0) = (rs.getD i gr0).2.2.2) (hl0 : 0 < l.length) (hln : (rs.getD i gr0).2.1 = l.length)
  (hown : FL w7 w.heap.size (.slice (some ⟨g, 0, none⟩) (l.length + 1) cap) (l ++ [f])) (hgrow : W.grownBy w7 (some (rs.getD i gr0).1)) (hat : (rs.getD i gr0).1 = g ∨ g = W.heap.size) :
  GX w HI (K + 1) S (w7.setCell ⟨go, i, none⟩ (.slice (some ⟨g, 0, none⟩) (l.length + 1) cap)) a n9 c (rs.set i (g, l.length + 1, cap, (rs.getD i gr0).2.2.2)) := by
 subst ha
 have hL := unhide h.len
 have hW := h.call hK hb
 obtain ⟨r1, r2, lr, r3, r4, r5, r6⟩ := hW.inn i (by omega)
 have hne0 := row_ne r6 hW.sd.own
 have out7 : w7.ownsRow w.heap.size 53 1 (.slice (some ⟨go, 0, none⟩) n9 c) n9 (rs.map rsV) := World.ownsRow.kept hW.sd.own hgrow (.inr hne0)
 obtain ⟨out8, grow8⟩ := World.ownsRow.stored out7 i (.slice (some ⟨g, 0, none⟩) (l.length + 1) cap)
 have hsz := hgrow.size
 have hgo : go ≠ g := by
  intro e
  exact row_ne hown out7 (by rw [← e]; rfl)
 have hgo2 : go < wr.heap.size := (World.ownsRow.lt h.sd.own go rfl).2
 have hgo3 := h.sd.far go rfl
 have hgo4 := (World.ownsRow.lt h.sd.own go rfl).1
 have hil : i < rs.length := by omega
 have b7 : Below w.heap.size w w7 := hW.sd.bel.grown hgrow hW.sd.bel.size (fun k hk => by cases hk; have := r1; have := (FL.lt r6 _ rfl).1; omega)
 have hold : ∀ j, j < rs.length → j ≠ i → GIn w (w7.setCell ⟨go, i, none⟩ (.slice (some ⟨g, 0, none⟩) (l.length + 1) cap)) HI (K + 1) (rs.getD j gr0) := fun j hj hji => by
  obtain ⟨s1, s2, ls, s3, s4, s5, s6⟩ := hW.inn j hj
  refine ⟨s1, by omega, ls, s3, s4, s5, ?_⟩
  have t7 : FL w7 w.heap.size (.slice (some ⟨(rs.getD j gr0).1, 0, none⟩) (rs.getD j gr0).2.1 (rs.getD j gr0).2.2.1) ls := World.ownsRow.kept s6 hgrow (.inr fun e => by
   simp only [Value.ownBlock, Option.some.injEq] at e
   exact h.dis j i hj hil hji e)
  exact World.ownsRow.kept t7 grow8 (.inr fun e => row_ne t7 out7 e.symm)
 have hnew : GIn w (w7.setCell ⟨go, i, none⟩ (.slice (some ⟨g, 0, none⟩) (l.length + 1) cap)) HI (K + 1) (g, l.length + 1, cap, (rs.getD i gr0).2.2.2) := by
  refine ⟨?_, by simp only; omega, l ++ [f], by simp, by simp, ?_, World.ownsRow.kept hown grow8 (.inr fun e => row_ne hown out7 e.symm)⟩
  ·rcases hat with e | e
   ·simp only; omega
   ·have := hW.sd.hi; simp only; omega
  ·rw [List.getD_eq_getElem?_getD, List.getElem?_append_left hl0, ← List.getD_eq_getElem?_getD]; exact hl
 refine ⟨⟨?_, h.sd.far, b7.grown grow8 b7.size (fun k hk => by cases hk; exact hgo4), ?_, ?_⟩, hide (by rw [List.length_set]; exact hL), fun j hj => ?_, fun i' j hi' hj hij => ?_⟩
 ·have e : (rs.set i (g, l.length + 1, cap, (rs.getD i gr0).2.2.2)).map rsV = (rs.map rsV).set i (.slice (some ⟨g, 0, none⟩) (l.length + 1) cap) := by rw [List.map_set]; rfl
  rw [e]; exact out8
 ·refine hK _ _ (fun k k1 k2 => ?_) hW.sd.src
  have q1 := grow8.block k (Nat.lt_of_lt_of_le k2 (Nat.le_trans hW.sd.hi hsz)) (fun e => by simp only [Option.some.injEq] at e; omega)
  have q2 := hgrow.block k (Nat.lt_of_lt_of_le k2 hW.sd.hi) (fun e => by simp only [Option.some.injEq] at e; omega)
  exact q1.trans q2
 ·exact Nat.le_trans hW.sd.hi (Nat.le_trans hsz grow8.size)
 ·rw [List.length_set] at hj
  rw [gdS hil]
  split
  ·exact hnew
  ·rename_i e; exact hold j hj (fun q => e q.symm)
 ·rw [List.length_set] at hi' hj
  have key : ∀ j, j < rs.length → j ≠ i → (rs.getD j gr0).1 ≠ g := fun j hj hji e => by
   obtain ⟨s1, s2, ls, s3, s4, s5, s6⟩ := hW.inn j hj
   have hlt : (rs.getD j gr0).1 < W.heap.size := (FL.lt s6 _ rfl).2
   rcases hat with q | q
   ·exact h.dis j i hj hil hji (by rw [e, q])
   ·omega
  rw [gdS hil, gdS hil]
  by_cases e1 : i = i'
  ·rw [if_pos e1, if_neg (by omega)]
   exact fun e => key j hj (by omega) e.symm
  ·by_cases e2 : i = j
   ·rw [if_neg e1, if_pos e2]
    exact key i' hi' (by omega)
   ·rw [if_neg e1, if_neg e2]
    exact h.dis i' j hi' hj hij
theorem GX.up {w wr : World} {HI K n9 c : Nat} {S : World → Prop} {a : Option Addr} {rs : List GR} (h : GX w HI K S wr a n9 c rs) : GX w HI (K + 1) S wr a n9 c rs :=
 ⟨h.sd, h.len, fun j hj => by
  obtain ⟨h1, h2, h3⟩ := h.inn j hj
  exact ⟨h1, by omega, h3⟩, h.dis⟩
theorem step_app_FL {ops : Array Oper} {o : Oper} {a : Act} {w : World} {K : Act → World → Prop} {Q : Exit → Act → World → Prop} {E : Prop} (hgd : o.guard = none) (s x : Operand)
  (ho : o.op = .call { callee := .builtin .append, args := #[s, x], argTypes := #[53, 53] })
  (lo : Nat) (v : Value) (n : Nat) (fs : List (Int × Int × Int)) (x0 x1 x2 : Int) (B : Nat) (hn : Hid (n = fs.length)) (hs : a.eval s = v) (hx : a.eval x = .slice (some ⟨B, 0, none⟩) 1 1)
  (hown : FL w lo v fs) (hB0 : w.cell? ⟨B, 0, none⟩ = some (.int .i64 x0)) (hB1 : w.cell? ⟨B, 1, none⟩ = some (.int .i64 x1)) (hB2 : w.cell? ⟨B, 2, none⟩ = some (.int .i64 x2)) (hlen : n ≤ 100000000) (hlo : lo ≤ w.heap.size)
  (hK : ∀ g cap w', FL w' lo (.slice (some ⟨g, 0, none⟩) (n + 1) cap) (fs ++ [(x0, x1, x2)]) → w.grownBy w' v.ownBlock → (v.ownBlock = some g ∨ g = w.heap.size) → g < w'.heap.size →
   K (a.put o.dst (.slice (some ⟨g, 0, none⟩) (n + 1) cap)) w') :
  if Region.wanted o (yielded ops a.tmps) = true then Oper.wp Tryz.prog o a w K Q else E := by
 have hw : Region.wanted o (yielded ops a.tmps) = true := by simp [Region.wanted, hgd]
 have hn := unhide hn
 subst hn
 rw [if_pos hw]
 obtain ⟨i0, hi, hz0, hz1, hz2⟩ := info_parts Tryz.infoForm
 refine wp_append_lies w s x 53 ho lo 67 i0 (.agg #[.int .i64 0, .int .i64 0, .int .i64 0]) 3 24 Tryz.underlying53 hi hz0 hz1 hz2 rfl (by decide) v fs.length _ hs hown ⟨B, 0, none⟩ 1 1 ([x0, x1, x2].map (Value.int .i64)) hx rfl ?_ (by simp [Value.oneCell']) (by decide) (by unfold maxLen; omega) (by omega) hlo _ rfl ?_
 ·intro j u hu
  match j with
  | 0 => simp at hu; subst hu; simpa [Addr.add] using hB0
  | 1 => simp at hu; subst hu; simpa [Addr.add] using hB1
  | 2 => simp at hu; subst hu; simpa [Addr.add] using hB2
  | j + 3 => simp at hu
 ·intro g cap w' h1 h2 h3 h4
  refine hK g cap w' ?_ h2 h3 h4
  unfold FL FormL
  rw [flat3_append, List.length_append, List.map_append]
  exact h1
end Go.Proofs.YtaeabefbohlcpaaGreat
