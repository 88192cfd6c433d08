/-
  withEntry.
-/
import Derived.Test.YtligbfegafkpjaaWo
namespace Go.Proofs.Ytligbfegafkpjaa
open Go.RowKit
set_option linter.unusedVariables false
set_option linter.unusedSimpArgs false
attribute [local go_sem] q2 q3 q4 q5 q6 q7 q8 q9 q10 q11 q12

def weS (E : Nat → Ent) (e : Ent) : Nat → List Ent × Bool
  | 0 => ([], false)
  | k + 1 => if (weS E e k).2 = false ∧ lessB e.n (E k).n = true then ((weS E e k).1 ++ [e] ++ [E k], true) else ((weS E e k).1 ++ [E k], (weS E e k).2)
def weL (E : Nat → Ent) (e : Ent) (m : Nat) : List Ent := if (weS E e m).2 then (weS E e m).1 else (weS E e m).1 ++ [e]
theorem weS_put {E : Nat → Ent} {e : Ent} {k : Nat} (h : (weS E e k).2 = false) (h2 : lessB e.n (E k).n = true) : weS E e (k + 1) = ((weS E e k).1 ++ [e] ++ [E k], true) := by rw [weS, if_pos ⟨h, h2⟩]
theorem weS_wait {E : Nat → Ent} {e : Ent} {k : Nat} (h2 : lessB e.n (E k).n = false) : weS E e (k + 1) = ((weS E e k).1 ++ [E k], (weS E e k).2) := by rw [weS, if_neg (by rw [h2]; simp)]
theorem weS_done {E : Nat → Ent} {e : Ent} {k : Nat} (h : (weS E e k).2 = true) : weS E e (k + 1) = ((weS E e k).1 ++ [E k], true) := by rw [weS, if_neg (by rw [h]; simp), h]
theorem weS_len (E : Nat → Ent) (e : Ent) : ∀ k, (weS E e k).1.length ≤ 2 * k
  | 0 => Nat.le_refl _
  | k + 1 => by
    have := weS_len E e k
    rw [weS]
    split <;> simp only [List.length_append, List.length_cons, List.length_nil] <;> omega
theorem cell_grown {w w' : World} {b o : Nat} {v : Value} {row : Option Nat} (h : w.cell? ⟨b, o, none⟩ = some v) (hg : w.grownBy w' row) (hne : ∀ k, row = some k → k ≠ b) : w'.cell? ⟨b, o, none⟩ = some v := by
  rw [hg.cell_far ⟨b, o, none⟩ (World.block_lt_of_cell? _ _ h) (fun e => hne b e.symm rfl)]; exact h
theorem EntAt.grown {w w' : World} {b o : Nat} {e : Ent} {row : Option Nat} (h : EntAt w b o e) (hg : w.grownBy w' row) (hne : ∀ k, row = some k → k ≠ b) : EntAt w' b o e :=
  ⟨cell_grown h.1 hg hne, cell_grown h.2.1 hg hne, cell_grown h.2.2.1 hg hne, cell_grown h.2.2.2 hg hne⟩
theorem EntAt.alloc {w : World} {b o : Nat} {e : Ent} (h : EntAt w b o e) (ob : Obj) : EntAt (w.alloc ob) b o e :=
  h.below (below_alloc_self _ _)
/-- The own block of a list: the first one, or one from hi on. -/
def OwnOk (s hi : Nat) (v : Value) : Prop := ∀ k, v.ownBlock = some k → k = s ∨ hi ≤ k
theorem OwnOk.next {s hi H : Nat} {v v' : Value} (h : OwnOk s hi v) (hat : v'.ownBlock = v.ownBlock ∨ v'.ownBlock = some H) (hH : hi ≤ H) : OwnOk s hi v' := fun k hk => by
  rcases hat with e | e
  · exact h k (e ▸ hk)
  · rw [e] at hk; cases hk; exact .inr hH

theorem EL.low {w : World} {lo lo' : Nat} {v : Value} {zs : List Ent} (h : EL w lo v zs) (hl : lo' ≤ lo) : EL w lo' v zs :=
  ⟨h.1, h.2.imp id fun ⟨g, cap, cur, h1, h2, h3⟩ => ⟨g, cap, cur, h1, Nat.le_trans hl h2, h3⟩⟩
theorem EntsAt.open {w : World} {lo hi n : Nat} {a : Option Addr} {E : Nat → Ent} (h : EntsAt w lo hi a n E) : ∃ g, (0 < n → a = some ⟨g, 0, none⟩ ∧ lo ≤ g ∧ g < hi) ∧ ∀ i, i < n → EntAt w g (i * 4) (E i) := by
  rcases h with h | ⟨g, cap, F, ha, h1, h2, h3, h4, h5⟩
  · exact ⟨0, fun q => absurd q (by omega), fun i hi => absurd hi (by omega)⟩
  · refine ⟨g, fun _ => ⟨ha, h1, h2⟩, fun i hi => ?_⟩
    obtain ⟨e0, e1, e2, e3⟩ := elE_at E i
    refine ⟨?_, ?_, ?_, ?_⟩
    · rw [← e0, ← h5 _ (by omega)]; exact h4.cell (by omega)
    · rw [← e1, ← h5 _ (by omega)]; exact h4.cell (by omega)
    · rw [← e2, ← h5 _ (by omega)]; exact h4.cell (by omega)
    · rw [← e3, ← h5 _ (by omega)]; exact h4.cell (by omega)
set_option maxRecDepth 100000 in
set_option maxHeartbeats 8000000 in
theorem withEntry_a (g n c : Nat) (E : Nat → Ent) (nm : ByteArray) (x y z : Int) (w : World) (hr : ∀ i, i < n → EntAt w g (i * 4) (E i)) (hn : n ≤ 2000000) :
    Calls Try.prog 78 #[.slice (some ⟨g, 0, none⟩) n c, .string nm, .agg #[.int .i64 x, .int .i64 y, .int .i64 z]] w fun e w' => ∃ v, e = .returned v ∧ EL w' w.heap.size v (weL (atE (woL E nm n)) ⟨nm, (x, y, z)⟩ (woL E nm n).length) ∧ Below w.heap.size w w' := by
  have HR := hide hr
  have hml := woL_len E nm n
  clear hr
  go_enter Try.func78, Try.ntmps78
  go_wp2_with fail
  refine (withoutEntry_a g n c E nm _ (fun i hi => (unhide HR i hi).below byGG) hn).mono ?_
  rintro en0 w1 ⟨v1, rfl, hD, hb1⟩
  have hcs9 := cells_calls hb1 [⟨w.heap.size, 0, none⟩, ⟨w.heap.size, 1, none⟩, ⟨w.heap.size, 2, none⟩] [.int .i64 x, .int .i64 y, .int .i64 z] (by refine ⟨?_, ?_, ?_, trivial⟩ <;> exact byCT)
  have hzs9 := blocks_calls hb1 [w.heap.size] (by refine ⟨?_, trivial⟩ <;> first | with_reducible assumption | omega | (simp; omega) | (simp; done))
  try clear c00 c01 c02
  obtain ⟨c00, c01, c02, -⟩ := hcs9
  obtain ⟨z0, -⟩ := hzs9
  have hs1 := hb1.size
  have hl1 : EL w1 (w.heap.size + 1) (.slice (some ⟨w.heap.size + 1, 0, none⟩) 0 0) [] := by
    have h := (EL.made (w.alloc (.cells #[.int .i64 x, .int .i64 y, .int .i64 z] 37)) (w.heap.size + 1) (by simp)).below hb1
    simpa using h
  obtain ⟨aD, cD, rfl⟩ := hD.form
  have hDat := hD.ents.2
  have gB1 : Below w.heap.size w w1 := byGG
  obtain ⟨e9, he9⟩ : ∃ e9 : Ent, e9 = ⟨nm, (x, y, z)⟩ := ⟨_, rfl⟩
  obtain ⟨D, hDD⟩ : ∃ D, D = atE (woL E nm n) := ⟨_, rfl⟩
  obtain ⟨m, hm⟩ : ∃ m, m = (woL E nm n).length := ⟨_, rfl⟩
  rw [← hDD, ← hm] at hDat
  rw [← hm] at hml
  have HR0 : Hid (weL (atE (woL E nm n)) ⟨nm, (x, y, z)⟩ (woL E nm n).length = weL D e9 m) := hide (by rw [hDD, hm, he9])
  rw [← hm]
  obtain ⟨gD, hgD, hDA⟩ := hDat.open
  simp only [World.size_alloc] at hgD
  have HGD := hide hgD
  have HDA := hide hDA
  have HE9 := hide he9
  simp only [World.size_alloc] at hs1
  clear hDat hgD hDA hDD hm he9 hD hb1
  go_wp2
  go_loopw [7, 8, 16] (fun ls ds is wr => ∃ (jx : Nat) (L : List Ent) (dn : Bool), jx ≤ m ∧ is = .int .i64 (jx : Int) ∧ ds = .bool dn ∧ Hid (weS D e9 jx = (L, dn)) ∧ EL wr (w.heap.size + 1) ls L ∧ OwnOk (w.heap.size + 1) w1.heap.size ls ∧ Hid (∀ i, i < m → EntAt wr gD (i * 4) (D i)) ∧ wr.cell? ⟨w.heap.size, 0, none⟩ = some (.int .i64 x) ∧ wr.cell? ⟨w.heap.size, 1, none⟩ = some (.int .i64 y) ∧ wr.cell? ⟨w.heap.size, 2, none⟩ = some (.int .i64 z) ∧ Below w.heap.size w wr ∧ w1.heap.size ≤ wr.heap.size) (fun _ _ is _ => m - (intOf is).toNat)
  case atStart => exact ⟨0, [], false, by omega, rfl, rfl, hide rfl, hl1, fun k hk => .inl (by simpa [Value.ownBlock] using hk.symm), HDA, c00, c01, c02, gB1, Nat.le_refl _⟩
  case round =>
    obtain ⟨jx, L, dn, hj, rfl, rfl, HW, hl, hown, HD, c00, c01, c02, hb, hzw⟩ := hrel
    obtain ⟨wl, rfl⟩ : ∃ wl : World, wl = wr := ⟨_, rfl⟩
    have hzl := hb.size
    have zb : w.heap.size < wl.heap.size := World.block_lt_of_cell? _ _ c00
    have hL : L.length ≤ 2 * jx := by have := weS_len D e9 jx; rw [unhide HW] at this; exact this
    by_cases k : jx < m
    · have hci : (jx : Int) < (m : Int) := by omega
      obtain ⟨rfl, hg1, hg2⟩ := unhide HGD (by omega)
      obtain ⟨d0, d1, d2, d3⟩ := unhide HD jx k
      obtain ⟨en, hen⟩ : ∃ s, s = (D jx).n := ⟨_, rfl⟩
      obtain ⟨p, hp⟩ : ∃ x, x = (D jx).f.1 := ⟨_, rfl⟩
      obtain ⟨q, hq⟩ : ∃ x, x = (D jx).f.2.1 := ⟨_, rfl⟩
      obtain ⟨r, hr⟩ : ∃ x, x = (D jx).f.2.2 := ⟨_, rfl⟩
      have hE : D jx = ⟨en, (p, q, r)⟩ := by rw [hen, hp, hq, hr]
      rw [← hen] at d0
      rw [← hp] at d1
      rw [← hq] at d2
      rw [← hr] at d3
      clear hp hq hr
      cases dn
      · cases kl : lessB nm en
        · have EQ : Hid (weS D e9 (jx + 1) = (L ++ [⟨en, (p, q, r)⟩], false)) := hide (by rw [weS_wait (by rw [unhide HE9, ← hen]; exact kl), unhide HW, hE])
          unfold lessB at kl
          clear hE hen
          obtain ⟨al, cl, rfl⟩ := hl.form
          have hlt0 := hl.lt
          have hne0 : ∀ k, (Value.slice al L.length cl).ownBlock = some k → k ≠ w.heap.size := fun k hk => by have := (hlt0 k hk).1; omega
          have hneD : ∀ k, (Value.slice al L.length cl).ownBlock = some k → k ≠ gD := fun k hk => by rcases hown k hk with h | h <;> omega
          go_wp2_with (at_builtin; refine app_ents _ rfl (.tmp 34) (.tmp 36) rfl (w.heap.size + 1) (.slice al L.length cl) L [⟨en, (p, q, r)⟩] ⟨(wl.heap.size + 1), 0, none⟩ 1 rfl rfl ((hl.alloc _).alloc _) (news_ent ⟨byCT, byCT, byCT, byCT⟩) (by simp; omega) (by simp; omega) ?_; intro v1 w2 hown1 hgrow1 hat1; skip)
          go_roundw
          case rel =>
            have hz2 := hgrow1.size
            simp only [World.size_alloc] at hz2
            refine ⟨jx + 1, _, _, by omega, by first | rfl | go_num, rfl, EQ, hown1, hown.next hat1 (by simp; omega), hide (fun i hi => (((unhide HD i hi).alloc _).alloc _).grown hgrow1 hneD), cell_grown byCT hgrow1 hne0, cell_grown byCT hgrow1 hne0, cell_grown byCT hgrow1 hne0, Below.grown ((hb.alloc hzl _).alloc (by simp; omega) _) hgrow1 (by simp; omega) (fun k hk => by have := (hlt0 k hk).1; omega), by omega⟩
          case measure => simp [intOf]; omega
        · obtain ⟨L1, hL1⟩ : ∃ L1, L1 = L ++ [⟨nm, (x, y, z)⟩] := ⟨_, rfl⟩
          have EQ : Hid (weS D e9 (jx + 1) = (L1 ++ [⟨en, (p, q, r)⟩], true)) := hide (by rw [weS_put (by rw [unhide HW]) (by rw [unhide HE9, ← hen]; exact kl), unhide HW, hE, hL1, unhide HE9])
          unfold lessB at kl
          have HL1 := hide hL1
          have hL1L : L1.length ≤ L.length + 1 := by rw [hL1, List.length_append]; exact Nat.le_refl _
          clear hE hen hL1
          obtain ⟨al, cl, rfl⟩ := hl.form
          have hlt0 := hl.lt
          have hne0 : ∀ k, (Value.slice al L.length cl).ownBlock = some k → k ≠ w.heap.size := fun k hk => by have := (hlt0 k hk).1; omega
          have hneD : ∀ k, (Value.slice al L.length cl).ownBlock = some k → k ≠ gD := fun k hk => by rcases hown k hk with h | h <;> omega
          go_wp2_with (first | (at_builtin; refine app_ents _ rfl (.tmp 28) (.tmp 32) rfl (w.heap.size + 1) (.slice al L.length cl) L [⟨nm, (x, y, z)⟩] ⟨(wl.heap.size + 1), 0, none⟩ 1 rfl rfl ((hl.alloc _).alloc _) (news_ent ⟨byCT, byCT, byCT, byCT⟩) (by simp; omega) (by simp; omega) ?_; intro v1 w2 hown1 hgrow1 hat1; rw [← unhide HL1] at hown1; obtain ⟨a1, c1', rfl⟩ := hown1.form; have hlt1 := hown1.lt; have hz2 := hgrow1.size; simp only [World.size_alloc] at hz2; have hnec : ∀ k, (Value.slice al L.length cl).ownBlock = some k → k ≠ wl.heap.size := (fun k hk => by have := (hlt0 k hk).2; omega); have hwc : EntAt w2 wl.heap.size 0 ⟨en, (p, q, r)⟩ := EntAt.grown ⟨byCT, byCT, byCT, byCT⟩ hgrow1 hnec; obtain ⟨k0, k1, k2, k3⟩ := hwc) | (at_builtin; refine app_ents _ rfl (.tmp 34) (.tmp 36) rfl (w.heap.size + 1) (.slice a1 L1.length c1') L1 [⟨en, (p, q, r)⟩] ⟨w2.heap.size, 0, none⟩ 1 rfl rfl (hown1.alloc _) (news_ent ⟨byCT, byCT, byCT, byCT⟩) (by simp; omega) (by simp; omega) ?_; intro v2 w3 hown2 hgrow2 hat2; skip))
          go_roundw
          case rel =>
            have hz3 := hgrow2.size
            simp only [World.size_alloc] at hz3
            have hown1' := hown.next hat1 (show w1.heap.size ≤ _ by simp; omega)
            have hne1 : ∀ k, (Value.slice a1 L1.length c1').ownBlock = some k → k ≠ w.heap.size := fun k hk => by have := (hlt1 k hk).1; omega
            have hneD1 : ∀ k, (Value.slice a1 L1.length c1').ownBlock = some k → k ≠ gD := fun k hk => by rcases hown1' k hk with h | h <;> omega
            have hbg := Below.grown ((hb.alloc hzl (.cells #[.string en, .int .i64 p, .int .i64 q, .int .i64 r] 67)).alloc (by simp; omega) _) hgrow1 (by simp; omega) (fun k hk => by have := (hlt0 k hk).1; omega)
            refine ⟨jx + 1, _, _, by omega, by first | rfl | go_num, rfl, EQ, hown2, hown1'.next hat2 (by simp; omega), hide (fun i hi => ((((unhide HD i hi).alloc _).alloc _).grown hgrow1 hneD).alloc _ |>.grown hgrow2 hneD1), cell_grown (cell_al _ (cell_grown byCT hgrow1 hne0)) hgrow2 hne1, cell_grown (cell_al _ (cell_grown byCT hgrow1 hne0)) hgrow2 hne1, cell_grown (cell_al _ (cell_grown byCT hgrow1 hne0)) hgrow2 hne1, Below.grown (hbg.alloc (by omega) _) hgrow2 (by simp; omega) (fun k hk => by have := (hlt1 k hk).1; omega), by omega⟩
          case measure => simp [intOf]; omega
      · have EQ : Hid (weS D e9 (jx + 1) = (L ++ [⟨en, (p, q, r)⟩], true)) := hide (by rw [weS_done (by rw [unhide HW]), unhide HW, hE])
        clear hE hen
        obtain ⟨al, cl, rfl⟩ := hl.form
        have hlt0 := hl.lt
        have hne0 : ∀ k, (Value.slice al L.length cl).ownBlock = some k → k ≠ w.heap.size := fun k hk => by have := (hlt0 k hk).1; omega
        have hneD : ∀ k, (Value.slice al L.length cl).ownBlock = some k → k ≠ gD := fun k hk => by rcases hown k hk with h | h <;> omega
        go_wp2_with (at_builtin; refine app_ents _ rfl (.tmp 34) (.tmp 36) rfl (w.heap.size + 1) (.slice al L.length cl) L [⟨en, (p, q, r)⟩] ⟨(wl.heap.size + 1), 0, none⟩ 1 rfl rfl ((hl.alloc _).alloc _) (news_ent ⟨byCT, byCT, byCT, byCT⟩) (by simp; omega) (by simp; omega) ?_; intro v1 w2 hown1 hgrow1 hat1; skip)
        go_roundw
        case rel =>
          have hz2 := hgrow1.size
          simp only [World.size_alloc] at hz2
          refine ⟨jx + 1, _, _, by omega, by first | rfl | go_num, rfl, EQ, hown1, hown.next hat1 (by simp; omega), hide (fun i hi => (((unhide HD i hi).alloc _).alloc _).grown hgrow1 hneD), cell_grown byCT hgrow1 hne0, cell_grown byCT hgrow1 hne0, cell_grown byCT hgrow1 hne0, Below.grown ((hb.alloc hzl _).alloc (by simp; omega) _) hgrow1 (by simp; omega) (fun k hk => by have := (hlt0 k hk).1; omega), by omega⟩
        case measure => simp [intOf]; omega
    · obtain rfl : jx = m := by omega
      cases dn
      · have HRES : Hid (weL D e9 jx = L ++ [⟨nm, (x, y, z)⟩]) := hide (by unfold weL; rw [unhide HW, unhide HE9]; rfl)
        obtain ⟨al, cl, rfl⟩ := hl.form
        have hlt0 := hl.lt
        go_wp2_with (at_builtin; refine app_ents _ rfl (.tmp 41) (.tmp 45) rfl (w.heap.size + 1) (.slice al L.length cl) L [⟨nm, (x, y, z)⟩] ⟨wl.heap.size, 0, none⟩ 1 rfl rfl (hl.alloc _) (news_ent ⟨byCT, byCT, byCT, byCT⟩) (by simp; omega) (by simp; omega) ?_; intro v1 w2 hown1 hgrow1 hat1; skip)
        go_ret
        exact ⟨_, rfl, by rw [unhide HR0, unhide HRES]; exact hown1.low (by omega), Below.grown (hb.alloc (by omega) _) hgrow1 (by simp; omega) (fun k hk => by have := (hlt0 k hk).1; omega)⟩
      · have HRES : Hid (weL D e9 jx = L) := hide (by unfold weL; rw [unhide HW]; rfl)
        go_wp2
        go_ret
        exact ⟨_, rfl, by rw [unhide HR0, unhide HRES]; exact hl.low (by omega), hb⟩
end Go.Proofs.Ytligbfegafkpjaa
