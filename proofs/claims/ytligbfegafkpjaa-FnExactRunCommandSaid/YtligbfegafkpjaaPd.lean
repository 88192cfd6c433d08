/-
  lgDrop, lgPut.
-/
import Derived.Test.YtligbfegafkpjaaWe
namespace Go.Proofs.Ytligbfegafkpjaa
open Go.RowKit
set_option linter.unusedVariables false
set_option linter.unusedSimpArgs false
attribute [local go_sem] q2 q3 q4 q5 q6 q7 q8 q9 q10 q11 q12

/-- The entries a, a + 1 .. (k of them). -/
def enL (E : Nat → Ent) (a k : Nat) : List Ent := (List.range' a k).map E
theorem enL_len (E : Nat → Ent) (a k : Nat) : (enL E a k).length = k := by simp [enL]
theorem enL_at (E : Nat → Ent) (a k i : Nat) (h : i < k) : atE (enL E a k) i = E (a + i) := by
  unfold atE enL
  simp [h]
theorem news_row {w : World} {g a k : Nat} {E : Nat → Ent} (h : ∀ i, i < k → EntAt w g ((a + i) * 4) (E (a + i))) : ∀ j u, ((enL E a k).flatMap cE)[j]? = some u → w.cell? ((⟨g, a * 4, none⟩ : Addr).add j) = some u := by
  intro j u hu
  have hadd : (⟨g, a * 4, none⟩ : Addr).add j = ⟨g, a * 4 + j, none⟩ := by unfold Addr.add; split <;> simp_all
  rw [hadd]
  by_cases hj : j < k * 4
  · rw [cE_get _ _ (by rw [enL_len]; exact hj)] at hu
    cases hu
    obtain ⟨c0, c1, c2, c3⟩ := h (j / 4) (by omega)
    unfold elE
    rw [enL_at _ _ _ _ (by omega)]
    have hm : j % 4 = 0 ∨ j % 4 = 1 ∨ j % 4 = 2 ∨ j % 4 = 3 := by omega
    rcases hm with hm | hm | hm | hm <;> rw [hm] <;> simp only [if_pos, if_neg, if_true, if_false, Nat.reduceEqDiff]
    · rw [show a * 4 + j = (a + j / 4) * 4 by omega]; exact c0
    · rw [show a * 4 + j = (a + j / 4) * 4 + 1 by omega]; exact c1
    · rw [show a * 4 + j = (a + j / 4) * 4 + 2 by omega]; exact c2
    · rw [show a * 4 + j = (a + j / 4) * 4 + 3 by omega]; exact c3
  · rw [List.getElem?_eq_none (by rw [cE_len, enL_len]; omega)] at hu
    cases hu
theorem EL.some {w : World} {lo k : Nat} {v : Value} {zs : List Ent} (h : EL w lo v zs) (hk : v.ownBlock = some k) : ∃ cap, v = .slice (some ⟨k, 0, none⟩) zs.length cap ∧ zs.length ≤ cap := by
  rcases h.2 with ⟨h1, h2⟩ | ⟨g, cap, cur, h1, h2, h3, h4, h5⟩
  · rw [h1] at hk; cases hk
  · rw [h1] at hk; cases hk; exact ⟨cap, h1, h4⟩
theorem app_entsN (w : World) {ops : Array Oper} {rest : List Oper} {o : Oper} {a : Act} {Q : Exit → Act → World → Prop} (hgd : o.guard = none) (s x : Operand)
    (ho : o.op = .call { callee := .builtin .append, args := #[s, x], argTypes := #[45, 45] })
    (lo : Nat) (v : Value) (zs news : List Ent) (ad : Addr) (nn c : Nat) (hnn : news.length = nn) (hs : a.eval s = v) (hx : a.eval x = .slice (some ad) nn c)
    (hown : EL w lo v zs) (hnews : ∀ j u, (news.flatMap cE)[j]? = some u → w.cell? (ad.add j) = some u) (hlen : zs.length + nn ≤ 1000000000) (hlo : lo ≤ w.heap.size)
    (h : ∀ v' w', EL w' lo v' (zs ++ news) → w.grownBy w' v.ownBlock → (v'.ownBlock = v.ownBlock ∨ v'.ownBlock = some w.heap.size) →
      wpList Try.prog ops Q rest (a.put o.dst v') w') : wpList Try.prog ops Q (o :: rest) a w := by
  subst hnn
  exact app_ents w hgd s x ho lo v zs news ad c hs hx hown hnews hlen hlo h
set_option maxRecDepth 100000 in
set_option maxHeartbeats 4000000 in
theorem lgDrop_a (g n c at' : Nat) (E : Nat → Ent) (w : World) (hr : ∀ i, i < n → EntAt w g (i * 4) (E i)) (hn : n ≤ 2000000) (hc : n ≤ c) (hat : at' < n) :
    Calls Try.prog 68 #[.slice (some ⟨g, 0, none⟩) n c, .int .i64 (at' : Int)] w fun e w' => ∃ g' c', e = .returned (.slice (some ⟨g', 0, none⟩) (n - 1) c') ∧ n - 1 ≤ c' ∧ EL w' w.heap.size (.slice (some ⟨g', 0, none⟩) (n - 1) c') (enL E 0 at' ++ enL E (at' + 1) (n - at' - 1)) ∧ Below w.heap.size w w' := by
  have HR := hide hr
  clear hr
  go_enter Try.func68, Try.ntmps68
  have hA : Hid (∃ L, L = enL E 0 at') := hide ⟨_, rfl⟩
  obtain ⟨L, hL⟩ := unhide hA
  have HL := hide hL
  have hLl : L.length ≤ at' := by rw [hL, enL_len]; exact Nat.le_refl _
  clear hA hL
  by_cases hca : c = at' + 1
  · have hn0 : n - (at' + 1) = 0 := by omega
    go_wp2_with (first | (at_builtin; refine app_entsN _ rfl (.tmp 6) (.tmp 9) rfl w.heap.size (.slice (some ⟨w.heap.size, 0, none⟩) 0 0) [] (enL E 0 at') ⟨g, 0 * 4, none⟩ at' _ (enL_len _ _ _) rfl rfl (EL.made _ _ (Nat.le_refl _)) (news_row (fun i hi => by rw [Nat.zero_add]; exact (unhide HR i (by omega)).alloc _)) (by simp; omega) (by simp) ?_; intro v1 w2 hown1 hgrow1 hat1; rw [List.nil_append, ← unhide HL] at hown1; obtain ⟨k1, hk1⟩ : ∃ k, v1.ownBlock = some k := (by rcases hat1 with e | e <;> exact ⟨_, e⟩); obtain ⟨c1, rfl, hc1⟩ := hown1.some hk1; have hlt1 := hown1.lt k1 rfl; have hz2 := hgrow1.size; simp only [World.size_alloc] at hz2; have hR2 : Hid (∀ i, i < n → EntAt w2 g (i * 4) (E i)) := hide (fun i hi => ((unhide HR i hi).alloc _).grown hgrow1 (fun k hk => by have hg9 : g < w.heap.size := World.block_lt_of_cell? _ _ (unhide HR i hi).1; have hk9 : w.heap.size = k := Option.some.inj hk; omega))) | (at_builtin; refine app_entsN _ rfl (.tmp 11) (.tmp 15) rfl w.heap.size (.slice (some ⟨k1, 0, none⟩) L.length c1) L (enL E (at' + 1) (n - (at' + 1))) ⟨g, 0, none⟩ 0 0 (by rw [enL_len]; exact hn0) rfl rfl hown1 (fun j u hu => by rw [hn0] at hu; simp [enL] at hu) (by omega) (by omega) ?_; intro v2 w3 hown2 hgrow2 hat2))
    obtain ⟨k2, hk2⟩ : ∃ k, v2.ownBlock = some k := by rcases hat2 with e | e <;> exact ⟨_, e⟩
    obtain ⟨c2, rfl, hc2⟩ := hown2.some hk2
    have hll : (L ++ enL E (at' + 1) (n - (at' + 1))).length = n - 1 := by rw [List.length_append, unhide HL, enL_len, enL_len]; omega
    rw [hll] at hown2 hc2
    go_ret
    refine ⟨k2, c2, by rw [hll]; rfl, hc2, by rw [← unhide HL, Nat.sub_sub]; exact hown2, ?_⟩
    have hg1 : Below w.heap.size w w2 := Below.grown ((Below.refl _ _).alloc (Nat.le_refl _) _) hgrow1 (by simp) (fun k hk => by cases hk; exact Nat.le_refl _)
    exact hg1.grown hgrow2 (by omega) (fun k hk => by cases hk; exact hlt1.1)
  · have hca2 : at' + 1 < c := by omega
    go_wp2_with (first | (at_builtin; refine app_entsN _ rfl (.tmp 6) (.tmp 9) rfl w.heap.size (.slice (some ⟨w.heap.size, 0, none⟩) 0 0) [] (enL E 0 at') ⟨g, 0 * 4, none⟩ at' _ (enL_len _ _ _) rfl rfl (EL.made _ _ (Nat.le_refl _)) (news_row (fun i hi => by rw [Nat.zero_add]; exact (unhide HR i (by omega)).alloc _)) (by simp; omega) (by simp) ?_; intro v1 w2 hown1 hgrow1 hat1; rw [List.nil_append, ← unhide HL] at hown1; obtain ⟨k1, hk1⟩ : ∃ k, v1.ownBlock = some k := (by rcases hat1 with e | e <;> exact ⟨_, e⟩); obtain ⟨c1, rfl, hc1⟩ := hown1.some hk1; have hlt1 := hown1.lt k1 rfl; have hz2 := hgrow1.size; simp only [World.size_alloc] at hz2; have hR2 : Hid (∀ i, i < n → EntAt w2 g (i * 4) (E i)) := hide (fun i hi => ((unhide HR i hi).alloc _).grown hgrow1 (fun k hk => by have hg9 : g < w.heap.size := World.block_lt_of_cell? _ _ (unhide HR i hi).1; have hk9 : w.heap.size = k := Option.some.inj hk; omega))) | (at_builtin; refine app_entsN _ rfl (.tmp 11) (.tmp 15) rfl w.heap.size (.slice (some ⟨k1, 0, none⟩) L.length c1) L (enL E (at' + 1) (n - (at' + 1))) ⟨g, (at' + 1) * 4, none⟩ (n - (at' + 1)) (c - (at' + 1)) (enL_len _ _ _) rfl rfl hown1 (news_row (fun i hi => unhide hR2 _ (by omega))) (by omega) (by omega) ?_; intro v2 w3 hown2 hgrow2 hat2))
    obtain ⟨k2, hk2⟩ : ∃ k, v2.ownBlock = some k := by rcases hat2 with e | e <;> exact ⟨_, e⟩
    obtain ⟨c2, rfl, hc2⟩ := hown2.some hk2
    have hll : (L ++ enL E (at' + 1) (n - (at' + 1))).length = n - 1 := by rw [List.length_append, unhide HL, enL_len, enL_len]; omega
    rw [hll] at hown2 hc2
    go_ret
    refine ⟨k2, c2, by rw [hll]; rfl, hc2, by rw [← unhide HL, Nat.sub_sub]; exact hown2, ?_⟩
    have hg1 : Below w.heap.size w w2 := Below.grown ((Below.refl _ _).alloc (Nat.le_refl _) _) hgrow1 (by simp) (fun k hk => by cases hk; exact Nat.le_refl _)
    exact hg1.grown hgrow2 (by omega) (fun k hk => by cases hk; exact hlt1.1)

set_option maxRecDepth 100000 in
set_option maxHeartbeats 8000000 in
theorem lgPut_a (g n c : Nat) (E : Nat → Ent) (nm : ByteArray) (x y z : Int) (w : World) (hr : ∀ i, i < n → EntAt w g (i * 4) (E i)) (hn : n ≤ 2000000) (hc : n ≤ c) :
    Calls Try.prog 69 #[.slice (some ⟨g, 0, none⟩) n c, .agg #[.string nm, .int .i64 x, .int .i64 y, .int .i64 z]] w fun e w' => ∃ v jx, e = .returned v ∧ jx ≤ n ∧ (∀ i, i < jx → lessB (E i).n nm = true) ∧ (jx < n → lessB (E jx).n nm = false) ∧ EL w' w.heap.size v (enL E 0 jx ++ [⟨nm, (x, y, z)⟩] ++ enL E jx (n - jx)) ∧ Below w.heap.size w w' := by
  have HR := hide hr
  clear hr
  go_enter Try.func69, Try.ntmps69
  go_wp2
  go_loopw [5] (fun is wr => ∃ jx : Nat, jx ≤ n ∧ is = .int .i64 (jx : Int) ∧ Hid (∀ i, i < jx → lessB (E i).n nm = true) ∧ wr.cell? ⟨w.heap.size, 0, none⟩ = some (.string nm) ∧ wr.cell? ⟨w.heap.size, 1, none⟩ = some (.int .i64 x) ∧ wr.cell? ⟨w.heap.size, 2, none⟩ = some (.int .i64 y) ∧ wr.cell? ⟨w.heap.size, 3, none⟩ = some (.int .i64 z) ∧ Below w.heap.size w wr) (fun is _ => n - (intOf is).toNat)
  case atStart => exact ⟨0, by omega, rfl, hide (fun i hi => absurd hi (by omega)), byCT, byCT, byCT, byCT, byGG⟩
  case round =>
    obtain ⟨jx, hj, rfl, HP, c00, c01, c02, c03, hb⟩ := hrel
    obtain ⟨wl, rfl⟩ : ∃ wl : World, wl = wr := ⟨_, rfl⟩
    have hzl := hb.size
    have zb : w.heap.size < wl.heap.size := World.block_lt_of_cell? _ _ c00
    by_cases k : jx < n
    · have hci : (jx : Int) < (n : Int) := by omega
      have d0 := ((unhide HR jx k).below hb).1
      obtain ⟨en, hen⟩ : ∃ s, s = (E jx).n := ⟨_, rfl⟩
      rw [← hen] at d0
      cases kl : lessB en nm
      · have HQ : Hid (lessB (E jx).n nm = false) := hide (by rw [← hen]; exact kl)
        unfold lessB at kl
        clear hen
        go_wp2
        go_quiet (fail)
        have hbd := below_drewN_self wl nq
        obtain ⟨wq, hwq⟩ : ∃ wq, wq = wl.drewN nq := ⟨_, rfl⟩
        rw [← hwq] at hbd ⊢
        replace c00 := cell_call hbd c00
        replace c01 := cell_call hbd c01
        replace c02 := cell_call hbd c02
        replace c03 := cell_call hbd c03
        replace hb := hb.trans (hbd.mono hzl)
        replace hzl := hb.size
        replace zb : w.heap.size < wq.heap.size := World.block_lt_of_cell? _ _ c00
        clear hbd hwq
        obtain ⟨L, hL⟩ : ∃ L, L = enL E 0 jx := ⟨_, rfl⟩
        have HL := hide hL
        have hLl : L.length ≤ jx := by rw [hL, enL_len]; exact Nat.le_refl _
        obtain ⟨M, hM⟩ : ∃ M, M = L ++ [⟨nm, (x, y, z)⟩] := ⟨_, rfl⟩
        have HM := hide hM
        have hMl : M.length ≤ jx + 1 := by rw [hM, List.length_append]; exact Nat.succ_le_succ hLl
        clear hL hM
        have HRl : Hid (∀ i, i < n → EntAt wq g (i * 4) (E i)) := hide (fun i hi => (unhide HR i hi).below hb)
        by_cases hca : c = jx
        · exfalso; omega

        · have hca2 : jx < c := by omega
          go_wp2_with (first | (at_builtin; refine app_entsN _ rfl (.tmp 23) (.tmp 26) rfl w.heap.size (.slice (some ⟨wq.heap.size, 0, none⟩) 0 0) [] (enL E 0 jx) ⟨g, 0 * 4, none⟩ jx _ (enL_len _ _ _) rfl rfl (EL.made _ _ (by omega)) (news_row (fun i hi => by rw [Nat.zero_add]; exact (unhide HRl i (by omega)).alloc _)) (by simp; omega) (by simp; omega) ?_; intro v1 w2 hown1 hgrow1 hat1; rw [List.nil_append, ← unhide HL] at hown1; obtain ⟨k1, hk1⟩ : ∃ k, v1.ownBlock = some k := (by rcases hat1 with e | e <;> exact ⟨_, e⟩); obtain ⟨c1, rfl, hc1⟩ := hown1.some hk1; have hlt1 := hown1.lt k1 rfl; have hz2 := hgrow1.size; simp only [World.size_alloc] at hz2; have hR2 : Hid (∀ i, i < n → EntAt w2 g (i * 4) (E i)) := hide (fun i hi => ((unhide HRl i hi).alloc _).grown hgrow1 (fun k hk => by have hg9 : g < wq.heap.size := World.block_lt_of_cell? _ _ (unhide HRl i hi).1; have hk9 : wq.heap.size = k := Option.some.inj hk; omega)); have hnb : ∀ k, (Value.slice (some ⟨wq.heap.size, 0, none⟩) 0 0).ownBlock = some k → k ≠ w.heap.size := (fun k hk => by have hk9 : wq.heap.size = k := Option.some.inj hk; omega); have d0 := cell_grown (w := wq.alloc (.cells #[] 67)) byCT hgrow1 hnb (b := w.heap.size) (o := 0) (v := .string nm); have d1 := cell_grown (w := wq.alloc (.cells #[] 67)) byCT hgrow1 hnb (b := w.heap.size) (o := 1) (v := .int .i64 x); have d2 := cell_grown (w := wq.alloc (.cells #[] 67)) byCT hgrow1 hnb (b := w.heap.size) (o := 2) (v := .int .i64 y); have d3 := cell_grown (w := wq.alloc (.cells #[] 67)) byCT hgrow1 hnb (b := w.heap.size) (o := 3) (v := .int .i64 z); have hk1w : w.heap.size < k1 := (by rcases hat1 with e | e <;> (have e9 := Option.some.inj e; simp at e9; omega))) | (at_builtin; refine app_ents _ rfl (.tmp 28) (.tmp 30) rfl w.heap.size (.slice (some ⟨k1, 0, none⟩) L.length c1) L [⟨nm, (x, y, z)⟩] ⟨w2.heap.size, 0, none⟩ 1 rfl rfl (hown1.alloc _) (news_ent ⟨byCT, byCT, byCT, byCT⟩) (by simp; omega) (by simp; omega) ?_; intro v2 w3 hown2 hgrow2 hat2; rw [← unhide HM] at hown2; obtain ⟨k2, hk2⟩ : ∃ k, v2.ownBlock = some k := (by rcases hat2 with e | e <;> exact ⟨_, e⟩); obtain ⟨c2, rfl, hc2⟩ := hown2.some hk2; have hlt2 := hown2.lt k2 rfl; have hz3 := hgrow2.size; simp only [World.size_alloc] at hz3; have hR3 : Hid (∀ i, i < n → EntAt w3 g (i * 4) (E i)) := hide (fun i hi => ((unhide hR2 i hi).alloc _).grown hgrow2 (fun k hk => by have hk9 : k1 = k := Option.some.inj hk; have hg9 : g < w.heap.size := World.block_lt_of_cell? _ _ (unhide HR i hi).1; omega))) | (at_builtin; refine app_entsN _ rfl (.tmp 32) (.tmp 35) rfl w.heap.size (.slice (some ⟨k2, 0, none⟩) M.length c2) M (enL E jx (n - jx)) ⟨g, jx * 4, none⟩ (n - jx) (c - jx) (enL_len _ _ _) rfl rfl hown2 (news_row (fun i hi => unhide hR3 _ (by omega))) (by omega) (by omega) ?_; intro v3 w4 hown3 hgrow3 hat3))
          go_ret
          refine ⟨_, jx, rfl, by omega, unhide HP, fun hh => unhide HQ, by rw [← unhide HL, ← unhide HM]; exact hown3, ?_⟩
          have hg1 : Below w.heap.size w w2 := Below.grown (hb.alloc hzl _) hgrow1 (by simp; omega) (fun k hk => by have hk9 : wq.heap.size = k := Option.some.inj hk; omega)
          have hg2 : Below w.heap.size w w3 := Below.grown (hg1.alloc (by omega) _) hgrow2 (by simp; omega) (fun k hk => by have hk9 : k1 = k := Option.some.inj hk; omega)
          exact hg2.grown hgrow3 (by omega) (fun k hk => by have hk9 : k2 = k := Option.some.inj hk; omega)
      · have HN : Hid (∀ i, i < jx + 1 → lessB (E i).n nm = true) := hide (fun i hi => by
          rcases (show i < jx ∨ i = jx by omega) with q | rfl
          · exact unhide HP i q
          · rw [← hen]; exact kl)
        unfold lessB at kl
        clear hen
        go_wp2
        go_quiet (fail)
        go_wp2
        go_roundw
        case rel => exact ⟨jx + 1, by omega, by first | rfl | go_num, HN, cell_call (below_drewN_self wl nq) c00, cell_call (below_drewN_self wl nq) c01, cell_call (below_drewN_self wl nq) c02, cell_call (below_drewN_self wl nq) c03, hb.trans ((below_drewN_self wl nq).mono hzl)⟩
        case measure => simp [intOf]; omega
    · have hnl : ¬ ((jx : Int) < (n : Int)) := by omega
      go_wp2
      go_quiet (fail)
      have hbd := below_drewN_self wl nq
      obtain ⟨wq, hwq⟩ : ∃ wq, wq = wl.drewN nq := ⟨_, rfl⟩
      rw [← hwq] at hbd ⊢
      replace c00 := cell_call hbd c00
      replace c01 := cell_call hbd c01
      replace c02 := cell_call hbd c02
      replace c03 := cell_call hbd c03
      replace hb := hb.trans (hbd.mono hzl)
      replace hzl := hb.size
      replace zb : w.heap.size < wq.heap.size := World.block_lt_of_cell? _ _ c00
      clear hbd hwq
      obtain ⟨L, hL⟩ : ∃ L, L = enL E 0 jx := ⟨_, rfl⟩
      have HL := hide hL
      have hLl : L.length ≤ jx := by rw [hL, enL_len]; exact Nat.le_refl _
      obtain ⟨M, hM⟩ : ∃ M, M = L ++ [⟨nm, (x, y, z)⟩] := ⟨_, rfl⟩
      have HM := hide hM
      have hMl : M.length ≤ jx + 1 := by rw [hM, List.length_append]; exact Nat.succ_le_succ hLl
      clear hL hM
      have HRl : Hid (∀ i, i < n → EntAt wq g (i * 4) (E i)) := hide (fun i hi => (unhide HR i hi).below hb)
      by_cases hca : c = jx
      · have hn0 : n - jx = 0 := by omega
        go_wp2_with (first | (at_builtin; refine app_entsN _ rfl (.tmp 23) (.tmp 26) rfl w.heap.size (.slice (some ⟨wq.heap.size, 0, none⟩) 0 0) [] (enL E 0 jx) ⟨g, 0 * 4, none⟩ jx _ (enL_len _ _ _) rfl rfl (EL.made _ _ (by omega)) (news_row (fun i hi => by rw [Nat.zero_add]; exact (unhide HRl i (by omega)).alloc _)) (by simp; omega) (by simp; omega) ?_; intro v1 w2 hown1 hgrow1 hat1; rw [List.nil_append, ← unhide HL] at hown1; obtain ⟨k1, hk1⟩ : ∃ k, v1.ownBlock = some k := (by rcases hat1 with e | e <;> exact ⟨_, e⟩); obtain ⟨c1, rfl, hc1⟩ := hown1.some hk1; have hlt1 := hown1.lt k1 rfl; have hz2 := hgrow1.size; simp only [World.size_alloc] at hz2; have hR2 : Hid (∀ i, i < n → EntAt w2 g (i * 4) (E i)) := hide (fun i hi => ((unhide HRl i hi).alloc _).grown hgrow1 (fun k hk => by have hg9 : g < wq.heap.size := World.block_lt_of_cell? _ _ (unhide HRl i hi).1; have hk9 : wq.heap.size = k := Option.some.inj hk; omega)); have hnb : ∀ k, (Value.slice (some ⟨wq.heap.size, 0, none⟩) 0 0).ownBlock = some k → k ≠ w.heap.size := (fun k hk => by have hk9 : wq.heap.size = k := Option.some.inj hk; omega); have d0 := cell_grown (w := wq.alloc (.cells #[] 67)) byCT hgrow1 hnb (b := w.heap.size) (o := 0) (v := .string nm); have d1 := cell_grown (w := wq.alloc (.cells #[] 67)) byCT hgrow1 hnb (b := w.heap.size) (o := 1) (v := .int .i64 x); have d2 := cell_grown (w := wq.alloc (.cells #[] 67)) byCT hgrow1 hnb (b := w.heap.size) (o := 2) (v := .int .i64 y); have d3 := cell_grown (w := wq.alloc (.cells #[] 67)) byCT hgrow1 hnb (b := w.heap.size) (o := 3) (v := .int .i64 z); have hk1w : w.heap.size < k1 := (by rcases hat1 with e | e <;> (have e9 := Option.some.inj e; simp at e9; omega))) | (at_builtin; refine app_ents _ rfl (.tmp 28) (.tmp 30) rfl w.heap.size (.slice (some ⟨k1, 0, none⟩) L.length c1) L [⟨nm, (x, y, z)⟩] ⟨w2.heap.size, 0, none⟩ 1 rfl rfl (hown1.alloc _) (news_ent ⟨byCT, byCT, byCT, byCT⟩) (by simp; omega) (by simp; omega) ?_; intro v2 w3 hown2 hgrow2 hat2; rw [← unhide HM] at hown2; obtain ⟨k2, hk2⟩ : ∃ k, v2.ownBlock = some k := (by rcases hat2 with e | e <;> exact ⟨_, e⟩); obtain ⟨c2, rfl, hc2⟩ := hown2.some hk2; have hlt2 := hown2.lt k2 rfl; have hz3 := hgrow2.size; simp only [World.size_alloc] at hz3; have hR3 : Hid (∀ i, i < n → EntAt w3 g (i * 4) (E i)) := hide (fun i hi => ((unhide hR2 i hi).alloc _).grown hgrow2 (fun k hk => by have hk9 : k1 = k := Option.some.inj hk; have hg9 : g < w.heap.size := World.block_lt_of_cell? _ _ (unhide HR i hi).1; omega))) | (at_builtin; refine app_entsN _ rfl (.tmp 32) (.tmp 35) rfl w.heap.size (.slice (some ⟨k2, 0, none⟩) M.length c2) M (enL E jx (n - jx)) ⟨g, 0, none⟩ 0 0 (by rw [enL_len]; exact hn0) rfl rfl hown2 (fun j u hu => by rw [hn0] at hu; simp [enL] at hu) (by omega) (by omega) ?_; intro v3 w4 hown3 hgrow3 hat3))
        go_ret
        refine ⟨_, jx, rfl, by omega, unhide HP, fun hh => absurd hh (by omega), by rw [← unhide HL, ← unhide HM]; exact hown3, ?_⟩
        have hg1 : Below w.heap.size w w2 := Below.grown (hb.alloc hzl _) hgrow1 (by simp; omega) (fun k hk => by have hk9 : wq.heap.size = k := Option.some.inj hk; omega)
        have hg2 : Below w.heap.size w w3 := Below.grown (hg1.alloc (by omega) _) hgrow2 (by simp; omega) (fun k hk => by have hk9 : k1 = k := Option.some.inj hk; omega)
        exact hg2.grown hgrow3 (by omega) (fun k hk => by have hk9 : k2 = k := Option.some.inj hk; omega)
      · have hca2 : jx < c := by omega
        go_wp2_with (first | (at_builtin; refine app_entsN _ rfl (.tmp 23) (.tmp 26) rfl w.heap.size (.slice (some ⟨wq.heap.size, 0, none⟩) 0 0) [] (enL E 0 jx) ⟨g, 0 * 4, none⟩ jx _ (enL_len _ _ _) rfl rfl (EL.made _ _ (by omega)) (news_row (fun i hi => by rw [Nat.zero_add]; exact (unhide HRl i (by omega)).alloc _)) (by simp; omega) (by simp; omega) ?_; intro v1 w2 hown1 hgrow1 hat1; rw [List.nil_append, ← unhide HL] at hown1; obtain ⟨k1, hk1⟩ : ∃ k, v1.ownBlock = some k := (by rcases hat1 with e | e <;> exact ⟨_, e⟩); obtain ⟨c1, rfl, hc1⟩ := hown1.some hk1; have hlt1 := hown1.lt k1 rfl; have hz2 := hgrow1.size; simp only [World.size_alloc] at hz2; have hR2 : Hid (∀ i, i < n → EntAt w2 g (i * 4) (E i)) := hide (fun i hi => ((unhide HRl i hi).alloc _).grown hgrow1 (fun k hk => by have hg9 : g < wq.heap.size := World.block_lt_of_cell? _ _ (unhide HRl i hi).1; have hk9 : wq.heap.size = k := Option.some.inj hk; omega)); have hnb : ∀ k, (Value.slice (some ⟨wq.heap.size, 0, none⟩) 0 0).ownBlock = some k → k ≠ w.heap.size := (fun k hk => by have hk9 : wq.heap.size = k := Option.some.inj hk; omega); have d0 := cell_grown (w := wq.alloc (.cells #[] 67)) byCT hgrow1 hnb (b := w.heap.size) (o := 0) (v := .string nm); have d1 := cell_grown (w := wq.alloc (.cells #[] 67)) byCT hgrow1 hnb (b := w.heap.size) (o := 1) (v := .int .i64 x); have d2 := cell_grown (w := wq.alloc (.cells #[] 67)) byCT hgrow1 hnb (b := w.heap.size) (o := 2) (v := .int .i64 y); have d3 := cell_grown (w := wq.alloc (.cells #[] 67)) byCT hgrow1 hnb (b := w.heap.size) (o := 3) (v := .int .i64 z); have hk1w : w.heap.size < k1 := (by rcases hat1 with e | e <;> (have e9 := Option.some.inj e; simp at e9; omega))) | (at_builtin; refine app_ents _ rfl (.tmp 28) (.tmp 30) rfl w.heap.size (.slice (some ⟨k1, 0, none⟩) L.length c1) L [⟨nm, (x, y, z)⟩] ⟨w2.heap.size, 0, none⟩ 1 rfl rfl (hown1.alloc _) (news_ent ⟨byCT, byCT, byCT, byCT⟩) (by simp; omega) (by simp; omega) ?_; intro v2 w3 hown2 hgrow2 hat2; rw [← unhide HM] at hown2; obtain ⟨k2, hk2⟩ : ∃ k, v2.ownBlock = some k := (by rcases hat2 with e | e <;> exact ⟨_, e⟩); obtain ⟨c2, rfl, hc2⟩ := hown2.some hk2; have hlt2 := hown2.lt k2 rfl; have hz3 := hgrow2.size; simp only [World.size_alloc] at hz3; have hR3 : Hid (∀ i, i < n → EntAt w3 g (i * 4) (E i)) := hide (fun i hi => ((unhide hR2 i hi).alloc _).grown hgrow2 (fun k hk => by have hk9 : k1 = k := Option.some.inj hk; have hg9 : g < w.heap.size := World.block_lt_of_cell? _ _ (unhide HR i hi).1; omega))) | (at_builtin; refine app_entsN _ rfl (.tmp 32) (.tmp 35) rfl w.heap.size (.slice (some ⟨k2, 0, none⟩) M.length c2) M (enL E jx (n - jx)) ⟨g, jx * 4, none⟩ (n - jx) (c - jx) (enL_len _ _ _) rfl rfl hown2 (news_row (fun i hi => unhide hR3 _ (by omega))) (by omega) (by omega) ?_; intro v3 w4 hown3 hgrow3 hat3))
        go_ret
        refine ⟨_, jx, rfl, by omega, unhide HP, fun hh => absurd hh (by omega), by rw [← unhide HL, ← unhide HM]; exact hown3, ?_⟩
        have hg1 : Below w.heap.size w w2 := Below.grown (hb.alloc hzl _) hgrow1 (by simp; omega) (fun k hk => by have hk9 : wq.heap.size = k := Option.some.inj hk; omega)
        have hg2 : Below w.heap.size w w3 := Below.grown (hg1.alloc (by omega) _) hgrow2 (by simp; omega) (fun k hk => by have hk9 : k1 = k := Option.some.inj hk; omega)
        exact hg2.grown hgrow3 (by omega) (fun k hk => by have hk9 : k2 = k := Option.some.inj hk; omega)
end Go.Proofs.Ytligbfegafkpjaa
