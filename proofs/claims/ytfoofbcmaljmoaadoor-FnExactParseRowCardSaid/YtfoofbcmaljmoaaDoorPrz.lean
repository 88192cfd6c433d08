/-
  ParseRow, spec., joined.
-/
import Derived.Test.YtfoofbcmaljmoaaDoorPry
import Derived.Test.YtfoofbcmaljmoaaDoorPrx
namespace Go.Proofs.YtfoofbcmaljmoaaDoor
open Go.RowKit
set_option linter.unusedVariables false
set_option linter.unusedSimpArgs false
attribute [local go_sem] q2 q3 q4 q5 q6 q7 q8 q9 q10 q11 q12

theorem spl_sz (c : UInt8) : ∀ (l cur : List UInt8), ∀ x ∈ spl c cur l, x.length ≤ cur.length + l.length
  | [], cur, x, h => by simp [spl] at h; subst h; simp
  | b :: l, cur, x, h => by
    rw [spl] at h
    split at h
    · rcases List.mem_cons.1 h with h | h
      · subst h; simp
      · have := spl_sz c l [] x h; simp at this ⊢; omega
    · have := spl_sz c l (cur ++ [b]) x h; simp at this ⊢; omega
set_option maxRecDepth 100000 in
set_option maxHeartbeats 4000000 in
theorem specPr_a (s : ByteArray) (hs : s.size ≤ 1100000) {r : RowV} {n : Nat} {z : Nat → Int} {ok : Bool} (hP : PrIs s r n z ok) (w : World) :
    Calls Tryd.prog 4 #[.string s] w (RetRowB w r n z ok) := by
  have hsp : ∀ W, Calls Tryd.prog 9 #[.string s, .int .u8 32] W (RetSL W ((prW s).map tx)) := fun W => l1Split_a s 32 (by omega) W
  have hsL : s.data.toList.length = s.size := Array.length_toList
  have hsz : ∀ x ∈ prW s, x.length ≤ s.size := fun x hx => by have := spl_sz 32 s.data.toList [] x hx; simp only [List.length_nil] at this; omega
  by_cases h5 : (prW s).length = 5
  · obtain ⟨y0, y1, y2, y3, y4, hx⟩ := list5 h5
    rw [hx] at hsp hsz
    have z0 := hsz y0 (by simp)
    have z1 := hsz y1 (by simp)
    have z2 := hsz y2 (by simp)
    have z3 := hsz y3 (by simp)
    have z4 := hsz y4 (by simp)
    have hcand : prS s = (⟨(foI y0).1, rdN 6 y1, rdN 6 y3, rdN 6 y4⟩, if y2 = [45] then [] else (spl 44 [] y2).map (rdN 6)) := by
      unfold prS; rw [hx]; rfl
    obtain ⟨e0, he0⟩ : ∃ e, (foI y0).1 = e := ⟨_, rfl⟩
    obtain ⟨e1, he1⟩ : ∃ e, rdN 6 y1 = e := ⟨_, rfl⟩
    obtain ⟨e2, he2⟩ : ∃ e, rdN 6 y3 = e := ⟨_, rfl⟩
    obtain ⟨e3, he3⟩ : ∃ e, rdN 6 y4 = e := ⟨_, rfl⟩
    have q0 := foI_b y0
    have q1 := rdN_b (show 6 ≤ 10 by omega) y1
    have q2 := rdN_b (show 6 ≤ 10 by omega) y3
    have q3 := rdN_b (show 6 ≤ 10 by omega) y4
    rw [he0] at hcand q0
    rw [he1] at hcand q1
    rw [he2] at hcand q2
    rw [he3] at hcand q3
    obtain ⟨F, hF⟩ : ∃ F, (if y2 = [45] then [] else (spl 44 [] y2).map (rdN 6)) = F := ⟨_, rfl⟩
    obtain ⟨ys, hys⟩ : ∃ ys, (if y2 = [45] then [] else (spl 44 [] y2).map tx) = ys := ⟨_, rfl⟩
    obtain ⟨R, hR⟩ : ∃ R : RowV, R = ⟨e0, e1, e2, e3⟩ := ⟨_, rfl⟩
    have hc : ∀ (r' : RowV) (n' : Nat) (z' : Nat → Int), rwB r' n' z' = true → tx (rwT r' n' z') = s → R = r' ∧ F = zlD n' z' := by
      intro r' n' z' h1 h2
      have h3 := (prS_row h1).2
      rw [h2, hcand, hF] at h3
      rw [hR]
      injection h3 with h3 h4
      exact ⟨h3, h4⟩
    obtain ⟨gd, hgd⟩ : ∃ gd, rwB R F.length (fun i => F.getD i 0) = gd := ⟨_, rfl⟩
    obtain ⟨te, hte⟩ : ∃ te, ((tx (rwT R F.length (fun i => F.getD i 0))).toList == s.toList) = te := ⟨_, rfl⟩
    obtain ⟨mi, hmi⟩ : ∃ mi, ((tx y2).toList == [45]) = mi := ⟨_, rfl⟩
    have hx2 : mi = decide (y2 = [45]) := by
      rw [← hmi, Lib.toList_data, tx_list]
      by_cases q : y2 = [45]
      · rw [q]; rfl
      · simp [q]
    have hlen : ys.length = F.length := by rw [← hF, ← hys]; split <;> simp
    have hyb : ys.length ≤ 2000000 := by
      rw [← hys]
      split
      · simp
      · have := spl_len 44 y2 []; rw [List.length_map]; omega
    have hRok : RowOk R := by
      rw [hR]
      exact ⟨(show I64 e0 from ⟨by omega, by omega⟩), (show I64 e1 from ⟨by omega, by omega⟩), (show I64 e2 from ⟨by omega, by omega⟩), (show I64 e3 from ⟨by omega, by omega⟩)⟩
    have rd : ∀ (y : List UInt8) (x : Int), y.length ≤ s.size → rdN 6 y = x → ∀ W, Calls Tryd.prog 11 #[.string (tx y)] W fun e w' => e = .returned (.int .i64 x) ∧ W = w' := by
      intro y x hy hx W
      have := l1Read_a (tx y) W (by rw [tx_size]; omega)
      rw [tx_list, hx] at this
      exact this
    refine (specPr_3 s (tx y0) (tx y1) (tx y2) (tx y3) (tx y4) e0 e1 e2 e3 ys F mi gd te (foI y0).2 (tx (rwT R F.length (fun i => F.getD i 0))) w
      (hide fun W hb => (hsp W).mono fun e w' ⟨a, c, h1, h2, h3⟩ => by
        have hl5 : ([y0, y1, y2, y3, y4].map tx).length = 5 := rfl
        rw [hl5] at h1 h2
        obtain ⟨g, hg, hg2⟩ : ∃ g, a = some ⟨g, 0, none⟩ ∧ W.heap.size ≤ g := by
          rcases h2.2 with ⟨k1, k2⟩ | ⟨g, cap, cur, k1, k2, _⟩
          · simp at k2
          · simp only [Value.slice.injEq] at k1
            exact ⟨g, k1.1, k2⟩
        subst hg
        exact ⟨g, c, h1, hg2, h2, h3⟩)
      (hide fun W => by have := foInt_a (tx y0) W (by rw [tx_size]; omega); rw [tx_list, he0] at this; exact this)
      (hide (rd y1 e1 z1 he1)) (hide (rd y3 e2 z3 he2)) (hide (rd y4 e3 z4 he3)) hmi
      (fun h => by rw [← hF]; rw [hx2] at h; exact if_pos (of_decide_eq_true h)) hlen hyb
      (hide fun h W hb => by
        rw [hx2] at h
        have hne := of_decide_eq_false h
        rw [← hys, if_neg hne]
        have := l1Split_a (tx y2) 44 (by rw [tx_size]; omega) W
        unfold spL at this
        rw [tx_list] at this
        exact this)
      (hide fun k hk W => by
        by_cases hne : y2 = [45]
        · rw [← hys, if_pos hne] at hk; simp at hk
        · rw [← hys, if_neg hne, List.length_map] at hk
          rw [← hys, ← hF, if_neg hne, if_neg hne]
          have e1 : ((spl 44 [] y2).map tx).getD k ⟨#[]⟩ = tx ((spl 44 [] y2).getD k []) := by simp [List.getD_eq_getElem?_getD, List.getElem?_map, List.getElem?_eq_getElem hk]
          have e2 : ((spl 44 [] y2).map (rdN 6)).getD k 0 = rdN 6 ((spl 44 [] y2).getD k []) := by simp [List.getD_eq_getElem?_getD, List.getElem?_map, List.getElem?_eq_getElem hk]
          rw [e1, e2]
          have h3 := spl_sz 44 y2 [] _ (gdm (d := []) hk)
          exact rd _ _ (by simp only [List.length_nil] at h3; omega) rfl W)
      (hide fun W a c hA => by rw [← hgd, hR]; exact tbGood_a ⟨e0, e1, e2, e3⟩ _ F.length _ W hA (by omega) (by rw [← hR]; exact hRok))
      (hide fun h W a c hb hA => by
        have hw := rw_all (show rwB R F.length (fun i => F.getD i 0) = true by rw [hgd]; exact h)
        rw [hR] at hw ⊢
        exact tbText_a ⟨e0, e1, e2, e3⟩ _ F.length _ W hA (by omega) (by rw [← hR]; exact hRok) hw.1 hw.2.1 hw.2.2.1 hw.2.2.2.1 hw.2.2.2.2) hte).mono ?_
    intro e w' he
    by_cases q : (gd && te) = true
    · rw [if_pos q] at he
      rw [Bool.and_eq_true] at q
      have hT : tx (rwT R F.length (fun i => F.getD i 0)) = s := by
        have := q.2
        rw [← hte] at this
        have h9 := eq_of_beq this
        rw [Lib.toList_data, Lib.toList_data] at h9
        rw [← tx_of s, ← h9, tx_list]
      obtain ⟨k1, k2, k3, k4⟩ := hP.yes (by rw [hgd]; exact q.1) hT
      subst k3
      obtain ⟨a, c, h1, h2, h3⟩ := he
      rw [← k1, ← k2, hR]
      exact ⟨a, c, h1, h2.congr (fun i hi => k4 i (by omega)), h3⟩
    · rw [if_neg q] at he
      have hno : ¬ (rwB R F.length (fun i => F.getD i 0) = true ∧ tx (rwT R F.length (fun i => F.getD i 0)) = s) := by
        rintro ⟨h1, h2⟩
        apply q
        rw [Bool.and_eq_true]
        refine ⟨by rw [← hgd]; exact h1, ?_⟩
        rw [← hte, h2]; simp
      obtain ⟨k1, k2, k3⟩ := hP.no (cand_no hc hno)
      subst k1; subst k2; subst k3
      obtain ⟨a, c, h1, h2, h3⟩ := he
      exact ⟨a, c, h1, .inl rfl, h3⟩
  · obtain ⟨k1, k2, k3⟩ := hP.no (fun r' n' z' h1 h2 => h5 (by have := (prS_row h1).1; rw [h2] at this; exact this))
    subst k1; subst k2; subst k3
    refine (specPr_1 s (prW s).length w (by simp; omega) (hide fun W hb => (hsp W).mono fun e w' ⟨a, c, h1, h2, h3⟩ => ⟨a, c, by rw [List.length_map] at h1; exact h1, h3⟩)).mono ?_
    rintro e w' ⟨a, c, h1, h2, h3⟩
    exact ⟨a, c, h1, .inl rfl, h3⟩
end Go.Proofs.YtfoofbcmaljmoaaDoor
