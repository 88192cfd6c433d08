/-
  ParseRow, impl., joined.
-/
import Derived.Test.YtfoofbcmaljmoaaDoorPrk
import Derived.Test.YtfoofbcmaljmoaaDoorPrj
namespace Go.Proofs.YtfoofbcmaljmoaaDoor
open Go.RowKit
set_option linter.unusedVariables false
set_option linter.unusedSimpArgs false
attribute [local go_sem] q2 q3 q4 q5 q6 q7 q8 q9 q10 q11 q12

theorem list5 {α : Type} {l : List α} (h : l.length = 5) : ∃ a b c d e, l = [a, b, c, d, e] := by
  match l, h with
  | [a, b, c, d, e], _ => exact ⟨a, b, c, d, e, rfl⟩
theorem list4 {α : Type} {l : List α} (h : l.length = 4) : ∃ a b c d, l = [a, b, c, d] := by
  match l, h with
  | [a, b, c, d], _ => exact ⟨a, b, c, d, rfl⟩
set_option maxRecDepth 100000 in
set_option maxHeartbeats 4000000 in
theorem implPr_a (s : ByteArray) (hs : s.size ≤ 1100000) {r : RowV} {n : Nat} {z : Nat → Int} {ok : Bool} (hP : PrIs s r n z ok) (w : World) (hE : Env w) :
    Calls Tryd.prog 5 #[.string s] w (RetRowB w r n z ok) := by
  have hsp : ∀ W, Below w.heap.size w W → Calls Tryd.prog 14 #[.string s, .string (tx [32])] W fun e w' => e = .returned (.slice (some ⟨W.heap.size, 0, none⟩) (spW s).length (spW s).length) ∧ SL w' W.heap.size (.slice (some ⟨W.heap.size, 0, none⟩) (spW s).length (spW s).length) (spW s) ∧ Below W.heap.size W w' := fun W hb => split_a s (by omega) W (hE.below hb)
  have hsz := spW_sz s
  by_cases h5 : (spW s).length = 5
  · obtain ⟨x0, x1, x2, x3, x4, hx⟩ := list5 h5
    rw [hx] at hsp hsz
    have z0 := hsz x0 (by simp)
    have z1 := hsz x1 (by simp)
    have z2 := hsz x2 (by simp)
    have z3 := hsz x3 (by simp)
    have z4 := hsz x4 (by simp)
    have g0 : (spW s).getD 0 ⟨#[]⟩ = x0 := by rw [hx]; rfl
    have g1 : (spW s).getD 1 ⟨#[]⟩ = x1 := by rw [hx]; rfl
    have g2 : (spW s).getD 2 ⟨#[]⟩ = x2 := by rw [hx]; rfl
    have g3 : (spW s).getD 3 ⟨#[]⟩ = x3 := by rw [hx]; rfl
    have g4 : (spW s).getD 4 ⟨#[]⟩ = x4 := by rw [hx]; rfl
    have hcs : (x0 ++ tx [32] ++ x1 ++ tx [32] ++ x3 ++ tx [32] ++ x4).size ≤ 9000000 := by simp only [ByteArray.size_append, tx_size, List.length_cons, List.length_nil]; omega
    have hii : ∀ W, Below w.heap.size w W → Calls Tryd.prog 15 #[.string (x0 ++ tx [32] ++ x1 ++ tx [32] ++ x3 ++ tx [32] ++ x4)] W (RetIL W (iiL (x0 ++ tx [32] ++ x1 ++ tx [32] ++ x3 ++ tx [32] ++ x4))) := fun W hb => integersIn_a _ hcs W (hE.below hb)
    have hpI : ∀ (r' : RowV) (n' : Nat) (z' : Nat → Int), rwB r' n' z' = true → tx (rwT r' n' z') = s → (iiL (x0 ++ tx [32] ++ x1 ++ tx [32] ++ x3 ++ tx [32] ++ x4)).length = 4 ∧ prI s = (r', zlD n' z') := by
      intro r' n' z' h1 h2
      have := prI_row h1
      rw [h2, g0, g1, g3, g4] at this
      exact this.2
    have hbE := iiL_b (x0 ++ tx [32] ++ x1 ++ tx [32] ++ x3 ++ tx [32] ++ x4)
    have hcand : prI s = (⟨(iiL (x0 ++ tx [32] ++ x1 ++ tx [32] ++ x3 ++ tx [32] ++ x4)).getD 0 0, (iiL (x0 ++ tx [32] ++ x1 ++ tx [32] ++ x3 ++ tx [32] ++ x4)).getD 1 0, (iiL (x0 ++ tx [32] ++ x1 ++ tx [32] ++ x3 ++ tx [32] ++ x4)).getD 2 0, (iiL (x0 ++ tx [32] ++ x1 ++ tx [32] ++ x3 ++ tx [32] ++ x4)).getD 3 0⟩, if x2 = tx [45] then [] else iiL x2) := by
      unfold prI; rw [g0, g1, g2, g3, g4]
    by_cases h4 : (iiL (x0 ++ tx [32] ++ x1 ++ tx [32] ++ x3 ++ tx [32] ++ x4)).length = 4
    · obtain ⟨e0, e1, e2, e3, he⟩ := list4 h4
      rw [he] at hii hcand hbE
      obtain ⟨F, hF⟩ : ∃ F, (if x2 = tx [45] then [] else iiL x2) = F := ⟨_, rfl⟩
      obtain ⟨R, hR⟩ : ∃ R : RowV, R = ⟨e0, e1, e2, e3⟩ := ⟨_, rfl⟩
      have hc : ∀ (r' : RowV) (n' : Nat) (z' : Nat → Int), rwB r' n' z' = true → tx (rwT r' n' z') = s → R = r' ∧ F = zlD n' z' := by
        intro r' n' z' h1 h2
        have h3 := (hpI r' n' z' h1 h2).2
        rw [hcand, hF] at h3
        rw [hR]
        injection h3 with h3 h4
        exact ⟨h3, h4⟩
      obtain ⟨gd, hgd⟩ : ∃ gd, rwB R F.length (fun i => F.getD i 0) = gd := ⟨_, rfl⟩
      obtain ⟨te, hte⟩ : ∃ te, ((tx (rwT R F.length (fun i => F.getD i 0))).toList == s.toList) = te := ⟨_, rfl⟩
      obtain ⟨mi, hmi⟩ : ∃ mi, (x2.toList == [45]) = mi := ⟨_, rfl⟩
      have hx2 : mi = decide (x2 = tx [45]) := by
        rw [← hmi, Lib.toList_data]
        by_cases q : x2 = tx [45]
        · rw [q, tx_list]; simp
        · have : ¬ x2.data.toList = [45] := fun e => q (by rw [← tx_of x2, e])
          simp [q, this]
      have hFl : F.length ≤ 2000000 := by
        rw [← hF]
        split
        · simp
        · have := iiL_len x2; omega
      have hRok : RowOk R := by
        rw [hR]
        exact ⟨hbE e0 (by simp), hbE e1 (by simp), hbE e2 (by simp), hbE e3 (by simp)⟩
      refine (implPr_3 s x0 x1 x2 x3 x4 e0 e1 e2 e3 F mi gd te (tx (rwT R F.length (fun i => F.getD i 0))) w (by omega) (by omega) (by omega) (by omega)
        (hide fun W hb => (hsp W hb).mono fun e w' h => ⟨h.1, h.2.2, h.2.1⟩) (hide hii) hmi
        (fun h => by rw [← hF]; rw [hx2] at h; exact if_pos (of_decide_eq_true h))
        (hide fun h W hb => by rw [← hF, if_neg (by rw [hx2] at h; exact of_decide_eq_false h)]; exact integersIn_a x2 (by omega) W (hE.below hb))
        (hide fun W a c hA => by rw [← hgd, hR]; exact isRow_a ⟨e0, e1, e2, e3⟩ _ F.length _ W hA hFl (by rw [← hR]; exact hRok))
        (hide fun h W a c hb hA => by rw [hR]; exact rowText_a ⟨e0, e1, e2, e3⟩ _ F.length _ W hA hFl (by rw [← hR]; exact hRok) ((rw_all (by rw [hgd]; exact h)).1) (hE.below hb).tab) hte).mono ?_
      intro e w' he
      by_cases q : (gd && te) = true
      · rw [if_pos q] at he
        rw [Bool.and_eq_true] at q
        have hT : tx (rwT R F.length (fun i => F.getD i 0)) = s := by
          have := q.2
          rw [← hte] at this
          have h9 := eq_of_beq this
          rw [Lib.toList_data, Lib.toList_data] at h9
          rw [← tx_of s, ← h9, tx_list]
        obtain ⟨k1, k2, k3, k4⟩ := hP.yes (by rw [hgd]; exact q.1) hT
        subst k3
        obtain ⟨a, c, h1, h2, h3⟩ := he
        rw [← k1, ← k2, hR]
        exact ⟨a, c, h1, h2.congr (fun i hi => k4 i (by omega)), h3⟩
      · rw [if_neg q] at he
        have hno : ¬ (rwB R F.length (fun i => F.getD i 0) = true ∧ tx (rwT R F.length (fun i => F.getD i 0)) = s) := by
          rintro ⟨h1, h2⟩
          apply q
          rw [Bool.and_eq_true]
          refine ⟨by rw [← hgd]; exact h1, ?_⟩
          rw [← hte, h2]; simp
        obtain ⟨k1, k2, k3⟩ := hP.no (cand_no hc hno)
        subst k1; subst k2; subst k3
        obtain ⟨a, c, h1, h2, h3⟩ := he
        exact ⟨a, c, h1, .inl rfl, h3⟩

    · obtain ⟨k1, k2, k3⟩ := hP.no (fun r' n' z' h1 h2 => h4 (hpI r' n' z' h1 h2).1)
      subst k1; subst k2; subst k3
      refine (implPr_2 s x0 x1 x2 x3 x4 _ w (by simp; omega) (by omega) (by omega) (by omega) (by omega) (hide fun W hb => (hsp W hb).mono fun e w' h => ⟨h.1, h.2.2, h.2.1⟩) (hide fun W hb => (hii W hb).mono fun e w' ⟨a, c, h1, h2, h3⟩ => ⟨a, c, h1, h3⟩)).mono ?_
      rintro e w' ⟨a, c, h1, h2, h3⟩
      exact ⟨a, c, h1, .inl rfl, h3⟩
  · obtain ⟨k1, k2, k3⟩ := hP.no (fun r' n' z' h1 h2 => h5 (by have := (prI_row h1).1; rw [h2] at this; exact this))
    subst k1; subst k2; subst k3
    refine (implPr_1 s _ w (by simp; omega) (hide fun W hb => (hsp W hb).mono fun e w' h => ⟨h.1, h.2.2, trivial⟩)).mono ?_
    rintro e w' ⟨a, c, h1, h2, h3⟩
    exact ⟨a, c, h1, .inl rfl, h3⟩
end Go.Proofs.YtfoofbcmaljmoaaDoor
