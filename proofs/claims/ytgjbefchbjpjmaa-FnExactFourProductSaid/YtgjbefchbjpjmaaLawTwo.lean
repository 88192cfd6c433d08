/-
  The laws of TwoProduct and FourProduct: walks.
-/
import Derived.Test.YtgjbefchbjpjmaaProd
import Derived.Test.YtgjbefchbjpjmaaKinds
namespace Go.Proofs.Ytgjbefchbjpjmaa
open Go.RowKit
set_option linter.unusedVariables false
set_option linter.unusedSimpArgs false
theorem i64_wf {n : Int} (h : (Lit.int .i64 n).wf = true) : I64 n := by
  simp only [Lit.wf, Bool.and_eq_true, decide_eq_true_eq] at h
  exact ⟨h.1, h.2⟩
theorem toPoint_b (x1 y1 : Int) (w : World) :
    Calls Try.prog 18 #[.agg #[.int .i64 x1, .int .i64 y1]] w fun e w' => e = .returned (.agg #[.int .i64 x1, .int .i64 y1]) ∧ Below w.heap.size w w' :=
  (toPoint_any x1 y1 w).mono (by rintro e w' ⟨rfl, rfl⟩; exact ⟨rfl, by go_grown⟩)

set_option maxRecDepth 100000 in
set_option maxHeartbeats 4000000 in
theorem lawTwoProduct (x1 y1 x2 y2 : Int) (w : World) (hx1 : I64 x1) (hy1 : I64 y1) (hx2 : I64 x2) (hy2 : I64 y2) :
    Calls Try.prog 4 #[.agg #[.int .i64 x1, .int .i64 y1], .agg #[.int .i64 x2, .int .i64 y2]] w fun e w' => e = .returned (.bool true) ∧ Below w.heap.size w w' := by
  go_enter Try.func4, Try.ntmps4
  go_upto_region 1 with fail
  go_cut [5, 6] (fun s5 s6 wx => ∃ g1 : Nat, s5 = .pointer (some ⟨g1, 0, none⟩) ∧ s6 = .bool (TwoProductOk x1 y1 x2 y2) ∧ wx.cell? ⟨w.heap.size, 0, none⟩ = some (.int .i64 x1) ∧ wx.cell? ⟨w.heap.size, 1, none⟩ = some (.int .i64 y1) ∧ wx.cell? ⟨w.heap.size + 1, 0, none⟩ = some (.int .i64 x2) ∧ wx.cell? ⟨w.heap.size + 1, 1, none⟩ = some (.int .i64 y2) ∧ wx.cell? ⟨g1, 0, none⟩ = some (.int .i64 (TwoProductR0 x1 y1 x2 y2)) ∧ wx.cell? ⟨g1, 1, none⟩ = some (.int .i64 (TwoProductR1 x1 y1 x2 y2)) ∧ Below w.heap.size w wx)
  case first =>
    rename_i Q1 K1 h1 J1 K2 h2 h3
    have HS0 : Sx w (w.heap.size + 2) [(⟨w.heap.size, 0, none⟩, .int .i64 x1), (⟨w.heap.size, 1, none⟩, .int .i64 y1), (⟨w.heap.size + 1, 0, none⟩, .int .i64 x2), (⟨w.heap.size + 1, 1, none⟩, .int .i64 y2)] ((w.alloc (.cells #[.int .i64 x1, .int .i64 y1] 26)).alloc (.cells #[.int .i64 x2, .int .i64 y2] 26)) := by
      refine Sx.mk_of (by simp) ?_ (by go_grown)
      intro c hc
      simp only [List.mem_cons, List.not_mem_nil, or_false] at hc
      rcases hc with rfl | rfl | rfl | rfl <;> go_simp
    refine region_inv (by kernel_rfl) (fun j => #[10,11,12,13,14,9,15,16,5,5,6].getD j 0) (fun j => Kind.ok ((fun j => match j with | 0 => Kind.val (.agg #[.int .i64 x1, .int .i64 y1]) | 1 => Kind.val (.agg #[.int .i64 x1, .int .i64 y1]) | 2 => Kind.val (.agg #[.int .i64 x2, .int .i64 y2]) | 3 => Kind.val (.agg #[.int .i64 x2, .int .i64 y2]) | 4 => Kind.val (.tuple #[.agg #[.int .i64 (TwoProductR0 x1 y1 x2 y2), .int .i64 (TwoProductR1 x1 y1 x2 y2)], .bool (TwoProductOk x1 y1 x2 y2)]) | 5 => Kind.val (.tuple #[.agg #[.int .i64 (TwoProductR0 x1 y1 x2 y2), .int .i64 (TwoProductR1 x1 y1 x2 y2)], .bool (TwoProductOk x1 y1 x2 y2)]) | 6 => Kind.val (.agg #[.int .i64 (TwoProductR0 x1 y1 x2 y2), .int .i64 (TwoProductR1 x1 y1 x2 y2)]) | 7 => Kind.val (.bool (TwoProductOk x1 y1 x2 y2)) | 8 => Kind.own (w.heap.size + 2) 2 | 9 => Kind.held (w.heap.size + 2) [.int .i64 (TwoProductR0 x1 y1 x2 y2), .int .i64 (TwoProductR1 x1 y1 x2 y2)] | 10 => Kind.val (.bool (TwoProductOk x1 y1 x2 y2)) | _ => Kind.any : Nat → Kind) j)) (Sx w (w.heap.size + 2) [(⟨w.heap.size, 0, none⟩, .int .i64 x1), (⟨w.heap.size, 1, none⟩, .int .i64 y1), (⟨w.heap.size + 1, 0, none⟩, .int .i64 x2), (⟨w.heap.size + 1, 1, none⟩, .int .i64 y2)]) (by kernel_rfl) ?_ ?_ ?_ ?_
    · intro j hj
      have hj2 : j < 11 := hj
      have : ∀ j, j < 11 → (#[10,11,12,13,14,9,15,16,5,5,6] : Array Nat).getD j 0 < 34 := by decide
      exact this j hj2
    · exact HS0.drew
    · clear h1 h2 h3
      intro i o ho
      match i, ho with
      | 0, ho =>
        cases ho
        intro a wx K hf hS hdep hw hK
        have F2 : a.eval (.tmp 2) = .pointer (some ⟨w.heap.size, 0, none⟩) := hf 2 (by decide +kernel)
        have c0 := hS.cells (⟨w.heap.size, 0, none⟩, .int .i64 x1) (by simp)
        have c1 := hS.cells (⟨w.heap.size, 1, none⟩, .int .i64 y1) (by simp)
        clear hf hw hdep
        have e1 := ev_const a
        have e2 := ev_func a
        unfold Oper.wp
        generalize Act.eval _ = ev at *
        go_simp
        refine hK _ _ hS ?_ (fun j u _ h => h)
        rw [if_pos (by rfl)]
        rfl
      | 1, ho =>
        cases ho
        intro a wx K hf hS hdep hw hK
        have D0 : a.eval (.tmp 10) = _ := hdep 0 (by decide +kernel)
        clear hf hw hdep
        have e1 := ev_const a
        have e2 := ev_func a
        unfold Oper.wp
        generalize Act.eval _ = ev at *
        go_simp
        refine (toPoint_b _ _ _).mono ?_
        rintro e w2 ⟨rfl, hb⟩
        refine hK _ _ (hS.call hb) ?_ (fun j u _ h => Kind.ok_below hb h)
        rw [if_pos (by rfl)]
        rfl
      | 2, ho =>
        cases ho
        intro a wx K hf hS hdep hw hK
        have F3 : a.eval (.tmp 3) = .pointer (some ⟨w.heap.size + 1, 0, none⟩) := hf 3 (by decide +kernel)
        have c0 := hS.cells (⟨w.heap.size + 1, 0, none⟩, .int .i64 x2) (by simp)
        have c1 := hS.cells (⟨w.heap.size + 1, 1, none⟩, .int .i64 y2) (by simp)
        clear hf hw hdep
        have e1 := ev_const a
        have e2 := ev_func a
        unfold Oper.wp
        generalize Act.eval _ = ev at *
        go_simp
        refine hK _ _ hS ?_ (fun j u _ h => h)
        rw [if_pos (by rfl)]
        rfl
      | 3, ho =>
        cases ho
        intro a wx K hf hS hdep hw hK
        have D2 : a.eval (.tmp 12) = _ := hdep 2 (by decide +kernel)
        clear hf hw hdep
        have e1 := ev_const a
        have e2 := ev_func a
        unfold Oper.wp
        generalize Act.eval _ = ev at *
        go_simp
        refine (toPoint_b _ _ _).mono ?_
        rintro e w2 ⟨rfl, hb⟩
        refine hK _ _ (hS.call hb) ?_ (fun j u _ h => Kind.ok_below hb h)
        rw [if_pos (by rfl)]
        rfl
      | 4, ho =>
        cases ho
        intro a wx K hf hS hdep hw hK
        have D1 : a.eval (.tmp 11) = _ := hdep 1 (by decide +kernel)
        have D3 : a.eval (.tmp 13) = _ := hdep 3 (by decide +kernel)
        clear hf hw hdep
        have e1 := ev_const a
        have e2 := ev_func a
        unfold Oper.wp
        generalize Act.eval _ = ev at *
        go_simp
        refine (specTwoProduct_any x1 y1 x2 y2 _ hx1 hy1 hx2 hy2).mono ?_
        rintro e w2 ⟨rfl, hb⟩
        refine hK _ _ (hS.call hb) ?_ (fun j u _ h => Kind.ok_below hb h)
        rw [if_pos (by rfl)]
        rfl
      | 5, ho =>
        cases ho
        intro a wx K hf hS hdep hw hK
        have D4 : a.eval (.tmp 14) = _ := hdep 4 (by decide +kernel)
        clear hf hw hdep
        have e1 := ev_const a
        have e2 := ev_func a
        unfold Oper.wp
        generalize Act.eval _ = ev at *
        go_simp
        refine hK _ _ hS ?_ (fun j u _ h => h)
        rw [if_pos (by rfl)]
        rfl
      | 6, ho =>
        cases ho
        intro a wx K hf hS hdep hw hK
        have D5 : a.eval (.tmp 9) = _ := hdep 5 (by decide +kernel)
        clear hf hw hdep
        have e1 := ev_const a
        have e2 := ev_func a
        unfold Oper.wp
        generalize Act.eval _ = ev at *
        go_simp
        refine hK _ _ hS ?_ (fun j u _ h => h)
        rw [if_pos (by rfl)]
        rfl
      | 7, ho =>
        cases ho
        intro a wx K hf hS hdep hw hK
        have D5 : a.eval (.tmp 9) = _ := hdep 5 (by decide +kernel)
        clear hf hw hdep
        have e1 := ev_const a
        have e2 := ev_func a
        unfold Oper.wp
        generalize Act.eval _ = ev at *
        go_simp
        refine hK _ _ hS ?_ (fun j u _ h => h)
        rw [if_pos (by rfl)]
        rfl
      | 8, ho =>
        cases ho
        intro a wx K hf hS hdep hw hK
        clear hf hw hdep
        have e1 := ev_const a
        have e2 := ev_func a
        unfold Oper.wp
        generalize Act.eval _ = ev at *
        go_simp
        refine hK _ _ (hS.call (below_alloc_self _ _)) ?_ (fun j u _ h => Kind.ok_below (below_alloc_self _ _) h)
        rw [if_pos (by rfl)]
        exact own_new hS.size rfl
      | 9, ho =>
        cases ho
        intro a wx K hf hS hdep hw hK
        have D6 : a.eval (.tmp 15) = _ := hdep 6 (by decide +kernel)
        obtain ⟨g, D8, r1, r2, r3⟩ := hdep 8 (by decide +kernel)
        change a.eval (.tmp 5) = _ at D8
        obtain ⟨⟨u0, cx0⟩, cf0⟩ := r3 0 (by decide)
        obtain ⟨⟨u1, cx1⟩, cf1⟩ := r3 1 (by decide)
        have D8' : tau a 5 = _ := D8
        clear hf hw hdep
        have e1 := ev_const a
        have e2 := ev_func a
        unfold Oper.wp
        generalize Act.eval _ = ev at *
        go_simp
        refine hK undef _ (Sx.set (p := ⟨g, 1, none⟩) r1 (Sx.set (p := ⟨g, 0, none⟩) r1 (hS))) ?_ (fun j u hj h => ?_)
        · rw [if_neg (by decide)]
          refine ⟨g, D8', r1, by simpa using r2, fun j hj => ?_⟩
          match j, hj with
          | 0, _ => go_simp
          | 1, _ => go_simp
          | j + 2, hj => exact absurd (show j + 2 < 2 from hj) (by omega)
        · have HH : ((fun j => match j with | 0 => Kind.val (.agg #[.int .i64 x1, .int .i64 y1]) | 1 => Kind.val (.agg #[.int .i64 x1, .int .i64 y1]) | 2 => Kind.val (.agg #[.int .i64 x2, .int .i64 y2]) | 3 => Kind.val (.agg #[.int .i64 x2, .int .i64 y2]) | 4 => Kind.val (.tuple #[.agg #[.int .i64 (TwoProductR0 x1 y1 x2 y2), .int .i64 (TwoProductR1 x1 y1 x2 y2)], .bool (TwoProductOk x1 y1 x2 y2)]) | 5 => Kind.val (.tuple #[.agg #[.int .i64 (TwoProductR0 x1 y1 x2 y2), .int .i64 (TwoProductR1 x1 y1 x2 y2)], .bool (TwoProductOk x1 y1 x2 y2)]) | 6 => Kind.val (.agg #[.int .i64 (TwoProductR0 x1 y1 x2 y2), .int .i64 (TwoProductR1 x1 y1 x2 y2)]) | 7 => Kind.val (.bool (TwoProductOk x1 y1 x2 y2)) | 8 => Kind.own (w.heap.size + 2) 2 | 9 => Kind.held (w.heap.size + 2) [.int .i64 (TwoProductR0 x1 y1 x2 y2), .int .i64 (TwoProductR1 x1 y1 x2 y2)] | 10 => Kind.val (.bool (TwoProductOk x1 y1 x2 y2)) | _ => Kind.any : Nat → Kind) j).isHeld = false := by
            match j, hj with
            | 0, hj => first | rfl | exact absurd rfl hj
            | 1, hj => first | rfl | exact absurd rfl hj
            | 2, hj => first | rfl | exact absurd rfl hj
            | 3, hj => first | rfl | exact absurd rfl hj
            | 4, hj => first | rfl | exact absurd rfl hj
            | 5, hj => first | rfl | exact absurd rfl hj
            | 6, hj => first | rfl | exact absurd rfl hj
            | 7, hj => first | rfl | exact absurd rfl hj
            | 8, hj => first | rfl | exact absurd rfl hj
            | 9, hj => first | rfl | exact absurd rfl hj
            | 10, hj => first | rfl | exact absurd rfl hj
            | j + 11, _ => rfl
          exact Kind.ok_set (p := ⟨g, 1, none⟩) HH (Kind.ok_set (p := ⟨g, 0, none⟩) HH (h))
      | 10, ho =>
        cases ho
        intro a wx K hf hS hdep hw hK
        have D7 : a.eval (.tmp 16) = _ := hdep 7 (by decide +kernel)
        clear hf hw hdep
        have e1 := ev_const a
        have e2 := ev_func a
        unfold Oper.wp
        generalize Act.eval _ = ev at *
        go_simp
        refine hK _ _ hS ?_ (fun j u _ h => h)
        rw [if_pos (by rfl)]
        rfl
      | i + 11, ho => exact absurd ho (by simp)
    · intro a wx hd hw hf hS hg
      have F0 : tau a 0 = _ := hf 0 (by decide +kernel)
      have F1 : tau a 1 = _ := hf 1 (by decide +kernel)
      have F2 : tau a 2 = _ := hf 2 (by decide +kernel)
      have F3 : tau a 3 = _ := hf 3 (by decide +kernel)
      have F4 : tau a 4 = _ := hf 4 (by decide +kernel)
      have F7 : tau a 7 = _ := hf 7 (by decide +kernel)
      have F8 : tau a 8 = _ := hf 8 (by decide +kernel)
      have F17 : tau a 17 = _ := hf 17 (by decide +kernel)
      have F18 : tau a 18 = _ := hf 18 (by decide +kernel)
      have F19 : tau a 19 = _ := hf 19 (by decide +kernel)
      have F20 : tau a 20 = _ := hf 20 (by decide +kernel)
      have F21 : tau a 21 = _ := hf 21 (by decide +kernel)
      have F22 : tau a 22 = _ := hf 22 (by decide +kernel)
      have F23 : tau a 23 = _ := hf 23 (by decide +kernel)
      have F24 : tau a 24 = _ := hf 24 (by decide +kernel)
      have F25 : tau a 25 = _ := hf 25 (by decide +kernel)
      have F26 : tau a 26 = _ := hf 26 (by decide +kernel)
      have F27 : tau a 27 = _ := hf 27 (by decide +kernel)
      have F28 : tau a 28 = _ := hf 28 (by decide +kernel)
      have F29 : tau a 29 = _ := hf 29 (by decide +kernel)
      have F30 : tau a 30 = _ := hf 30 (by decide +kernel)
      have F31 : tau a 31 = _ := hf 31 (by decide +kernel)
      have F32 : tau a 32 = _ := hf 32 (by decide +kernel)
      have F33 : tau a 33 = _ := hf 33 (by decide +kernel)
      obtain ⟨g1, G0, r1, r2, r3⟩ := hg 9 (by decide)
      have G1 : tau a 6 = .bool (TwoProductOk x1 y1 x2 y2) := hg 10 (by decide)
      change tau a 5 = _ at G0
      have ha : a = ⟨#[tau a 0, tau a 1, tau a 2, tau a 3, tau a 4, tau a 5, tau a 6, tau a 7, tau a 8, tau a 9, tau a 10, tau a 11, tau a 12, tau a 13, tau a 14, tau a 15, tau a 16, tau a 17, tau a 18, tau a 19, tau a 20, tau a 21, tau a 22, tau a 23, tau a 24, tau a 25, tau a 26, tau a 27, tau a 28, tau a 29, tau a 30, tau a 31, tau a 32, tau a 33], []⟩ := by
        obtain ⟨t, d⟩ := a
        have h5 := arr_eq (show t.size = 34 from hw)
        have h6 : d = [] := hd
        subst h6
        exact congrArg (fun z => Act.mk z []) h5
      show K2 a wx
      rw [ha, F0, F1, F2, F3, F4, F7, F8, F17, F18, F19, F20, F21, F22, F23, F24, F25, F26, F27, F28, F29, F30, F31, F32, F33, G0, G1]
      clear ha hf hd hw hg
      dsimp only
      refine h3 _ _ ?_
      go_meet
      refine ⟨g1, rfl, rfl, ?_, ?_, ?_, ?_, ?_, ?_, hS.below⟩
      · exact hS.cells (⟨w.heap.size, 0, none⟩, .int .i64 x1) (by simp)
      · exact hS.cells (⟨w.heap.size, 1, none⟩, .int .i64 y1) (by simp)
      · exact hS.cells (⟨w.heap.size + 1, 0, none⟩, .int .i64 x2) (by simp)
      · exact hS.cells (⟨w.heap.size + 1, 1, none⟩, .int .i64 y2) (by simp)
      · exact r3 0 (by simp)
      · exact r3 1 (by simp)
  case rest =>
    obtain ⟨g1, rfl, rfl, cx0, cx1, cx2, cx3, cx4, cx5, hb1⟩ := hcut
    go_upto_region 2 with fail
    go_cut [7, 8] (fun s7 s8 wx => ∃ g2 : Nat, s7 = .pointer (some ⟨g2, 0, none⟩) ∧ s8 = .bool (TwoProductOk x1 y1 x2 y2) ∧ wx.cell? ⟨w.heap.size, 0, none⟩ = some (.int .i64 x1) ∧ wx.cell? ⟨w.heap.size, 1, none⟩ = some (.int .i64 y1) ∧ wx.cell? ⟨w.heap.size + 1, 0, none⟩ = some (.int .i64 x2) ∧ wx.cell? ⟨w.heap.size + 1, 1, none⟩ = some (.int .i64 y2) ∧ wx.cell? ⟨g1, 0, none⟩ = some (.int .i64 (TwoProductR0 x1 y1 x2 y2)) ∧ wx.cell? ⟨g1, 1, none⟩ = some (.int .i64 (TwoProductR1 x1 y1 x2 y2)) ∧ wx.cell? ⟨g2, 0, none⟩ = some (.int .i64 (TwoProductR0 x1 y1 x2 y2)) ∧ wx.cell? ⟨g2, 1, none⟩ = some (.int .i64 (TwoProductR1 x1 y1 x2 y2)) ∧ Below w.heap.size w wx)
    case first =>
      rename_i Q1 K1 h1 J1 K2 h2 h3
      have HS0 : Sx w wc.heap.size [(⟨w.heap.size, 0, none⟩, .int .i64 x1), (⟨w.heap.size, 1, none⟩, .int .i64 y1), (⟨w.heap.size + 1, 0, none⟩, .int .i64 x2), (⟨w.heap.size + 1, 1, none⟩, .int .i64 y2), (⟨g1, 0, none⟩, .int .i64 (TwoProductR0 x1 y1 x2 y2)), (⟨g1, 1, none⟩, .int .i64 (TwoProductR1 x1 y1 x2 y2))] wc := by
        refine Sx.mk_of rfl ?_ hb1
        intro c hc
        simp only [List.mem_cons, List.not_mem_nil, or_false] at hc
        rcases hc with rfl | rfl | rfl | rfl | rfl | rfl <;> assumption
      refine region_inv (by kernel_rfl) (fun j => #[18,19,20,21,22,17,23,24,7,7,8].getD j 0) (fun j => Kind.ok ((fun j => match j with | 0 => Kind.val (.agg #[.int .i64 x1, .int .i64 y1]) | 1 => Kind.val (.agg #[.int .i64 x1, .int .i64 y1]) | 2 => Kind.val (.agg #[.int .i64 x2, .int .i64 y2]) | 3 => Kind.val (.agg #[.int .i64 x2, .int .i64 y2]) | 4 => Kind.val (.tuple #[.agg #[.int .i64 (TwoProductR0 x1 y1 x2 y2), .int .i64 (TwoProductR1 x1 y1 x2 y2)], .bool (TwoProductOk x1 y1 x2 y2)]) | 5 => Kind.val (.tuple #[.agg #[.int .i64 (TwoProductR0 x1 y1 x2 y2), .int .i64 (TwoProductR1 x1 y1 x2 y2)], .bool (TwoProductOk x1 y1 x2 y2)]) | 6 => Kind.val (.agg #[.int .i64 (TwoProductR0 x1 y1 x2 y2), .int .i64 (TwoProductR1 x1 y1 x2 y2)]) | 7 => Kind.val (.bool (TwoProductOk x1 y1 x2 y2)) | 8 => Kind.own (wc.heap.size) 2 | 9 => Kind.held (wc.heap.size) [.int .i64 (TwoProductR0 x1 y1 x2 y2), .int .i64 (TwoProductR1 x1 y1 x2 y2)] | 10 => Kind.val (.bool (TwoProductOk x1 y1 x2 y2)) | _ => Kind.any : Nat → Kind) j)) (Sx w (wc.heap.size) [(⟨w.heap.size, 0, none⟩, .int .i64 x1), (⟨w.heap.size, 1, none⟩, .int .i64 y1), (⟨w.heap.size + 1, 0, none⟩, .int .i64 x2), (⟨w.heap.size + 1, 1, none⟩, .int .i64 y2), (⟨g1, 0, none⟩, .int .i64 (TwoProductR0 x1 y1 x2 y2)), (⟨g1, 1, none⟩, .int .i64 (TwoProductR1 x1 y1 x2 y2))]) (by kernel_rfl) ?_ ?_ ?_ ?_
      · intro j hj
        have hj2 : j < 11 := hj
        have : ∀ j, j < 11 → (#[18,19,20,21,22,17,23,24,7,7,8] : Array Nat).getD j 0 < 34 := by decide
        exact this j hj2
      · exact HS0.drew
      · clear h1 h2 h3
        intro i o ho
        match i, ho with
        | 0, ho =>
          cases ho
          intro a wx K hf hS hdep hw hK
          have F2 : a.eval (.tmp 2) = .pointer (some ⟨w.heap.size, 0, none⟩) := hf 2 (by decide +kernel)
          have c0 := hS.cells (⟨w.heap.size, 0, none⟩, .int .i64 x1) (by simp)
          have c1 := hS.cells (⟨w.heap.size, 1, none⟩, .int .i64 y1) (by simp)
          clear hf hw hdep
          have e1 := ev_const a
          have e2 := ev_func a
          unfold Oper.wp
          generalize Act.eval _ = ev at *
          go_simp
          refine hK _ _ hS ?_ (fun j u _ h => h)
          rw [if_pos (by rfl)]
          rfl
        | 1, ho =>
          cases ho
          intro a wx K hf hS hdep hw hK
          have D0 : a.eval (.tmp 18) = _ := hdep 0 (by decide +kernel)
          clear hf hw hdep
          have e1 := ev_const a
          have e2 := ev_func a
          unfold Oper.wp
          generalize Act.eval _ = ev at *
          go_simp
          refine (toPoint_b _ _ _).mono ?_
          rintro e w2 ⟨rfl, hb⟩
          refine hK _ _ (hS.call hb) ?_ (fun j u _ h => Kind.ok_below hb h)
          rw [if_pos (by rfl)]
          rfl
        | 2, ho =>
          cases ho
          intro a wx K hf hS hdep hw hK
          have F3 : a.eval (.tmp 3) = .pointer (some ⟨w.heap.size + 1, 0, none⟩) := hf 3 (by decide +kernel)
          have c0 := hS.cells (⟨w.heap.size + 1, 0, none⟩, .int .i64 x2) (by simp)
          have c1 := hS.cells (⟨w.heap.size + 1, 1, none⟩, .int .i64 y2) (by simp)
          clear hf hw hdep
          have e1 := ev_const a
          have e2 := ev_func a
          unfold Oper.wp
          generalize Act.eval _ = ev at *
          go_simp
          refine hK _ _ hS ?_ (fun j u _ h => h)
          rw [if_pos (by rfl)]
          rfl
        | 3, ho =>
          cases ho
          intro a wx K hf hS hdep hw hK
          have D2 : a.eval (.tmp 20) = _ := hdep 2 (by decide +kernel)
          clear hf hw hdep
          have e1 := ev_const a
          have e2 := ev_func a
          unfold Oper.wp
          generalize Act.eval _ = ev at *
          go_simp
          refine (toPoint_b _ _ _).mono ?_
          rintro e w2 ⟨rfl, hb⟩
          refine hK _ _ (hS.call hb) ?_ (fun j u _ h => Kind.ok_below hb h)
          rw [if_pos (by rfl)]
          rfl
        | 4, ho =>
          cases ho
          intro a wx K hf hS hdep hw hK
          have D1 : a.eval (.tmp 19) = _ := hdep 1 (by decide +kernel)
          have D3 : a.eval (.tmp 21) = _ := hdep 3 (by decide +kernel)
          clear hf hw hdep
          have e1 := ev_const a
          have e2 := ev_func a
          unfold Oper.wp
          generalize Act.eval _ = ev at *
          go_simp
          refine (implTwoProduct_any x1 y1 x2 y2 _ hx1 hy1 hx2 hy2).mono ?_
          rintro e w2 ⟨rfl, hb⟩
          refine hK _ _ (hS.call hb) ?_ (fun j u _ h => Kind.ok_below hb h)
          rw [if_pos (by rfl)]
          rfl
        | 5, ho =>
          cases ho
          intro a wx K hf hS hdep hw hK
          have D4 : a.eval (.tmp 22) = _ := hdep 4 (by decide +kernel)
          clear hf hw hdep
          have e1 := ev_const a
          have e2 := ev_func a
          unfold Oper.wp
          generalize Act.eval _ = ev at *
          go_simp
          refine hK _ _ hS ?_ (fun j u _ h => h)
          rw [if_pos (by rfl)]
          rfl
        | 6, ho =>
          cases ho
          intro a wx K hf hS hdep hw hK
          have D5 : a.eval (.tmp 17) = _ := hdep 5 (by decide +kernel)
          clear hf hw hdep
          have e1 := ev_const a
          have e2 := ev_func a
          unfold Oper.wp
          generalize Act.eval _ = ev at *
          go_simp
          refine hK _ _ hS ?_ (fun j u _ h => h)
          rw [if_pos (by rfl)]
          rfl
        | 7, ho =>
          cases ho
          intro a wx K hf hS hdep hw hK
          have D5 : a.eval (.tmp 17) = _ := hdep 5 (by decide +kernel)
          clear hf hw hdep
          have e1 := ev_const a
          have e2 := ev_func a
          unfold Oper.wp
          generalize Act.eval _ = ev at *
          go_simp
          refine hK _ _ hS ?_ (fun j u _ h => h)
          rw [if_pos (by rfl)]
          rfl
        | 8, ho =>
          cases ho
          intro a wx K hf hS hdep hw hK
          clear hf hw hdep
          have e1 := ev_const a
          have e2 := ev_func a
          unfold Oper.wp
          generalize Act.eval _ = ev at *
          go_simp
          refine hK _ _ (hS.call (below_alloc_self _ _)) ?_ (fun j u _ h => Kind.ok_below (below_alloc_self _ _) h)
          rw [if_pos (by rfl)]
          exact own_new hS.size rfl
        | 9, ho =>
          cases ho
          intro a wx K hf hS hdep hw hK
          have D6 : a.eval (.tmp 23) = _ := hdep 6 (by decide +kernel)
          obtain ⟨g, D8, r1, r2, r3⟩ := hdep 8 (by decide +kernel)
          change a.eval (.tmp 7) = _ at D8
          obtain ⟨⟨u0, cx0⟩, cf0⟩ := r3 0 (by decide)
          obtain ⟨⟨u1, cx1⟩, cf1⟩ := r3 1 (by decide)
          have D8' : tau a 7 = _ := D8
          clear hf hw hdep
          have e1 := ev_const a
          have e2 := ev_func a
          unfold Oper.wp
          generalize Act.eval _ = ev at *
          go_simp
          refine hK undef _ (Sx.set (p := ⟨g, 1, none⟩) r1 (Sx.set (p := ⟨g, 0, none⟩) r1 (hS))) ?_ (fun j u hj h => ?_)
          · rw [if_neg (by decide)]
            refine ⟨g, D8', r1, by simpa using r2, fun j hj => ?_⟩
            match j, hj with
            | 0, _ => go_simp
            | 1, _ => go_simp
            | j + 2, hj => exact absurd (show j + 2 < 2 from hj) (by omega)
          · have HH : ((fun j => match j with | 0 => Kind.val (.agg #[.int .i64 x1, .int .i64 y1]) | 1 => Kind.val (.agg #[.int .i64 x1, .int .i64 y1]) | 2 => Kind.val (.agg #[.int .i64 x2, .int .i64 y2]) | 3 => Kind.val (.agg #[.int .i64 x2, .int .i64 y2]) | 4 => Kind.val (.tuple #[.agg #[.int .i64 (TwoProductR0 x1 y1 x2 y2), .int .i64 (TwoProductR1 x1 y1 x2 y2)], .bool (TwoProductOk x1 y1 x2 y2)]) | 5 => Kind.val (.tuple #[.agg #[.int .i64 (TwoProductR0 x1 y1 x2 y2), .int .i64 (TwoProductR1 x1 y1 x2 y2)], .bool (TwoProductOk x1 y1 x2 y2)]) | 6 => Kind.val (.agg #[.int .i64 (TwoProductR0 x1 y1 x2 y2), .int .i64 (TwoProductR1 x1 y1 x2 y2)]) | 7 => Kind.val (.bool (TwoProductOk x1 y1 x2 y2)) | 8 => Kind.own (wc.heap.size) 2 | 9 => Kind.held (wc.heap.size) [.int .i64 (TwoProductR0 x1 y1 x2 y2), .int .i64 (TwoProductR1 x1 y1 x2 y2)] | 10 => Kind.val (.bool (TwoProductOk x1 y1 x2 y2)) | _ => Kind.any : Nat → Kind) j).isHeld = false := by
              match j, hj with
              | 0, hj => first | rfl | exact absurd rfl hj
              | 1, hj => first | rfl | exact absurd rfl hj
              | 2, hj => first | rfl | exact absurd rfl hj
              | 3, hj => first | rfl | exact absurd rfl hj
              | 4, hj => first | rfl | exact absurd rfl hj
              | 5, hj => first | rfl | exact absurd rfl hj
              | 6, hj => first | rfl | exact absurd rfl hj
              | 7, hj => first | rfl | exact absurd rfl hj
              | 8, hj => first | rfl | exact absurd rfl hj
              | 9, hj => first | rfl | exact absurd rfl hj
              | 10, hj => first | rfl | exact absurd rfl hj
              | j + 11, _ => rfl
            exact Kind.ok_set (p := ⟨g, 1, none⟩) HH (Kind.ok_set (p := ⟨g, 0, none⟩) HH (h))
        | 10, ho =>
          cases ho
          intro a wx K hf hS hdep hw hK
          have D7 : a.eval (.tmp 24) = _ := hdep 7 (by decide +kernel)
          clear hf hw hdep
          have e1 := ev_const a
          have e2 := ev_func a
          unfold Oper.wp
          generalize Act.eval _ = ev at *
          go_simp
          refine hK _ _ hS ?_ (fun j u _ h => h)
          rw [if_pos (by rfl)]
          rfl
        | i + 11, ho => exact absurd ho (by simp)
      · intro a wx hd hw hf hS hg
        have F0 : tau a 0 = _ := hf 0 (by decide +kernel)
        have F1 : tau a 1 = _ := hf 1 (by decide +kernel)
        have F2 : tau a 2 = _ := hf 2 (by decide +kernel)
        have F3 : tau a 3 = _ := hf 3 (by decide +kernel)
        have F4 : tau a 4 = _ := hf 4 (by decide +kernel)
        have F5 : tau a 5 = _ := hf 5 (by decide +kernel)
        have F6 : tau a 6 = _ := hf 6 (by decide +kernel)
        have F9 : tau a 9 = _ := hf 9 (by decide +kernel)
        have F10 : tau a 10 = _ := hf 10 (by decide +kernel)
        have F11 : tau a 11 = _ := hf 11 (by decide +kernel)
        have F12 : tau a 12 = _ := hf 12 (by decide +kernel)
        have F13 : tau a 13 = _ := hf 13 (by decide +kernel)
        have F14 : tau a 14 = _ := hf 14 (by decide +kernel)
        have F15 : tau a 15 = _ := hf 15 (by decide +kernel)
        have F16 : tau a 16 = _ := hf 16 (by decide +kernel)
        have F25 : tau a 25 = _ := hf 25 (by decide +kernel)
        have F26 : tau a 26 = _ := hf 26 (by decide +kernel)
        have F27 : tau a 27 = _ := hf 27 (by decide +kernel)
        have F28 : tau a 28 = _ := hf 28 (by decide +kernel)
        have F29 : tau a 29 = _ := hf 29 (by decide +kernel)
        have F30 : tau a 30 = _ := hf 30 (by decide +kernel)
        have F31 : tau a 31 = _ := hf 31 (by decide +kernel)
        have F32 : tau a 32 = _ := hf 32 (by decide +kernel)
        have F33 : tau a 33 = _ := hf 33 (by decide +kernel)
        obtain ⟨g2, G0, r1, r2, r3⟩ := hg 9 (by decide)
        have G1 : tau a 8 = .bool (TwoProductOk x1 y1 x2 y2) := hg 10 (by decide)
        change tau a 7 = _ at G0
        have ha : a = ⟨#[tau a 0, tau a 1, tau a 2, tau a 3, tau a 4, tau a 5, tau a 6, tau a 7, tau a 8, tau a 9, tau a 10, tau a 11, tau a 12, tau a 13, tau a 14, tau a 15, tau a 16, tau a 17, tau a 18, tau a 19, tau a 20, tau a 21, tau a 22, tau a 23, tau a 24, tau a 25, tau a 26, tau a 27, tau a 28, tau a 29, tau a 30, tau a 31, tau a 32, tau a 33], []⟩ := by
          obtain ⟨t, d⟩ := a
          have h5 := arr_eq (show t.size = 34 from hw)
          have h6 : d = [] := hd
          subst h6
          exact congrArg (fun z => Act.mk z []) h5
        show K2 a wx
        rw [ha, F0, F1, F2, F3, F4, F5, F6, F9, F10, F11, F12, F13, F14, F15, F16, F25, F26, F27, F28, F29, F30, F31, F32, F33, G0, G1]
        clear ha hf hd hw hg
        dsimp only
        refine h3 _ _ ?_
        go_meet
        refine ⟨g2, rfl, rfl, ?_, ?_, ?_, ?_, ?_, ?_, ?_, ?_, hS.below⟩
        · exact hS.cells (⟨w.heap.size, 0, none⟩, .int .i64 x1) (by simp)
        · exact hS.cells (⟨w.heap.size, 1, none⟩, .int .i64 y1) (by simp)
        · exact hS.cells (⟨w.heap.size + 1, 0, none⟩, .int .i64 x2) (by simp)
        · exact hS.cells (⟨w.heap.size + 1, 1, none⟩, .int .i64 y2) (by simp)
        · exact hS.cells (⟨g1, 0, none⟩, .int .i64 (TwoProductR0 x1 y1 x2 y2)) (by simp)
        · exact hS.cells (⟨g1, 1, none⟩, .int .i64 (TwoProductR1 x1 y1 x2 y2)) (by simp)
        · exact r3 0 (by simp)
        · exact r3 1 (by simp)
    case rest =>
      obtain ⟨g2, rfl, rfl, cx0, cx1, cx2, cx3, cx4, cx5, cz0, cz1, hb2⟩ := hcut
      have hz2 := hb2.size
      go_wp2_with (go_at_call 20; refine (eqPoint_any _ _ _).mono ?_; rintro e w' ⟨rfl, hb3⟩)
      go_ret
      exact ⟨rfl, hb2.trans (hb3.mono hz2)⟩
end Go.Proofs.Ytgjbefchbjpjmaa
