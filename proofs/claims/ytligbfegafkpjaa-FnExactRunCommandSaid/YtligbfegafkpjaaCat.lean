/-
  Catalogues on both sides.
-/
import Derived.WalkLawsBesides
import Derived.Test.YtligbfegafkpjaaEnt
namespace Go.Proofs.Ytligbfegafkpjaa
open Go.RowKit
set_option linter.unusedVariables false
set_option linter.unusedSimpArgs false
attribute [local go_sem] q2 q3 q4 q5 q6 q7 q8 q9 q10 q11 q12

set_option maxRecDepth 100000 in
set_option maxHeartbeats 8000000 in
theorem isCatalogue_a (v : Value) (n : Nat) (E : Nat → Ent) (w : World) (h : ArgE w v n E) (hn : n ≤ 2000000) (ho : ∀ i, i < n → EntOk (E i)) :
    Calls Try.prog 42 #[v] w fun e w' => e = .returned (.bool (ctB E n)) ∧ Below w.heap.size w w' := by
  have HA := hide h
  have HO := hide ho
  obtain ⟨a, c, rfl⟩ := h.len
  clear h ho
  go_enter Try.func42, Try.ntmps42
  go_wp2
  go_loopw [7] (fun is wr => ∃ jx : Nat, jx ≤ n ∧ is = .int .i64 (jx : Int) ∧ Hid (ctG E jx = true) ∧ Below w.heap.size w wr) (fun is _ => n - (intOf is).toNat)
  case atStart => exact ⟨0, by omega, rfl, hide rfl, Below.refl _ _⟩
  case round =>
    obtain ⟨jx, hj, rfl, hg, hb⟩ := hrel
    obtain ⟨wl, rfl⟩ : ∃ wl : World, wl = wr := ⟨_, rfl⟩
    have hzl := hb.size
    by_cases q : jx < n
    · have hci : (jx : Int) < (n : Int) := by omega
      obtain ⟨b, off, hv, hcs⟩ := ((unhide HA).below hb).cells (by omega)
      have hbl : b < wl.heap.size := World.block_lt_of_cell? _ _ (hcs jx q).1
      obtain ⟨c0, c1, c2, c3⟩ := hcs jx q
      subst hv
      obtain ⟨eo, i0, i1, i2⟩ := unhide HO jx q
      obtain ⟨nm, hnm⟩ : ∃ s, (E jx).n = s := ⟨_, rfl⟩
      obtain ⟨x, hx⟩ : ∃ x, (E jx).f.1 = x := ⟨_, rfl⟩
      obtain ⟨y, hy⟩ : ∃ y, (E jx).f.2.1 = y := ⟨_, rfl⟩
      obtain ⟨z, hz⟩ : ∃ z, (E jx).f.2.2 = z := ⟨_, rfl⟩
      have HGO : Hid (goE E jx = (nmB nm && (classB x y z && (decide (jx = 0) || lessB (E (jx - 1)).n nm)))) := hide (by unfold goE; rw [hnm, hx, hy, hz])
      rw [hnm] at c0 eo
      rw [hx] at c1 i0
      rw [hy] at c2 i1
      rw [hz] at c3 i2
      clear hnm hx hy hz
      cases k1 : nmB nm
      · have HF : Hid (ctB E n = false) := hide (ct_no (by rw [unhide HGO, k1]; rfl) n q)
        clear hcs
        go_upto_region 4 with fail
        go_cut [36] (fun s36 wx => s36 = .bool true ∧ wx.cell? ⟨wl.heap.size, 0, none⟩ = some (.string nm) ∧ wx.cell? ⟨wl.heap.size, 1, none⟩ = some (.int .i64 x) ∧ wx.cell? ⟨wl.heap.size, 2, none⟩ = some (.int .i64 y) ∧ wx.cell? ⟨wl.heap.size, 3, none⟩ = some (.int .i64 z) ∧ Below w.heap.size w wx)
        case first =>
          have h1 := trivial
          rename_i K2 h2 h3
          refine region_n (by kernel_rfl) (fun j => #[12,13,14,15,16,17,18,19,20,21,22,23,24,25,26,27,28,29,30,31,32,33,34,35,36].getD j 0) (fun j => Kd.ok ((fun j => match j with | 0 => Kd.val (.pointer (some ⟨wl.heap.size, 0, none⟩)) | 1 => Kd.val (.string nm) | 2 => Kd.val (.bool false) | 3 => Kd.val (.bool true) | 4 => Kd.val (.bool true) | 5 => Kd.val undef | 6 => Kd.val undef | 7 => Kd.val undef | 8 => Kd.val undef | 9 => Kd.val (.bool true) | 10 => Kd.val (.bool true) | 11 => Kd.val undef | 12 => Kd.val undef | 13 => Kd.val undef | 14 => Kd.val undef | 15 => Kd.val undef | 16 => Kd.val undef | 17 => Kd.val undef | 18 => Kd.val undef | 19 => Kd.val undef | 20 => Kd.val undef | 21 => Kd.val undef | 22 => Kd.val undef | 23 => Kd.val undef | 24 => Kd.val (.bool true) | _ => Kd.any : Nat → Kd) j)) (Sy w (wl.heap.size + 1) [(⟨wl.heap.size, 0, none⟩, .string nm), (⟨wl.heap.size, 1, none⟩, .int .i64 x), (⟨wl.heap.size, 2, none⟩, .int .i64 y), (⟨wl.heap.size, 3, none⟩, .int .i64 z)] []) (fun j => #[true, true, true, true, true, false, false, false, false, true, true, false, false, false, false, false, false, false, false, false, false, false, false, false, true].getD j true) (by kernel_rfl) ?_ ?_ ?_ ?_ ?_ ?_
          · intro j hj
            have hj2 : j < 25 := hj
            have : ∀ j, j < 25 → (#[12,13,14,15,16,17,18,19,20,21,22,23,24,25,26,27,28,29,30,31,32,33,34,35,36] : Array Nat).getD j 0 < 41 := by decide
            exact this j hj2
          · intro i o ho
            match i, ho with
            | 0, ho => cases ho; intro aq wq hd; exact wanted_free rfl
            | 1, ho => cases ho; intro aq wq hd; exact wanted_free rfl
            | 2, ho => cases ho; intro aq wq hd; exact wanted_free rfl
            | 3, ho => cases ho; intro aq wq hd; exact wanted_free rfl
            | 4, ho => cases ho; intro aq wq hd; exact wanted_free rfl
            | 5, ho => cases ho; intro aq wq hd; exact wanted_of (j := 4) (t := 16) (want := false) (b := true) rfl rfl (hd 4 (by decide +kernel))
            | 6, ho => cases ho; intro aq wq hd; exact wanted_of (j := 4) (t := 16) (want := false) (b := true) rfl rfl (hd 4 (by decide +kernel))
            | 7, ho => cases ho; intro aq wq hd; exact wanted_of (j := 4) (t := 16) (want := false) (b := true) rfl rfl (hd 4 (by decide +kernel))
            | 8, ho => cases ho; intro aq wq hd; exact wanted_of (j := 4) (t := 16) (want := false) (b := true) rfl rfl (hd 4 (by decide +kernel))
            | 9, ho => cases ho; intro aq wq hd; exact wanted_free rfl
            | 10, ho => cases ho; intro aq wq hd; exact wanted_free rfl
            | 11, ho => cases ho; intro aq wq hd; exact wanted_of (j := 10) (t := 22) (want := false) (b := true) rfl rfl (hd 10 (by decide +kernel))
            | 12, ho => cases ho; intro aq wq hd; exact wanted_of (j := 10) (t := 22) (want := false) (b := true) rfl rfl (hd 10 (by decide +kernel))
            | 13, ho => cases ho; intro aq wq hd; exact wanted_of (j := 10) (t := 22) (want := false) (b := true) rfl rfl (hd 10 (by decide +kernel))
            | 14, ho => cases ho; intro aq wq hd; exact wanted_no (j := 13) (t := 25) (want := true) rfl rfl (hd 13 (by decide +kernel))
            | 15, ho => cases ho; intro aq wq hd; exact wanted_no (j := 13) (t := 25) (want := true) rfl rfl (hd 13 (by decide +kernel))
            | 16, ho => cases ho; intro aq wq hd; exact wanted_no (j := 13) (t := 25) (want := true) rfl rfl (hd 13 (by decide +kernel))
            | 17, ho => cases ho; intro aq wq hd; exact wanted_no (j := 13) (t := 25) (want := true) rfl rfl (hd 13 (by decide +kernel))
            | 18, ho => cases ho; intro aq wq hd; exact wanted_no (j := 13) (t := 25) (want := true) rfl rfl (hd 13 (by decide +kernel))
            | 19, ho => cases ho; intro aq wq hd; exact wanted_no (j := 13) (t := 25) (want := true) rfl rfl (hd 13 (by decide +kernel))
            | 20, ho => cases ho; intro aq wq hd; exact wanted_no (j := 13) (t := 25) (want := true) rfl rfl (hd 13 (by decide +kernel))
            | 21, ho => cases ho; intro aq wq hd; exact wanted_no (j := 13) (t := 25) (want := true) rfl rfl (hd 13 (by decide +kernel))
            | 22, ho => cases ho; intro aq wq hd; exact wanted_no (j := 13) (t := 25) (want := true) rfl rfl (hd 13 (by decide +kernel))
            | 23, ho => cases ho; intro aq wq hd; exact wanted_of (j := 10) (t := 22) (want := false) (b := true) rfl rfl (hd 10 (by decide +kernel))
            | 24, ho => cases ho; intro aq wq hd; exact wanted_free rfl
            | i + 25, ho => exact absurd ho (by simp)
          · intro i o ho hr
            match i, ho with
            | 0, ho => exact absurd hr (by decide)
            | 1, ho => exact absurd hr (by decide)
            | 2, ho => exact absurd hr (by decide)
            | 3, ho => exact absurd hr (by decide)
            | 4, ho => exact absurd hr (by decide)
            | 5, ho => cases ho; exact ⟨rfl, fun _ _ => rfl⟩
            | 6, ho => cases ho; exact ⟨rfl, fun _ _ => rfl⟩
            | 7, ho => cases ho; exact ⟨rfl, fun _ _ => rfl⟩
            | 8, ho => cases ho; exact ⟨rfl, fun _ _ => rfl⟩
            | 9, ho => exact absurd hr (by decide)
            | 10, ho => exact absurd hr (by decide)
            | 11, ho => cases ho; exact ⟨rfl, fun _ _ => rfl⟩
            | 12, ho => cases ho; exact ⟨rfl, fun _ _ => rfl⟩
            | 13, ho => cases ho; exact ⟨rfl, fun _ _ => rfl⟩
            | 14, ho => cases ho; exact ⟨rfl, fun _ _ => rfl⟩
            | 15, ho => cases ho; exact ⟨rfl, fun _ _ => rfl⟩
            | 16, ho => cases ho; exact ⟨rfl, fun _ _ => rfl⟩
            | 17, ho => cases ho; exact ⟨rfl, fun _ _ => rfl⟩
            | 18, ho => cases ho; exact ⟨rfl, fun _ _ => rfl⟩
            | 19, ho => cases ho; exact ⟨rfl, fun _ _ => rfl⟩
            | 20, ho => cases ho; exact ⟨rfl, fun _ _ => rfl⟩
            | 21, ho => cases ho; exact ⟨rfl, fun _ _ => rfl⟩
            | 22, ho => cases ho; exact ⟨rfl, fun _ _ => rfl⟩
            | 23, ho => cases ho; exact ⟨rfl, fun _ _ => rfl⟩
            | 24, ho => exact absurd hr (by decide)
            | i + 25, ho => exact absurd ho (by simp)
          · refine Sy.drew (Sy.mk_of ?_ ?_ ?_ ?_)
            · first | rfl | (simp; done) | (simp; omega)
            · intro c hc
              simp only [List.mem_cons, List.not_mem_nil, or_false] at hc
              rcases hc with rfl | rfl | rfl | rfl <;> exact byCT
            · intro p hp; cases hp
            · (repeat' first | with_reducible (first | exact Below.refl _ _ | assumption | refine gr_alloc ?_ _ | refine below_drewN ?_ _ | refine below_drew ?_ | refine gr_call ?_ (by assumption) | refine Below.setCell ?_ ?_ _) | go_size | omega | (simp; omega))
          · clear h1 h2 h3
            refine ⟨?r17x0, ?r17x1, ?r17x2, ?r17x3, ?r17x4, ?r17x5, ?r17x6, ?r17x7, ?r17x8, ?r17x9, ?r17x10, ?r17x11, ?r17x12, ?r17x13, ?r17x14, ?r17x15, ?r17x16, ?r17x17, ?r17x18, ?r17x19, ?r17x20, ?r17x21, ?r17x22, ?r17x23, ?r17x24, trivial⟩
            case r17x5 => intro hr; exact absurd hr (by decide)
            case r17x6 => intro hr; exact absurd hr (by decide)
            case r17x7 => intro hr; exact absurd hr (by decide)
            case r17x8 => intro hr; exact absurd hr (by decide)
            case r17x11 => intro hr; exact absurd hr (by decide)
            case r17x12 => intro hr; exact absurd hr (by decide)
            case r17x13 => intro hr; exact absurd hr (by decide)
            case r17x14 => intro hr; exact absurd hr (by decide)
            case r17x15 => intro hr; exact absurd hr (by decide)
            case r17x16 => intro hr; exact absurd hr (by decide)
            case r17x17 => intro hr; exact absurd hr (by decide)
            case r17x18 => intro hr; exact absurd hr (by decide)
            case r17x19 => intro hr; exact absurd hr (by decide)
            case r17x20 => intro hr; exact absurd hr (by decide)
            case r17x21 => intro hr; exact absurd hr (by decide)
            case r17x22 => intro hr; exact absurd hr (by decide)
            case r17x23 => intro hr; exact absurd hr (by decide)
            all_goals intro _ aq wx Kq hf hS hdep ev1 ev2 hK
            case' r17x0 =>
              have F4 : aq.eval (.tmp 4) = .pointer (some ⟨wl.heap.size, 0, none⟩) := hf 4
            case' r17x1 =>
              have D0 : aq.eval (.tmp 12) = _ := hdep 0
              have c0 := hS.cells (⟨wl.heap.size, 0, none⟩, .string nm) (by simp)
            case' r17x2 =>
              have D1 : aq.eval (.tmp 13) = _ := hdep 1
            case' r17x3 =>
              have D2 : aq.eval (.tmp 14) = _ := hdep 2
            case' r17x4 =>
              have D3 : aq.eval (.tmp 15) = _ := hdep 3
            case' r17x9 =>
              have D4 : aq.eval (.tmp 16) = _ := hdep 4
              have D8 : aq.eval (.tmp 20) = _ := hdep 8
            case' r17x10 =>
              have D9 : aq.eval (.tmp 21) = _ := hdep 9
            case' r17x24 =>
              have D10 : aq.eval (.tmp 22) = _ := hdep 10
              have D23 : aq.eval (.tmp 35) = _ := hdep 23
            all_goals (clear hf hdep; unfold Oper.wp; generalize Act.eval _ = ev at *; go_simp)
            case r17x2 =>
              refine ((isName_a nm _ (by omega))).mono ?_
              rintro e w2 ⟨rfl, rfl⟩
              refine hK _ _ (hS.call (below_refl_self _)) ?_ (fun j u _ h => Kd.ok_below (below_refl_self _) h)
              rw [if_pos (by rfl)]
              show (_ : Value) = _
              first | rfl | (refine congrArg (Value.int .i64) ?_; first | rfl | exact int_in (by omega) | exact quo_in (by omega) (by omega) (by omega) | exact rem_in (by omega) (by omega) | omega | (simp [*]; done) | (simp; omega)) | (simp; done) | (simp [*]; done)
            all_goals (refine hK _ _ hS ?_ (fun j u _ h => h); rw [if_pos (by rfl)]; show (_ : Value) = _; (first | rfl | (refine congrArg (Value.int .i64) ?_; first | rfl | exact int_in (by omega) | exact quo_in (by omega) (by omega) (by omega) | exact rem_in (by omega) (by omega) | omega | (simp [*]; done) | (simp; omega)) | (simp; done) | (simp [*]; done) | (simp; omega)))
          · intro aq wx hd hw hf hS hg
            have G36 : tau aq 36 = .bool true := hg 24 (by decide)
            have haq : aq = ⟨#[tau aq 0, tau aq 1, tau aq 2, tau aq 3, tau aq 4, tau aq 5, tau aq 6, tau aq 7, tau aq 8, tau aq 9, tau aq 10, tau aq 11, tau aq 12, tau aq 13, tau aq 14, tau aq 15, tau aq 16, tau aq 17, tau aq 18, tau aq 19, tau aq 20, tau aq 21, tau aq 22, tau aq 23, tau aq 24, tau aq 25, tau aq 26, tau aq 27, tau aq 28, tau aq 29, tau aq 30, tau aq 31, tau aq 32, tau aq 33, tau aq 34, tau aq 35, tau aq 36, tau aq 37, tau aq 38, tau aq 39, tau aq 40], []⟩ := by
              obtain ⟨tq, dq⟩ := aq
              have h5 := arr_eq (show tq.size = 41 from hw)
              have h6 : dq = [] := hd
              subst h6
              exact congrArg (fun z => Act.mk z []) h5
            show K2 aq wx
            rw [haq, hf 0, hf 1, hf 2, hf 3, hf 4, hf 5, hf 6, hf 7, hf 8, hf 9, hf 10, hf 11, hf 37, hf 38, hf 39, hf 40, G36]
            clear haq hf hd hw
            try dsimp only
            refine h3 _ _ ?_
            go_meet
            exact ⟨rfl, hS.cells (⟨wl.heap.size, 0, none⟩, .string nm) (by simp), hS.cells (⟨wl.heap.size, 1, none⟩, .int .i64 x) (by simp), hS.cells (⟨wl.heap.size, 2, none⟩, .int .i64 y) (by simp), hS.cells (⟨wl.heap.size, 3, none⟩, .int .i64 z) (by simp), hS.below⟩
        try clear c00
        try clear c01
        try clear c02
        try clear c03
        obtain ⟨rfl, c00, c01, c02, c03, hb0⟩ := hcut
        have z0 := World.block_lt_of_cell? _ _ c00
        change wl.heap.size < wc.heap.size at z0
        go_wp2
        go_ret
        exact ⟨by rw [unhide HF]; rfl, hb0⟩
      · cases k2 : classB x y z
        · have HF : Hid (ctB E n = false) := hide (ct_no (by rw [unhide HGO, k2]; simp) n q)
          clear hcs
          go_upto_region 4 with fail
          go_cut [36] (fun s36 wx => s36 = .bool true ∧ wx.cell? ⟨wl.heap.size, 0, none⟩ = some (.string nm) ∧ wx.cell? ⟨wl.heap.size, 1, none⟩ = some (.int .i64 x) ∧ wx.cell? ⟨wl.heap.size, 2, none⟩ = some (.int .i64 y) ∧ wx.cell? ⟨wl.heap.size, 3, none⟩ = some (.int .i64 z) ∧ Below w.heap.size w wx)
          case first =>
            have h1 := trivial
            rename_i K2 h2 h3
            refine region_n (by kernel_rfl) (fun j => #[12,13,14,15,16,17,18,19,20,21,22,23,24,25,26,27,28,29,30,31,32,33,34,35,36].getD j 0) (fun j => Kd.ok ((fun j => match j with | 0 => Kd.val (.pointer (some ⟨wl.heap.size, 0, none⟩)) | 1 => Kd.val (.string nm) | 2 => Kd.val (.bool true) | 3 => Kd.val (.bool false) | 4 => Kd.val (.bool false) | 5 => Kd.val (.pointer (some ⟨wl.heap.size, 1, none⟩)) | 6 => Kd.val (.agg #[.int .i64 x, .int .i64 y, .int .i64 z]) | 7 => Kd.val (.bool false) | 8 => Kd.val (.bool true) | 9 => Kd.val (.bool true) | 10 => Kd.val (.bool true) | 11 => Kd.val undef | 12 => Kd.val undef | 13 => Kd.val undef | 14 => Kd.val undef | 15 => Kd.val undef | 16 => Kd.val undef | 17 => Kd.val undef | 18 => Kd.val undef | 19 => Kd.val undef | 20 => Kd.val undef | 21 => Kd.val undef | 22 => Kd.val undef | 23 => Kd.val undef | 24 => Kd.val (.bool true) | _ => Kd.any : Nat → Kd) j)) (Sy w (wl.heap.size + 1) [(⟨wl.heap.size, 0, none⟩, .string nm), (⟨wl.heap.size, 1, none⟩, .int .i64 x), (⟨wl.heap.size, 2, none⟩, .int .i64 y), (⟨wl.heap.size, 3, none⟩, .int .i64 z)] []) (fun j => #[true, true, true, true, true, true, true, true, true, true, true, false, false, false, false, false, false, false, false, false, false, false, false, false, true].getD j true) (by kernel_rfl) ?_ ?_ ?_ ?_ ?_ ?_
            · intro j hj
              have hj2 : j < 25 := hj
              have : ∀ j, j < 25 → (#[12,13,14,15,16,17,18,19,20,21,22,23,24,25,26,27,28,29,30,31,32,33,34,35,36] : Array Nat).getD j 0 < 41 := by decide
              exact this j hj2
            · intro i o ho
              match i, ho with
              | 0, ho => cases ho; intro aq wq hd; exact wanted_free rfl
              | 1, ho => cases ho; intro aq wq hd; exact wanted_free rfl
              | 2, ho => cases ho; intro aq wq hd; exact wanted_free rfl
              | 3, ho => cases ho; intro aq wq hd; exact wanted_free rfl
              | 4, ho => cases ho; intro aq wq hd; exact wanted_free rfl
              | 5, ho => cases ho; intro aq wq hd; exact wanted_of (j := 4) (t := 16) (want := false) (b := false) rfl rfl (hd 4 (by decide +kernel))
              | 6, ho => cases ho; intro aq wq hd; exact wanted_of (j := 4) (t := 16) (want := false) (b := false) rfl rfl (hd 4 (by decide +kernel))
              | 7, ho => cases ho; intro aq wq hd; exact wanted_of (j := 4) (t := 16) (want := false) (b := false) rfl rfl (hd 4 (by decide +kernel))
              | 8, ho => cases ho; intro aq wq hd; exact wanted_of (j := 4) (t := 16) (want := false) (b := false) rfl rfl (hd 4 (by decide +kernel))
              | 9, ho => cases ho; intro aq wq hd; exact wanted_free rfl
              | 10, ho => cases ho; intro aq wq hd; exact wanted_free rfl
              | 11, ho => cases ho; intro aq wq hd; exact wanted_of (j := 10) (t := 22) (want := false) (b := true) rfl rfl (hd 10 (by decide +kernel))
              | 12, ho => cases ho; intro aq wq hd; exact wanted_of (j := 10) (t := 22) (want := false) (b := true) rfl rfl (hd 10 (by decide +kernel))
              | 13, ho => cases ho; intro aq wq hd; exact wanted_of (j := 10) (t := 22) (want := false) (b := true) rfl rfl (hd 10 (by decide +kernel))
              | 14, ho => cases ho; intro aq wq hd; exact wanted_no (j := 13) (t := 25) (want := true) rfl rfl (hd 13 (by decide +kernel))
              | 15, ho => cases ho; intro aq wq hd; exact wanted_no (j := 13) (t := 25) (want := true) rfl rfl (hd 13 (by decide +kernel))
              | 16, ho => cases ho; intro aq wq hd; exact wanted_no (j := 13) (t := 25) (want := true) rfl rfl (hd 13 (by decide +kernel))
              | 17, ho => cases ho; intro aq wq hd; exact wanted_no (j := 13) (t := 25) (want := true) rfl rfl (hd 13 (by decide +kernel))
              | 18, ho => cases ho; intro aq wq hd; exact wanted_no (j := 13) (t := 25) (want := true) rfl rfl (hd 13 (by decide +kernel))
              | 19, ho => cases ho; intro aq wq hd; exact wanted_no (j := 13) (t := 25) (want := true) rfl rfl (hd 13 (by decide +kernel))
              | 20, ho => cases ho; intro aq wq hd; exact wanted_no (j := 13) (t := 25) (want := true) rfl rfl (hd 13 (by decide +kernel))
              | 21, ho => cases ho; intro aq wq hd; exact wanted_no (j := 13) (t := 25) (want := true) rfl rfl (hd 13 (by decide +kernel))
              | 22, ho => cases ho; intro aq wq hd; exact wanted_no (j := 13) (t := 25) (want := true) rfl rfl (hd 13 (by decide +kernel))
              | 23, ho => cases ho; intro aq wq hd; exact wanted_of (j := 10) (t := 22) (want := false) (b := true) rfl rfl (hd 10 (by decide +kernel))
              | 24, ho => cases ho; intro aq wq hd; exact wanted_free rfl
              | i + 25, ho => exact absurd ho (by simp)
            · intro i o ho hr
              match i, ho with
              | 0, ho => exact absurd hr (by decide)
              | 1, ho => exact absurd hr (by decide)
              | 2, ho => exact absurd hr (by decide)
              | 3, ho => exact absurd hr (by decide)
              | 4, ho => exact absurd hr (by decide)
              | 5, ho => exact absurd hr (by decide)
              | 6, ho => exact absurd hr (by decide)
              | 7, ho => exact absurd hr (by decide)
              | 8, ho => exact absurd hr (by decide)
              | 9, ho => exact absurd hr (by decide)
              | 10, ho => exact absurd hr (by decide)
              | 11, ho => cases ho; exact ⟨rfl, fun _ _ => rfl⟩
              | 12, ho => cases ho; exact ⟨rfl, fun _ _ => rfl⟩
              | 13, ho => cases ho; exact ⟨rfl, fun _ _ => rfl⟩
              | 14, ho => cases ho; exact ⟨rfl, fun _ _ => rfl⟩
              | 15, ho => cases ho; exact ⟨rfl, fun _ _ => rfl⟩
              | 16, ho => cases ho; exact ⟨rfl, fun _ _ => rfl⟩
              | 17, ho => cases ho; exact ⟨rfl, fun _ _ => rfl⟩
              | 18, ho => cases ho; exact ⟨rfl, fun _ _ => rfl⟩
              | 19, ho => cases ho; exact ⟨rfl, fun _ _ => rfl⟩
              | 20, ho => cases ho; exact ⟨rfl, fun _ _ => rfl⟩
              | 21, ho => cases ho; exact ⟨rfl, fun _ _ => rfl⟩
              | 22, ho => cases ho; exact ⟨rfl, fun _ _ => rfl⟩
              | 23, ho => cases ho; exact ⟨rfl, fun _ _ => rfl⟩
              | 24, ho => exact absurd hr (by decide)
              | i + 25, ho => exact absurd ho (by simp)
            · refine Sy.drew (Sy.mk_of ?_ ?_ ?_ ?_)
              · first | rfl | (simp; done) | (simp; omega)
              · intro c hc
                simp only [List.mem_cons, List.not_mem_nil, or_false] at hc
                rcases hc with rfl | rfl | rfl | rfl <;> exact byCT
              · intro p hp; cases hp
              · (repeat' first | with_reducible (first | exact Below.refl _ _ | assumption | refine gr_alloc ?_ _ | refine below_drewN ?_ _ | refine below_drew ?_ | refine gr_call ?_ (by assumption) | refine Below.setCell ?_ ?_ _) | go_size | omega | (simp; omega))
            · clear h1 h2 h3
              refine ⟨?r18x0, ?r18x1, ?r18x2, ?r18x3, ?r18x4, ?r18x5, ?r18x6, ?r18x7, ?r18x8, ?r18x9, ?r18x10, ?r18x11, ?r18x12, ?r18x13, ?r18x14, ?r18x15, ?r18x16, ?r18x17, ?r18x18, ?r18x19, ?r18x20, ?r18x21, ?r18x22, ?r18x23, ?r18x24, trivial⟩
              case r18x11 => intro hr; exact absurd hr (by decide)
              case r18x12 => intro hr; exact absurd hr (by decide)
              case r18x13 => intro hr; exact absurd hr (by decide)
              case r18x14 => intro hr; exact absurd hr (by decide)
              case r18x15 => intro hr; exact absurd hr (by decide)
              case r18x16 => intro hr; exact absurd hr (by decide)
              case r18x17 => intro hr; exact absurd hr (by decide)
              case r18x18 => intro hr; exact absurd hr (by decide)
              case r18x19 => intro hr; exact absurd hr (by decide)
              case r18x20 => intro hr; exact absurd hr (by decide)
              case r18x21 => intro hr; exact absurd hr (by decide)
              case r18x22 => intro hr; exact absurd hr (by decide)
              case r18x23 => intro hr; exact absurd hr (by decide)
              all_goals intro _ aq wx Kq hf hS hdep ev1 ev2 hK
              case' r18x0 =>
                have F4 : aq.eval (.tmp 4) = .pointer (some ⟨wl.heap.size, 0, none⟩) := hf 4
              case' r18x1 =>
                have D0 : aq.eval (.tmp 12) = _ := hdep 0
                have c0 := hS.cells (⟨wl.heap.size, 0, none⟩, .string nm) (by simp)
              case' r18x2 =>
                have D1 : aq.eval (.tmp 13) = _ := hdep 1
              case' r18x3 =>
                have D2 : aq.eval (.tmp 14) = _ := hdep 2
              case' r18x4 =>
                have D3 : aq.eval (.tmp 15) = _ := hdep 3
              case' r18x5 =>
                have F4 : aq.eval (.tmp 4) = .pointer (some ⟨wl.heap.size, 0, none⟩) := hf 4
              case' r18x6 =>
                have D5 : aq.eval (.tmp 17) = _ := hdep 5
                have c0 := hS.cells (⟨wl.heap.size, 1, none⟩, .int .i64 x) (by simp)
                have c1 := hS.cells (⟨wl.heap.size, 2, none⟩, .int .i64 y) (by simp)
                have c2 := hS.cells (⟨wl.heap.size, 3, none⟩, .int .i64 z) (by simp)
              case' r18x7 =>
                have D6 : aq.eval (.tmp 18) = _ := hdep 6
              case' r18x8 =>
                have D7 : aq.eval (.tmp 19) = _ := hdep 7
              case' r18x9 =>
                have D4 : aq.eval (.tmp 16) = _ := hdep 4
                have D8 : aq.eval (.tmp 20) = _ := hdep 8
              case' r18x10 =>
                have D9 : aq.eval (.tmp 21) = _ := hdep 9
              case' r18x24 =>
                have D10 : aq.eval (.tmp 22) = _ := hdep 10
                have D23 : aq.eval (.tmp 35) = _ := hdep 23
              all_goals (clear hf hdep; unfold Oper.wp; generalize Act.eval _ = ev at *; go_simp)
              case r18x2 =>
                refine ((isName_a nm _ (by omega))).mono ?_
                rintro e w2 ⟨rfl, rfl⟩
                refine hK _ _ (hS.call (below_refl_self _)) ?_ (fun j u _ h => Kd.ok_below (below_refl_self _) h)
                rw [if_pos (by rfl)]
                show (_ : Value) = _
                first | rfl | (refine congrArg (Value.int .i64) ?_; first | rfl | exact int_in (by omega) | exact quo_in (by omega) (by omega) (by omega) | exact rem_in (by omega) (by omega) | omega | (simp [*]; done) | (simp; omega)) | (simp; done) | (simp [*]; done)
              case r18x7 =>
                refine ((isClassForm_a x y z _ i0 i1 i2)).mono ?_
                rintro e w2 ⟨rfl, hb⟩
                refine hK _ _ (hS.call hb) ?_ (fun j u _ h => Kd.ok_below hb h)
                rw [if_pos (by rfl)]
                show (_ : Value) = _
                first | rfl | (refine congrArg (Value.int .i64) ?_; first | rfl | exact int_in (by omega) | exact quo_in (by omega) (by omega) (by omega) | exact rem_in (by omega) (by omega) | omega | (simp [*]; done) | (simp; omega)) | (simp; done) | (simp [*]; done)
              all_goals (refine hK _ _ hS ?_ (fun j u _ h => h); rw [if_pos (by rfl)]; show (_ : Value) = _; (first | rfl | (refine congrArg (Value.int .i64) ?_; first | rfl | exact int_in (by omega) | exact quo_in (by omega) (by omega) (by omega) | exact rem_in (by omega) (by omega) | omega | (simp [*]; done) | (simp; omega)) | (simp; done) | (simp [*]; done) | (simp; omega)))
            · intro aq wx hd hw hf hS hg
              have G36 : tau aq 36 = .bool true := hg 24 (by decide)
              have haq : aq = ⟨#[tau aq 0, tau aq 1, tau aq 2, tau aq 3, tau aq 4, tau aq 5, tau aq 6, tau aq 7, tau aq 8, tau aq 9, tau aq 10, tau aq 11, tau aq 12, tau aq 13, tau aq 14, tau aq 15, tau aq 16, tau aq 17, tau aq 18, tau aq 19, tau aq 20, tau aq 21, tau aq 22, tau aq 23, tau aq 24, tau aq 25, tau aq 26, tau aq 27, tau aq 28, tau aq 29, tau aq 30, tau aq 31, tau aq 32, tau aq 33, tau aq 34, tau aq 35, tau aq 36, tau aq 37, tau aq 38, tau aq 39, tau aq 40], []⟩ := by
                obtain ⟨tq, dq⟩ := aq
                have h5 := arr_eq (show tq.size = 41 from hw)
                have h6 : dq = [] := hd
                subst h6
                exact congrArg (fun z => Act.mk z []) h5
              show K2 aq wx
              rw [haq, hf 0, hf 1, hf 2, hf 3, hf 4, hf 5, hf 6, hf 7, hf 8, hf 9, hf 10, hf 11, hf 37, hf 38, hf 39, hf 40, G36]
              clear haq hf hd hw
              try dsimp only
              refine h3 _ _ ?_
              go_meet
              exact ⟨rfl, hS.cells (⟨wl.heap.size, 0, none⟩, .string nm) (by simp), hS.cells (⟨wl.heap.size, 1, none⟩, .int .i64 x) (by simp), hS.cells (⟨wl.heap.size, 2, none⟩, .int .i64 y) (by simp), hS.cells (⟨wl.heap.size, 3, none⟩, .int .i64 z) (by simp), hS.below⟩
          try clear c00
          try clear c01
          try clear c02
          try clear c03
          obtain ⟨rfl, c00, c01, c02, c03, hb0⟩ := hcut
          have z0 := World.block_lt_of_cell? _ _ c00
          change wl.heap.size < wc.heap.size at z0
          go_wp2
          go_ret
          exact ⟨by rw [unhide HF]; rfl, hb0⟩
        · by_cases k3 : jx = 0
          · have HT : Hid (ctG E (jx + 1) = true) := hide (ct_next (unhide hg) (by rw [unhide HGO, k1, k2]; simp [k3]))
            have hj0 : ¬ 0 < (jx : Int) := by omega
            clear hcs k3
            go_upto_region 4 with fail
            go_cut [36] (fun s36 wx => s36 = .bool false ∧ wx.cell? ⟨wl.heap.size, 0, none⟩ = some (.string nm) ∧ wx.cell? ⟨wl.heap.size, 1, none⟩ = some (.int .i64 x) ∧ wx.cell? ⟨wl.heap.size, 2, none⟩ = some (.int .i64 y) ∧ wx.cell? ⟨wl.heap.size, 3, none⟩ = some (.int .i64 z) ∧ Below w.heap.size w wx)
            case first =>
              have h1 := trivial
              rename_i K2 h2 h3
              refine region_n (by kernel_rfl) (fun j => #[12,13,14,15,16,17,18,19,20,21,22,23,24,25,26,27,28,29,30,31,32,33,34,35,36].getD j 0) (fun j => Kd.ok ((fun j => match j with | 0 => Kd.val (.pointer (some ⟨wl.heap.size, 0, none⟩)) | 1 => Kd.val (.string nm) | 2 => Kd.val (.bool true) | 3 => Kd.val (.bool false) | 4 => Kd.val (.bool false) | 5 => Kd.val (.pointer (some ⟨wl.heap.size, 1, none⟩)) | 6 => Kd.val (.agg #[.int .i64 x, .int .i64 y, .int .i64 z]) | 7 => Kd.val (.bool true) | 8 => Kd.val (.bool false) | 9 => Kd.val (.bool false) | 10 => Kd.val (.bool false) | 11 => Kd.val (.int .i64 ((jx : Int))) | 12 => Kd.val (.bool false) | 13 => Kd.val (.bool false) | 14 => Kd.val undef | 15 => Kd.val undef | 16 => Kd.val undef | 17 => Kd.val undef | 18 => Kd.val undef | 19 => Kd.val undef | 20 => Kd.val undef | 21 => Kd.val undef | 22 => Kd.val undef | 23 => Kd.val (.bool false) | 24 => Kd.val (.bool false) | _ => Kd.any : Nat → Kd) j)) (Sy w (wl.heap.size + 1) [(⟨wl.heap.size, 0, none⟩, .string nm), (⟨wl.heap.size, 1, none⟩, .int .i64 x), (⟨wl.heap.size, 2, none⟩, .int .i64 y), (⟨wl.heap.size, 3, none⟩, .int .i64 z)] []) (fun j => #[true, true, true, true, true, true, true, true, true, true, true, true, true, true, false, false, false, false, false, false, false, false, false, true, true].getD j true) (by kernel_rfl) ?_ ?_ ?_ ?_ ?_ ?_
              · intro j hj
                have hj2 : j < 25 := hj
                have : ∀ j, j < 25 → (#[12,13,14,15,16,17,18,19,20,21,22,23,24,25,26,27,28,29,30,31,32,33,34,35,36] : Array Nat).getD j 0 < 41 := by decide
                exact this j hj2
              · intro i o ho
                match i, ho with
                | 0, ho => cases ho; intro aq wq hd; exact wanted_free rfl
                | 1, ho => cases ho; intro aq wq hd; exact wanted_free rfl
                | 2, ho => cases ho; intro aq wq hd; exact wanted_free rfl
                | 3, ho => cases ho; intro aq wq hd; exact wanted_free rfl
                | 4, ho => cases ho; intro aq wq hd; exact wanted_free rfl
                | 5, ho => cases ho; intro aq wq hd; exact wanted_of (j := 4) (t := 16) (want := false) (b := false) rfl rfl (hd 4 (by decide +kernel))
                | 6, ho => cases ho; intro aq wq hd; exact wanted_of (j := 4) (t := 16) (want := false) (b := false) rfl rfl (hd 4 (by decide +kernel))
                | 7, ho => cases ho; intro aq wq hd; exact wanted_of (j := 4) (t := 16) (want := false) (b := false) rfl rfl (hd 4 (by decide +kernel))
                | 8, ho => cases ho; intro aq wq hd; exact wanted_of (j := 4) (t := 16) (want := false) (b := false) rfl rfl (hd 4 (by decide +kernel))
                | 9, ho => cases ho; intro aq wq hd; exact wanted_free rfl
                | 10, ho => cases ho; intro aq wq hd; exact wanted_free rfl
                | 11, ho => cases ho; intro aq wq hd; exact wanted_of (j := 10) (t := 22) (want := false) (b := false) rfl rfl (hd 10 (by decide +kernel))
                | 12, ho => cases ho; intro aq wq hd; exact wanted_of (j := 10) (t := 22) (want := false) (b := false) rfl rfl (hd 10 (by decide +kernel))
                | 13, ho => cases ho; intro aq wq hd; exact wanted_of (j := 10) (t := 22) (want := false) (b := false) rfl rfl (hd 10 (by decide +kernel))
                | 14, ho => cases ho; intro aq wq hd; exact wanted_of (j := 13) (t := 25) (want := true) (b := false) rfl rfl (hd 13 (by decide +kernel))
                | 15, ho => cases ho; intro aq wq hd; exact wanted_of (j := 13) (t := 25) (want := true) (b := false) rfl rfl (hd 13 (by decide +kernel))
                | 16, ho => cases ho; intro aq wq hd; exact wanted_of (j := 13) (t := 25) (want := true) (b := false) rfl rfl (hd 13 (by decide +kernel))
                | 17, ho => cases ho; intro aq wq hd; exact wanted_of (j := 13) (t := 25) (want := true) (b := false) rfl rfl (hd 13 (by decide +kernel))
                | 18, ho => cases ho; intro aq wq hd; exact wanted_of (j := 13) (t := 25) (want := true) (b := false) rfl rfl (hd 13 (by decide +kernel))
                | 19, ho => cases ho; intro aq wq hd; exact wanted_of (j := 13) (t := 25) (want := true) (b := false) rfl rfl (hd 13 (by decide +kernel))
                | 20, ho => cases ho; intro aq wq hd; exact wanted_of (j := 13) (t := 25) (want := true) (b := false) rfl rfl (hd 13 (by decide +kernel))
                | 21, ho => cases ho; intro aq wq hd; exact wanted_of (j := 13) (t := 25) (want := true) (b := false) rfl rfl (hd 13 (by decide +kernel))
                | 22, ho => cases ho; intro aq wq hd; exact wanted_of (j := 13) (t := 25) (want := true) (b := false) rfl rfl (hd 13 (by decide +kernel))
                | 23, ho => cases ho; intro aq wq hd; exact wanted_of (j := 10) (t := 22) (want := false) (b := false) rfl rfl (hd 10 (by decide +kernel))
                | 24, ho => cases ho; intro aq wq hd; exact wanted_free rfl
                | i + 25, ho => exact absurd ho (by simp)
              · intro i o ho hr
                match i, ho with
                | 0, ho => exact absurd hr (by decide)
                | 1, ho => exact absurd hr (by decide)
                | 2, ho => exact absurd hr (by decide)
                | 3, ho => exact absurd hr (by decide)
                | 4, ho => exact absurd hr (by decide)
                | 5, ho => exact absurd hr (by decide)
                | 6, ho => exact absurd hr (by decide)
                | 7, ho => exact absurd hr (by decide)
                | 8, ho => exact absurd hr (by decide)
                | 9, ho => exact absurd hr (by decide)
                | 10, ho => exact absurd hr (by decide)
                | 11, ho => exact absurd hr (by decide)
                | 12, ho => exact absurd hr (by decide)
                | 13, ho => exact absurd hr (by decide)
                | 14, ho => cases ho; exact ⟨rfl, fun _ _ => rfl⟩
                | 15, ho => cases ho; exact ⟨rfl, fun _ _ => rfl⟩
                | 16, ho => cases ho; exact ⟨rfl, fun _ _ => rfl⟩
                | 17, ho => cases ho; exact ⟨rfl, fun _ _ => rfl⟩
                | 18, ho => cases ho; exact ⟨rfl, fun _ _ => rfl⟩
                | 19, ho => cases ho; exact ⟨rfl, fun _ _ => rfl⟩
                | 20, ho => cases ho; exact ⟨rfl, fun _ _ => rfl⟩
                | 21, ho => cases ho; exact ⟨rfl, fun _ _ => rfl⟩
                | 22, ho => cases ho; exact ⟨rfl, fun _ _ => rfl⟩
                | 23, ho => exact absurd hr (by decide)
                | 24, ho => exact absurd hr (by decide)
                | i + 25, ho => exact absurd ho (by simp)
              · refine Sy.drew (Sy.mk_of ?_ ?_ ?_ ?_)
                · first | rfl | (simp; done) | (simp; omega)
                · intro c hc
                  simp only [List.mem_cons, List.not_mem_nil, or_false] at hc
                  rcases hc with rfl | rfl | rfl | rfl <;> exact byCT
                · intro p hp; cases hp
                · (repeat' first | with_reducible (first | exact Below.refl _ _ | assumption | refine gr_alloc ?_ _ | refine below_drewN ?_ _ | refine below_drew ?_ | refine gr_call ?_ (by assumption) | refine Below.setCell ?_ ?_ _) | go_size | omega | (simp; omega))
              · clear h1 h2 h3
                refine ⟨?r19x0, ?r19x1, ?r19x2, ?r19x3, ?r19x4, ?r19x5, ?r19x6, ?r19x7, ?r19x8, ?r19x9, ?r19x10, ?r19x11, ?r19x12, ?r19x13, ?r19x14, ?r19x15, ?r19x16, ?r19x17, ?r19x18, ?r19x19, ?r19x20, ?r19x21, ?r19x22, ?r19x23, ?r19x24, trivial⟩
                case r19x14 => intro hr; exact absurd hr (by decide)
                case r19x15 => intro hr; exact absurd hr (by decide)
                case r19x16 => intro hr; exact absurd hr (by decide)
                case r19x17 => intro hr; exact absurd hr (by decide)
                case r19x18 => intro hr; exact absurd hr (by decide)
                case r19x19 => intro hr; exact absurd hr (by decide)
                case r19x20 => intro hr; exact absurd hr (by decide)
                case r19x21 => intro hr; exact absurd hr (by decide)
                case r19x22 => intro hr; exact absurd hr (by decide)
                all_goals intro _ aq wx Kq hf hS hdep ev1 ev2 hK
                case' r19x0 =>
                  have F4 : aq.eval (.tmp 4) = .pointer (some ⟨wl.heap.size, 0, none⟩) := hf 4
                case' r19x1 =>
                  have D0 : aq.eval (.tmp 12) = _ := hdep 0
                  have c0 := hS.cells (⟨wl.heap.size, 0, none⟩, .string nm) (by simp)
                case' r19x2 =>
                  have D1 : aq.eval (.tmp 13) = _ := hdep 1
                case' r19x3 =>
                  have D2 : aq.eval (.tmp 14) = _ := hdep 2
                case' r19x4 =>
                  have D3 : aq.eval (.tmp 15) = _ := hdep 3
                case' r19x5 =>
                  have F4 : aq.eval (.tmp 4) = .pointer (some ⟨wl.heap.size, 0, none⟩) := hf 4
                case' r19x6 =>
                  have D5 : aq.eval (.tmp 17) = _ := hdep 5
                  have c0 := hS.cells (⟨wl.heap.size, 1, none⟩, .int .i64 x) (by simp)
                  have c1 := hS.cells (⟨wl.heap.size, 2, none⟩, .int .i64 y) (by simp)
                  have c2 := hS.cells (⟨wl.heap.size, 3, none⟩, .int .i64 z) (by simp)
                case' r19x7 =>
                  have D6 : aq.eval (.tmp 18) = _ := hdep 6
                case' r19x8 =>
                  have D7 : aq.eval (.tmp 19) = _ := hdep 7
                case' r19x9 =>
                  have D4 : aq.eval (.tmp 16) = _ := hdep 4
                  have D8 : aq.eval (.tmp 20) = _ := hdep 8
                case' r19x10 =>
                  have D9 : aq.eval (.tmp 21) = _ := hdep 9
                case' r19x11 =>
                  have F3 : aq.eval (.tmp 3) = .int .i64 ((jx : Int)) := hf 3
                case' r19x12 =>
                  have D11 : aq.eval (.tmp 23) = _ := hdep 11
                case' r19x13 =>
                  have D12 : aq.eval (.tmp 24) = _ := hdep 12
                case' r19x23 =>
                  have D13 : aq.eval (.tmp 25) = _ := hdep 13
                  have D22 : aq.eval (.tmp 34) = _ := hdep 22
                case' r19x24 =>
                  have D10 : aq.eval (.tmp 22) = _ := hdep 10
                  have D23 : aq.eval (.tmp 35) = _ := hdep 23
                all_goals (clear hf hdep; unfold Oper.wp; generalize Act.eval _ = ev at *; go_simp)
                case r19x2 =>
                  refine ((isName_a nm _ (by omega))).mono ?_
                  rintro e w2 ⟨rfl, rfl⟩
                  refine hK _ _ (hS.call (below_refl_self _)) ?_ (fun j u _ h => Kd.ok_below (below_refl_self _) h)
                  rw [if_pos (by rfl)]
                  show (_ : Value) = _
                  first | rfl | (refine congrArg (Value.int .i64) ?_; first | rfl | exact int_in (by omega) | exact quo_in (by omega) (by omega) (by omega) | exact rem_in (by omega) (by omega) | omega | (simp [*]; done) | (simp; omega)) | (simp; done) | (simp [*]; done)
                case r19x7 =>
                  refine ((isClassForm_a x y z _ i0 i1 i2)).mono ?_
                  rintro e w2 ⟨rfl, hb⟩
                  refine hK _ _ (hS.call hb) ?_ (fun j u _ h => Kd.ok_below hb h)
                  rw [if_pos (by rfl)]
                  show (_ : Value) = _
                  first | rfl | (refine congrArg (Value.int .i64) ?_; first | rfl | exact int_in (by omega) | exact quo_in (by omega) (by omega) (by omega) | exact rem_in (by omega) (by omega) | omega | (simp [*]; done) | (simp; omega)) | (simp; done) | (simp [*]; done)
                all_goals (refine hK _ _ hS ?_ (fun j u _ h => h); rw [if_pos (by rfl)]; show (_ : Value) = _; (first | rfl | (refine congrArg (Value.int .i64) ?_; first | rfl | exact int_in (by omega) | exact quo_in (by omega) (by omega) (by omega) | exact rem_in (by omega) (by omega) | omega | (simp [*]; done) | (simp; omega)) | (simp; done) | (simp [*]; done) | (simp; omega)))
              · intro aq wx hd hw hf hS hg
                have G36 : tau aq 36 = .bool false := hg 24 (by decide)
                have haq : aq = ⟨#[tau aq 0, tau aq 1, tau aq 2, tau aq 3, tau aq 4, tau aq 5, tau aq 6, tau aq 7, tau aq 8, tau aq 9, tau aq 10, tau aq 11, tau aq 12, tau aq 13, tau aq 14, tau aq 15, tau aq 16, tau aq 17, tau aq 18, tau aq 19, tau aq 20, tau aq 21, tau aq 22, tau aq 23, tau aq 24, tau aq 25, tau aq 26, tau aq 27, tau aq 28, tau aq 29, tau aq 30, tau aq 31, tau aq 32, tau aq 33, tau aq 34, tau aq 35, tau aq 36, tau aq 37, tau aq 38, tau aq 39, tau aq 40], []⟩ := by
                  obtain ⟨tq, dq⟩ := aq
                  have h5 := arr_eq (show tq.size = 41 from hw)
                  have h6 : dq = [] := hd
                  subst h6
                  exact congrArg (fun z => Act.mk z []) h5
                show K2 aq wx
                rw [haq, hf 0, hf 1, hf 2, hf 3, hf 4, hf 5, hf 6, hf 7, hf 8, hf 9, hf 10, hf 11, hf 37, hf 38, hf 39, hf 40, G36]
                clear haq hf hd hw
                try dsimp only
                refine h3 _ _ ?_
                go_meet
                exact ⟨rfl, hS.cells (⟨wl.heap.size, 0, none⟩, .string nm) (by simp), hS.cells (⟨wl.heap.size, 1, none⟩, .int .i64 x) (by simp), hS.cells (⟨wl.heap.size, 2, none⟩, .int .i64 y) (by simp), hS.cells (⟨wl.heap.size, 3, none⟩, .int .i64 z) (by simp), hS.below⟩
            try clear c00
            try clear c01
            try clear c02
            try clear c03
            obtain ⟨rfl, c00, c01, c02, c03, hb0⟩ := hcut
            have z0 := World.block_lt_of_cell? _ _ c00
            change wl.heap.size < wc.heap.size at z0
            go_wp2
            go_roundw
            case rel => exact ⟨jx + 1, by omega, by first | rfl | go_num, HT, hb0⟩
            case measure => simp [intOf]; omega
          · obtain ⟨i, rfl⟩ : ∃ i, jx = i + 1 := ⟨jx - 1, by omega⟩
            have d0 := (hcs i (by omega)).1
            obtain ⟨pn, hpn⟩ : ∃ s, (E i).n = s := ⟨_, rfl⟩
            rw [hpn] at d0
            have HL : Hid (goE E (i + 1) = lessB pn nm) := hide (by rw [unhide HGO, k1, k2]; show (true && (true && (decide (i + 1 = 0) || lessB (E (i + 1 - 1)).n nm))) = _; rw [Nat.add_sub_cancel, hpn]; simp)
            have hci2 : (i : Int) + 1 < (n : Int) := by omega
            clear hcs hpn k3
            cases k4 : lessB pn nm
            · have HF : Hid (ctB E n = false) := hide (ct_no (by rw [unhide HL]; exact k4) n q)
              have k5 : Go.Op.bytesLess pn.toList nm.toList = false := k4
              go_upto_region 4 with fail
              go_cut [36] (fun s36 wx => s36 = .bool true ∧ wx.cell? ⟨wl.heap.size, 0, none⟩ = some (.string nm) ∧ wx.cell? ⟨wl.heap.size, 1, none⟩ = some (.int .i64 x) ∧ wx.cell? ⟨wl.heap.size, 2, none⟩ = some (.int .i64 y) ∧ wx.cell? ⟨wl.heap.size, 3, none⟩ = some (.int .i64 z) ∧ wx.cell? ⟨b, off + i * 4, none⟩ = some (.string pn) ∧ Below w.heap.size w wx)
              case first =>
                have h1 := trivial
                rename_i K2 h2 h3
                refine region_n (by kernel_rfl) (fun j => #[12,13,14,15,16,17,18,19,20,21,22,23,24,25,26,27,28,29,30,31,32,33,34,35,36].getD j 0) (fun j => Kd.ok ((fun j => match j with | 0 => Kd.val (.pointer (some ⟨wl.heap.size, 0, none⟩)) | 1 => Kd.val (.string nm) | 2 => Kd.val (.bool true) | 3 => Kd.val (.bool false) | 4 => Kd.val (.bool false) | 5 => Kd.val (.pointer (some ⟨wl.heap.size, 1, none⟩)) | 6 => Kd.val (.agg #[.int .i64 x, .int .i64 y, .int .i64 z]) | 7 => Kd.val (.bool true) | 8 => Kd.val (.bool false) | 9 => Kd.val (.bool false) | 10 => Kd.val (.bool false) | 11 => Kd.val (.int .i64 (((i : Int) + 1))) | 12 => Kd.val (.bool true) | 13 => Kd.val (.bool true) | 14 => Kd.val (.slice (some ⟨b, off, none⟩) n c) | 15 => Kd.val (.int .i64 (((i : Int) + 1))) | 16 => Kd.val (.int .i64 ((i : Int))) | 17 => Kd.val (.pointer (some ⟨b, off + i * 4, none⟩)) | 18 => Kd.val (.pointer (some ⟨b, off + i * 4, none⟩)) | 19 => Kd.val (.string pn) | 20 => Kd.val (.pointer (some ⟨wl.heap.size, 0, none⟩)) | 21 => Kd.val (.string nm) | 22 => Kd.val (.bool true) | 23 => Kd.val (.bool true) | 24 => Kd.val (.bool true) | _ => Kd.any : Nat → Kd) j)) (Sy w (wl.heap.size + 1) [(⟨wl.heap.size, 0, none⟩, .string nm), (⟨wl.heap.size, 1, none⟩, .int .i64 x), (⟨wl.heap.size, 2, none⟩, .int .i64 y), (⟨wl.heap.size, 3, none⟩, .int .i64 z), (⟨b, off + i * 4, none⟩, .string pn)] []) (fun j => #[true, true, true, true, true, true, true, true, true, true, true, true, true, true, true, true, true, true, true, true, true, true, true, true, true].getD j true) (by kernel_rfl) ?_ ?_ ?_ ?_ ?_ ?_
                · intro j hj
                  have hj2 : j < 25 := hj
                  have : ∀ j, j < 25 → (#[12,13,14,15,16,17,18,19,20,21,22,23,24,25,26,27,28,29,30,31,32,33,34,35,36] : Array Nat).getD j 0 < 41 := by decide
                  exact this j hj2
                · intro i o ho
                  match i, ho with
                  | 0, ho => cases ho; intro aq wq hd; exact wanted_free rfl
                  | 1, ho => cases ho; intro aq wq hd; exact wanted_free rfl
                  | 2, ho => cases ho; intro aq wq hd; exact wanted_free rfl
                  | 3, ho => cases ho; intro aq wq hd; exact wanted_free rfl
                  | 4, ho => cases ho; intro aq wq hd; exact wanted_free rfl
                  | 5, ho => cases ho; intro aq wq hd; exact wanted_of (j := 4) (t := 16) (want := false) (b := false) rfl rfl (hd 4 (by decide +kernel))
                  | 6, ho => cases ho; intro aq wq hd; exact wanted_of (j := 4) (t := 16) (want := false) (b := false) rfl rfl (hd 4 (by decide +kernel))
                  | 7, ho => cases ho; intro aq wq hd; exact wanted_of (j := 4) (t := 16) (want := false) (b := false) rfl rfl (hd 4 (by decide +kernel))
                  | 8, ho => cases ho; intro aq wq hd; exact wanted_of (j := 4) (t := 16) (want := false) (b := false) rfl rfl (hd 4 (by decide +kernel))
                  | 9, ho => cases ho; intro aq wq hd; exact wanted_free rfl
                  | 10, ho => cases ho; intro aq wq hd; exact wanted_free rfl
                  | 11, ho => cases ho; intro aq wq hd; exact wanted_of (j := 10) (t := 22) (want := false) (b := false) rfl rfl (hd 10 (by decide +kernel))
                  | 12, ho => cases ho; intro aq wq hd; exact wanted_of (j := 10) (t := 22) (want := false) (b := false) rfl rfl (hd 10 (by decide +kernel))
                  | 13, ho => cases ho; intro aq wq hd; exact wanted_of (j := 10) (t := 22) (want := false) (b := false) rfl rfl (hd 10 (by decide +kernel))
                  | 14, ho => cases ho; intro aq wq hd; exact wanted_of (j := 13) (t := 25) (want := true) (b := true) rfl rfl (hd 13 (by decide +kernel))
                  | 15, ho => cases ho; intro aq wq hd; exact wanted_of (j := 13) (t := 25) (want := true) (b := true) rfl rfl (hd 13 (by decide +kernel))
                  | 16, ho => cases ho; intro aq wq hd; exact wanted_of (j := 13) (t := 25) (want := true) (b := true) rfl rfl (hd 13 (by decide +kernel))
                  | 17, ho => cases ho; intro aq wq hd; exact wanted_of (j := 13) (t := 25) (want := true) (b := true) rfl rfl (hd 13 (by decide +kernel))
                  | 18, ho => cases ho; intro aq wq hd; exact wanted_of (j := 13) (t := 25) (want := true) (b := true) rfl rfl (hd 13 (by decide +kernel))
                  | 19, ho => cases ho; intro aq wq hd; exact wanted_of (j := 13) (t := 25) (want := true) (b := true) rfl rfl (hd 13 (by decide +kernel))
                  | 20, ho => cases ho; intro aq wq hd; exact wanted_of (j := 13) (t := 25) (want := true) (b := true) rfl rfl (hd 13 (by decide +kernel))
                  | 21, ho => cases ho; intro aq wq hd; exact wanted_of (j := 13) (t := 25) (want := true) (b := true) rfl rfl (hd 13 (by decide +kernel))
                  | 22, ho => cases ho; intro aq wq hd; exact wanted_of (j := 13) (t := 25) (want := true) (b := true) rfl rfl (hd 13 (by decide +kernel))
                  | 23, ho => cases ho; intro aq wq hd; exact wanted_of (j := 10) (t := 22) (want := false) (b := false) rfl rfl (hd 10 (by decide +kernel))
                  | 24, ho => cases ho; intro aq wq hd; exact wanted_free rfl
                  | i + 25, ho => exact absurd ho (by simp)
                · intro i o ho hr
                  match i, ho with
                  | 0, ho => exact absurd hr (by decide)
                  | 1, ho => exact absurd hr (by decide)
                  | 2, ho => exact absurd hr (by decide)
                  | 3, ho => exact absurd hr (by decide)
                  | 4, ho => exact absurd hr (by decide)
                  | 5, ho => exact absurd hr (by decide)
                  | 6, ho => exact absurd hr (by decide)
                  | 7, ho => exact absurd hr (by decide)
                  | 8, ho => exact absurd hr (by decide)
                  | 9, ho => exact absurd hr (by decide)
                  | 10, ho => exact absurd hr (by decide)
                  | 11, ho => exact absurd hr (by decide)
                  | 12, ho => exact absurd hr (by decide)
                  | 13, ho => exact absurd hr (by decide)
                  | 14, ho => exact absurd hr (by decide)
                  | 15, ho => exact absurd hr (by decide)
                  | 16, ho => exact absurd hr (by decide)
                  | 17, ho => exact absurd hr (by decide)
                  | 18, ho => exact absurd hr (by decide)
                  | 19, ho => exact absurd hr (by decide)
                  | 20, ho => exact absurd hr (by decide)
                  | 21, ho => exact absurd hr (by decide)
                  | 22, ho => exact absurd hr (by decide)
                  | 23, ho => exact absurd hr (by decide)
                  | 24, ho => exact absurd hr (by decide)
                  | i + 25, ho => exact absurd ho (by simp)
                · refine Sy.drew (Sy.mk_of ?_ ?_ ?_ ?_)
                  · first | rfl | (simp; done) | (simp; omega)
                  · intro c hc
                    simp only [List.mem_cons, List.not_mem_nil, or_false] at hc
                    rcases hc with rfl | rfl | rfl | rfl | rfl <;> exact byCT
                  · intro p hp; cases hp
                  · (repeat' first | with_reducible (first | exact Below.refl _ _ | assumption | refine gr_alloc ?_ _ | refine below_drewN ?_ _ | refine below_drew ?_ | refine gr_call ?_ (by assumption) | refine Below.setCell ?_ ?_ _) | go_size | omega | (simp; omega))
                · clear h1 h2 h3
                  refine ⟨?r20x0, ?r20x1, ?r20x2, ?r20x3, ?r20x4, ?r20x5, ?r20x6, ?r20x7, ?r20x8, ?r20x9, ?r20x10, ?r20x11, ?r20x12, ?r20x13, ?r20x14, ?r20x15, ?r20x16, ?r20x17, ?r20x18, ?r20x19, ?r20x20, ?r20x21, ?r20x22, ?r20x23, ?r20x24, trivial⟩
                  all_goals intro _ aq wx Kq hf hS hdep ev1 ev2 hK
                  case' r20x0 =>
                    have F4 : aq.eval (.tmp 4) = .pointer (some ⟨wl.heap.size, 0, none⟩) := hf 4
                  case' r20x1 =>
                    have D0 : aq.eval (.tmp 12) = _ := hdep 0
                    have c0 := hS.cells (⟨wl.heap.size, 0, none⟩, .string nm) (by simp)
                  case' r20x2 =>
                    have D1 : aq.eval (.tmp 13) = _ := hdep 1
                  case' r20x3 =>
                    have D2 : aq.eval (.tmp 14) = _ := hdep 2
                  case' r20x4 =>
                    have D3 : aq.eval (.tmp 15) = _ := hdep 3
                  case' r20x5 =>
                    have F4 : aq.eval (.tmp 4) = .pointer (some ⟨wl.heap.size, 0, none⟩) := hf 4
                  case' r20x6 =>
                    have D5 : aq.eval (.tmp 17) = _ := hdep 5
                    have c0 := hS.cells (⟨wl.heap.size, 1, none⟩, .int .i64 x) (by simp)
                    have c1 := hS.cells (⟨wl.heap.size, 2, none⟩, .int .i64 y) (by simp)
                    have c2 := hS.cells (⟨wl.heap.size, 3, none⟩, .int .i64 z) (by simp)
                  case' r20x7 =>
                    have D6 : aq.eval (.tmp 18) = _ := hdep 6
                  case' r20x8 =>
                    have D7 : aq.eval (.tmp 19) = _ := hdep 7
                  case' r20x9 =>
                    have D4 : aq.eval (.tmp 16) = _ := hdep 4
                    have D8 : aq.eval (.tmp 20) = _ := hdep 8
                  case' r20x10 =>
                    have D9 : aq.eval (.tmp 21) = _ := hdep 9
                  case' r20x11 =>
                    have F3 : aq.eval (.tmp 3) = .int .i64 (((i : Int) + 1)) := hf 3
                  case' r20x12 =>
                    have D11 : aq.eval (.tmp 23) = _ := hdep 11
                  case' r20x13 =>
                    have D12 : aq.eval (.tmp 24) = _ := hdep 12
                  case' r20x14 =>
                    have F0 : aq.eval (.tmp 0) = .slice (some ⟨b, off, none⟩) n c := hf 0
                  case' r20x15 =>
                    have F3 : aq.eval (.tmp 3) = .int .i64 (((i : Int) + 1)) := hf 3
                  case' r20x16 =>
                    have D15 : aq.eval (.tmp 27) = _ := hdep 15
                  case' r20x17 =>
                    have D14 : aq.eval (.tmp 26) = _ := hdep 14
                    have D16 : aq.eval (.tmp 28) = _ := hdep 16
                  case' r20x18 =>
                    have D17 : aq.eval (.tmp 29) = _ := hdep 17
                  case' r20x19 =>
                    have D18 : aq.eval (.tmp 30) = _ := hdep 18
                    have c0 := hS.cells (⟨b, off + i * 4, none⟩, .string pn) (by simp)
                  case' r20x20 =>
                    have F4 : aq.eval (.tmp 4) = .pointer (some ⟨wl.heap.size, 0, none⟩) := hf 4
                  case' r20x21 =>
                    have D20 : aq.eval (.tmp 32) = _ := hdep 20
                    have c0 := hS.cells (⟨wl.heap.size, 0, none⟩, .string nm) (by simp)
                  case' r20x22 =>
                    have D19 : aq.eval (.tmp 31) = _ := hdep 19
                    have D21 : aq.eval (.tmp 33) = _ := hdep 21
                  case' r20x23 =>
                    have D13 : aq.eval (.tmp 25) = _ := hdep 13
                    have D22 : aq.eval (.tmp 34) = _ := hdep 22
                  case' r20x24 =>
                    have D10 : aq.eval (.tmp 22) = _ := hdep 10
                    have D23 : aq.eval (.tmp 35) = _ := hdep 23
                  all_goals (clear hf hdep; unfold Oper.wp; generalize Act.eval _ = ev at *; go_simp)
                  case r20x2 =>
                    refine ((isName_a nm _ (by omega))).mono ?_
                    rintro e w2 ⟨rfl, rfl⟩
                    refine hK _ _ (hS.call (below_refl_self _)) ?_ (fun j u _ h => Kd.ok_below (below_refl_self _) h)
                    rw [if_pos (by rfl)]
                    show (_ : Value) = _
                    first | rfl | (refine congrArg (Value.int .i64) ?_; first | rfl | exact int_in (by omega) | exact quo_in (by omega) (by omega) (by omega) | exact rem_in (by omega) (by omega) | omega | (simp [*]; done) | (simp; omega)) | (simp; done) | (simp [*]; done)
                  case r20x7 =>
                    refine ((isClassForm_a x y z _ i0 i1 i2)).mono ?_
                    rintro e w2 ⟨rfl, hb⟩
                    refine hK _ _ (hS.call hb) ?_ (fun j u _ h => Kd.ok_below hb h)
                    rw [if_pos (by rfl)]
                    show (_ : Value) = _
                    first | rfl | (refine congrArg (Value.int .i64) ?_; first | rfl | exact int_in (by omega) | exact quo_in (by omega) (by omega) (by omega) | exact rem_in (by omega) (by omega) | omega | (simp [*]; done) | (simp; omega)) | (simp; done) | (simp [*]; done)
                  case' r20x17 =>
                    try rw [if_pos (by omega), Oper.upon_value]
                  all_goals (refine hK _ _ hS ?_ (fun j u _ h => h); rw [if_pos (by rfl)]; show (_ : Value) = _; (first | rfl | (refine congrArg (Value.int .i64) ?_; first | rfl | exact int_in (by omega) | exact quo_in (by omega) (by omega) (by omega) | exact rem_in (by omega) (by omega) | omega | (simp [*]; done) | (simp; omega)) | (simp; done) | (simp [*]; done) | (simp; omega)))
                · intro aq wx hd hw hf hS hg
                  have G36 : tau aq 36 = .bool true := hg 24 (by decide)
                  have haq : aq = ⟨#[tau aq 0, tau aq 1, tau aq 2, tau aq 3, tau aq 4, tau aq 5, tau aq 6, tau aq 7, tau aq 8, tau aq 9, tau aq 10, tau aq 11, tau aq 12, tau aq 13, tau aq 14, tau aq 15, tau aq 16, tau aq 17, tau aq 18, tau aq 19, tau aq 20, tau aq 21, tau aq 22, tau aq 23, tau aq 24, tau aq 25, tau aq 26, tau aq 27, tau aq 28, tau aq 29, tau aq 30, tau aq 31, tau aq 32, tau aq 33, tau aq 34, tau aq 35, tau aq 36, tau aq 37, tau aq 38, tau aq 39, tau aq 40], []⟩ := by
                    obtain ⟨tq, dq⟩ := aq
                    have h5 := arr_eq (show tq.size = 41 from hw)
                    have h6 : dq = [] := hd
                    subst h6
                    exact congrArg (fun z => Act.mk z []) h5
                  show K2 aq wx
                  rw [haq, hf 0, hf 1, hf 2, hf 3, hf 4, hf 5, hf 6, hf 7, hf 8, hf 9, hf 10, hf 11, hf 37, hf 38, hf 39, hf 40, G36]
                  clear haq hf hd hw
                  try dsimp only
                  refine h3 _ _ ?_
                  go_meet
                  exact ⟨rfl, hS.cells (⟨wl.heap.size, 0, none⟩, .string nm) (by simp), hS.cells (⟨wl.heap.size, 1, none⟩, .int .i64 x) (by simp), hS.cells (⟨wl.heap.size, 2, none⟩, .int .i64 y) (by simp), hS.cells (⟨wl.heap.size, 3, none⟩, .int .i64 z) (by simp), hS.cells (⟨b, off + i * 4, none⟩, .string pn) (by simp), hS.below⟩
              try clear c00
              try clear c01
              try clear c02
              try clear c03
              try clear c10
              obtain ⟨rfl, c00, c01, c02, c03, c10, hb0⟩ := hcut
              have z0 := World.block_lt_of_cell? _ _ c00
              have z1 := World.block_lt_of_cell? _ _ c10
              change wl.heap.size < wc.heap.size at z0
              change b < wc.heap.size at z1
              go_wp2
              go_ret
              exact ⟨by rw [unhide HF]; rfl, hb0⟩
            · have HT : Hid (ctG E (i + 1 + 1) = true) := hide (ct_next (unhide hg) (by rw [unhide HL]; exact k4))
              have k5 : Go.Op.bytesLess pn.toList nm.toList = true := k4
              go_upto_region 4 with fail
              go_cut [36] (fun s36 wx => s36 = .bool false ∧ wx.cell? ⟨wl.heap.size, 0, none⟩ = some (.string nm) ∧ wx.cell? ⟨wl.heap.size, 1, none⟩ = some (.int .i64 x) ∧ wx.cell? ⟨wl.heap.size, 2, none⟩ = some (.int .i64 y) ∧ wx.cell? ⟨wl.heap.size, 3, none⟩ = some (.int .i64 z) ∧ wx.cell? ⟨b, off + i * 4, none⟩ = some (.string pn) ∧ Below w.heap.size w wx)
              case first =>
                have h1 := trivial
                rename_i K2 h2 h3
                refine region_n (by kernel_rfl) (fun j => #[12,13,14,15,16,17,18,19,20,21,22,23,24,25,26,27,28,29,30,31,32,33,34,35,36].getD j 0) (fun j => Kd.ok ((fun j => match j with | 0 => Kd.val (.pointer (some ⟨wl.heap.size, 0, none⟩)) | 1 => Kd.val (.string nm) | 2 => Kd.val (.bool true) | 3 => Kd.val (.bool false) | 4 => Kd.val (.bool false) | 5 => Kd.val (.pointer (some ⟨wl.heap.size, 1, none⟩)) | 6 => Kd.val (.agg #[.int .i64 x, .int .i64 y, .int .i64 z]) | 7 => Kd.val (.bool true) | 8 => Kd.val (.bool false) | 9 => Kd.val (.bool false) | 10 => Kd.val (.bool false) | 11 => Kd.val (.int .i64 (((i : Int) + 1))) | 12 => Kd.val (.bool true) | 13 => Kd.val (.bool true) | 14 => Kd.val (.slice (some ⟨b, off, none⟩) n c) | 15 => Kd.val (.int .i64 (((i : Int) + 1))) | 16 => Kd.val (.int .i64 ((i : Int))) | 17 => Kd.val (.pointer (some ⟨b, off + i * 4, none⟩)) | 18 => Kd.val (.pointer (some ⟨b, off + i * 4, none⟩)) | 19 => Kd.val (.string pn) | 20 => Kd.val (.pointer (some ⟨wl.heap.size, 0, none⟩)) | 21 => Kd.val (.string nm) | 22 => Kd.val (.bool false) | 23 => Kd.val (.bool false) | 24 => Kd.val (.bool false) | _ => Kd.any : Nat → Kd) j)) (Sy w (wl.heap.size + 1) [(⟨wl.heap.size, 0, none⟩, .string nm), (⟨wl.heap.size, 1, none⟩, .int .i64 x), (⟨wl.heap.size, 2, none⟩, .int .i64 y), (⟨wl.heap.size, 3, none⟩, .int .i64 z), (⟨b, off + i * 4, none⟩, .string pn)] []) (fun j => #[true, true, true, true, true, true, true, true, true, true, true, true, true, true, true, true, true, true, true, true, true, true, true, true, true].getD j true) (by kernel_rfl) ?_ ?_ ?_ ?_ ?_ ?_
                · intro j hj
                  have hj2 : j < 25 := hj
                  have : ∀ j, j < 25 → (#[12,13,14,15,16,17,18,19,20,21,22,23,24,25,26,27,28,29,30,31,32,33,34,35,36] : Array Nat).getD j 0 < 41 := by decide
                  exact this j hj2
                · intro i o ho
                  match i, ho with
                  | 0, ho => cases ho; intro aq wq hd; exact wanted_free rfl
                  | 1, ho => cases ho; intro aq wq hd; exact wanted_free rfl
                  | 2, ho => cases ho; intro aq wq hd; exact wanted_free rfl
                  | 3, ho => cases ho; intro aq wq hd; exact wanted_free rfl
                  | 4, ho => cases ho; intro aq wq hd; exact wanted_free rfl
                  | 5, ho => cases ho; intro aq wq hd; exact wanted_of (j := 4) (t := 16) (want := false) (b := false) rfl rfl (hd 4 (by decide +kernel))
                  | 6, ho => cases ho; intro aq wq hd; exact wanted_of (j := 4) (t := 16) (want := false) (b := false) rfl rfl (hd 4 (by decide +kernel))
                  | 7, ho => cases ho; intro aq wq hd; exact wanted_of (j := 4) (t := 16) (want := false) (b := false) rfl rfl (hd 4 (by decide +kernel))
                  | 8, ho => cases ho; intro aq wq hd; exact wanted_of (j := 4) (t := 16) (want := false) (b := false) rfl rfl (hd 4 (by decide +kernel))
                  | 9, ho => cases ho; intro aq wq hd; exact wanted_free rfl
                  | 10, ho => cases ho; intro aq wq hd; exact wanted_free rfl
                  | 11, ho => cases ho; intro aq wq hd; exact wanted_of (j := 10) (t := 22) (want := false) (b := false) rfl rfl (hd 10 (by decide +kernel))
                  | 12, ho => cases ho; intro aq wq hd; exact wanted_of (j := 10) (t := 22) (want := false) (b := false) rfl rfl (hd 10 (by decide +kernel))
                  | 13, ho => cases ho; intro aq wq hd; exact wanted_of (j := 10) (t := 22) (want := false) (b := false) rfl rfl (hd 10 (by decide +kernel))
                  | 14, ho => cases ho; intro aq wq hd; exact wanted_of (j := 13) (t := 25) (want := true) (b := true) rfl rfl (hd 13 (by decide +kernel))
                  | 15, ho => cases ho; intro aq wq hd; exact wanted_of (j := 13) (t := 25) (want := true) (b := true) rfl rfl (hd 13 (by decide +kernel))
                  | 16, ho => cases ho; intro aq wq hd; exact wanted_of (j := 13) (t := 25) (want := true) (b := true) rfl rfl (hd 13 (by decide +kernel))
                  | 17, ho => cases ho; intro aq wq hd; exact wanted_of (j := 13) (t := 25) (want := true) (b := true) rfl rfl (hd 13 (by decide +kernel))
                  | 18, ho => cases ho; intro aq wq hd; exact wanted_of (j := 13) (t := 25) (want := true) (b := true) rfl rfl (hd 13 (by decide +kernel))
                  | 19, ho => cases ho; intro aq wq hd; exact wanted_of (j := 13) (t := 25) (want := true) (b := true) rfl rfl (hd 13 (by decide +kernel))
                  | 20, ho => cases ho; intro aq wq hd; exact wanted_of (j := 13) (t := 25) (want := true) (b := true) rfl rfl (hd 13 (by decide +kernel))
                  | 21, ho => cases ho; intro aq wq hd; exact wanted_of (j := 13) (t := 25) (want := true) (b := true) rfl rfl (hd 13 (by decide +kernel))
                  | 22, ho => cases ho; intro aq wq hd; exact wanted_of (j := 13) (t := 25) (want := true) (b := true) rfl rfl (hd 13 (by decide +kernel))
                  | 23, ho => cases ho; intro aq wq hd; exact wanted_of (j := 10) (t := 22) (want := false) (b := false) rfl rfl (hd 10 (by decide +kernel))
                  | 24, ho => cases ho; intro aq wq hd; exact wanted_free rfl
                  | i + 25, ho => exact absurd ho (by simp)
                · intro i o ho hr
                  match i, ho with
                  | 0, ho => exact absurd hr (by decide)
                  | 1, ho => exact absurd hr (by decide)
                  | 2, ho => exact absurd hr (by decide)
                  | 3, ho => exact absurd hr (by decide)
                  | 4, ho => exact absurd hr (by decide)
                  | 5, ho => exact absurd hr (by decide)
                  | 6, ho => exact absurd hr (by decide)
                  | 7, ho => exact absurd hr (by decide)
                  | 8, ho => exact absurd hr (by decide)
                  | 9, ho => exact absurd hr (by decide)
                  | 10, ho => exact absurd hr (by decide)
                  | 11, ho => exact absurd hr (by decide)
                  | 12, ho => exact absurd hr (by decide)
                  | 13, ho => exact absurd hr (by decide)
                  | 14, ho => exact absurd hr (by decide)
                  | 15, ho => exact absurd hr (by decide)
                  | 16, ho => exact absurd hr (by decide)
                  | 17, ho => exact absurd hr (by decide)
                  | 18, ho => exact absurd hr (by decide)
                  | 19, ho => exact absurd hr (by decide)
                  | 20, ho => exact absurd hr (by decide)
                  | 21, ho => exact absurd hr (by decide)
                  | 22, ho => exact absurd hr (by decide)
                  | 23, ho => exact absurd hr (by decide)
                  | 24, ho => exact absurd hr (by decide)
                  | i + 25, ho => exact absurd ho (by simp)
                · refine Sy.drew (Sy.mk_of ?_ ?_ ?_ ?_)
                  · first | rfl | (simp; done) | (simp; omega)
                  · intro c hc
                    simp only [List.mem_cons, List.not_mem_nil, or_false] at hc
                    rcases hc with rfl | rfl | rfl | rfl | rfl <;> exact byCT
                  · intro p hp; cases hp
                  · (repeat' first | with_reducible (first | exact Below.refl _ _ | assumption | refine gr_alloc ?_ _ | refine below_drewN ?_ _ | refine below_drew ?_ | refine gr_call ?_ (by assumption) | refine Below.setCell ?_ ?_ _) | go_size | omega | (simp; omega))
                · clear h1 h2 h3
                  refine ⟨?r21x0, ?r21x1, ?r21x2, ?r21x3, ?r21x4, ?r21x5, ?r21x6, ?r21x7, ?r21x8, ?r21x9, ?r21x10, ?r21x11, ?r21x12, ?r21x13, ?r21x14, ?r21x15, ?r21x16, ?r21x17, ?r21x18, ?r21x19, ?r21x20, ?r21x21, ?r21x22, ?r21x23, ?r21x24, trivial⟩
                  all_goals intro _ aq wx Kq hf hS hdep ev1 ev2 hK
                  case' r21x0 =>
                    have F4 : aq.eval (.tmp 4) = .pointer (some ⟨wl.heap.size, 0, none⟩) := hf 4
                  case' r21x1 =>
                    have D0 : aq.eval (.tmp 12) = _ := hdep 0
                    have c0 := hS.cells (⟨wl.heap.size, 0, none⟩, .string nm) (by simp)
                  case' r21x2 =>
                    have D1 : aq.eval (.tmp 13) = _ := hdep 1
                  case' r21x3 =>
                    have D2 : aq.eval (.tmp 14) = _ := hdep 2
                  case' r21x4 =>
                    have D3 : aq.eval (.tmp 15) = _ := hdep 3
                  case' r21x5 =>
                    have F4 : aq.eval (.tmp 4) = .pointer (some ⟨wl.heap.size, 0, none⟩) := hf 4
                  case' r21x6 =>
                    have D5 : aq.eval (.tmp 17) = _ := hdep 5
                    have c0 := hS.cells (⟨wl.heap.size, 1, none⟩, .int .i64 x) (by simp)
                    have c1 := hS.cells (⟨wl.heap.size, 2, none⟩, .int .i64 y) (by simp)
                    have c2 := hS.cells (⟨wl.heap.size, 3, none⟩, .int .i64 z) (by simp)
                  case' r21x7 =>
                    have D6 : aq.eval (.tmp 18) = _ := hdep 6
                  case' r21x8 =>
                    have D7 : aq.eval (.tmp 19) = _ := hdep 7
                  case' r21x9 =>
                    have D4 : aq.eval (.tmp 16) = _ := hdep 4
                    have D8 : aq.eval (.tmp 20) = _ := hdep 8
                  case' r21x10 =>
                    have D9 : aq.eval (.tmp 21) = _ := hdep 9
                  case' r21x11 =>
                    have F3 : aq.eval (.tmp 3) = .int .i64 (((i : Int) + 1)) := hf 3
                  case' r21x12 =>
                    have D11 : aq.eval (.tmp 23) = _ := hdep 11
                  case' r21x13 =>
                    have D12 : aq.eval (.tmp 24) = _ := hdep 12
                  case' r21x14 =>
                    have F0 : aq.eval (.tmp 0) = .slice (some ⟨b, off, none⟩) n c := hf 0
                  case' r21x15 =>
                    have F3 : aq.eval (.tmp 3) = .int .i64 (((i : Int) + 1)) := hf 3
                  case' r21x16 =>
                    have D15 : aq.eval (.tmp 27) = _ := hdep 15
                  case' r21x17 =>
                    have D14 : aq.eval (.tmp 26) = _ := hdep 14
                    have D16 : aq.eval (.tmp 28) = _ := hdep 16
                  case' r21x18 =>
                    have D17 : aq.eval (.tmp 29) = _ := hdep 17
                  case' r21x19 =>
                    have D18 : aq.eval (.tmp 30) = _ := hdep 18
                    have c0 := hS.cells (⟨b, off + i * 4, none⟩, .string pn) (by simp)
                  case' r21x20 =>
                    have F4 : aq.eval (.tmp 4) = .pointer (some ⟨wl.heap.size, 0, none⟩) := hf 4
                  case' r21x21 =>
                    have D20 : aq.eval (.tmp 32) = _ := hdep 20
                    have c0 := hS.cells (⟨wl.heap.size, 0, none⟩, .string nm) (by simp)
                  case' r21x22 =>
                    have D19 : aq.eval (.tmp 31) = _ := hdep 19
                    have D21 : aq.eval (.tmp 33) = _ := hdep 21
                  case' r21x23 =>
                    have D13 : aq.eval (.tmp 25) = _ := hdep 13
                    have D22 : aq.eval (.tmp 34) = _ := hdep 22
                  case' r21x24 =>
                    have D10 : aq.eval (.tmp 22) = _ := hdep 10
                    have D23 : aq.eval (.tmp 35) = _ := hdep 23
                  all_goals (clear hf hdep; unfold Oper.wp; generalize Act.eval _ = ev at *; go_simp)
                  case r21x2 =>
                    refine ((isName_a nm _ (by omega))).mono ?_
                    rintro e w2 ⟨rfl, rfl⟩
                    refine hK _ _ (hS.call (below_refl_self _)) ?_ (fun j u _ h => Kd.ok_below (below_refl_self _) h)
                    rw [if_pos (by rfl)]
                    show (_ : Value) = _
                    first | rfl | (refine congrArg (Value.int .i64) ?_; first | rfl | exact int_in (by omega) | exact quo_in (by omega) (by omega) (by omega) | exact rem_in (by omega) (by omega) | omega | (simp [*]; done) | (simp; omega)) | (simp; done) | (simp [*]; done)
                  case r21x7 =>
                    refine ((isClassForm_a x y z _ i0 i1 i2)).mono ?_
                    rintro e w2 ⟨rfl, hb⟩
                    refine hK _ _ (hS.call hb) ?_ (fun j u _ h => Kd.ok_below hb h)
                    rw [if_pos (by rfl)]
                    show (_ : Value) = _
                    first | rfl | (refine congrArg (Value.int .i64) ?_; first | rfl | exact int_in (by omega) | exact quo_in (by omega) (by omega) (by omega) | exact rem_in (by omega) (by omega) | omega | (simp [*]; done) | (simp; omega)) | (simp; done) | (simp [*]; done)
                  case' r21x17 =>
                    try rw [if_pos (by omega), Oper.upon_value]
                  all_goals (refine hK _ _ hS ?_ (fun j u _ h => h); rw [if_pos (by rfl)]; show (_ : Value) = _; (first | rfl | (refine congrArg (Value.int .i64) ?_; first | rfl | exact int_in (by omega) | exact quo_in (by omega) (by omega) (by omega) | exact rem_in (by omega) (by omega) | omega | (simp [*]; done) | (simp; omega)) | (simp; done) | (simp [*]; done) | (simp; omega)))
                · intro aq wx hd hw hf hS hg
                  have G36 : tau aq 36 = .bool false := hg 24 (by decide)
                  have haq : aq = ⟨#[tau aq 0, tau aq 1, tau aq 2, tau aq 3, tau aq 4, tau aq 5, tau aq 6, tau aq 7, tau aq 8, tau aq 9, tau aq 10, tau aq 11, tau aq 12, tau aq 13, tau aq 14, tau aq 15, tau aq 16, tau aq 17, tau aq 18, tau aq 19, tau aq 20, tau aq 21, tau aq 22, tau aq 23, tau aq 24, tau aq 25, tau aq 26, tau aq 27, tau aq 28, tau aq 29, tau aq 30, tau aq 31, tau aq 32, tau aq 33, tau aq 34, tau aq 35, tau aq 36, tau aq 37, tau aq 38, tau aq 39, tau aq 40], []⟩ := by
                    obtain ⟨tq, dq⟩ := aq
                    have h5 := arr_eq (show tq.size = 41 from hw)
                    have h6 : dq = [] := hd
                    subst h6
                    exact congrArg (fun z => Act.mk z []) h5
                  show K2 aq wx
                  rw [haq, hf 0, hf 1, hf 2, hf 3, hf 4, hf 5, hf 6, hf 7, hf 8, hf 9, hf 10, hf 11, hf 37, hf 38, hf 39, hf 40, G36]
                  clear haq hf hd hw
                  try dsimp only
                  refine h3 _ _ ?_
                  go_meet
                  exact ⟨rfl, hS.cells (⟨wl.heap.size, 0, none⟩, .string nm) (by simp), hS.cells (⟨wl.heap.size, 1, none⟩, .int .i64 x) (by simp), hS.cells (⟨wl.heap.size, 2, none⟩, .int .i64 y) (by simp), hS.cells (⟨wl.heap.size, 3, none⟩, .int .i64 z) (by simp), hS.cells (⟨b, off + i * 4, none⟩, .string pn) (by simp), hS.below⟩
              try clear c00
              try clear c01
              try clear c02
              try clear c03
              try clear c10
              obtain ⟨rfl, c00, c01, c02, c03, c10, hb0⟩ := hcut
              have z0 := World.block_lt_of_cell? _ _ c00
              have z1 := World.block_lt_of_cell? _ _ c10
              change wl.heap.size < wc.heap.size at z0
              change b < wc.heap.size at z1
              go_wp2
              go_roundw
              case rel => exact ⟨(i + 1) + 1, by omega, by first | rfl | go_num, HT, hb0⟩
              case measure => simp [intOf]; omega
    · obtain rfl : jx = n := by omega
      by_cases k : jx ≤ 20
      · have HV : Hid (ctB E jx = true) := hide (by unfold ctB; rw [unhide hg]; simp [k])
        have hk : (jx : Int) ≤ 20 := by omega
        go_wp2
        go_ret
        exact ⟨by rw [unhide HV]; first | rfl | simp [k], hb⟩
      · have HV : Hid (ctB E jx = false) := hide (by unfold ctB; simp [k])
        have hk : ¬ (jx : Int) ≤ 20 := by omega
        go_wp2
        go_ret
        exact ⟨by rw [unhide HV]; first | rfl | simp [k], hb⟩

set_option maxRecDepth 100000 in
set_option maxHeartbeats 8000000 in
theorem lgGood_a (v : Value) (n : Nat) (E : Nat → Ent) (w : World) (h : ArgE w v n E) (hn : n ≤ 2000000) (ho : ∀ i, i < n → EntOk (E i)) :
    Calls Try.prog 40 #[v] w fun e w' => e = .returned (.bool (ctB E n)) ∧ Below w.heap.size w w' := by
  have HA := hide h
  have HO := hide ho
  obtain ⟨a, c, rfl⟩ := h.len
  clear h ho
  go_enter Try.func40, Try.ntmps40
  go_wp2
  go_loopw [7] (fun is wr => ∃ jx : Nat, jx ≤ n ∧ is = .int .i64 (jx : Int) ∧ Hid (ctG E jx = true) ∧ Below w.heap.size w wr) (fun is _ => n - (intOf is).toNat)
  case atStart => exact ⟨0, by omega, rfl, hide rfl, Below.refl _ _⟩
  case round =>
    obtain ⟨jx, hj, rfl, hg, hb⟩ := hrel
    obtain ⟨wl, rfl⟩ : ∃ wl : World, wl = wr := ⟨_, rfl⟩
    have hzl := hb.size
    by_cases q : jx < n
    · have hci : (jx : Int) < (n : Int) := by omega
      obtain ⟨b, off, hv, hcs⟩ := ((unhide HA).below hb).cells (by omega)
      have hbl : b < wl.heap.size := World.block_lt_of_cell? _ _ (hcs jx q).1
      obtain ⟨c0, c1, c2, c3⟩ := hcs jx q
      subst hv
      obtain ⟨eo, i0, i1, i2⟩ := unhide HO jx q
      obtain ⟨nm, hnm⟩ : ∃ s, (E jx).n = s := ⟨_, rfl⟩
      obtain ⟨x, hx⟩ : ∃ x, (E jx).f.1 = x := ⟨_, rfl⟩
      obtain ⟨y, hy⟩ : ∃ y, (E jx).f.2.1 = y := ⟨_, rfl⟩
      obtain ⟨z, hz⟩ : ∃ z, (E jx).f.2.2 = z := ⟨_, rfl⟩
      have HGO : Hid (goE E jx = (nmB nm && (classB x y z && (decide (jx = 0) || lessB (E (jx - 1)).n nm)))) := hide (by unfold goE; rw [hnm, hx, hy, hz])
      rw [hnm] at c0 eo
      rw [hx] at c1 i0
      rw [hy] at c2 i1
      rw [hz] at c3 i2
      clear hnm hx hy hz
      cases k1 : nmB nm
      · have HF : Hid (ctB E n = false) := hide (ct_no (by rw [unhide HGO, k1]; rfl) n q)
        clear hcs
        go_upto_region 4 with fail
        go_cut [36] (fun s36 wx => s36 = .bool true ∧ wx.cell? ⟨wl.heap.size, 0, none⟩ = some (.string nm) ∧ wx.cell? ⟨wl.heap.size, 1, none⟩ = some (.int .i64 x) ∧ wx.cell? ⟨wl.heap.size, 2, none⟩ = some (.int .i64 y) ∧ wx.cell? ⟨wl.heap.size, 3, none⟩ = some (.int .i64 z) ∧ Below w.heap.size w wx)
        case first =>
          have h1 := trivial
          rename_i K2 h2 h3
          refine region_n (by kernel_rfl) (fun j => #[12,13,14,15,16,17,18,19,20,21,22,23,24,25,26,27,28,29,30,31,32,33,34,35,36].getD j 0) (fun j => Kd.ok ((fun j => match j with | 0 => Kd.val (.pointer (some ⟨wl.heap.size, 0, none⟩)) | 1 => Kd.val (.string nm) | 2 => Kd.val (.bool false) | 3 => Kd.val (.bool true) | 4 => Kd.val (.bool true) | 5 => Kd.val undef | 6 => Kd.val undef | 7 => Kd.val undef | 8 => Kd.val undef | 9 => Kd.val (.bool true) | 10 => Kd.val (.bool true) | 11 => Kd.val undef | 12 => Kd.val undef | 13 => Kd.val undef | 14 => Kd.val undef | 15 => Kd.val undef | 16 => Kd.val undef | 17 => Kd.val undef | 18 => Kd.val undef | 19 => Kd.val undef | 20 => Kd.val undef | 21 => Kd.val undef | 22 => Kd.val undef | 23 => Kd.val undef | 24 => Kd.val (.bool true) | _ => Kd.any : Nat → Kd) j)) (Sy w (wl.heap.size + 1) [(⟨wl.heap.size, 0, none⟩, .string nm), (⟨wl.heap.size, 1, none⟩, .int .i64 x), (⟨wl.heap.size, 2, none⟩, .int .i64 y), (⟨wl.heap.size, 3, none⟩, .int .i64 z)] []) (fun j => #[true, true, true, true, true, false, false, false, false, true, true, false, false, false, false, false, false, false, false, false, false, false, false, false, true].getD j true) (by kernel_rfl) ?_ ?_ ?_ ?_ ?_ ?_
          · intro j hj
            have hj2 : j < 25 := hj
            have : ∀ j, j < 25 → (#[12,13,14,15,16,17,18,19,20,21,22,23,24,25,26,27,28,29,30,31,32,33,34,35,36] : Array Nat).getD j 0 < 41 := by decide
            exact this j hj2
          · intro i o ho
            match i, ho with
            | 0, ho => cases ho; intro aq wq hd; exact wanted_free rfl
            | 1, ho => cases ho; intro aq wq hd; exact wanted_free rfl
            | 2, ho => cases ho; intro aq wq hd; exact wanted_free rfl
            | 3, ho => cases ho; intro aq wq hd; exact wanted_free rfl
            | 4, ho => cases ho; intro aq wq hd; exact wanted_free rfl
            | 5, ho => cases ho; intro aq wq hd; exact wanted_of (j := 4) (t := 16) (want := false) (b := true) rfl rfl (hd 4 (by decide +kernel))
            | 6, ho => cases ho; intro aq wq hd; exact wanted_of (j := 4) (t := 16) (want := false) (b := true) rfl rfl (hd 4 (by decide +kernel))
            | 7, ho => cases ho; intro aq wq hd; exact wanted_of (j := 4) (t := 16) (want := false) (b := true) rfl rfl (hd 4 (by decide +kernel))
            | 8, ho => cases ho; intro aq wq hd; exact wanted_of (j := 4) (t := 16) (want := false) (b := true) rfl rfl (hd 4 (by decide +kernel))
            | 9, ho => cases ho; intro aq wq hd; exact wanted_free rfl
            | 10, ho => cases ho; intro aq wq hd; exact wanted_free rfl
            | 11, ho => cases ho; intro aq wq hd; exact wanted_of (j := 10) (t := 22) (want := false) (b := true) rfl rfl (hd 10 (by decide +kernel))
            | 12, ho => cases ho; intro aq wq hd; exact wanted_of (j := 10) (t := 22) (want := false) (b := true) rfl rfl (hd 10 (by decide +kernel))
            | 13, ho => cases ho; intro aq wq hd; exact wanted_of (j := 10) (t := 22) (want := false) (b := true) rfl rfl (hd 10 (by decide +kernel))
            | 14, ho => cases ho; intro aq wq hd; exact wanted_no (j := 13) (t := 25) (want := true) rfl rfl (hd 13 (by decide +kernel))
            | 15, ho => cases ho; intro aq wq hd; exact wanted_no (j := 13) (t := 25) (want := true) rfl rfl (hd 13 (by decide +kernel))
            | 16, ho => cases ho; intro aq wq hd; exact wanted_no (j := 13) (t := 25) (want := true) rfl rfl (hd 13 (by decide +kernel))
            | 17, ho => cases ho; intro aq wq hd; exact wanted_no (j := 13) (t := 25) (want := true) rfl rfl (hd 13 (by decide +kernel))
            | 18, ho => cases ho; intro aq wq hd; exact wanted_no (j := 13) (t := 25) (want := true) rfl rfl (hd 13 (by decide +kernel))
            | 19, ho => cases ho; intro aq wq hd; exact wanted_no (j := 13) (t := 25) (want := true) rfl rfl (hd 13 (by decide +kernel))
            | 20, ho => cases ho; intro aq wq hd; exact wanted_no (j := 13) (t := 25) (want := true) rfl rfl (hd 13 (by decide +kernel))
            | 21, ho => cases ho; intro aq wq hd; exact wanted_no (j := 13) (t := 25) (want := true) rfl rfl (hd 13 (by decide +kernel))
            | 22, ho => cases ho; intro aq wq hd; exact wanted_no (j := 13) (t := 25) (want := true) rfl rfl (hd 13 (by decide +kernel))
            | 23, ho => cases ho; intro aq wq hd; exact wanted_of (j := 10) (t := 22) (want := false) (b := true) rfl rfl (hd 10 (by decide +kernel))
            | 24, ho => cases ho; intro aq wq hd; exact wanted_free rfl
            | i + 25, ho => exact absurd ho (by simp)
          · intro i o ho hr
            match i, ho with
            | 0, ho => exact absurd hr (by decide)
            | 1, ho => exact absurd hr (by decide)
            | 2, ho => exact absurd hr (by decide)
            | 3, ho => exact absurd hr (by decide)
            | 4, ho => exact absurd hr (by decide)
            | 5, ho => cases ho; exact ⟨rfl, fun _ _ => rfl⟩
            | 6, ho => cases ho; exact ⟨rfl, fun _ _ => rfl⟩
            | 7, ho => cases ho; exact ⟨rfl, fun _ _ => rfl⟩
            | 8, ho => cases ho; exact ⟨rfl, fun _ _ => rfl⟩
            | 9, ho => exact absurd hr (by decide)
            | 10, ho => exact absurd hr (by decide)
            | 11, ho => cases ho; exact ⟨rfl, fun _ _ => rfl⟩
            | 12, ho => cases ho; exact ⟨rfl, fun _ _ => rfl⟩
            | 13, ho => cases ho; exact ⟨rfl, fun _ _ => rfl⟩
            | 14, ho => cases ho; exact ⟨rfl, fun _ _ => rfl⟩
            | 15, ho => cases ho; exact ⟨rfl, fun _ _ => rfl⟩
            | 16, ho => cases ho; exact ⟨rfl, fun _ _ => rfl⟩
            | 17, ho => cases ho; exact ⟨rfl, fun _ _ => rfl⟩
            | 18, ho => cases ho; exact ⟨rfl, fun _ _ => rfl⟩
            | 19, ho => cases ho; exact ⟨rfl, fun _ _ => rfl⟩
            | 20, ho => cases ho; exact ⟨rfl, fun _ _ => rfl⟩
            | 21, ho => cases ho; exact ⟨rfl, fun _ _ => rfl⟩
            | 22, ho => cases ho; exact ⟨rfl, fun _ _ => rfl⟩
            | 23, ho => cases ho; exact ⟨rfl, fun _ _ => rfl⟩
            | 24, ho => exact absurd hr (by decide)
            | i + 25, ho => exact absurd ho (by simp)
          · refine Sy.drew (Sy.mk_of ?_ ?_ ?_ ?_)
            · first | rfl | (simp; done) | (simp; omega)
            · intro c hc
              simp only [List.mem_cons, List.not_mem_nil, or_false] at hc
              rcases hc with rfl | rfl | rfl | rfl <;> exact byCT
            · intro p hp; cases hp
            · (repeat' first | with_reducible (first | exact Below.refl _ _ | assumption | refine gr_alloc ?_ _ | refine below_drewN ?_ _ | refine below_drew ?_ | refine gr_call ?_ (by assumption) | refine Below.setCell ?_ ?_ _) | go_size | omega | (simp; omega))
          · clear h1 h2 h3
            refine ⟨?r22x0, ?r22x1, ?r22x2, ?r22x3, ?r22x4, ?r22x5, ?r22x6, ?r22x7, ?r22x8, ?r22x9, ?r22x10, ?r22x11, ?r22x12, ?r22x13, ?r22x14, ?r22x15, ?r22x16, ?r22x17, ?r22x18, ?r22x19, ?r22x20, ?r22x21, ?r22x22, ?r22x23, ?r22x24, trivial⟩
            case r22x5 => intro hr; exact absurd hr (by decide)
            case r22x6 => intro hr; exact absurd hr (by decide)
            case r22x7 => intro hr; exact absurd hr (by decide)
            case r22x8 => intro hr; exact absurd hr (by decide)
            case r22x11 => intro hr; exact absurd hr (by decide)
            case r22x12 => intro hr; exact absurd hr (by decide)
            case r22x13 => intro hr; exact absurd hr (by decide)
            case r22x14 => intro hr; exact absurd hr (by decide)
            case r22x15 => intro hr; exact absurd hr (by decide)
            case r22x16 => intro hr; exact absurd hr (by decide)
            case r22x17 => intro hr; exact absurd hr (by decide)
            case r22x18 => intro hr; exact absurd hr (by decide)
            case r22x19 => intro hr; exact absurd hr (by decide)
            case r22x20 => intro hr; exact absurd hr (by decide)
            case r22x21 => intro hr; exact absurd hr (by decide)
            case r22x22 => intro hr; exact absurd hr (by decide)
            case r22x23 => intro hr; exact absurd hr (by decide)
            all_goals intro _ aq wx Kq hf hS hdep ev1 ev2 hK
            case' r22x0 =>
              have F4 : aq.eval (.tmp 4) = .pointer (some ⟨wl.heap.size, 0, none⟩) := hf 4
            case' r22x1 =>
              have D0 : aq.eval (.tmp 12) = _ := hdep 0
              have c0 := hS.cells (⟨wl.heap.size, 0, none⟩, .string nm) (by simp)
            case' r22x2 =>
              have D1 : aq.eval (.tmp 13) = _ := hdep 1
            case' r22x3 =>
              have D2 : aq.eval (.tmp 14) = _ := hdep 2
            case' r22x4 =>
              have D3 : aq.eval (.tmp 15) = _ := hdep 3
            case' r22x9 =>
              have D4 : aq.eval (.tmp 16) = _ := hdep 4
              have D8 : aq.eval (.tmp 20) = _ := hdep 8
            case' r22x10 =>
              have D9 : aq.eval (.tmp 21) = _ := hdep 9
            case' r22x24 =>
              have D10 : aq.eval (.tmp 22) = _ := hdep 10
              have D23 : aq.eval (.tmp 35) = _ := hdep 23
            all_goals (clear hf hdep; unfold Oper.wp; generalize Act.eval _ = ev at *; go_simp)
            case r22x2 =>
              refine ((lgName_a nm _ (by omega))).mono ?_
              rintro e w2 ⟨rfl, rfl⟩
              refine hK _ _ (hS.call (below_refl_self _)) ?_ (fun j u _ h => Kd.ok_below (below_refl_self _) h)
              rw [if_pos (by rfl)]
              show (_ : Value) = _
              first | rfl | (refine congrArg (Value.int .i64) ?_; first | rfl | exact int_in (by omega) | exact quo_in (by omega) (by omega) (by omega) | exact rem_in (by omega) (by omega) | omega | (simp [*]; done) | (simp; omega)) | (simp; done) | (simp [*]; done)
            all_goals (refine hK _ _ hS ?_ (fun j u _ h => h); rw [if_pos (by rfl)]; show (_ : Value) = _; (first | rfl | (refine congrArg (Value.int .i64) ?_; first | rfl | exact int_in (by omega) | exact quo_in (by omega) (by omega) (by omega) | exact rem_in (by omega) (by omega) | omega | (simp [*]; done) | (simp; omega)) | (simp; done) | (simp [*]; done) | (simp; omega)))
          · intro aq wx hd hw hf hS hg
            have G36 : tau aq 36 = .bool true := hg 24 (by decide)
            have haq : aq = ⟨#[tau aq 0, tau aq 1, tau aq 2, tau aq 3, tau aq 4, tau aq 5, tau aq 6, tau aq 7, tau aq 8, tau aq 9, tau aq 10, tau aq 11, tau aq 12, tau aq 13, tau aq 14, tau aq 15, tau aq 16, tau aq 17, tau aq 18, tau aq 19, tau aq 20, tau aq 21, tau aq 22, tau aq 23, tau aq 24, tau aq 25, tau aq 26, tau aq 27, tau aq 28, tau aq 29, tau aq 30, tau aq 31, tau aq 32, tau aq 33, tau aq 34, tau aq 35, tau aq 36, tau aq 37, tau aq 38, tau aq 39, tau aq 40], []⟩ := by
              obtain ⟨tq, dq⟩ := aq
              have h5 := arr_eq (show tq.size = 41 from hw)
              have h6 : dq = [] := hd
              subst h6
              exact congrArg (fun z => Act.mk z []) h5
            show K2 aq wx
            rw [haq, hf 0, hf 1, hf 2, hf 3, hf 4, hf 5, hf 6, hf 7, hf 8, hf 9, hf 10, hf 11, hf 37, hf 38, hf 39, hf 40, G36]
            clear haq hf hd hw
            try dsimp only
            refine h3 _ _ ?_
            go_meet
            exact ⟨rfl, hS.cells (⟨wl.heap.size, 0, none⟩, .string nm) (by simp), hS.cells (⟨wl.heap.size, 1, none⟩, .int .i64 x) (by simp), hS.cells (⟨wl.heap.size, 2, none⟩, .int .i64 y) (by simp), hS.cells (⟨wl.heap.size, 3, none⟩, .int .i64 z) (by simp), hS.below⟩
        try clear c00
        try clear c01
        try clear c02
        try clear c03
        obtain ⟨rfl, c00, c01, c02, c03, hb0⟩ := hcut
        have z0 := World.block_lt_of_cell? _ _ c00
        change wl.heap.size < wc.heap.size at z0
        go_wp2
        go_ret
        exact ⟨by rw [unhide HF]; rfl, hb0⟩
      · cases k2 : classB x y z
        · have HF : Hid (ctB E n = false) := hide (ct_no (by rw [unhide HGO, k2]; simp) n q)
          clear hcs
          go_upto_region 4 with fail
          go_cut [36] (fun s36 wx => s36 = .bool true ∧ wx.cell? ⟨wl.heap.size, 0, none⟩ = some (.string nm) ∧ wx.cell? ⟨wl.heap.size, 1, none⟩ = some (.int .i64 x) ∧ wx.cell? ⟨wl.heap.size, 2, none⟩ = some (.int .i64 y) ∧ wx.cell? ⟨wl.heap.size, 3, none⟩ = some (.int .i64 z) ∧ Below w.heap.size w wx)
          case first =>
            have h1 := trivial
            rename_i K2 h2 h3
            refine region_n (by kernel_rfl) (fun j => #[12,13,14,15,16,17,18,19,20,21,22,23,24,25,26,27,28,29,30,31,32,33,34,35,36].getD j 0) (fun j => Kd.ok ((fun j => match j with | 0 => Kd.val (.pointer (some ⟨wl.heap.size, 0, none⟩)) | 1 => Kd.val (.string nm) | 2 => Kd.val (.bool true) | 3 => Kd.val (.bool false) | 4 => Kd.val (.bool false) | 5 => Kd.val (.pointer (some ⟨wl.heap.size, 1, none⟩)) | 6 => Kd.val (.agg #[.int .i64 x, .int .i64 y, .int .i64 z]) | 7 => Kd.val (.bool false) | 8 => Kd.val (.bool true) | 9 => Kd.val (.bool true) | 10 => Kd.val (.bool true) | 11 => Kd.val undef | 12 => Kd.val undef | 13 => Kd.val undef | 14 => Kd.val undef | 15 => Kd.val undef | 16 => Kd.val undef | 17 => Kd.val undef | 18 => Kd.val undef | 19 => Kd.val undef | 20 => Kd.val undef | 21 => Kd.val undef | 22 => Kd.val undef | 23 => Kd.val undef | 24 => Kd.val (.bool true) | _ => Kd.any : Nat → Kd) j)) (Sy w (wl.heap.size + 1) [(⟨wl.heap.size, 0, none⟩, .string nm), (⟨wl.heap.size, 1, none⟩, .int .i64 x), (⟨wl.heap.size, 2, none⟩, .int .i64 y), (⟨wl.heap.size, 3, none⟩, .int .i64 z)] []) (fun j => #[true, true, true, true, true, true, true, true, true, true, true, false, false, false, false, false, false, false, false, false, false, false, false, false, true].getD j true) (by kernel_rfl) ?_ ?_ ?_ ?_ ?_ ?_
            · intro j hj
              have hj2 : j < 25 := hj
              have : ∀ j, j < 25 → (#[12,13,14,15,16,17,18,19,20,21,22,23,24,25,26,27,28,29,30,31,32,33,34,35,36] : Array Nat).getD j 0 < 41 := by decide
              exact this j hj2
            · intro i o ho
              match i, ho with
              | 0, ho => cases ho; intro aq wq hd; exact wanted_free rfl
              | 1, ho => cases ho; intro aq wq hd; exact wanted_free rfl
              | 2, ho => cases ho; intro aq wq hd; exact wanted_free rfl
              | 3, ho => cases ho; intro aq wq hd; exact wanted_free rfl
              | 4, ho => cases ho; intro aq wq hd; exact wanted_free rfl
              | 5, ho => cases ho; intro aq wq hd; exact wanted_of (j := 4) (t := 16) (want := false) (b := false) rfl rfl (hd 4 (by decide +kernel))
              | 6, ho => cases ho; intro aq wq hd; exact wanted_of (j := 4) (t := 16) (want := false) (b := false) rfl rfl (hd 4 (by decide +kernel))
              | 7, ho => cases ho; intro aq wq hd; exact wanted_of (j := 4) (t := 16) (want := false) (b := false) rfl rfl (hd 4 (by decide +kernel))
              | 8, ho => cases ho; intro aq wq hd; exact wanted_of (j := 4) (t := 16) (want := false) (b := false) rfl rfl (hd 4 (by decide +kernel))
              | 9, ho => cases ho; intro aq wq hd; exact wanted_free rfl
              | 10, ho => cases ho; intro aq wq hd; exact wanted_free rfl
              | 11, ho => cases ho; intro aq wq hd; exact wanted_of (j := 10) (t := 22) (want := false) (b := true) rfl rfl (hd 10 (by decide +kernel))
              | 12, ho => cases ho; intro aq wq hd; exact wanted_of (j := 10) (t := 22) (want := false) (b := true) rfl rfl (hd 10 (by decide +kernel))
              | 13, ho => cases ho; intro aq wq hd; exact wanted_of (j := 10) (t := 22) (want := false) (b := true) rfl rfl (hd 10 (by decide +kernel))
              | 14, ho => cases ho; intro aq wq hd; exact wanted_no (j := 13) (t := 25) (want := true) rfl rfl (hd 13 (by decide +kernel))
              | 15, ho => cases ho; intro aq wq hd; exact wanted_no (j := 13) (t := 25) (want := true) rfl rfl (hd 13 (by decide +kernel))
              | 16, ho => cases ho; intro aq wq hd; exact wanted_no (j := 13) (t := 25) (want := true) rfl rfl (hd 13 (by decide +kernel))
              | 17, ho => cases ho; intro aq wq hd; exact wanted_no (j := 13) (t := 25) (want := true) rfl rfl (hd 13 (by decide +kernel))
              | 18, ho => cases ho; intro aq wq hd; exact wanted_no (j := 13) (t := 25) (want := true) rfl rfl (hd 13 (by decide +kernel))
              | 19, ho => cases ho; intro aq wq hd; exact wanted_no (j := 13) (t := 25) (want := true) rfl rfl (hd 13 (by decide +kernel))
              | 20, ho => cases ho; intro aq wq hd; exact wanted_no (j := 13) (t := 25) (want := true) rfl rfl (hd 13 (by decide +kernel))
              | 21, ho => cases ho; intro aq wq hd; exact wanted_no (j := 13) (t := 25) (want := true) rfl rfl (hd 13 (by decide +kernel))
              | 22, ho => cases ho; intro aq wq hd; exact wanted_no (j := 13) (t := 25) (want := true) rfl rfl (hd 13 (by decide +kernel))
              | 23, ho => cases ho; intro aq wq hd; exact wanted_of (j := 10) (t := 22) (want := false) (b := true) rfl rfl (hd 10 (by decide +kernel))
              | 24, ho => cases ho; intro aq wq hd; exact wanted_free rfl
              | i + 25, ho => exact absurd ho (by simp)
            · intro i o ho hr
              match i, ho with
              | 0, ho => exact absurd hr (by decide)
              | 1, ho => exact absurd hr (by decide)
              | 2, ho => exact absurd hr (by decide)
              | 3, ho => exact absurd hr (by decide)
              | 4, ho => exact absurd hr (by decide)
              | 5, ho => exact absurd hr (by decide)
              | 6, ho => exact absurd hr (by decide)
              | 7, ho => exact absurd hr (by decide)
              | 8, ho => exact absurd hr (by decide)
              | 9, ho => exact absurd hr (by decide)
              | 10, ho => exact absurd hr (by decide)
              | 11, ho => cases ho; exact ⟨rfl, fun _ _ => rfl⟩
              | 12, ho => cases ho; exact ⟨rfl, fun _ _ => rfl⟩
              | 13, ho => cases ho; exact ⟨rfl, fun _ _ => rfl⟩
              | 14, ho => cases ho; exact ⟨rfl, fun _ _ => rfl⟩
              | 15, ho => cases ho; exact ⟨rfl, fun _ _ => rfl⟩
              | 16, ho => cases ho; exact ⟨rfl, fun _ _ => rfl⟩
              | 17, ho => cases ho; exact ⟨rfl, fun _ _ => rfl⟩
              | 18, ho => cases ho; exact ⟨rfl, fun _ _ => rfl⟩
              | 19, ho => cases ho; exact ⟨rfl, fun _ _ => rfl⟩
              | 20, ho => cases ho; exact ⟨rfl, fun _ _ => rfl⟩
              | 21, ho => cases ho; exact ⟨rfl, fun _ _ => rfl⟩
              | 22, ho => cases ho; exact ⟨rfl, fun _ _ => rfl⟩
              | 23, ho => cases ho; exact ⟨rfl, fun _ _ => rfl⟩
              | 24, ho => exact absurd hr (by decide)
              | i + 25, ho => exact absurd ho (by simp)
            · refine Sy.drew (Sy.mk_of ?_ ?_ ?_ ?_)
              · first | rfl | (simp; done) | (simp; omega)
              · intro c hc
                simp only [List.mem_cons, List.not_mem_nil, or_false] at hc
                rcases hc with rfl | rfl | rfl | rfl <;> exact byCT
              · intro p hp; cases hp
              · (repeat' first | with_reducible (first | exact Below.refl _ _ | assumption | refine gr_alloc ?_ _ | refine below_drewN ?_ _ | refine below_drew ?_ | refine gr_call ?_ (by assumption) | refine Below.setCell ?_ ?_ _) | go_size | omega | (simp; omega))
            · clear h1 h2 h3
              refine ⟨?r23x0, ?r23x1, ?r23x2, ?r23x3, ?r23x4, ?r23x5, ?r23x6, ?r23x7, ?r23x8, ?r23x9, ?r23x10, ?r23x11, ?r23x12, ?r23x13, ?r23x14, ?r23x15, ?r23x16, ?r23x17, ?r23x18, ?r23x19, ?r23x20, ?r23x21, ?r23x22, ?r23x23, ?r23x24, trivial⟩
              case r23x11 => intro hr; exact absurd hr (by decide)
              case r23x12 => intro hr; exact absurd hr (by decide)
              case r23x13 => intro hr; exact absurd hr (by decide)
              case r23x14 => intro hr; exact absurd hr (by decide)
              case r23x15 => intro hr; exact absurd hr (by decide)
              case r23x16 => intro hr; exact absurd hr (by decide)
              case r23x17 => intro hr; exact absurd hr (by decide)
              case r23x18 => intro hr; exact absurd hr (by decide)
              case r23x19 => intro hr; exact absurd hr (by decide)
              case r23x20 => intro hr; exact absurd hr (by decide)
              case r23x21 => intro hr; exact absurd hr (by decide)
              case r23x22 => intro hr; exact absurd hr (by decide)
              case r23x23 => intro hr; exact absurd hr (by decide)
              all_goals intro _ aq wx Kq hf hS hdep ev1 ev2 hK
              case' r23x0 =>
                have F4 : aq.eval (.tmp 4) = .pointer (some ⟨wl.heap.size, 0, none⟩) := hf 4
              case' r23x1 =>
                have D0 : aq.eval (.tmp 12) = _ := hdep 0
                have c0 := hS.cells (⟨wl.heap.size, 0, none⟩, .string nm) (by simp)
              case' r23x2 =>
                have D1 : aq.eval (.tmp 13) = _ := hdep 1
              case' r23x3 =>
                have D2 : aq.eval (.tmp 14) = _ := hdep 2
              case' r23x4 =>
                have D3 : aq.eval (.tmp 15) = _ := hdep 3
              case' r23x5 =>
                have F4 : aq.eval (.tmp 4) = .pointer (some ⟨wl.heap.size, 0, none⟩) := hf 4
              case' r23x6 =>
                have D5 : aq.eval (.tmp 17) = _ := hdep 5
                have c0 := hS.cells (⟨wl.heap.size, 1, none⟩, .int .i64 x) (by simp)
                have c1 := hS.cells (⟨wl.heap.size, 2, none⟩, .int .i64 y) (by simp)
                have c2 := hS.cells (⟨wl.heap.size, 3, none⟩, .int .i64 z) (by simp)
              case' r23x7 =>
                have D6 : aq.eval (.tmp 18) = _ := hdep 6
              case' r23x8 =>
                have D7 : aq.eval (.tmp 19) = _ := hdep 7
              case' r23x9 =>
                have D4 : aq.eval (.tmp 16) = _ := hdep 4
                have D8 : aq.eval (.tmp 20) = _ := hdep 8
              case' r23x10 =>
                have D9 : aq.eval (.tmp 21) = _ := hdep 9
              case' r23x24 =>
                have D10 : aq.eval (.tmp 22) = _ := hdep 10
                have D23 : aq.eval (.tmp 35) = _ := hdep 23
              all_goals (clear hf hdep; unfold Oper.wp; generalize Act.eval _ = ev at *; go_simp)
              case r23x2 =>
                refine ((lgName_a nm _ (by omega))).mono ?_
                rintro e w2 ⟨rfl, rfl⟩
                refine hK _ _ (hS.call (below_refl_self _)) ?_ (fun j u _ h => Kd.ok_below (below_refl_self _) h)
                rw [if_pos (by rfl)]
                show (_ : Value) = _
                first | rfl | (refine congrArg (Value.int .i64) ?_; first | rfl | exact int_in (by omega) | exact quo_in (by omega) (by omega) (by omega) | exact rem_in (by omega) (by omega) | omega | (simp [*]; done) | (simp; omega)) | (simp; done) | (simp [*]; done)
              case r23x7 =>
                refine ((coGood_a x y z _)).mono ?_
                rintro e w2 ⟨rfl, hb⟩
                refine hK _ _ (hS.call hb) ?_ (fun j u _ h => Kd.ok_below hb h)
                rw [if_pos (by rfl)]
                show (_ : Value) = _
                first | rfl | (refine congrArg (Value.int .i64) ?_; first | rfl | exact int_in (by omega) | exact quo_in (by omega) (by omega) (by omega) | exact rem_in (by omega) (by omega) | omega | (simp [*]; done) | (simp; omega)) | (simp; done) | (simp [*]; done)
              all_goals (refine hK _ _ hS ?_ (fun j u _ h => h); rw [if_pos (by rfl)]; show (_ : Value) = _; (first | rfl | (refine congrArg (Value.int .i64) ?_; first | rfl | exact int_in (by omega) | exact quo_in (by omega) (by omega) (by omega) | exact rem_in (by omega) (by omega) | omega | (simp [*]; done) | (simp; omega)) | (simp; done) | (simp [*]; done) | (simp; omega)))
            · intro aq wx hd hw hf hS hg
              have G36 : tau aq 36 = .bool true := hg 24 (by decide)
              have haq : aq = ⟨#[tau aq 0, tau aq 1, tau aq 2, tau aq 3, tau aq 4, tau aq 5, tau aq 6, tau aq 7, tau aq 8, tau aq 9, tau aq 10, tau aq 11, tau aq 12, tau aq 13, tau aq 14, tau aq 15, tau aq 16, tau aq 17, tau aq 18, tau aq 19, tau aq 20, tau aq 21, tau aq 22, tau aq 23, tau aq 24, tau aq 25, tau aq 26, tau aq 27, tau aq 28, tau aq 29, tau aq 30, tau aq 31, tau aq 32, tau aq 33, tau aq 34, tau aq 35, tau aq 36, tau aq 37, tau aq 38, tau aq 39, tau aq 40], []⟩ := by
                obtain ⟨tq, dq⟩ := aq
                have h5 := arr_eq (show tq.size = 41 from hw)
                have h6 : dq = [] := hd
                subst h6
                exact congrArg (fun z => Act.mk z []) h5
              show K2 aq wx
              rw [haq, hf 0, hf 1, hf 2, hf 3, hf 4, hf 5, hf 6, hf 7, hf 8, hf 9, hf 10, hf 11, hf 37, hf 38, hf 39, hf 40, G36]
              clear haq hf hd hw
              try dsimp only
              refine h3 _ _ ?_
              go_meet
              exact ⟨rfl, hS.cells (⟨wl.heap.size, 0, none⟩, .string nm) (by simp), hS.cells (⟨wl.heap.size, 1, none⟩, .int .i64 x) (by simp), hS.cells (⟨wl.heap.size, 2, none⟩, .int .i64 y) (by simp), hS.cells (⟨wl.heap.size, 3, none⟩, .int .i64 z) (by simp), hS.below⟩
          try clear c00
          try clear c01
          try clear c02
          try clear c03
          obtain ⟨rfl, c00, c01, c02, c03, hb0⟩ := hcut
          have z0 := World.block_lt_of_cell? _ _ c00
          change wl.heap.size < wc.heap.size at z0
          go_wp2
          go_ret
          exact ⟨by rw [unhide HF]; rfl, hb0⟩
        · by_cases k3 : jx = 0
          · have HT : Hid (ctG E (jx + 1) = true) := hide (ct_next (unhide hg) (by rw [unhide HGO, k1, k2]; simp [k3]))
            have hj0 : ¬ 0 < (jx : Int) := by omega
            clear hcs k3
            go_upto_region 4 with fail
            go_cut [36] (fun s36 wx => s36 = .bool false ∧ wx.cell? ⟨wl.heap.size, 0, none⟩ = some (.string nm) ∧ wx.cell? ⟨wl.heap.size, 1, none⟩ = some (.int .i64 x) ∧ wx.cell? ⟨wl.heap.size, 2, none⟩ = some (.int .i64 y) ∧ wx.cell? ⟨wl.heap.size, 3, none⟩ = some (.int .i64 z) ∧ Below w.heap.size w wx)
            case first =>
              have h1 := trivial
              rename_i K2 h2 h3
              refine region_n (by kernel_rfl) (fun j => #[12,13,14,15,16,17,18,19,20,21,22,23,24,25,26,27,28,29,30,31,32,33,34,35,36].getD j 0) (fun j => Kd.ok ((fun j => match j with | 0 => Kd.val (.pointer (some ⟨wl.heap.size, 0, none⟩)) | 1 => Kd.val (.string nm) | 2 => Kd.val (.bool true) | 3 => Kd.val (.bool false) | 4 => Kd.val (.bool false) | 5 => Kd.val (.pointer (some ⟨wl.heap.size, 1, none⟩)) | 6 => Kd.val (.agg #[.int .i64 x, .int .i64 y, .int .i64 z]) | 7 => Kd.val (.bool true) | 8 => Kd.val (.bool false) | 9 => Kd.val (.bool false) | 10 => Kd.val (.bool false) | 11 => Kd.val (.int .i64 ((jx : Int))) | 12 => Kd.val (.bool false) | 13 => Kd.val (.bool false) | 14 => Kd.val undef | 15 => Kd.val undef | 16 => Kd.val undef | 17 => Kd.val undef | 18 => Kd.val undef | 19 => Kd.val undef | 20 => Kd.val undef | 21 => Kd.val undef | 22 => Kd.val undef | 23 => Kd.val (.bool false) | 24 => Kd.val (.bool false) | _ => Kd.any : Nat → Kd) j)) (Sy w (wl.heap.size + 1) [(⟨wl.heap.size, 0, none⟩, .string nm), (⟨wl.heap.size, 1, none⟩, .int .i64 x), (⟨wl.heap.size, 2, none⟩, .int .i64 y), (⟨wl.heap.size, 3, none⟩, .int .i64 z)] []) (fun j => #[true, true, true, true, true, true, true, true, true, true, true, true, true, true, false, false, false, false, false, false, false, false, false, true, true].getD j true) (by kernel_rfl) ?_ ?_ ?_ ?_ ?_ ?_
              · intro j hj
                have hj2 : j < 25 := hj
                have : ∀ j, j < 25 → (#[12,13,14,15,16,17,18,19,20,21,22,23,24,25,26,27,28,29,30,31,32,33,34,35,36] : Array Nat).getD j 0 < 41 := by decide
                exact this j hj2
              · intro i o ho
                match i, ho with
                | 0, ho => cases ho; intro aq wq hd; exact wanted_free rfl
                | 1, ho => cases ho; intro aq wq hd; exact wanted_free rfl
                | 2, ho => cases ho; intro aq wq hd; exact wanted_free rfl
                | 3, ho => cases ho; intro aq wq hd; exact wanted_free rfl
                | 4, ho => cases ho; intro aq wq hd; exact wanted_free rfl
                | 5, ho => cases ho; intro aq wq hd; exact wanted_of (j := 4) (t := 16) (want := false) (b := false) rfl rfl (hd 4 (by decide +kernel))
                | 6, ho => cases ho; intro aq wq hd; exact wanted_of (j := 4) (t := 16) (want := false) (b := false) rfl rfl (hd 4 (by decide +kernel))
                | 7, ho => cases ho; intro aq wq hd; exact wanted_of (j := 4) (t := 16) (want := false) (b := false) rfl rfl (hd 4 (by decide +kernel))
                | 8, ho => cases ho; intro aq wq hd; exact wanted_of (j := 4) (t := 16) (want := false) (b := false) rfl rfl (hd 4 (by decide +kernel))
                | 9, ho => cases ho; intro aq wq hd; exact wanted_free rfl
                | 10, ho => cases ho; intro aq wq hd; exact wanted_free rfl
                | 11, ho => cases ho; intro aq wq hd; exact wanted_of (j := 10) (t := 22) (want := false) (b := false) rfl rfl (hd 10 (by decide +kernel))
                | 12, ho => cases ho; intro aq wq hd; exact wanted_of (j := 10) (t := 22) (want := false) (b := false) rfl rfl (hd 10 (by decide +kernel))
                | 13, ho => cases ho; intro aq wq hd; exact wanted_of (j := 10) (t := 22) (want := false) (b := false) rfl rfl (hd 10 (by decide +kernel))
                | 14, ho => cases ho; intro aq wq hd; exact wanted_of (j := 13) (t := 25) (want := true) (b := false) rfl rfl (hd 13 (by decide +kernel))
                | 15, ho => cases ho; intro aq wq hd; exact wanted_of (j := 13) (t := 25) (want := true) (b := false) rfl rfl (hd 13 (by decide +kernel))
                | 16, ho => cases ho; intro aq wq hd; exact wanted_of (j := 13) (t := 25) (want := true) (b := false) rfl rfl (hd 13 (by decide +kernel))
                | 17, ho => cases ho; intro aq wq hd; exact wanted_of (j := 13) (t := 25) (want := true) (b := false) rfl rfl (hd 13 (by decide +kernel))
                | 18, ho => cases ho; intro aq wq hd; exact wanted_of (j := 13) (t := 25) (want := true) (b := false) rfl rfl (hd 13 (by decide +kernel))
                | 19, ho => cases ho; intro aq wq hd; exact wanted_of (j := 13) (t := 25) (want := true) (b := false) rfl rfl (hd 13 (by decide +kernel))
                | 20, ho => cases ho; intro aq wq hd; exact wanted_of (j := 13) (t := 25) (want := true) (b := false) rfl rfl (hd 13 (by decide +kernel))
                | 21, ho => cases ho; intro aq wq hd; exact wanted_of (j := 13) (t := 25) (want := true) (b := false) rfl rfl (hd 13 (by decide +kernel))
                | 22, ho => cases ho; intro aq wq hd; exact wanted_of (j := 13) (t := 25) (want := true) (b := false) rfl rfl (hd 13 (by decide +kernel))
                | 23, ho => cases ho; intro aq wq hd; exact wanted_of (j := 10) (t := 22) (want := false) (b := false) rfl rfl (hd 10 (by decide +kernel))
                | 24, ho => cases ho; intro aq wq hd; exact wanted_free rfl
                | i + 25, ho => exact absurd ho (by simp)
              · intro i o ho hr
                match i, ho with
                | 0, ho => exact absurd hr (by decide)
                | 1, ho => exact absurd hr (by decide)
                | 2, ho => exact absurd hr (by decide)
                | 3, ho => exact absurd hr (by decide)
                | 4, ho => exact absurd hr (by decide)
                | 5, ho => exact absurd hr (by decide)
                | 6, ho => exact absurd hr (by decide)
                | 7, ho => exact absurd hr (by decide)
                | 8, ho => exact absurd hr (by decide)
                | 9, ho => exact absurd hr (by decide)
                | 10, ho => exact absurd hr (by decide)
                | 11, ho => exact absurd hr (by decide)
                | 12, ho => exact absurd hr (by decide)
                | 13, ho => exact absurd hr (by decide)
                | 14, ho => cases ho; exact ⟨rfl, fun _ _ => rfl⟩
                | 15, ho => cases ho; exact ⟨rfl, fun _ _ => rfl⟩
                | 16, ho => cases ho; exact ⟨rfl, fun _ _ => rfl⟩
                | 17, ho => cases ho; exact ⟨rfl, fun _ _ => rfl⟩
                | 18, ho => cases ho; exact ⟨rfl, fun _ _ => rfl⟩
                | 19, ho => cases ho; exact ⟨rfl, fun _ _ => rfl⟩
                | 20, ho => cases ho; exact ⟨rfl, fun _ _ => rfl⟩
                | 21, ho => cases ho; exact ⟨rfl, fun _ _ => rfl⟩
                | 22, ho => cases ho; exact ⟨rfl, fun _ _ => rfl⟩
                | 23, ho => exact absurd hr (by decide)
                | 24, ho => exact absurd hr (by decide)
                | i + 25, ho => exact absurd ho (by simp)
              · refine Sy.drew (Sy.mk_of ?_ ?_ ?_ ?_)
                · first | rfl | (simp; done) | (simp; omega)
                · intro c hc
                  simp only [List.mem_cons, List.not_mem_nil, or_false] at hc
                  rcases hc with rfl | rfl | rfl | rfl <;> exact byCT
                · intro p hp; cases hp
                · (repeat' first | with_reducible (first | exact Below.refl _ _ | assumption | refine gr_alloc ?_ _ | refine below_drewN ?_ _ | refine below_drew ?_ | refine gr_call ?_ (by assumption) | refine Below.setCell ?_ ?_ _) | go_size | omega | (simp; omega))
              · clear h1 h2 h3
                refine ⟨?r24x0, ?r24x1, ?r24x2, ?r24x3, ?r24x4, ?r24x5, ?r24x6, ?r24x7, ?r24x8, ?r24x9, ?r24x10, ?r24x11, ?r24x12, ?r24x13, ?r24x14, ?r24x15, ?r24x16, ?r24x17, ?r24x18, ?r24x19, ?r24x20, ?r24x21, ?r24x22, ?r24x23, ?r24x24, trivial⟩
                case r24x14 => intro hr; exact absurd hr (by decide)
                case r24x15 => intro hr; exact absurd hr (by decide)
                case r24x16 => intro hr; exact absurd hr (by decide)
                case r24x17 => intro hr; exact absurd hr (by decide)
                case r24x18 => intro hr; exact absurd hr (by decide)
                case r24x19 => intro hr; exact absurd hr (by decide)
                case r24x20 => intro hr; exact absurd hr (by decide)
                case r24x21 => intro hr; exact absurd hr (by decide)
                case r24x22 => intro hr; exact absurd hr (by decide)
                all_goals intro _ aq wx Kq hf hS hdep ev1 ev2 hK
                case' r24x0 =>
                  have F4 : aq.eval (.tmp 4) = .pointer (some ⟨wl.heap.size, 0, none⟩) := hf 4
                case' r24x1 =>
                  have D0 : aq.eval (.tmp 12) = _ := hdep 0
                  have c0 := hS.cells (⟨wl.heap.size, 0, none⟩, .string nm) (by simp)
                case' r24x2 =>
                  have D1 : aq.eval (.tmp 13) = _ := hdep 1
                case' r24x3 =>
                  have D2 : aq.eval (.tmp 14) = _ := hdep 2
                case' r24x4 =>
                  have D3 : aq.eval (.tmp 15) = _ := hdep 3
                case' r24x5 =>
                  have F4 : aq.eval (.tmp 4) = .pointer (some ⟨wl.heap.size, 0, none⟩) := hf 4
                case' r24x6 =>
                  have D5 : aq.eval (.tmp 17) = _ := hdep 5
                  have c0 := hS.cells (⟨wl.heap.size, 1, none⟩, .int .i64 x) (by simp)
                  have c1 := hS.cells (⟨wl.heap.size, 2, none⟩, .int .i64 y) (by simp)
                  have c2 := hS.cells (⟨wl.heap.size, 3, none⟩, .int .i64 z) (by simp)
                case' r24x7 =>
                  have D6 : aq.eval (.tmp 18) = _ := hdep 6
                case' r24x8 =>
                  have D7 : aq.eval (.tmp 19) = _ := hdep 7
                case' r24x9 =>
                  have D4 : aq.eval (.tmp 16) = _ := hdep 4
                  have D8 : aq.eval (.tmp 20) = _ := hdep 8
                case' r24x10 =>
                  have D9 : aq.eval (.tmp 21) = _ := hdep 9
                case' r24x11 =>
                  have F3 : aq.eval (.tmp 3) = .int .i64 ((jx : Int)) := hf 3
                case' r24x12 =>
                  have D11 : aq.eval (.tmp 23) = _ := hdep 11
                case' r24x13 =>
                  have D12 : aq.eval (.tmp 24) = _ := hdep 12
                case' r24x23 =>
                  have D13 : aq.eval (.tmp 25) = _ := hdep 13
                  have D22 : aq.eval (.tmp 34) = _ := hdep 22
                case' r24x24 =>
                  have D10 : aq.eval (.tmp 22) = _ := hdep 10
                  have D23 : aq.eval (.tmp 35) = _ := hdep 23
                all_goals (clear hf hdep; unfold Oper.wp; generalize Act.eval _ = ev at *; go_simp)
                case r24x2 =>
                  refine ((lgName_a nm _ (by omega))).mono ?_
                  rintro e w2 ⟨rfl, rfl⟩
                  refine hK _ _ (hS.call (below_refl_self _)) ?_ (fun j u _ h => Kd.ok_below (below_refl_self _) h)
                  rw [if_pos (by rfl)]
                  show (_ : Value) = _
                  first | rfl | (refine congrArg (Value.int .i64) ?_; first | rfl | exact int_in (by omega) | exact quo_in (by omega) (by omega) (by omega) | exact rem_in (by omega) (by omega) | omega | (simp [*]; done) | (simp; omega)) | (simp; done) | (simp [*]; done)
                case r24x7 =>
                  refine ((coGood_a x y z _)).mono ?_
                  rintro e w2 ⟨rfl, hb⟩
                  refine hK _ _ (hS.call hb) ?_ (fun j u _ h => Kd.ok_below hb h)
                  rw [if_pos (by rfl)]
                  show (_ : Value) = _
                  first | rfl | (refine congrArg (Value.int .i64) ?_; first | rfl | exact int_in (by omega) | exact quo_in (by omega) (by omega) (by omega) | exact rem_in (by omega) (by omega) | omega | (simp [*]; done) | (simp; omega)) | (simp; done) | (simp [*]; done)
                all_goals (refine hK _ _ hS ?_ (fun j u _ h => h); rw [if_pos (by rfl)]; show (_ : Value) = _; (first | rfl | (refine congrArg (Value.int .i64) ?_; first | rfl | exact int_in (by omega) | exact quo_in (by omega) (by omega) (by omega) | exact rem_in (by omega) (by omega) | omega | (simp [*]; done) | (simp; omega)) | (simp; done) | (simp [*]; done) | (simp; omega)))
              · intro aq wx hd hw hf hS hg
                have G36 : tau aq 36 = .bool false := hg 24 (by decide)
                have haq : aq = ⟨#[tau aq 0, tau aq 1, tau aq 2, tau aq 3, tau aq 4, tau aq 5, tau aq 6, tau aq 7, tau aq 8, tau aq 9, tau aq 10, tau aq 11, tau aq 12, tau aq 13, tau aq 14, tau aq 15, tau aq 16, tau aq 17, tau aq 18, tau aq 19, tau aq 20, tau aq 21, tau aq 22, tau aq 23, tau aq 24, tau aq 25, tau aq 26, tau aq 27, tau aq 28, tau aq 29, tau aq 30, tau aq 31, tau aq 32, tau aq 33, tau aq 34, tau aq 35, tau aq 36, tau aq 37, tau aq 38, tau aq 39, tau aq 40], []⟩ := by
                  obtain ⟨tq, dq⟩ := aq
                  have h5 := arr_eq (show tq.size = 41 from hw)
                  have h6 : dq = [] := hd
                  subst h6
                  exact congrArg (fun z => Act.mk z []) h5
                show K2 aq wx
                rw [haq, hf 0, hf 1, hf 2, hf 3, hf 4, hf 5, hf 6, hf 7, hf 8, hf 9, hf 10, hf 11, hf 37, hf 38, hf 39, hf 40, G36]
                clear haq hf hd hw
                try dsimp only
                refine h3 _ _ ?_
                go_meet
                exact ⟨rfl, hS.cells (⟨wl.heap.size, 0, none⟩, .string nm) (by simp), hS.cells (⟨wl.heap.size, 1, none⟩, .int .i64 x) (by simp), hS.cells (⟨wl.heap.size, 2, none⟩, .int .i64 y) (by simp), hS.cells (⟨wl.heap.size, 3, none⟩, .int .i64 z) (by simp), hS.below⟩
            try clear c00
            try clear c01
            try clear c02
            try clear c03
            obtain ⟨rfl, c00, c01, c02, c03, hb0⟩ := hcut
            have z0 := World.block_lt_of_cell? _ _ c00
            change wl.heap.size < wc.heap.size at z0
            go_wp2
            go_roundw
            case rel => exact ⟨jx + 1, by omega, by first | rfl | go_num, HT, hb0⟩
            case measure => simp [intOf]; omega
          · obtain ⟨i, rfl⟩ : ∃ i, jx = i + 1 := ⟨jx - 1, by omega⟩
            have d0 := (hcs i (by omega)).1
            obtain ⟨pn, hpn⟩ : ∃ s, (E i).n = s := ⟨_, rfl⟩
            rw [hpn] at d0
            have HL : Hid (goE E (i + 1) = lessB pn nm) := hide (by rw [unhide HGO, k1, k2]; show (true && (true && (decide (i + 1 = 0) || lessB (E (i + 1 - 1)).n nm))) = _; rw [Nat.add_sub_cancel, hpn]; simp)
            have hci2 : (i : Int) + 1 < (n : Int) := by omega
            clear hcs hpn k3
            cases k4 : lessB pn nm
            · have HF : Hid (ctB E n = false) := hide (ct_no (by rw [unhide HL]; exact k4) n q)
              have k5 : Go.Op.bytesLess pn.toList nm.toList = false := k4
              go_upto_region 4 with fail
              go_cut [36] (fun s36 wx => s36 = .bool true ∧ wx.cell? ⟨wl.heap.size, 0, none⟩ = some (.string nm) ∧ wx.cell? ⟨wl.heap.size, 1, none⟩ = some (.int .i64 x) ∧ wx.cell? ⟨wl.heap.size, 2, none⟩ = some (.int .i64 y) ∧ wx.cell? ⟨wl.heap.size, 3, none⟩ = some (.int .i64 z) ∧ wx.cell? ⟨b, off + i * 4, none⟩ = some (.string pn) ∧ Below w.heap.size w wx)
              case first =>
                have h1 := trivial
                rename_i K2 h2 h3
                refine region_n (by kernel_rfl) (fun j => #[12,13,14,15,16,17,18,19,20,21,22,23,24,25,26,27,28,29,30,31,32,33,34,35,36].getD j 0) (fun j => Kd.ok ((fun j => match j with | 0 => Kd.val (.pointer (some ⟨wl.heap.size, 0, none⟩)) | 1 => Kd.val (.string nm) | 2 => Kd.val (.bool true) | 3 => Kd.val (.bool false) | 4 => Kd.val (.bool false) | 5 => Kd.val (.pointer (some ⟨wl.heap.size, 1, none⟩)) | 6 => Kd.val (.agg #[.int .i64 x, .int .i64 y, .int .i64 z]) | 7 => Kd.val (.bool true) | 8 => Kd.val (.bool false) | 9 => Kd.val (.bool false) | 10 => Kd.val (.bool false) | 11 => Kd.val (.int .i64 (((i : Int) + 1))) | 12 => Kd.val (.bool true) | 13 => Kd.val (.bool true) | 14 => Kd.val (.slice (some ⟨b, off, none⟩) n c) | 15 => Kd.val (.int .i64 (((i : Int) + 1))) | 16 => Kd.val (.int .i64 ((i : Int))) | 17 => Kd.val (.pointer (some ⟨b, off + i * 4, none⟩)) | 18 => Kd.val (.pointer (some ⟨b, off + i * 4, none⟩)) | 19 => Kd.val (.string pn) | 20 => Kd.val (.pointer (some ⟨wl.heap.size, 0, none⟩)) | 21 => Kd.val (.string nm) | 22 => Kd.val (.bool true) | 23 => Kd.val (.bool true) | 24 => Kd.val (.bool true) | _ => Kd.any : Nat → Kd) j)) (Sy w (wl.heap.size + 1) [(⟨wl.heap.size, 0, none⟩, .string nm), (⟨wl.heap.size, 1, none⟩, .int .i64 x), (⟨wl.heap.size, 2, none⟩, .int .i64 y), (⟨wl.heap.size, 3, none⟩, .int .i64 z), (⟨b, off + i * 4, none⟩, .string pn)] []) (fun j => #[true, true, true, true, true, true, true, true, true, true, true, true, true, true, true, true, true, true, true, true, true, true, true, true, true].getD j true) (by kernel_rfl) ?_ ?_ ?_ ?_ ?_ ?_
                · intro j hj
                  have hj2 : j < 25 := hj
                  have : ∀ j, j < 25 → (#[12,13,14,15,16,17,18,19,20,21,22,23,24,25,26,27,28,29,30,31,32,33,34,35,36] : Array Nat).getD j 0 < 41 := by decide
                  exact this j hj2
                · intro i o ho
                  match i, ho with
                  | 0, ho => cases ho; intro aq wq hd; exact wanted_free rfl
                  | 1, ho => cases ho; intro aq wq hd; exact wanted_free rfl
                  | 2, ho => cases ho; intro aq wq hd; exact wanted_free rfl
                  | 3, ho => cases ho; intro aq wq hd; exact wanted_free rfl
                  | 4, ho => cases ho; intro aq wq hd; exact wanted_free rfl
                  | 5, ho => cases ho; intro aq wq hd; exact wanted_of (j := 4) (t := 16) (want := false) (b := false) rfl rfl (hd 4 (by decide +kernel))
                  | 6, ho => cases ho; intro aq wq hd; exact wanted_of (j := 4) (t := 16) (want := false) (b := false) rfl rfl (hd 4 (by decide +kernel))
                  | 7, ho => cases ho; intro aq wq hd; exact wanted_of (j := 4) (t := 16) (want := false) (b := false) rfl rfl (hd 4 (by decide +kernel))
                  | 8, ho => cases ho; intro aq wq hd; exact wanted_of (j := 4) (t := 16) (want := false) (b := false) rfl rfl (hd 4 (by decide +kernel))
                  | 9, ho => cases ho; intro aq wq hd; exact wanted_free rfl
                  | 10, ho => cases ho; intro aq wq hd; exact wanted_free rfl
                  | 11, ho => cases ho; intro aq wq hd; exact wanted_of (j := 10) (t := 22) (want := false) (b := false) rfl rfl (hd 10 (by decide +kernel))
                  | 12, ho => cases ho; intro aq wq hd; exact wanted_of (j := 10) (t := 22) (want := false) (b := false) rfl rfl (hd 10 (by decide +kernel))
                  | 13, ho => cases ho; intro aq wq hd; exact wanted_of (j := 10) (t := 22) (want := false) (b := false) rfl rfl (hd 10 (by decide +kernel))
                  | 14, ho => cases ho; intro aq wq hd; exact wanted_of (j := 13) (t := 25) (want := true) (b := true) rfl rfl (hd 13 (by decide +kernel))
                  | 15, ho => cases ho; intro aq wq hd; exact wanted_of (j := 13) (t := 25) (want := true) (b := true) rfl rfl (hd 13 (by decide +kernel))
                  | 16, ho => cases ho; intro aq wq hd; exact wanted_of (j := 13) (t := 25) (want := true) (b := true) rfl rfl (hd 13 (by decide +kernel))
                  | 17, ho => cases ho; intro aq wq hd; exact wanted_of (j := 13) (t := 25) (want := true) (b := true) rfl rfl (hd 13 (by decide +kernel))
                  | 18, ho => cases ho; intro aq wq hd; exact wanted_of (j := 13) (t := 25) (want := true) (b := true) rfl rfl (hd 13 (by decide +kernel))
                  | 19, ho => cases ho; intro aq wq hd; exact wanted_of (j := 13) (t := 25) (want := true) (b := true) rfl rfl (hd 13 (by decide +kernel))
                  | 20, ho => cases ho; intro aq wq hd; exact wanted_of (j := 13) (t := 25) (want := true) (b := true) rfl rfl (hd 13 (by decide +kernel))
                  | 21, ho => cases ho; intro aq wq hd; exact wanted_of (j := 13) (t := 25) (want := true) (b := true) rfl rfl (hd 13 (by decide +kernel))
                  | 22, ho => cases ho; intro aq wq hd; exact wanted_of (j := 13) (t := 25) (want := true) (b := true) rfl rfl (hd 13 (by decide +kernel))
                  | 23, ho => cases ho; intro aq wq hd; exact wanted_of (j := 10) (t := 22) (want := false) (b := false) rfl rfl (hd 10 (by decide +kernel))
                  | 24, ho => cases ho; intro aq wq hd; exact wanted_free rfl
                  | i + 25, ho => exact absurd ho (by simp)
                · intro i o ho hr
                  match i, ho with
                  | 0, ho => exact absurd hr (by decide)
                  | 1, ho => exact absurd hr (by decide)
                  | 2, ho => exact absurd hr (by decide)
                  | 3, ho => exact absurd hr (by decide)
                  | 4, ho => exact absurd hr (by decide)
                  | 5, ho => exact absurd hr (by decide)
                  | 6, ho => exact absurd hr (by decide)
                  | 7, ho => exact absurd hr (by decide)
                  | 8, ho => exact absurd hr (by decide)
                  | 9, ho => exact absurd hr (by decide)
                  | 10, ho => exact absurd hr (by decide)
                  | 11, ho => exact absurd hr (by decide)
                  | 12, ho => exact absurd hr (by decide)
                  | 13, ho => exact absurd hr (by decide)
                  | 14, ho => exact absurd hr (by decide)
                  | 15, ho => exact absurd hr (by decide)
                  | 16, ho => exact absurd hr (by decide)
                  | 17, ho => exact absurd hr (by decide)
                  | 18, ho => exact absurd hr (by decide)
                  | 19, ho => exact absurd hr (by decide)
                  | 20, ho => exact absurd hr (by decide)
                  | 21, ho => exact absurd hr (by decide)
                  | 22, ho => exact absurd hr (by decide)
                  | 23, ho => exact absurd hr (by decide)
                  | 24, ho => exact absurd hr (by decide)
                  | i + 25, ho => exact absurd ho (by simp)
                · refine Sy.drew (Sy.mk_of ?_ ?_ ?_ ?_)
                  · first | rfl | (simp; done) | (simp; omega)
                  · intro c hc
                    simp only [List.mem_cons, List.not_mem_nil, or_false] at hc
                    rcases hc with rfl | rfl | rfl | rfl | rfl <;> exact byCT
                  · intro p hp; cases hp
                  · (repeat' first | with_reducible (first | exact Below.refl _ _ | assumption | refine gr_alloc ?_ _ | refine below_drewN ?_ _ | refine below_drew ?_ | refine gr_call ?_ (by assumption) | refine Below.setCell ?_ ?_ _) | go_size | omega | (simp; omega))
                · clear h1 h2 h3
                  refine ⟨?r25x0, ?r25x1, ?r25x2, ?r25x3, ?r25x4, ?r25x5, ?r25x6, ?r25x7, ?r25x8, ?r25x9, ?r25x10, ?r25x11, ?r25x12, ?r25x13, ?r25x14, ?r25x15, ?r25x16, ?r25x17, ?r25x18, ?r25x19, ?r25x20, ?r25x21, ?r25x22, ?r25x23, ?r25x24, trivial⟩
                  all_goals intro _ aq wx Kq hf hS hdep ev1 ev2 hK
                  case' r25x0 =>
                    have F4 : aq.eval (.tmp 4) = .pointer (some ⟨wl.heap.size, 0, none⟩) := hf 4
                  case' r25x1 =>
                    have D0 : aq.eval (.tmp 12) = _ := hdep 0
                    have c0 := hS.cells (⟨wl.heap.size, 0, none⟩, .string nm) (by simp)
                  case' r25x2 =>
                    have D1 : aq.eval (.tmp 13) = _ := hdep 1
                  case' r25x3 =>
                    have D2 : aq.eval (.tmp 14) = _ := hdep 2
                  case' r25x4 =>
                    have D3 : aq.eval (.tmp 15) = _ := hdep 3
                  case' r25x5 =>
                    have F4 : aq.eval (.tmp 4) = .pointer (some ⟨wl.heap.size, 0, none⟩) := hf 4
                  case' r25x6 =>
                    have D5 : aq.eval (.tmp 17) = _ := hdep 5
                    have c0 := hS.cells (⟨wl.heap.size, 1, none⟩, .int .i64 x) (by simp)
                    have c1 := hS.cells (⟨wl.heap.size, 2, none⟩, .int .i64 y) (by simp)
                    have c2 := hS.cells (⟨wl.heap.size, 3, none⟩, .int .i64 z) (by simp)
                  case' r25x7 =>
                    have D6 : aq.eval (.tmp 18) = _ := hdep 6
                  case' r25x8 =>
                    have D7 : aq.eval (.tmp 19) = _ := hdep 7
                  case' r25x9 =>
                    have D4 : aq.eval (.tmp 16) = _ := hdep 4
                    have D8 : aq.eval (.tmp 20) = _ := hdep 8
                  case' r25x10 =>
                    have D9 : aq.eval (.tmp 21) = _ := hdep 9
                  case' r25x11 =>
                    have F3 : aq.eval (.tmp 3) = .int .i64 (((i : Int) + 1)) := hf 3
                  case' r25x12 =>
                    have D11 : aq.eval (.tmp 23) = _ := hdep 11
                  case' r25x13 =>
                    have D12 : aq.eval (.tmp 24) = _ := hdep 12
                  case' r25x14 =>
                    have F0 : aq.eval (.tmp 0) = .slice (some ⟨b, off, none⟩) n c := hf 0
                  case' r25x15 =>
                    have F3 : aq.eval (.tmp 3) = .int .i64 (((i : Int) + 1)) := hf 3
                  case' r25x16 =>
                    have D15 : aq.eval (.tmp 27) = _ := hdep 15
                  case' r25x17 =>
                    have D14 : aq.eval (.tmp 26) = _ := hdep 14
                    have D16 : aq.eval (.tmp 28) = _ := hdep 16
                  case' r25x18 =>
                    have D17 : aq.eval (.tmp 29) = _ := hdep 17
                  case' r25x19 =>
                    have D18 : aq.eval (.tmp 30) = _ := hdep 18
                    have c0 := hS.cells (⟨b, off + i * 4, none⟩, .string pn) (by simp)
                  case' r25x20 =>
                    have F4 : aq.eval (.tmp 4) = .pointer (some ⟨wl.heap.size, 0, none⟩) := hf 4
                  case' r25x21 =>
                    have D20 : aq.eval (.tmp 32) = _ := hdep 20
                    have c0 := hS.cells (⟨wl.heap.size, 0, none⟩, .string nm) (by simp)
                  case' r25x22 =>
                    have D19 : aq.eval (.tmp 31) = _ := hdep 19
                    have D21 : aq.eval (.tmp 33) = _ := hdep 21
                  case' r25x23 =>
                    have D13 : aq.eval (.tmp 25) = _ := hdep 13
                    have D22 : aq.eval (.tmp 34) = _ := hdep 22
                  case' r25x24 =>
                    have D10 : aq.eval (.tmp 22) = _ := hdep 10
                    have D23 : aq.eval (.tmp 35) = _ := hdep 23
                  all_goals (clear hf hdep; unfold Oper.wp; generalize Act.eval _ = ev at *; go_simp)
                  case r25x2 =>
                    refine ((lgName_a nm _ (by omega))).mono ?_
                    rintro e w2 ⟨rfl, rfl⟩
                    refine hK _ _ (hS.call (below_refl_self _)) ?_ (fun j u _ h => Kd.ok_below (below_refl_self _) h)
                    rw [if_pos (by rfl)]
                    show (_ : Value) = _
                    first | rfl | (refine congrArg (Value.int .i64) ?_; first | rfl | exact int_in (by omega) | exact quo_in (by omega) (by omega) (by omega) | exact rem_in (by omega) (by omega) | omega | (simp [*]; done) | (simp; omega)) | (simp; done) | (simp [*]; done)
                  case r25x7 =>
                    refine ((coGood_a x y z _)).mono ?_
                    rintro e w2 ⟨rfl, hb⟩
                    refine hK _ _ (hS.call hb) ?_ (fun j u _ h => Kd.ok_below hb h)
                    rw [if_pos (by rfl)]
                    show (_ : Value) = _
                    first | rfl | (refine congrArg (Value.int .i64) ?_; first | rfl | exact int_in (by omega) | exact quo_in (by omega) (by omega) (by omega) | exact rem_in (by omega) (by omega) | omega | (simp [*]; done) | (simp; omega)) | (simp; done) | (simp [*]; done)
                  case' r25x17 =>
                    try rw [if_pos (by omega), Oper.upon_value]
                  all_goals (refine hK _ _ hS ?_ (fun j u _ h => h); rw [if_pos (by rfl)]; show (_ : Value) = _; (first | rfl | (refine congrArg (Value.int .i64) ?_; first | rfl | exact int_in (by omega) | exact quo_in (by omega) (by omega) (by omega) | exact rem_in (by omega) (by omega) | omega | (simp [*]; done) | (simp; omega)) | (simp; done) | (simp [*]; done) | (simp; omega)))
                · intro aq wx hd hw hf hS hg
                  have G36 : tau aq 36 = .bool true := hg 24 (by decide)
                  have haq : aq = ⟨#[tau aq 0, tau aq 1, tau aq 2, tau aq 3, tau aq 4, tau aq 5, tau aq 6, tau aq 7, tau aq 8, tau aq 9, tau aq 10, tau aq 11, tau aq 12, tau aq 13, tau aq 14, tau aq 15, tau aq 16, tau aq 17, tau aq 18, tau aq 19, tau aq 20, tau aq 21, tau aq 22, tau aq 23, tau aq 24, tau aq 25, tau aq 26, tau aq 27, tau aq 28, tau aq 29, tau aq 30, tau aq 31, tau aq 32, tau aq 33, tau aq 34, tau aq 35, tau aq 36, tau aq 37, tau aq 38, tau aq 39, tau aq 40], []⟩ := by
                    obtain ⟨tq, dq⟩ := aq
                    have h5 := arr_eq (show tq.size = 41 from hw)
                    have h6 : dq = [] := hd
                    subst h6
                    exact congrArg (fun z => Act.mk z []) h5
                  show K2 aq wx
                  rw [haq, hf 0, hf 1, hf 2, hf 3, hf 4, hf 5, hf 6, hf 7, hf 8, hf 9, hf 10, hf 11, hf 37, hf 38, hf 39, hf 40, G36]
                  clear haq hf hd hw
                  try dsimp only
                  refine h3 _ _ ?_
                  go_meet
                  exact ⟨rfl, hS.cells (⟨wl.heap.size, 0, none⟩, .string nm) (by simp), hS.cells (⟨wl.heap.size, 1, none⟩, .int .i64 x) (by simp), hS.cells (⟨wl.heap.size, 2, none⟩, .int .i64 y) (by simp), hS.cells (⟨wl.heap.size, 3, none⟩, .int .i64 z) (by simp), hS.cells (⟨b, off + i * 4, none⟩, .string pn) (by simp), hS.below⟩
              try clear c00
              try clear c01
              try clear c02
              try clear c03
              try clear c10
              obtain ⟨rfl, c00, c01, c02, c03, c10, hb0⟩ := hcut
              have z0 := World.block_lt_of_cell? _ _ c00
              have z1 := World.block_lt_of_cell? _ _ c10
              change wl.heap.size < wc.heap.size at z0
              change b < wc.heap.size at z1
              go_wp2
              go_ret
              exact ⟨by rw [unhide HF]; rfl, hb0⟩
            · have HT : Hid (ctG E (i + 1 + 1) = true) := hide (ct_next (unhide hg) (by rw [unhide HL]; exact k4))
              have k5 : Go.Op.bytesLess pn.toList nm.toList = true := k4
              go_upto_region 4 with fail
              go_cut [36] (fun s36 wx => s36 = .bool false ∧ wx.cell? ⟨wl.heap.size, 0, none⟩ = some (.string nm) ∧ wx.cell? ⟨wl.heap.size, 1, none⟩ = some (.int .i64 x) ∧ wx.cell? ⟨wl.heap.size, 2, none⟩ = some (.int .i64 y) ∧ wx.cell? ⟨wl.heap.size, 3, none⟩ = some (.int .i64 z) ∧ wx.cell? ⟨b, off + i * 4, none⟩ = some (.string pn) ∧ Below w.heap.size w wx)
              case first =>
                have h1 := trivial
                rename_i K2 h2 h3
                refine region_n (by kernel_rfl) (fun j => #[12,13,14,15,16,17,18,19,20,21,22,23,24,25,26,27,28,29,30,31,32,33,34,35,36].getD j 0) (fun j => Kd.ok ((fun j => match j with | 0 => Kd.val (.pointer (some ⟨wl.heap.size, 0, none⟩)) | 1 => Kd.val (.string nm) | 2 => Kd.val (.bool true) | 3 => Kd.val (.bool false) | 4 => Kd.val (.bool false) | 5 => Kd.val (.pointer (some ⟨wl.heap.size, 1, none⟩)) | 6 => Kd.val (.agg #[.int .i64 x, .int .i64 y, .int .i64 z]) | 7 => Kd.val (.bool true) | 8 => Kd.val (.bool false) | 9 => Kd.val (.bool false) | 10 => Kd.val (.bool false) | 11 => Kd.val (.int .i64 (((i : Int) + 1))) | 12 => Kd.val (.bool true) | 13 => Kd.val (.bool true) | 14 => Kd.val (.slice (some ⟨b, off, none⟩) n c) | 15 => Kd.val (.int .i64 (((i : Int) + 1))) | 16 => Kd.val (.int .i64 ((i : Int))) | 17 => Kd.val (.pointer (some ⟨b, off + i * 4, none⟩)) | 18 => Kd.val (.pointer (some ⟨b, off + i * 4, none⟩)) | 19 => Kd.val (.string pn) | 20 => Kd.val (.pointer (some ⟨wl.heap.size, 0, none⟩)) | 21 => Kd.val (.string nm) | 22 => Kd.val (.bool false) | 23 => Kd.val (.bool false) | 24 => Kd.val (.bool false) | _ => Kd.any : Nat → Kd) j)) (Sy w (wl.heap.size + 1) [(⟨wl.heap.size, 0, none⟩, .string nm), (⟨wl.heap.size, 1, none⟩, .int .i64 x), (⟨wl.heap.size, 2, none⟩, .int .i64 y), (⟨wl.heap.size, 3, none⟩, .int .i64 z), (⟨b, off + i * 4, none⟩, .string pn)] []) (fun j => #[true, true, true, true, true, true, true, true, true, true, true, true, true, true, true, true, true, true, true, true, true, true, true, true, true].getD j true) (by kernel_rfl) ?_ ?_ ?_ ?_ ?_ ?_
                · intro j hj
                  have hj2 : j < 25 := hj
                  have : ∀ j, j < 25 → (#[12,13,14,15,16,17,18,19,20,21,22,23,24,25,26,27,28,29,30,31,32,33,34,35,36] : Array Nat).getD j 0 < 41 := by decide
                  exact this j hj2
                · intro i o ho
                  match i, ho with
                  | 0, ho => cases ho; intro aq wq hd; exact wanted_free rfl
                  | 1, ho => cases ho; intro aq wq hd; exact wanted_free rfl
                  | 2, ho => cases ho; intro aq wq hd; exact wanted_free rfl
                  | 3, ho => cases ho; intro aq wq hd; exact wanted_free rfl
                  | 4, ho => cases ho; intro aq wq hd; exact wanted_free rfl
                  | 5, ho => cases ho; intro aq wq hd; exact wanted_of (j := 4) (t := 16) (want := false) (b := false) rfl rfl (hd 4 (by decide +kernel))
                  | 6, ho => cases ho; intro aq wq hd; exact wanted_of (j := 4) (t := 16) (want := false) (b := false) rfl rfl (hd 4 (by decide +kernel))
                  | 7, ho => cases ho; intro aq wq hd; exact wanted_of (j := 4) (t := 16) (want := false) (b := false) rfl rfl (hd 4 (by decide +kernel))
                  | 8, ho => cases ho; intro aq wq hd; exact wanted_of (j := 4) (t := 16) (want := false) (b := false) rfl rfl (hd 4 (by decide +kernel))
                  | 9, ho => cases ho; intro aq wq hd; exact wanted_free rfl
                  | 10, ho => cases ho; intro aq wq hd; exact wanted_free rfl
                  | 11, ho => cases ho; intro aq wq hd; exact wanted_of (j := 10) (t := 22) (want := false) (b := false) rfl rfl (hd 10 (by decide +kernel))
                  | 12, ho => cases ho; intro aq wq hd; exact wanted_of (j := 10) (t := 22) (want := false) (b := false) rfl rfl (hd 10 (by decide +kernel))
                  | 13, ho => cases ho; intro aq wq hd; exact wanted_of (j := 10) (t := 22) (want := false) (b := false) rfl rfl (hd 10 (by decide +kernel))
                  | 14, ho => cases ho; intro aq wq hd; exact wanted_of (j := 13) (t := 25) (want := true) (b := true) rfl rfl (hd 13 (by decide +kernel))
                  | 15, ho => cases ho; intro aq wq hd; exact wanted_of (j := 13) (t := 25) (want := true) (b := true) rfl rfl (hd 13 (by decide +kernel))
                  | 16, ho => cases ho; intro aq wq hd; exact wanted_of (j := 13) (t := 25) (want := true) (b := true) rfl rfl (hd 13 (by decide +kernel))
                  | 17, ho => cases ho; intro aq wq hd; exact wanted_of (j := 13) (t := 25) (want := true) (b := true) rfl rfl (hd 13 (by decide +kernel))
                  | 18, ho => cases ho; intro aq wq hd; exact wanted_of (j := 13) (t := 25) (want := true) (b := true) rfl rfl (hd 13 (by decide +kernel))
                  | 19, ho => cases ho; intro aq wq hd; exact wanted_of (j := 13) (t := 25) (want := true) (b := true) rfl rfl (hd 13 (by decide +kernel))
                  | 20, ho => cases ho; intro aq wq hd; exact wanted_of (j := 13) (t := 25) (want := true) (b := true) rfl rfl (hd 13 (by decide +kernel))
                  | 21, ho => cases ho; intro aq wq hd; exact wanted_of (j := 13) (t := 25) (want := true) (b := true) rfl rfl (hd 13 (by decide +kernel))
                  | 22, ho => cases ho; intro aq wq hd; exact wanted_of (j := 13) (t := 25) (want := true) (b := true) rfl rfl (hd 13 (by decide +kernel))
                  | 23, ho => cases ho; intro aq wq hd; exact wanted_of (j := 10) (t := 22) (want := false) (b := false) rfl rfl (hd 10 (by decide +kernel))
                  | 24, ho => cases ho; intro aq wq hd; exact wanted_free rfl
                  | i + 25, ho => exact absurd ho (by simp)
                · intro i o ho hr
                  match i, ho with
                  | 0, ho => exact absurd hr (by decide)
                  | 1, ho => exact absurd hr (by decide)
                  | 2, ho => exact absurd hr (by decide)
                  | 3, ho => exact absurd hr (by decide)
                  | 4, ho => exact absurd hr (by decide)
                  | 5, ho => exact absurd hr (by decide)
                  | 6, ho => exact absurd hr (by decide)
                  | 7, ho => exact absurd hr (by decide)
                  | 8, ho => exact absurd hr (by decide)
                  | 9, ho => exact absurd hr (by decide)
                  | 10, ho => exact absurd hr (by decide)
                  | 11, ho => exact absurd hr (by decide)
                  | 12, ho => exact absurd hr (by decide)
                  | 13, ho => exact absurd hr (by decide)
                  | 14, ho => exact absurd hr (by decide)
                  | 15, ho => exact absurd hr (by decide)
                  | 16, ho => exact absurd hr (by decide)
                  | 17, ho => exact absurd hr (by decide)
                  | 18, ho => exact absurd hr (by decide)
                  | 19, ho => exact absurd hr (by decide)
                  | 20, ho => exact absurd hr (by decide)
                  | 21, ho => exact absurd hr (by decide)
                  | 22, ho => exact absurd hr (by decide)
                  | 23, ho => exact absurd hr (by decide)
                  | 24, ho => exact absurd hr (by decide)
                  | i + 25, ho => exact absurd ho (by simp)
                · refine Sy.drew (Sy.mk_of ?_ ?_ ?_ ?_)
                  · first | rfl | (simp; done) | (simp; omega)
                  · intro c hc
                    simp only [List.mem_cons, List.not_mem_nil, or_false] at hc
                    rcases hc with rfl | rfl | rfl | rfl | rfl <;> exact byCT
                  · intro p hp; cases hp
                  · (repeat' first | with_reducible (first | exact Below.refl _ _ | assumption | refine gr_alloc ?_ _ | refine below_drewN ?_ _ | refine below_drew ?_ | refine gr_call ?_ (by assumption) | refine Below.setCell ?_ ?_ _) | go_size | omega | (simp; omega))
                · clear h1 h2 h3
                  refine ⟨?r26x0, ?r26x1, ?r26x2, ?r26x3, ?r26x4, ?r26x5, ?r26x6, ?r26x7, ?r26x8, ?r26x9, ?r26x10, ?r26x11, ?r26x12, ?r26x13, ?r26x14, ?r26x15, ?r26x16, ?r26x17, ?r26x18, ?r26x19, ?r26x20, ?r26x21, ?r26x22, ?r26x23, ?r26x24, trivial⟩
                  all_goals intro _ aq wx Kq hf hS hdep ev1 ev2 hK
                  case' r26x0 =>
                    have F4 : aq.eval (.tmp 4) = .pointer (some ⟨wl.heap.size, 0, none⟩) := hf 4
                  case' r26x1 =>
                    have D0 : aq.eval (.tmp 12) = _ := hdep 0
                    have c0 := hS.cells (⟨wl.heap.size, 0, none⟩, .string nm) (by simp)
                  case' r26x2 =>
                    have D1 : aq.eval (.tmp 13) = _ := hdep 1
                  case' r26x3 =>
                    have D2 : aq.eval (.tmp 14) = _ := hdep 2
                  case' r26x4 =>
                    have D3 : aq.eval (.tmp 15) = _ := hdep 3
                  case' r26x5 =>
                    have F4 : aq.eval (.tmp 4) = .pointer (some ⟨wl.heap.size, 0, none⟩) := hf 4
                  case' r26x6 =>
                    have D5 : aq.eval (.tmp 17) = _ := hdep 5
                    have c0 := hS.cells (⟨wl.heap.size, 1, none⟩, .int .i64 x) (by simp)
                    have c1 := hS.cells (⟨wl.heap.size, 2, none⟩, .int .i64 y) (by simp)
                    have c2 := hS.cells (⟨wl.heap.size, 3, none⟩, .int .i64 z) (by simp)
                  case' r26x7 =>
                    have D6 : aq.eval (.tmp 18) = _ := hdep 6
                  case' r26x8 =>
                    have D7 : aq.eval (.tmp 19) = _ := hdep 7
                  case' r26x9 =>
                    have D4 : aq.eval (.tmp 16) = _ := hdep 4
                    have D8 : aq.eval (.tmp 20) = _ := hdep 8
                  case' r26x10 =>
                    have D9 : aq.eval (.tmp 21) = _ := hdep 9
                  case' r26x11 =>
                    have F3 : aq.eval (.tmp 3) = .int .i64 (((i : Int) + 1)) := hf 3
                  case' r26x12 =>
                    have D11 : aq.eval (.tmp 23) = _ := hdep 11
                  case' r26x13 =>
                    have D12 : aq.eval (.tmp 24) = _ := hdep 12
                  case' r26x14 =>
                    have F0 : aq.eval (.tmp 0) = .slice (some ⟨b, off, none⟩) n c := hf 0
                  case' r26x15 =>
                    have F3 : aq.eval (.tmp 3) = .int .i64 (((i : Int) + 1)) := hf 3
                  case' r26x16 =>
                    have D15 : aq.eval (.tmp 27) = _ := hdep 15
                  case' r26x17 =>
                    have D14 : aq.eval (.tmp 26) = _ := hdep 14
                    have D16 : aq.eval (.tmp 28) = _ := hdep 16
                  case' r26x18 =>
                    have D17 : aq.eval (.tmp 29) = _ := hdep 17
                  case' r26x19 =>
                    have D18 : aq.eval (.tmp 30) = _ := hdep 18
                    have c0 := hS.cells (⟨b, off + i * 4, none⟩, .string pn) (by simp)
                  case' r26x20 =>
                    have F4 : aq.eval (.tmp 4) = .pointer (some ⟨wl.heap.size, 0, none⟩) := hf 4
                  case' r26x21 =>
                    have D20 : aq.eval (.tmp 32) = _ := hdep 20
                    have c0 := hS.cells (⟨wl.heap.size, 0, none⟩, .string nm) (by simp)
                  case' r26x22 =>
                    have D19 : aq.eval (.tmp 31) = _ := hdep 19
                    have D21 : aq.eval (.tmp 33) = _ := hdep 21
                  case' r26x23 =>
                    have D13 : aq.eval (.tmp 25) = _ := hdep 13
                    have D22 : aq.eval (.tmp 34) = _ := hdep 22
                  case' r26x24 =>
                    have D10 : aq.eval (.tmp 22) = _ := hdep 10
                    have D23 : aq.eval (.tmp 35) = _ := hdep 23
                  all_goals (clear hf hdep; unfold Oper.wp; generalize Act.eval _ = ev at *; go_simp)
                  case r26x2 =>
                    refine ((lgName_a nm _ (by omega))).mono ?_
                    rintro e w2 ⟨rfl, rfl⟩
                    refine hK _ _ (hS.call (below_refl_self _)) ?_ (fun j u _ h => Kd.ok_below (below_refl_self _) h)
                    rw [if_pos (by rfl)]
                    show (_ : Value) = _
                    first | rfl | (refine congrArg (Value.int .i64) ?_; first | rfl | exact int_in (by omega) | exact quo_in (by omega) (by omega) (by omega) | exact rem_in (by omega) (by omega) | omega | (simp [*]; done) | (simp; omega)) | (simp; done) | (simp [*]; done)
                  case r26x7 =>
                    refine ((coGood_a x y z _)).mono ?_
                    rintro e w2 ⟨rfl, hb⟩
                    refine hK _ _ (hS.call hb) ?_ (fun j u _ h => Kd.ok_below hb h)
                    rw [if_pos (by rfl)]
                    show (_ : Value) = _
                    first | rfl | (refine congrArg (Value.int .i64) ?_; first | rfl | exact int_in (by omega) | exact quo_in (by omega) (by omega) (by omega) | exact rem_in (by omega) (by omega) | omega | (simp [*]; done) | (simp; omega)) | (simp; done) | (simp [*]; done)
                  case' r26x17 =>
                    try rw [if_pos (by omega), Oper.upon_value]
                  all_goals (refine hK _ _ hS ?_ (fun j u _ h => h); rw [if_pos (by rfl)]; show (_ : Value) = _; (first | rfl | (refine congrArg (Value.int .i64) ?_; first | rfl | exact int_in (by omega) | exact quo_in (by omega) (by omega) (by omega) | exact rem_in (by omega) (by omega) | omega | (simp [*]; done) | (simp; omega)) | (simp; done) | (simp [*]; done) | (simp; omega)))
                · intro aq wx hd hw hf hS hg
                  have G36 : tau aq 36 = .bool false := hg 24 (by decide)
                  have haq : aq = ⟨#[tau aq 0, tau aq 1, tau aq 2, tau aq 3, tau aq 4, tau aq 5, tau aq 6, tau aq 7, tau aq 8, tau aq 9, tau aq 10, tau aq 11, tau aq 12, tau aq 13, tau aq 14, tau aq 15, tau aq 16, tau aq 17, tau aq 18, tau aq 19, tau aq 20, tau aq 21, tau aq 22, tau aq 23, tau aq 24, tau aq 25, tau aq 26, tau aq 27, tau aq 28, tau aq 29, tau aq 30, tau aq 31, tau aq 32, tau aq 33, tau aq 34, tau aq 35, tau aq 36, tau aq 37, tau aq 38, tau aq 39, tau aq 40], []⟩ := by
                    obtain ⟨tq, dq⟩ := aq
                    have h5 := arr_eq (show tq.size = 41 from hw)
                    have h6 : dq = [] := hd
                    subst h6
                    exact congrArg (fun z => Act.mk z []) h5
                  show K2 aq wx
                  rw [haq, hf 0, hf 1, hf 2, hf 3, hf 4, hf 5, hf 6, hf 7, hf 8, hf 9, hf 10, hf 11, hf 37, hf 38, hf 39, hf 40, G36]
                  clear haq hf hd hw
                  try dsimp only
                  refine h3 _ _ ?_
                  go_meet
                  exact ⟨rfl, hS.cells (⟨wl.heap.size, 0, none⟩, .string nm) (by simp), hS.cells (⟨wl.heap.size, 1, none⟩, .int .i64 x) (by simp), hS.cells (⟨wl.heap.size, 2, none⟩, .int .i64 y) (by simp), hS.cells (⟨wl.heap.size, 3, none⟩, .int .i64 z) (by simp), hS.cells (⟨b, off + i * 4, none⟩, .string pn) (by simp), hS.below⟩
              try clear c00
              try clear c01
              try clear c02
              try clear c03
              try clear c10
              obtain ⟨rfl, c00, c01, c02, c03, c10, hb0⟩ := hcut
              have z0 := World.block_lt_of_cell? _ _ c00
              have z1 := World.block_lt_of_cell? _ _ c10
              change wl.heap.size < wc.heap.size at z0
              change b < wc.heap.size at z1
              go_wp2
              go_roundw
              case rel => exact ⟨(i + 1) + 1, by omega, by first | rfl | go_num, HT, hb0⟩
              case measure => simp [intOf]; omega
    · obtain rfl : jx = n := by omega
      by_cases k : jx ≤ 20
      · have HV : Hid (ctB E jx = true) := hide (by unfold ctB; rw [unhide hg]; simp [k])
        have hk : (jx : Int) ≤ 20 := by omega
        go_wp2
        go_ret
        exact ⟨by rw [unhide HV]; first | rfl | simp [k], hb⟩
      · have HV : Hid (ctB E jx = false) := hide (by unfold ctB; simp [k])
        have hk : ¬ (jx : Int) ≤ 20 := by omega
        go_wp2
        go_ret
        exact ⟨by rw [unhide HV]; first | rfl | simp [k], hb⟩
end Go.Proofs.Ytligbfegafkpjaa
