/- The texts of commands, the program's side. -/
import Derived.Test.YtfoofbcmaljmoaaGreatDoorCtp
import Derived.Test.YtfoofbcmaljmoaaGreatDoorRtx
namespace Go.Proofs.YtfoofbcmaljmoaaGreatDoor
open Go.RowKit
set_option linter.unusedVariables false
set_option linter.unusedSimpArgs false
attribute [local go_sem] q2 q3 q4 q5 q6 q7 q8 q9 q10 q11 q12

def wdJ (n a b : List UInt8) (k : Int) (j : Nat) : List ByteArray := [tx (kwB k), tx n] ++ (if 1 ≤ j ∧ a ≠ [] then [tx a] else []) ++ (if 2 ≤ j ∧ b ≠ [] then [tx b] else [])
theorem wd_len (n a b : List UInt8) (k : Int) (j : Nat) : 2 ≤ (wdJ n a b k j).length ∧ (wdJ n a b k j).length ≤ 4 := by
 unfold wdJ
 split <;> split <;> simp
theorem wd_join (n a b : List UInt8) (k : Int) : Lib.join ((wdJ n a b k 2).map (·.data.toList)) [32] = kwB k ++ [32] ++ n ++ optL a ++ optL b := by
 unfold wdJ optL
 by_cases h1 : a = [] <;> by_cases h2 : b = [] <;> simp [h1, h2, tx_list, Lib.join, List.intercalate, List.intersperse]
theorem wd_form (n a b l : List UInt8) (k : Int) : Lib.join ((wdJ n a b k 2 ++ [tx l]).map (·.data.toList)) [32] = kwB k ++ [32] ++ n ++ optL a ++ optL b ++ ([32] ++ l) := by
 unfold wdJ optL
 by_cases h1 : a = [] <;> by_cases h2 : b = [] <;> simp [h1, h2, tx_list, Lib.join, List.intercalate, List.intersperse]
set_option maxRecDepth 100000 in
set_option maxHeartbeats 8000000 in
theorem commandText_l (k : Int) (n a b : List UInt8) (x y z : Int) (w : World) (hv : cmB ⟨k, tx n, tx a, tx b, (x, y, z)⟩ = true) (ht : Tab w) :
  Calls Tryz.prog 11 #[cmv ⟨k, tx n, tx a, tx b, (x, y, z)⟩] w fun e w' => e = .returned (.string (tx (cmT ⟨k, tx n, tx a, tx b, (x, y, z)⟩))) ∧ Below w.heap.size w w' := by
 have HT := hide ht
 obtain ⟨k1, k5, ln, la, lb, hff⟩ := cm_valid hv
 simp only [tx_size] at k1 k5 ln la lb hff
 obtain ⟨m, hm⟩ := Int.eq_ofNat_of_zero_le (show 0 ≤ k - 1 by omega)
 have hm5 : m < 5 := by omega
 have HKA := hide (kws_at hm hm5)
 have lk := kw_len k
 clear ht hv
 go_enter Tryz.func11, Tryz.ntmps11
 go_upto_region 1 with fail
 go_cut [3] (fun s3 wx => (SLv (w.heap.size + 1) [tx (kwB k), tx n]) wx s3 ∧ wx.cell? ⟨w.heap.size, 0, none⟩ = some (.int .i64 k) ∧ wx.cell? ⟨w.heap.size, 1, none⟩ = some (.string (tx n)) ∧ wx.cell? ⟨w.heap.size, 2, none⟩ = some (.string (tx a)) ∧ wx.cell? ⟨w.heap.size, 3, none⟩ = some (.string (tx b)) ∧ wx.cell? ⟨w.heap.size, 4, none⟩ = some (.int .i64 x) ∧ wx.cell? ⟨w.heap.size, 5, none⟩ = some (.int .i64 y) ∧ wx.cell? ⟨w.heap.size, 6, none⟩ = some (.int .i64 z) ∧ Below w.heap.size w wx)
 case first =>
  have h1 := trivial
  rename_i K2 h2 h3
  let hgf9 : Nat → World → Value → Prop := fun j => match j with | 0 => (SlcS kws) | 1 => Kd.ok (Kd.val (.pointer (some ⟨w.heap.size, 0, none⟩))) | 2 => Kd.ok (Kd.val (.int .i64 k)) | 3 => Kd.ok (Kd.val (.int .i64 ((m : Int)))) | 4 => (PtrTo (.string (tx (kwB k)))) | 5 => Kd.ok (Kd.val (.string (tx (kwB k)))) | 6 => Kd.ok (Kd.val (.pointer (some ⟨w.heap.size, 1, none⟩))) | 7 => Kd.ok (Kd.val (.string (tx n))) | 8 => (SLv (w.heap.size + 1) [tx (kwB k), tx n]) | 9 => (SLv (w.heap.size + 1) [tx (kwB k), tx n]) | _ => Kd.ok Kd.any
  have hst9 : ∀ j, StB (hgf9 j) := fun j => match j with | 0 => (SlcS.st : StB (SlcS kws)) | 1 => (Kd.st (Kd.val (.pointer (some ⟨w.heap.size, 0, none⟩))) : StB (Kd.ok (Kd.val (.pointer (some ⟨w.heap.size, 0, none⟩))))) | 2 => (Kd.st (Kd.val (.int .i64 k)) : StB (Kd.ok (Kd.val (.int .i64 k)))) | 3 => (Kd.st (Kd.val (.int .i64 ((m : Int)))) : StB (Kd.ok (Kd.val (.int .i64 ((m : Int)))))) | 4 => (PtrTo.st : StB (PtrTo (.string (tx (kwB k))))) | 5 => (Kd.st (Kd.val (.string (tx (kwB k)))) : StB (Kd.ok (Kd.val (.string (tx (kwB k)))))) | 6 => (Kd.st (Kd.val (.pointer (some ⟨w.heap.size, 1, none⟩))) : StB (Kd.ok (Kd.val (.pointer (some ⟨w.heap.size, 1, none⟩))))) | 7 => (Kd.st (Kd.val (.string (tx n))) : StB (Kd.ok (Kd.val (.string (tx n))))) | 8 => (SLv.st : StB (SLv (w.heap.size + 1) [tx (kwB k), tx n])) | 9 => (SLv.st : StB (SLv (w.heap.size + 1) [tx (kwB k), tx n])) | j + 10 => (Kd.st Kd.any : StB (Kd.ok Kd.any))
  refine region_n0 (by kernel_rfl) (fun j => #[6,7,8,9,10,11,12,13,14,3].getD j 0) (hgf9) (Sy w (w.heap.size + 1) [(⟨w.heap.size, 0, none⟩, .int .i64 k), (⟨w.heap.size, 1, none⟩, .string (tx n)), (⟨w.heap.size, 2, none⟩, .string (tx a)), (⟨w.heap.size, 3, none⟩, .string (tx b)), (⟨w.heap.size, 4, none⟩, .int .i64 x), (⟨w.heap.size, 5, none⟩, .int .i64 y), (⟨w.heap.size, 6, none⟩, .int .i64 z)] []) (by kernel_rfl) (by kernel_rfl) ?_ ?_ ?_ ?_
  ·intro j hj
   have hj2 : j < 10 := hj
   have : ∀ j, j < 10 → (#[6,7,8,9,10,11,12,13,14,3] : Array Nat).getD j 0 < 44 := by decide
   exact this j hj2
  ·refine Sy.drew (Sy.mk_of ?_ ?_ ?_ ?_)
   ·first | rfl | (simp; done) | (simp; omega)
   ·intro c hc
    simp only [List.mem_cons, List.not_mem_nil, or_false] at hc
    rcases hc with rfl | rfl | rfl | rfl | rfl | rfl | rfl <;> exact byCT
   ·intro p hp; cases hp
   ·(repeat' first | with_reducible (first | exact Below.refl _ _ | assumption | refine gr_alloc ?_ _ | refine below_drewN ?_ _ | refine below_drew ?_ | refine gr_call ?_ (by assumption) | refine Below.setCell ?_ ?_ _) | go_size | omega | (simp; omega))
  ·clear h1 h2 h3
   refine ⟨?r4x0, ?r4x1, ?r4x2, ?r4x3, ?r4x4, ?r4x5, ?r4x6, ?r4x7, ?r4x8, ?r4x9, trivial⟩
   all_goals intro _ aq wx Kq hf hS hdep ev1 ev2 hK
   case' r4x1 =>
    have F1 : aq.eval (.tmp 1) = .pointer (some ⟨w.heap.size, 0, none⟩) := hf 1
   case' r4x2 =>
    have D1 : aq.eval (.tmp 7) = _ := hdep 1
    have c0 := hS.cells (⟨w.heap.size, 0, none⟩, .int .i64 k) (by simp)
   case' r4x3 =>
    have D2 : aq.eval (.tmp 8) = _ := hdep 2
   case' r4x4 =>
    obtain ⟨gs6, DP6, hcs6⟩ := hdep 0
    change aq.eval (.tmp 6) = _ at DP6
    have D3 : aq.eval (.tmp 9) = _ := hdep 3
   case' r4x5 =>
    obtain ⟨ga, DP10, hca⟩ := hdep 4
    change aq.eval (.tmp 10) = _ at DP10
   case' r4x6 =>
    have F1 : aq.eval (.tmp 1) = .pointer (some ⟨w.heap.size, 0, none⟩) := hf 1
   case' r4x7 =>
    have D6 : aq.eval (.tmp 12) = _ := hdep 6
    have c0 := hS.cells (⟨w.heap.size, 1, none⟩, .string (tx n)) (by simp)
   case' r4x8 =>
    have D5 : aq.eval (.tmp 11) = _ := hdep 5
    have D7 : aq.eval (.tmp 13) = _ := hdep 7
   case' r4x9 =>
    obtain ⟨gs14, DP14, hcs14⟩ := hdep 8
    change aq.eval (.tmp 14) = _ at DP14
   all_goals (clear hf hdep; unfold Oper.wp; generalize Act.eval _ = ev at *; go_simp)
   case r4x0 =>
    refine hK _ _ (hS.call (below_alloc_self _ _)) ?_ (fun j u _ h => hst9 j _ _ _ (below_alloc_self _ _) h)
    rw [if_pos (by rfl)]
    refine ⟨_, rfl, fun j hj => ?_⟩
    rcases (show j = 0 ∨ j = 1 ∨ j = 2 ∨ j = 3 ∨ j = 4 by have : kws.length = 5 := rfl; omega) with rfl | rfl | rfl | rfl | rfl <;> (first | (go_simp; done) | (go_simp; rfl))
   case r4x4 =>
    rw [if_pos (by have : kws.length = 5 := rfl; omega), Oper.upon_value]
    refine hK _ _ hS ?_ (fun j u _ h => h)
    rw [if_pos (by rfl)]
    exact ⟨_, rfl, by rw [hcs6 m (by have : kws.length = 5 := rfl; omega), unhide HKA]⟩
   case r4x8 =>
    refine hK _ _ (hS.call (below_alloc_self _ _)) ?_ (fun j u _ h => hst9 j _ _ _ (below_alloc_self _ _) h)
    rw [if_pos (by rfl)]
    exact sl_two _ _ _ _ hS.size
   case r4x9 =>
    refine hK _ _ hS ?_ (fun j u _ h => h)
    rw [if_pos (by rfl)]
    exact ⟨gs14, rfl, hcs14⟩
   all_goals (refine hK _ _ hS ?_ (fun j u _ h => h); rw [if_pos (by rfl)]; show (_ : Value) = _; (first | rfl | (refine congrArg (Value.int .i64) ?_; first | rfl | exact int_in (by omega) | assumption | exact quo_in (by omega) (by omega) (by omega) | exact rem_in (by omega) (by omega) | omega) | (simp; done) | (simp [*]; done)))
  ·intro aq wx hd hw hf hS hg
   have G3 : (SLv (w.heap.size + 1) [tx (kwB k), tx n]) wx (tau aq 3) := hg 9 (by decide)
   have haq : aq = ⟨#[tau aq 0, tau aq 1, tau aq 2, tau aq 3, tau aq 4, tau aq 5, tau aq 6, tau aq 7, tau aq 8, tau aq 9, tau aq 10, tau aq 11, tau aq 12, tau aq 13, tau aq 14, tau aq 15, tau aq 16, tau aq 17, tau aq 18, tau aq 19, tau aq 20, tau aq 21, tau aq 22, tau aq 23, tau aq 24, tau aq 25, tau aq 26, tau aq 27, tau aq 28, tau aq 29, tau aq 30, tau aq 31, tau aq 32, tau aq 33, tau aq 34, tau aq 35, tau aq 36, tau aq 37, tau aq 38, tau aq 39, tau aq 40, tau aq 41, tau aq 42, tau aq 43], []⟩ := by
    obtain ⟨tq, dq⟩ := aq
    have h5 := arr_eq (show tq.size = 44 from hw)
    have h6 : dq = [] := hd
    subst h6
    exact congrArg (fun z => Act.mk z []) h5
   show K2 aq wx
   rw [haq, hf 0, hf 1, hf 2, hf 4, hf 5, hf 15, hf 16, hf 17, hf 18, hf 19, hf 20, hf 21, hf 22, hf 23, hf 24, hf 25, hf 26, hf 27, hf 28, hf 29, hf 30, hf 31, hf 32, hf 33, hf 34, hf 35, hf 36, hf 37, hf 38, hf 39, hf 40, hf 41, hf 42, hf 43]
   clear haq hf hd hw
   try dsimp only
   refine h3 _ _ ?_
   go_meet
   refine ⟨G3, ?_, ?_, ?_, ?_, ?_, ?_, ?_, hS.below⟩
   all_goals first | exact hS.cells (_, _) (by simp) | exact (hS.free _ (by simp)).2
 try clear c00 c01 c02 c03 c04 c05 c06
 obtain ⟨hp3, c00, c01, c02, c03, c04, c05, c06, hb0⟩ := hcut
 have z0 := World.block_lt_of_cell? _ _ c00
 change w.heap.size < wc.heap.size at z0
 skip
 obtain ⟨g3, rfl, hl0, hg3⟩ := hp3
 have hw1 : Below w.heap.size w wc := hb0
 have hbx : w.heap.size < wc.heap.size := World.block_lt_of_cell? _ _ c00
 clear hm hb0
 go_wp2
 go_loopw [3, 21] (fun ls is wr => ∃ (j : Nat) (a' : Option Addr) (c' : Nat), j ≤ 2 ∧ is = .int .i64 (j : Int) ∧ ls = .slice a' (wdJ n a b k j).length c' ∧ SL wr (w.heap.size + 1) (.slice a' (wdJ n a b k j).length c') (wdJ n a b k j) ∧ (∀ q, (Value.slice a' (wdJ n a b k j).length c').ownBlock = some q → q ≠ wc.heap.size) ∧ wr.cell? ⟨w.heap.size, 0, none⟩ = some (.int .i64 k) ∧ wr.cell? ⟨w.heap.size, 1, none⟩ = some (.string (tx n)) ∧ wr.cell? ⟨w.heap.size, 2, none⟩ = some (.string (tx a)) ∧ wr.cell? ⟨w.heap.size, 3, none⟩ = some (.string (tx b)) ∧ wr.cell? ⟨w.heap.size, 4, none⟩ = some (.int .i64 x) ∧ wr.cell? ⟨w.heap.size, 5, none⟩ = some (.int .i64 y) ∧ wr.cell? ⟨w.heap.size, 6, none⟩ = some (.int .i64 z) ∧ wr.cell? ⟨wc.heap.size, 0, none⟩ = some (.string (tx a)) ∧ wr.cell? ⟨wc.heap.size, 1, none⟩ = some (.string (tx b)) ∧ Below w.heap.size w wr) (fun _ is _ => 2 - (intOf is).toNat)
 case atStart => exact ⟨0, some ⟨g3, 0, none⟩, 2, by omega, rfl, rfl, hl0.alloc _, fun q hq => by (have e9 : g3 = q := by simpa [Value.ownBlock] using hq); omega, byCT, byCT, byCT, byCT, byCT, byCT, byCT, byCT, byCT, hw1.alloc hw1.size _⟩
 case round =>
  obtain ⟨j, a', c', hj, rfl, rfl, hl, hq0, c00, c01, c02, c03, c04, c05, c06, d0, d1, hbl⟩ := hrel
  obtain ⟨wl, rfl⟩ : ∃ wl : World, wl = wr := ⟨_, rfl⟩
  have hzl := hbl.size
  have hbz := World.block_lt_of_cell? _ _ c00
  change w.heap.size < wl.heap.size at hbz
  have hdz := World.block_lt_of_cell? _ _ d0
  change wc.heap.size < wl.heap.size at hdz
  have HLn := hide (wd_len n a b k j)
  by_cases q : j < 2
  ·rcases (show j = 0 ∨ j = 1 by omega) with rfl | rfl
   ·cases ha : a.isEmpty
    ·obtain ⟨u, l, rfl⟩ : ∃ u l, a = u :: l := by cases a with | nil => cases ha | cons u l => exact ⟨u, l, rfl⟩
     have hem := tx_cons_ne u l
     have EL : Hid (wdJ n (u :: l) b k 1 = (wdJ n (u :: l) b k 0) ++ [tx (u :: l)]) := hide (by simp [wdJ])
     go_wp2_with (first | (at_builtin; refine app_str _ rfl (.tmp 27) (.tmp 29) rfl (w.heap.size + 1) (.slice a' (wdJ n (u :: l) b k 0).length c') (wdJ n (u :: l) b k 0) (tx (u :: l)) wl.heap.size rfl rfl (hl.alloc _) (by simp) (by have := unhide HLn; omega) (by simp; omega) ?_; intro g cap w3 hown hgrow hat hlt))
     go_roundw
     case rel =>
      have hne : ∀ k9, (Value.slice a' (wdJ n (u :: l) b k 0).length c').ownBlock = some k9 → w.heap.size + 1 ≤ k9 := fun k9 hk => (hl.lt k9 hk).1
      have hbx9 : some w.heap.size ≠ (Value.slice a' (wdJ n (u :: l) b k 0).length c').ownBlock := fun hh => by have := hne _ hh.symm; omega
      have hbd9 : some wc.heap.size ≠ (Value.slice a' (wdJ n (u :: l) b k 0).length c').ownBlock := fun hh => hq0 _ hh.symm rfl
      refine ⟨1, some ⟨g, 0, none⟩, cap, by omega, by first | rfl | go_num, ?_, ?_, ?_, ?_, ?_, ?_, ?_, ?_, ?_, ?_, ?_, ?_, (hbl.alloc (by omega) _).grown hgrow (by simp; omega) (fun k9 hk => by have := hne k9 hk; omega)⟩
      ·rw [unhide EL, List.length_append]; rfl
      ·rw [unhide EL, List.length_append]; exact hown
      ·intro q9 hq9
       have e9 : q9 = g := by simp [Value.ownBlock] at hq9; omega
       subst e9
       rcases hat with h9 | h9
       ·exact hq0 _ h9
       ·rw [h9]; simp; omega
      ·rw [hgrow.cell_far _ (by simp; omega) hbx9]; exact byCT
      ·rw [hgrow.cell_far _ (by simp; omega) hbx9]; exact byCT
      ·rw [hgrow.cell_far _ (by simp; omega) hbx9]; exact byCT
      ·rw [hgrow.cell_far _ (by simp; omega) hbx9]; exact byCT
      ·rw [hgrow.cell_far _ (by simp; omega) hbx9]; exact byCT
      ·rw [hgrow.cell_far _ (by simp; omega) hbx9]; exact byCT
      ·rw [hgrow.cell_far _ (by simp; omega) hbx9]; exact byCT
      ·rw [hgrow.cell_far _ (by simp; omega) hbd9]; exact byCT
      ·rw [hgrow.cell_far _ (by simp; omega) hbd9]; exact byCT
     case measure => simp [intOf]
    ·obtain rfl : a = [] := by cases a with | nil => rfl | cons u l => cases ha
     have EL : Hid (wdJ n [] b k 1 = (wdJ n [] b k 0)) := hide (by simp [wdJ])
     have hem := tx_nil_em
     go_wp2
     go_roundw
     case rel => exact ⟨1, a', c', by omega, by first | rfl | go_num, by rw [unhide EL], by rw [unhide EL]; exact hl, by rw [unhide EL]; exact hq0, c00, c01, c02, c03, c04, c05, c06, d0, d1, hbl⟩
     case measure => simp [intOf]
   ·cases hb : b.isEmpty
    ·obtain ⟨u, l, rfl⟩ : ∃ u l, b = u :: l := by cases b with | nil => cases hb | cons u l => exact ⟨u, l, rfl⟩
     have hem := tx_cons_ne u l
     have EL : Hid (wdJ n a (u :: l) k 2 = (wdJ n a (u :: l) k 1) ++ [tx (u :: l)]) := hide (by simp [wdJ])
     go_wp2_with (first | (at_builtin; refine app_str _ rfl (.tmp 27) (.tmp 29) rfl (w.heap.size + 1) (.slice a' (wdJ n a (u :: l) k 1).length c') (wdJ n a (u :: l) k 1) (tx (u :: l)) wl.heap.size rfl rfl (hl.alloc _) (by simp) (by have := unhide HLn; omega) (by simp; omega) ?_; intro g cap w3 hown hgrow hat hlt))
     go_roundw
     case rel =>
      have hne : ∀ k9, (Value.slice a' (wdJ n a (u :: l) k 1).length c').ownBlock = some k9 → w.heap.size + 1 ≤ k9 := fun k9 hk => (hl.lt k9 hk).1
      have hbx9 : some w.heap.size ≠ (Value.slice a' (wdJ n a (u :: l) k 1).length c').ownBlock := fun hh => by have := hne _ hh.symm; omega
      have hbd9 : some wc.heap.size ≠ (Value.slice a' (wdJ n a (u :: l) k 1).length c').ownBlock := fun hh => hq0 _ hh.symm rfl
      refine ⟨2, some ⟨g, 0, none⟩, cap, by omega, by first | rfl | go_num, ?_, ?_, ?_, ?_, ?_, ?_, ?_, ?_, ?_, ?_, ?_, ?_, (hbl.alloc (by omega) _).grown hgrow (by simp; omega) (fun k9 hk => by have := hne k9 hk; omega)⟩
      ·rw [unhide EL, List.length_append]; rfl
      ·rw [unhide EL, List.length_append]; exact hown
      ·intro q9 hq9
       have e9 : q9 = g := by simp [Value.ownBlock] at hq9; omega
       subst e9
       rcases hat with h9 | h9
       ·exact hq0 _ h9
       ·rw [h9]; simp; omega
      ·rw [hgrow.cell_far _ (by simp; omega) hbx9]; exact byCT
      ·rw [hgrow.cell_far _ (by simp; omega) hbx9]; exact byCT
      ·rw [hgrow.cell_far _ (by simp; omega) hbx9]; exact byCT
      ·rw [hgrow.cell_far _ (by simp; omega) hbx9]; exact byCT
      ·rw [hgrow.cell_far _ (by simp; omega) hbx9]; exact byCT
      ·rw [hgrow.cell_far _ (by simp; omega) hbx9]; exact byCT
      ·rw [hgrow.cell_far _ (by simp; omega) hbx9]; exact byCT
      ·rw [hgrow.cell_far _ (by simp; omega) hbd9]; exact byCT
      ·rw [hgrow.cell_far _ (by simp; omega) hbd9]; exact byCT
     case measure => simp [intOf]
    ·obtain rfl : b = [] := by cases b with | nil => rfl | cons u l => cases hb
     have EL : Hid (wdJ n a [] k 2 = (wdJ n a [] k 1)) := hide (by simp [wdJ])
     have hem := tx_nil_em
     go_wp2
     go_roundw
     case rel => exact ⟨2, a', c', by omega, by first | rfl | go_num, by rw [unhide EL], by rw [unhide EL]; exact hl, by rw [unhide EL]; exact hq0, c00, c01, c02, c03, c04, c05, c06, d0, d1, hbl⟩
     case measure => simp [intOf]
  ·obtain rfl : j = 2 := by omega
   have HWf := hide (wd_join n a b k)
   have HWF := hide (fun l => wd_form n a b l k)
   obtain ⟨WL, hWL⟩ : ∃ l, wdJ n a b k 2 = l := ⟨_, rfl⟩
   rw [hWL] at hl HLn hq0 HWf HWF
   try rw [hWL]
   clear hWL q
   rcases hff with ⟨hf, hci⟩ | ⟨hf, hze⟩
   ·obtain ⟨x0, x1, y1, z1⟩ := ci_of hci
    simp only [] at x0 x1 y1 z1
    have lf := fmT_len (a := x) (b := y) (c := z) ⟨by omega, by omega⟩ ⟨by omega, by omega⟩ ⟨by omega, by omega⟩
    obtain ⟨FL, hFL⟩ : ∃ l, fmT x y z = l := ⟨_, rfl⟩
    have HE : Hid (cmT ⟨k, tx n, tx a, tx b, (x, y, z)⟩ = kwB k ++ [32] ++ n ++ optL a ++ optL b ++ ([32] ++ FL)) := hide (by unfold cmT; rw [if_pos hf, ← hFL]; simp only [tx_list])
    have HI : ∀ W, Tab W → Calls Tryz.prog 23 #[.agg #[.int .i64 x, .int .i64 y, .int .i64 z]] W fun e w' => e = .returned (.string (tx FL)) ∧ Below W.heap.size W w' := fun W hT => by rw [← hFL]; exact formText_a x y z W ⟨by omega, by omega⟩ ⟨by omega, by omega⟩ ⟨by omega, by omega⟩ hT
    rw [hFL] at lf
    have HI2 := hide HI
    clear HI hFL hf hci
    go_wp2_with fail
    refine ((unhide HI2) _ ((unhide HT).below hbl)).mono ?_
    rintro e w2 ⟨rfl, hb2⟩
    have hl2 := hl.below hb2
    have hbw : Below w.heap.size w w2 := hbl.trans (hb2.mono hzl)
    have hz2 := hb2.size
    clear hl
    go_wp2_with (first | (at_builtin; refine app_str _ rfl (.tmp 36) (.tmp 40) rfl (w.heap.size + 1) (.slice a' WL.length c') WL (tx FL) w2.heap.size rfl rfl (hl2.alloc _) (by simp) (by have := unhide HLn; omega) (by simp; omega) ?_; intro g cap w3 hown hgrow hat hlt) | fail)
    have hne : ∀ k, (Value.slice a' WL.length c').ownBlock = some k → w.heap.size + 1 ≤ k := fun k hk => (hl2.lt k hk).1
    have hb3 : Below w.heap.size w w3 := (hbw.alloc (by omega) _).grown hgrow (by simp; omega) (fun k hk => by have := hne k hk; omega)
    have hlq : (WL ++ [tx FL]).length = WL.length + 1 := by simp
    rw [← hlq] at hown
    refine (join_sl _ _ _ (WL.length + 1) cap (WL ++ [tx FL]) [32] _ (by rw [hlq] at hown; exact hown) (by rw [hlq]; omega) (by rw [hlq]; have := unhide HLn; omega) (unhide HWF FL) (by
     have := unhide HLn
     simp only [List.length_append, List.length_cons, List.length_nil]
     have o1 : (optL a).length ≤ a.length + 1 := by unfold optL; split <;> simp
     have o2 : (optL b).length ≤ b.length + 1 := by unfold optL; split <;> simp
     omega)).mono ?_
    rintro e w4 ⟨rfl, hb4⟩
    go_wp2
    go_ret
    exact ⟨by rw [unhide HE]; simp only [List.append_assoc, List.cons_append, List.nil_append]; rfl, hb3.trans (hb4.mono hb3.size)⟩
   ·obtain ⟨rfl, rfl, rfl⟩ := ze_of hze
    have HE : Hid (cmT ⟨k, tx n, tx a, tx b, (0, 0, 0)⟩ = kwB k ++ [32] ++ n ++ optL a ++ optL b) := hide (by unfold cmT; rw [if_neg (by rw [hf]; decide)]; simp only [tx_list, List.append_nil])
    clear hf hze
    go_wp2_with fail
    refine (join_sl _ _ a' WL.length c' WL [32] _ hl (by have := unhide HLn; omega) (by have := unhide HLn; omega) (unhide HWf) (by
     simp only [List.length_append, List.length_cons, List.length_nil]
     have o1 : (optL a).length ≤ a.length + 1 := by unfold optL; split <;> simp
     have o2 : (optL b).length ≤ b.length + 1 := by unfold optL; split <;> simp
     omega)).mono ?_
    rintro e w4 ⟨rfl, hb4⟩
    go_wp2
    go_ret
    exact ⟨by rw [unhide HE]; simp only [List.append_assoc, List.cons_append, List.nil_append]; rfl, hbl.trans (hb4.mono hzl)⟩
end Go.Proofs.YtfoofbcmaljmoaaGreatDoor
