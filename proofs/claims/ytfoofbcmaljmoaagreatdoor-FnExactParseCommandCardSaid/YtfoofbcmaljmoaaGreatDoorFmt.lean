/- The texts of forms on both sides. -/
import Derived.Test.YtfoofbcmaljmoaaGreatDoorIto
namespace Go.Proofs.YtfoofbcmaljmoaaGreatDoor
open Go.RowKit
set_option linter.unusedVariables false
set_option linter.unusedSimpArgs false
attribute [local go_sem] q2 q3 q4 q5 q6 q7 q8 q9 q10 q11 q12

set_option maxRecDepth 100000 in
set_option maxHeartbeats 4000000 in
theorem formText_a (a b c : Int) (w : World) (h0 : I64 a) (h1 : I64 b) (h2 : I64 c) (ht : Tab w) : Calls Tryz.prog 23 #[.agg #[.int .i64 a, .int .i64 b, .int .i64 c]] w fun e w' => e = .returned (.string (tx (fmT a b c))) ∧ Below w.heap.size w w' := by
 have HT := hide ht
 clear ht
 have l1 := itoa_len (x := a) h0
 have l2 := itoa_len (x := b) h1
 have l3 := itoa_len (x := c) h2
 have HF : Hid (fmT a b c = [40] ++ Lib.itoa a ++ [44] ++ Lib.itoa b ++ [44] ++ Lib.itoa c ++ [41]) := hide rfl
 obtain ⟨A1, hA1⟩ : ∃ l, Lib.itoa a = l := ⟨_, rfl⟩
 obtain ⟨A2, hA2⟩ : ∃ l, Lib.itoa b = l := ⟨_, rfl⟩
 obtain ⟨A3, hA3⟩ : ∃ l, Lib.itoa c = l := ⟨_, rfl⟩
 have HE : Hid (fmT a b c = [40] ++ A1 ++ [44] ++ A2 ++ [44] ++ A3 ++ [41]) := hide (by rw [unhide HF, hA1, hA2, hA3])
 rw [hA1] at l1
 rw [hA2] at l2
 rw [hA3] at l3
 have HA1 := hide hA1
 have HA2 := hide hA2
 have HA3 := hide hA3
 clear hA1 hA2 hA3 HF
 go_enter Tryz.func23, Tryz.ntmps23
 go_upto_region 1 with fail
 go_cut [2] (fun s2 wx => s2 = .string (tx ([40] ++ A1 ++ [44] ++ A2 ++ [44] ++ A3 ++ [41])) ∧ Ri3 wx w.heap.size a b c ∧ Below w.heap.size w wx)
 case first =>
  have h1 := trivial
  rename_i K2 h2 h3
  refine region_n0 (by kernel_rfl) (fun j => #[3,4,5,6,7,8,9,10,11,12,13,14,15,16,17,2].getD j 0) (fun j => Kd.ok ((fun j => match j with | 0 => Kd.val (.pointer (some ⟨w.heap.size, 0, none⟩)) | 1 => Kd.val (.int .i64 a) | 2 => Kd.val (.string (tx A1)) | 3 => Kd.val (.string (tx ([40] ++ A1))) | 4 => Kd.val (.string (tx ([40] ++ A1 ++ [44]))) | 5 => Kd.val (.pointer (some ⟨w.heap.size, 1, none⟩)) | 6 => Kd.val (.int .i64 b) | 7 => Kd.val (.string (tx A2)) | 8 => Kd.val (.string (tx ([40] ++ A1 ++ [44] ++ A2))) | 9 => Kd.val (.string (tx ([40] ++ A1 ++ [44] ++ A2 ++ [44]))) | 10 => Kd.val (.pointer (some ⟨w.heap.size, 2, none⟩)) | 11 => Kd.val (.int .i64 c) | 12 => Kd.val (.string (tx A3)) | 13 => Kd.val (.string (tx ([40] ++ A1 ++ [44] ++ A2 ++ [44] ++ A3))) | 14 => Kd.val (.string (tx ([40] ++ A1 ++ [44] ++ A2 ++ [44] ++ A3 ++ [41]))) | 15 => Kd.val (.string (tx ([40] ++ A1 ++ [44] ++ A2 ++ [44] ++ A3 ++ [41]))) | _ => Kd.any : Nat → Kd) j)) (Sy w (w.heap.size + 1) [(⟨w.heap.size, 0, none⟩, .int .i64 a), (⟨w.heap.size, 1, none⟩, .int .i64 b), (⟨w.heap.size, 2, none⟩, .int .i64 c)] []) (by kernel_rfl) (by kernel_rfl) ?_ ?_ ?_ ?_
  ·intro j hj
   have hj2 : j < 16 := hj
   have : ∀ j, j < 16 → (#[3,4,5,6,7,8,9,10,11,12,13,14,15,16,17,2] : Array Nat).getD j 0 < 18 := by decide
   exact this j hj2
  ·refine Sy.drew (Sy.mk_of ?_ ?_ ?_ ?_)
   ·first | rfl | (simp; done) | (simp; omega)
   ·intro c hc
    simp only [List.mem_cons, List.not_mem_nil, or_false] at hc
    rcases hc with rfl | rfl | rfl <;> exact byCT
   ·intro p hp; cases hp
   ·(repeat' first | with_reducible (first | exact Below.refl _ _ | assumption | refine gr_alloc ?_ _ | refine below_drewN ?_ _ | refine below_drew ?_ | refine gr_call ?_ (by assumption) | refine Below.setCell ?_ ?_ _) | go_size | omega | (simp; omega))
  ·clear h1 h2 h3
   refine ⟨?r2x0, ?r2x1, ?r2x2, ?r2x3, ?r2x4, ?r2x5, ?r2x6, ?r2x7, ?r2x8, ?r2x9, ?r2x10, ?r2x11, ?r2x12, ?r2x13, ?r2x14, ?r2x15, trivial⟩
   all_goals intro _ aq wx Kq hf hS hdep ev1 ev2 hK
   case' r2x0 =>
    have F1 : aq.eval (.tmp 1) = .pointer (some ⟨w.heap.size, 0, none⟩) := hf 1
   case' r2x1 =>
    have D0 : aq.eval (.tmp 3) = _ := hdep 0
    have c0 := hS.cells (⟨w.heap.size, 0, none⟩, .int .i64 a) (by simp)
   case' r2x2 =>
    have D1 : aq.eval (.tmp 4) = _ := hdep 1
   case' r2x3 =>
    have D2 : aq.eval (.tmp 5) = _ := hdep 2
   case' r2x4 =>
    have D3 : aq.eval (.tmp 6) = _ := hdep 3
   case' r2x5 =>
    have F1 : aq.eval (.tmp 1) = .pointer (some ⟨w.heap.size, 0, none⟩) := hf 1
   case' r2x6 =>
    have D5 : aq.eval (.tmp 8) = _ := hdep 5
    have c0 := hS.cells (⟨w.heap.size, 1, none⟩, .int .i64 b) (by simp)
   case' r2x7 =>
    have D6 : aq.eval (.tmp 9) = _ := hdep 6
   case' r2x8 =>
    have D4 : aq.eval (.tmp 7) = _ := hdep 4
    have D7 : aq.eval (.tmp 10) = _ := hdep 7
   case' r2x9 =>
    have D8 : aq.eval (.tmp 11) = _ := hdep 8
   case' r2x10 =>
    have F1 : aq.eval (.tmp 1) = .pointer (some ⟨w.heap.size, 0, none⟩) := hf 1
   case' r2x11 =>
    have D10 : aq.eval (.tmp 13) = _ := hdep 10
    have c0 := hS.cells (⟨w.heap.size, 2, none⟩, .int .i64 c) (by simp)
   case' r2x12 =>
    have D11 : aq.eval (.tmp 14) = _ := hdep 11
   case' r2x13 =>
    have D9 : aq.eval (.tmp 12) = _ := hdep 9
    have D12 : aq.eval (.tmp 15) = _ := hdep 12
   case' r2x14 =>
    have D13 : aq.eval (.tmp 16) = _ := hdep 13
   case' r2x15 =>
    have D14 : aq.eval (.tmp 17) = _ := hdep 14
   all_goals (clear hf hdep; unfold Oper.wp; generalize Act.eval _ = ev at *; go_simp)
   case r2x2 =>
    refine ((itoa_e a A1 _ (by assumption) (unhide HA1) ((unhide HT).below hS.below))).mono ?_
    rintro e w2 ⟨rfl, hb⟩
    refine hK _ _ (hS.call hb) ?_ (fun j u _ h => Kd.ok_below hb h)
    rw [if_pos (by rfl)]
    show (_ : Value) = _
    first | rfl | (refine congrArg (Value.int .i64) ?_; first | rfl | exact int_in (by omega) | exact quo_in (by omega) (by omega) (by omega) | exact rem_in (by omega) (by omega) | omega) | (simp; done) | (simp [*]; done) | exact vtx _ _ | exact (vtx _ _).trans (congrArg (fun l => Value.string (tx l)) (by simp))
   case' r2x3 =>
    rw [if_neg (by simp only [tx_size, ByteArray.size_mk', List.size_toArray, List.length_append, List.length_cons, List.length_nil]; omega), Oper.upon_value]
   case' r2x4 =>
    rw [if_neg (by simp only [tx_size, ByteArray.size_mk', List.size_toArray, List.length_append, List.length_cons, List.length_nil]; omega), Oper.upon_value]
   case r2x7 =>
    refine ((itoa_e b A2 _ (by assumption) (unhide HA2) ((unhide HT).below hS.below))).mono ?_
    rintro e w2 ⟨rfl, hb⟩
    refine hK _ _ (hS.call hb) ?_ (fun j u _ h => Kd.ok_below hb h)
    rw [if_pos (by rfl)]
    show (_ : Value) = _
    first | rfl | (refine congrArg (Value.int .i64) ?_; first | rfl | exact int_in (by omega) | exact quo_in (by omega) (by omega) (by omega) | exact rem_in (by omega) (by omega) | omega) | (simp; done) | (simp [*]; done) | exact vtx _ _ | exact (vtx _ _).trans (congrArg (fun l => Value.string (tx l)) (by simp))
   case' r2x8 =>
    rw [if_neg (by simp only [tx_size, ByteArray.size_mk', List.size_toArray, List.length_append, List.length_cons, List.length_nil]; omega), Oper.upon_value]
   case' r2x9 =>
    rw [if_neg (by simp only [tx_size, ByteArray.size_mk', List.size_toArray, List.length_append, List.length_cons, List.length_nil]; omega), Oper.upon_value]
   case r2x12 =>
    refine ((itoa_e c A3 _ (by assumption) (unhide HA3) ((unhide HT).below hS.below))).mono ?_
    rintro e w2 ⟨rfl, hb⟩
    refine hK _ _ (hS.call hb) ?_ (fun j u _ h => Kd.ok_below hb h)
    rw [if_pos (by rfl)]
    show (_ : Value) = _
    first | rfl | (refine congrArg (Value.int .i64) ?_; first | rfl | exact int_in (by omega) | exact quo_in (by omega) (by omega) (by omega) | exact rem_in (by omega) (by omega) | omega) | (simp; done) | (simp [*]; done) | exact vtx _ _ | exact (vtx _ _).trans (congrArg (fun l => Value.string (tx l)) (by simp))
   case' r2x13 =>
    rw [if_neg (by simp only [tx_size, ByteArray.size_mk', List.size_toArray, List.length_append, List.length_cons, List.length_nil]; omega), Oper.upon_value]
   case' r2x14 =>
    rw [if_neg (by simp only [tx_size, ByteArray.size_mk', List.size_toArray, List.length_append, List.length_cons, List.length_nil]; omega), Oper.upon_value]
   all_goals (refine hK _ _ hS ?_ (fun j u _ h => h); rw [if_pos (by rfl)]; show (_ : Value) = _; (first | rfl | (refine congrArg (Value.int .i64) ?_; first | rfl | exact int_in (by omega) | exact quo_in (by omega) (by omega) (by omega) | exact rem_in (by omega) (by omega) | omega) | (simp; done) | (simp [*]; done) | exact vtx _ _ | exact (vtx _ _).trans (congrArg (fun l => Value.string (tx l)) (by simp))))
  ·intro aq wx hd hw hf hS hg
   have G2 : tau aq 2 = .string (tx ([40] ++ A1 ++ [44] ++ A2 ++ [44] ++ A3 ++ [41])) := hg 15 (by decide)
   have haq : aq = ⟨#[tau aq 0, tau aq 1, tau aq 2, tau aq 3, tau aq 4, tau aq 5, tau aq 6, tau aq 7, tau aq 8, tau aq 9, tau aq 10, tau aq 11, tau aq 12, tau aq 13, tau aq 14, tau aq 15, tau aq 16, tau aq 17], []⟩ := by
    obtain ⟨tq, dq⟩ := aq
    have h5 := arr_eq (show tq.size = 18 from hw)
    have h6 : dq = [] := hd
    subst h6
    exact congrArg (fun z => Act.mk z []) h5
   show K2 aq wx
   rw [haq, hf 0, hf 1, G2]
   clear haq hf hd hw
   try dsimp only
   refine h3 _ _ ?_
   go_meet
   refine ⟨rfl, Ri3.m ?_ ?_ ?_, hS.below⟩
   all_goals first | exact hS.cells (_, _) (by simp) | exact (hS.free _ (by simp)).2
 obtain ⟨rfl, ⟨c00, c01, c02, z0⟩, hb0⟩ := hcut
 go_wp2
 go_ret
 exact ⟨by rw [unhide HE]; rfl, hb0⟩

set_option maxRecDepth 100000 in
set_option maxHeartbeats 4000000 in
theorem foText_a (a b c : Int) (w : World) (h0 : -9223372036854775807 ≤ a ∧ a ≤ 9223372036854775807) (h1 : -9223372036854775807 ≤ b ∧ b ≤ 9223372036854775807) (h2 : -9223372036854775807 ≤ c ∧ c ≤ 9223372036854775807) : Calls Tryz.prog 31 #[.agg #[.int .i64 a, .int .i64 b, .int .i64 c]] w fun e w' => e = .returned (.string (tx (fmT a b c))) ∧ Below w.heap.size w w' := by
 skip
 skip
 have l1 := itoa_len (x := a) ⟨by omega, by omega⟩
 have l2 := itoa_len (x := b) ⟨by omega, by omega⟩
 have l3 := itoa_len (x := c) ⟨by omega, by omega⟩
 have HF : Hid (fmT a b c = [40] ++ Lib.itoa a ++ [44] ++ Lib.itoa b ++ [44] ++ Lib.itoa c ++ [41]) := hide rfl
 obtain ⟨A1, hA1⟩ : ∃ l, Lib.itoa a = l := ⟨_, rfl⟩
 obtain ⟨A2, hA2⟩ : ∃ l, Lib.itoa b = l := ⟨_, rfl⟩
 obtain ⟨A3, hA3⟩ : ∃ l, Lib.itoa c = l := ⟨_, rfl⟩
 have HE : Hid (fmT a b c = [40] ++ A1 ++ [44] ++ A2 ++ [44] ++ A3 ++ [41]) := hide (by rw [unhide HF, hA1, hA2, hA3])
 rw [hA1] at l1
 rw [hA2] at l2
 rw [hA3] at l3
 have HA1 := hide hA1
 have HA2 := hide hA2
 have HA3 := hide hA3
 clear hA1 hA2 hA3 HF
 go_enter Tryz.func31, Tryz.ntmps31
 go_upto_region 1 with fail
 go_cut [2] (fun s2 wx => s2 = .string (tx ([40] ++ A1 ++ [44] ++ A2 ++ [44] ++ A3 ++ [41])) ∧ Ri3 wx w.heap.size a b c ∧ Below w.heap.size w wx)
 case first =>
  have h1 := trivial
  rename_i K2 h2 h3
  refine region_n0 (by kernel_rfl) (fun j => #[3,4,5,6,7,8,9,10,11,12,13,14,15,16,17,2].getD j 0) (fun j => Kd.ok ((fun j => match j with | 0 => Kd.val (.pointer (some ⟨w.heap.size, 0, none⟩)) | 1 => Kd.val (.int .i64 a) | 2 => Kd.val (.string (tx A1)) | 3 => Kd.val (.string (tx ([40] ++ A1))) | 4 => Kd.val (.string (tx ([40] ++ A1 ++ [44]))) | 5 => Kd.val (.pointer (some ⟨w.heap.size, 1, none⟩)) | 6 => Kd.val (.int .i64 b) | 7 => Kd.val (.string (tx A2)) | 8 => Kd.val (.string (tx ([40] ++ A1 ++ [44] ++ A2))) | 9 => Kd.val (.string (tx ([40] ++ A1 ++ [44] ++ A2 ++ [44]))) | 10 => Kd.val (.pointer (some ⟨w.heap.size, 2, none⟩)) | 11 => Kd.val (.int .i64 c) | 12 => Kd.val (.string (tx A3)) | 13 => Kd.val (.string (tx ([40] ++ A1 ++ [44] ++ A2 ++ [44] ++ A3))) | 14 => Kd.val (.string (tx ([40] ++ A1 ++ [44] ++ A2 ++ [44] ++ A3 ++ [41]))) | 15 => Kd.val (.string (tx ([40] ++ A1 ++ [44] ++ A2 ++ [44] ++ A3 ++ [41]))) | _ => Kd.any : Nat → Kd) j)) (Sy w (w.heap.size + 1) [(⟨w.heap.size, 0, none⟩, .int .i64 a), (⟨w.heap.size, 1, none⟩, .int .i64 b), (⟨w.heap.size, 2, none⟩, .int .i64 c)] []) (by kernel_rfl) (by kernel_rfl) ?_ ?_ ?_ ?_
  ·intro j hj
   have hj2 : j < 16 := hj
   have : ∀ j, j < 16 → (#[3,4,5,6,7,8,9,10,11,12,13,14,15,16,17,2] : Array Nat).getD j 0 < 18 := by decide
   exact this j hj2
  ·refine Sy.drew (Sy.mk_of ?_ ?_ ?_ ?_)
   ·first | rfl | (simp; done) | (simp; omega)
   ·intro c hc
    simp only [List.mem_cons, List.not_mem_nil, or_false] at hc
    rcases hc with rfl | rfl | rfl <;> exact byCT
   ·intro p hp; cases hp
   ·(repeat' first | with_reducible (first | exact Below.refl _ _ | assumption | refine gr_alloc ?_ _ | refine below_drewN ?_ _ | refine below_drew ?_ | refine gr_call ?_ (by assumption) | refine Below.setCell ?_ ?_ _) | go_size | omega | (simp; omega))
  ·clear h1 h2 h3
   refine ⟨?r3x0, ?r3x1, ?r3x2, ?r3x3, ?r3x4, ?r3x5, ?r3x6, ?r3x7, ?r3x8, ?r3x9, ?r3x10, ?r3x11, ?r3x12, ?r3x13, ?r3x14, ?r3x15, trivial⟩
   all_goals intro _ aq wx Kq hf hS hdep ev1 ev2 hK
   case' r3x0 =>
    have F1 : aq.eval (.tmp 1) = .pointer (some ⟨w.heap.size, 0, none⟩) := hf 1
   case' r3x1 =>
    have D0 : aq.eval (.tmp 3) = _ := hdep 0
    have c0 := hS.cells (⟨w.heap.size, 0, none⟩, .int .i64 a) (by simp)
   case' r3x2 =>
    have D1 : aq.eval (.tmp 4) = _ := hdep 1
   case' r3x3 =>
    have D2 : aq.eval (.tmp 5) = _ := hdep 2
   case' r3x4 =>
    have D3 : aq.eval (.tmp 6) = _ := hdep 3
   case' r3x5 =>
    have F1 : aq.eval (.tmp 1) = .pointer (some ⟨w.heap.size, 0, none⟩) := hf 1
   case' r3x6 =>
    have D5 : aq.eval (.tmp 8) = _ := hdep 5
    have c0 := hS.cells (⟨w.heap.size, 1, none⟩, .int .i64 b) (by simp)
   case' r3x7 =>
    have D6 : aq.eval (.tmp 9) = _ := hdep 6
   case' r3x8 =>
    have D4 : aq.eval (.tmp 7) = _ := hdep 4
    have D7 : aq.eval (.tmp 10) = _ := hdep 7
   case' r3x9 =>
    have D8 : aq.eval (.tmp 11) = _ := hdep 8
   case' r3x10 =>
    have F1 : aq.eval (.tmp 1) = .pointer (some ⟨w.heap.size, 0, none⟩) := hf 1
   case' r3x11 =>
    have D10 : aq.eval (.tmp 13) = _ := hdep 10
    have c0 := hS.cells (⟨w.heap.size, 2, none⟩, .int .i64 c) (by simp)
   case' r3x12 =>
    have D11 : aq.eval (.tmp 14) = _ := hdep 11
   case' r3x13 =>
    have D9 : aq.eval (.tmp 12) = _ := hdep 9
    have D12 : aq.eval (.tmp 15) = _ := hdep 12
   case' r3x14 =>
    have D13 : aq.eval (.tmp 16) = _ := hdep 13
   case' r3x15 =>
    have D14 : aq.eval (.tmp 17) = _ := hdep 14
   all_goals (clear hf hdep; unfold Oper.wp; generalize Act.eval _ = ev at *; go_simp)
   case r3x2 =>
    refine ((l1Int_e a A1 _ (by omega) (by omega) (unhide HA1))).mono ?_
    rintro e w2 ⟨rfl, hb⟩
    refine hK _ _ (hS.call hb) ?_ (fun j u _ h => Kd.ok_below hb h)
    rw [if_pos (by rfl)]
    show (_ : Value) = _
    first | rfl | (refine congrArg (Value.int .i64) ?_; first | rfl | exact int_in (by omega) | exact quo_in (by omega) (by omega) (by omega) | exact rem_in (by omega) (by omega) | omega) | (simp; done) | (simp [*]; done) | exact vtx _ _ | exact (vtx _ _).trans (congrArg (fun l => Value.string (tx l)) (by simp))
   case' r3x3 =>
    rw [if_neg (by simp only [tx_size, ByteArray.size_mk', List.size_toArray, List.length_append, List.length_cons, List.length_nil]; omega), Oper.upon_value]
   case' r3x4 =>
    rw [if_neg (by simp only [tx_size, ByteArray.size_mk', List.size_toArray, List.length_append, List.length_cons, List.length_nil]; omega), Oper.upon_value]
   case r3x7 =>
    refine ((l1Int_e b A2 _ (by omega) (by omega) (unhide HA2))).mono ?_
    rintro e w2 ⟨rfl, hb⟩
    refine hK _ _ (hS.call hb) ?_ (fun j u _ h => Kd.ok_below hb h)
    rw [if_pos (by rfl)]
    show (_ : Value) = _
    first | rfl | (refine congrArg (Value.int .i64) ?_; first | rfl | exact int_in (by omega) | exact quo_in (by omega) (by omega) (by omega) | exact rem_in (by omega) (by omega) | omega) | (simp; done) | (simp [*]; done) | exact vtx _ _ | exact (vtx _ _).trans (congrArg (fun l => Value.string (tx l)) (by simp))
   case' r3x8 =>
    rw [if_neg (by simp only [tx_size, ByteArray.size_mk', List.size_toArray, List.length_append, List.length_cons, List.length_nil]; omega), Oper.upon_value]
   case' r3x9 =>
    rw [if_neg (by simp only [tx_size, ByteArray.size_mk', List.size_toArray, List.length_append, List.length_cons, List.length_nil]; omega), Oper.upon_value]
   case r3x12 =>
    refine ((l1Int_e c A3 _ (by omega) (by omega) (unhide HA3))).mono ?_
    rintro e w2 ⟨rfl, hb⟩
    refine hK _ _ (hS.call hb) ?_ (fun j u _ h => Kd.ok_below hb h)
    rw [if_pos (by rfl)]
    show (_ : Value) = _
    first | rfl | (refine congrArg (Value.int .i64) ?_; first | rfl | exact int_in (by omega) | exact quo_in (by omega) (by omega) (by omega) | exact rem_in (by omega) (by omega) | omega) | (simp; done) | (simp [*]; done) | exact vtx _ _ | exact (vtx _ _).trans (congrArg (fun l => Value.string (tx l)) (by simp))
   case' r3x13 =>
    rw [if_neg (by simp only [tx_size, ByteArray.size_mk', List.size_toArray, List.length_append, List.length_cons, List.length_nil]; omega), Oper.upon_value]
   case' r3x14 =>
    rw [if_neg (by simp only [tx_size, ByteArray.size_mk', List.size_toArray, List.length_append, List.length_cons, List.length_nil]; omega), Oper.upon_value]
   all_goals (refine hK _ _ hS ?_ (fun j u _ h => h); rw [if_pos (by rfl)]; show (_ : Value) = _; (first | rfl | (refine congrArg (Value.int .i64) ?_; first | rfl | exact int_in (by omega) | exact quo_in (by omega) (by omega) (by omega) | exact rem_in (by omega) (by omega) | omega) | (simp; done) | (simp [*]; done) | exact vtx _ _ | exact (vtx _ _).trans (congrArg (fun l => Value.string (tx l)) (by simp))))
  ·intro aq wx hd hw hf hS hg
   have G2 : tau aq 2 = .string (tx ([40] ++ A1 ++ [44] ++ A2 ++ [44] ++ A3 ++ [41])) := hg 15 (by decide)
   have haq : aq = ⟨#[tau aq 0, tau aq 1, tau aq 2, tau aq 3, tau aq 4, tau aq 5, tau aq 6, tau aq 7, tau aq 8, tau aq 9, tau aq 10, tau aq 11, tau aq 12, tau aq 13, tau aq 14, tau aq 15, tau aq 16, tau aq 17], []⟩ := by
    obtain ⟨tq, dq⟩ := aq
    have h5 := arr_eq (show tq.size = 18 from hw)
    have h6 : dq = [] := hd
    subst h6
    exact congrArg (fun z => Act.mk z []) h5
   show K2 aq wx
   rw [haq, hf 0, hf 1, G2]
   clear haq hf hd hw
   try dsimp only
   refine h3 _ _ ?_
   go_meet
   refine ⟨rfl, Ri3.m ?_ ?_ ?_, hS.below⟩
   all_goals first | exact hS.cells (_, _) (by simp) | exact (hS.free _ (by simp)).2
 obtain ⟨rfl, ⟨c00, c01, c02, z0⟩, hb0⟩ := hcut
 go_wp2
 go_ret
 exact ⟨by rw [unhide HE]; rfl, hb0⟩
end Go.Proofs.YtfoofbcmaljmoaaGreatDoor
