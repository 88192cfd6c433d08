/- The texts of commands, the reference's side. -/
import Derived.Test.YtfoofbcmaljmoaaGreatDoorCtp
import Derived.Test.YtfoofbcmaljmoaaGreatDoorRtx
namespace Go.Proofs.YtfoofbcmaljmoaaGreatDoor
open Go.RowKit
set_option linter.unusedVariables false
set_option linter.unusedSimpArgs false
attribute [local go_sem] q2 q3 q4 q5 q6 q7 q8 q9 q10 q11 q12

set_option maxRecDepth 100000 in
theorem lgWords_a (w : World) : Calls Tryz.prog 15 #[] w fun e w' => ∃ v, e = .returned v ∧ SlcS kws6 w' v ∧ Below w.heap.size w w' := by
 go_enter Tryz.func15, Tryz.ntmps15
 go_wp2
 go_ret
 refine ⟨_, rfl, ⟨_, rfl, fun j hj => ?_⟩, byGG⟩
 rcases (show j = 0 ∨ j = 1 ∨ j = 2 ∨ j = 3 ∨ j = 4 ∨ j = 5 by have : kws6.length = 6 := rfl; omega) with rfl | rfl | rfl | rfl | rfl | rfl <;> (first | (go_simp; done) | (go_simp; rfl) | rfl)

set_option maxRecDepth 100000 in
set_option maxHeartbeats 8000000 in
theorem lgText_l (m : Nat) (n a b : List UInt8) (x y z : Int) (w : World) (hv : cmB ⟨(m : Int), tx n, tx a, tx b, (x, y, z)⟩ = true) :
  Calls Tryz.prog 19 #[cmv ⟨(m : Int), tx n, tx a, tx b, (x, y, z)⟩] w fun e w' => e = .returned (.string (tx (cmT ⟨(m : Int), tx n, tx a, tx b, (x, y, z)⟩))) ∧ Below w.heap.size w w' := by
 obtain ⟨k1, k5, ln, la8, lb8, hff⟩ := cm_valid hv
 simp only [tx_size] at k1 k5 ln la8 lb8 hff
 have hm1 : 1 ≤ m := by omega
 have hm6 : m < 6 := by omega
 have lk := kw_len (m : Int)
 obtain ⟨KW, hKW⟩ : ∃ l, kwB (m : Int) = l := ⟨_, rfl⟩
 rw [hKW] at lk
 have HK2 := hide hKW
 have HKA := hide ((kws6_at hm1 hm6).trans (by rw [hKW]))
 clear hv hKW
 go_enter Tryz.func19, Tryz.ntmps19
 go_upto_region 1 with fail
 go_cut [3] (fun s3 wx => s3 = .string (tx (KW ++ [32] ++ n)) ∧ wx.cell? ⟨w.heap.size, 0, none⟩ = some (.int .i64 (m : Int)) ∧ wx.cell? ⟨w.heap.size, 1, none⟩ = some (.string (tx n)) ∧ wx.cell? ⟨w.heap.size, 2, none⟩ = some (.string (tx a)) ∧ wx.cell? ⟨w.heap.size, 3, none⟩ = some (.string (tx b)) ∧ wx.cell? ⟨w.heap.size, 4, none⟩ = some (.int .i64 x) ∧ wx.cell? ⟨w.heap.size, 5, none⟩ = some (.int .i64 y) ∧ wx.cell? ⟨w.heap.size, 6, none⟩ = some (.int .i64 z) ∧ Below w.heap.size w wx)
 case first =>
  have h1 := trivial
  rename_i K2 h2 h3
  let hgf9 : Nat → World → Value → Prop := fun j => match j with | 0 => (SlcS kws6) | 1 => Kd.ok (Kd.val (.pointer (some ⟨w.heap.size, 0, none⟩))) | 2 => Kd.ok (Kd.val (.int .i64 ((m : Int)))) | 3 => (PtrTo (.string (tx KW))) | 4 => Kd.ok (Kd.val (.string (tx KW))) | 5 => Kd.ok (Kd.val (.string (tx (KW ++ [32])))) | 6 => Kd.ok (Kd.val (.pointer (some ⟨w.heap.size, 1, none⟩))) | 7 => Kd.ok (Kd.val (.string (tx n))) | 8 => Kd.ok (Kd.val (.string (tx (KW ++ [32] ++ n)))) | 9 => Kd.ok (Kd.val (.string (tx (KW ++ [32] ++ n)))) | _ => Kd.ok Kd.any
  have hst9 : ∀ j, StB (hgf9 j) := fun j => match j with | 0 => (SlcS.st : StB (SlcS kws6)) | 1 => (Kd.st (Kd.val (.pointer (some ⟨w.heap.size, 0, none⟩))) : StB (Kd.ok (Kd.val (.pointer (some ⟨w.heap.size, 0, none⟩))))) | 2 => (Kd.st (Kd.val (.int .i64 ((m : Int)))) : StB (Kd.ok (Kd.val (.int .i64 ((m : Int)))))) | 3 => (PtrTo.st : StB (PtrTo (.string (tx KW)))) | 4 => (Kd.st (Kd.val (.string (tx KW))) : StB (Kd.ok (Kd.val (.string (tx KW))))) | 5 => (Kd.st (Kd.val (.string (tx (KW ++ [32])))) : StB (Kd.ok (Kd.val (.string (tx (KW ++ [32])))))) | 6 => (Kd.st (Kd.val (.pointer (some ⟨w.heap.size, 1, none⟩))) : StB (Kd.ok (Kd.val (.pointer (some ⟨w.heap.size, 1, none⟩))))) | 7 => (Kd.st (Kd.val (.string (tx n))) : StB (Kd.ok (Kd.val (.string (tx n))))) | 8 => (Kd.st (Kd.val (.string (tx (KW ++ [32] ++ n)))) : StB (Kd.ok (Kd.val (.string (tx (KW ++ [32] ++ n)))))) | 9 => (Kd.st (Kd.val (.string (tx (KW ++ [32] ++ n)))) : StB (Kd.ok (Kd.val (.string (tx (KW ++ [32] ++ n)))))) | j + 10 => (Kd.st Kd.any : StB (Kd.ok Kd.any))
  refine region_n0 (by kernel_rfl) (fun j => #[4,5,6,7,8,9,10,11,12,3].getD j 0) (hgf9) (Sy w (w.heap.size + 1) [(⟨w.heap.size, 0, none⟩, .int .i64 (m : Int)), (⟨w.heap.size, 1, none⟩, .string (tx n)), (⟨w.heap.size, 2, none⟩, .string (tx a)), (⟨w.heap.size, 3, none⟩, .string (tx b)), (⟨w.heap.size, 4, none⟩, .int .i64 x), (⟨w.heap.size, 5, none⟩, .int .i64 y), (⟨w.heap.size, 6, none⟩, .int .i64 z)] []) (by kernel_rfl) (by kernel_rfl) ?_ ?_ ?_ ?_
  ·intro j hj
   have hj2 : j < 10 := hj
   have : ∀ j, j < 10 → (#[4,5,6,7,8,9,10,11,12,3] : Array Nat).getD j 0 < 39 := by decide
   exact this j hj2
  ·refine Sy.drew (Sy.mk_of ?_ ?_ ?_ ?_)
   ·first | rfl | (simp; done) | (simp; omega)
   ·intro c hc
    simp only [List.mem_cons, List.not_mem_nil, or_false] at hc
    rcases hc with rfl | rfl | rfl | rfl | rfl | rfl | rfl <;> exact byCT
   ·intro p hp; cases hp
   ·(repeat' first | with_reducible (first | exact Below.refl _ _ | assumption | refine gr_alloc ?_ _ | refine below_drewN ?_ _ | refine below_drew ?_ | refine gr_call ?_ (by assumption) | refine Below.setCell ?_ ?_ _) | go_size | omega | (simp; omega))
  ·clear h1 h2 h3
   refine ⟨?r5x0, ?r5x1, ?r5x2, ?r5x3, ?r5x4, ?r5x5, ?r5x6, ?r5x7, ?r5x8, ?r5x9, trivial⟩
   all_goals intro _ aq wx Kq hf hS hdep ev1 ev2 hK
   case' r5x1 =>
    have F1 : aq.eval (.tmp 1) = .pointer (some ⟨w.heap.size, 0, none⟩) := hf 1
   case' r5x2 =>
    have D1 : aq.eval (.tmp 5) = _ := hdep 1
    have c0 := hS.cells (⟨w.heap.size, 0, none⟩, .int .i64 (m : Int)) (by simp)
   case' r5x3 =>
    obtain ⟨gs4, DP4, hcs4⟩ := hdep 0
    change aq.eval (.tmp 4) = _ at DP4
    have D2 : aq.eval (.tmp 6) = _ := hdep 2
   case' r5x4 =>
    obtain ⟨ga, DP7, hca⟩ := hdep 3
    change aq.eval (.tmp 7) = _ at DP7
   case' r5x5 =>
    have D4 : aq.eval (.tmp 8) = _ := hdep 4
   case' r5x6 =>
    have F1 : aq.eval (.tmp 1) = .pointer (some ⟨w.heap.size, 0, none⟩) := hf 1
   case' r5x7 =>
    have D6 : aq.eval (.tmp 10) = _ := hdep 6
    have c0 := hS.cells (⟨w.heap.size, 1, none⟩, .string (tx n)) (by simp)
   case' r5x8 =>
    have D5 : aq.eval (.tmp 9) = _ := hdep 5
    have D7 : aq.eval (.tmp 11) = _ := hdep 7
   case' r5x9 =>
    have D8 : aq.eval (.tmp 12) = _ := hdep 8
   all_goals (clear hf hdep; unfold Oper.wp; generalize Act.eval _ = ev at *; go_simp)
   case r5x0 =>
    refine ((lgWords_a _)).mono ?_
    rintro e w2 ⟨v9, rfl, hpr, hb⟩
    refine hK _ _ (hS.call hb) ?_ (fun j u _ h => hst9 j _ _ _ hb h)
    rw [if_pos (by rfl)]
    exact hpr
   case r5x3 =>
    rw [if_pos (by have : kws6.length = 6 := rfl; omega), Oper.upon_value]
    refine hK _ _ hS ?_ (fun j u _ h => h)
    rw [if_pos (by rfl)]
    exact ⟨_, rfl, by rw [hcs4 m (by have : kws6.length = 6 := rfl; omega), unhide HKA]⟩
   case' r5x5 =>
    rw [if_neg (by simp only [tx_size, ByteArray.size_mk', List.size_toArray, List.length_append, List.length_cons, List.length_nil]; omega), Oper.upon_value]
   case' r5x8 =>
    rw [if_neg (by simp only [tx_size, ByteArray.size_mk', List.size_toArray, List.length_append, List.length_cons, List.length_nil]; omega), Oper.upon_value]
   all_goals (refine hK _ _ hS ?_ (fun j u _ h => h); rw [if_pos (by rfl)]; show (_ : Value) = _; (first | rfl | (refine congrArg (Value.int .i64) ?_; first | rfl | exact int_in (by omega) | exact quo_in (by omega) (by omega) (by omega) | exact rem_in (by omega) (by omega) | omega) | (simp; done) | (simp [*]; done) | exact vtx _ _ | exact (vtx _ _).trans (congrArg (fun l => Value.string (tx l)) (by simp))))
  ·intro aq wx hd hw hf hS hg
   have G3 : tau aq 3 = .string (tx (KW ++ [32] ++ n)) := hg 9 (by decide)
   have haq : aq = ⟨#[tau aq 0, tau aq 1, tau aq 2, tau aq 3, tau aq 4, tau aq 5, tau aq 6, tau aq 7, tau aq 8, tau aq 9, tau aq 10, tau aq 11, tau aq 12, tau aq 13, tau aq 14, tau aq 15, tau aq 16, tau aq 17, tau aq 18, tau aq 19, tau aq 20, tau aq 21, tau aq 22, tau aq 23, tau aq 24, tau aq 25, tau aq 26, tau aq 27, tau aq 28, tau aq 29, tau aq 30, tau aq 31, tau aq 32, tau aq 33, tau aq 34, tau aq 35, tau aq 36, tau aq 37, tau aq 38], []⟩ := by
    obtain ⟨tq, dq⟩ := aq
    have h5 := arr_eq (show tq.size = 39 from hw)
    have h6 : dq = [] := hd
    subst h6
    exact congrArg (fun z => Act.mk z []) h5
   show K2 aq wx
   rw [haq, hf 0, hf 1, hf 2, hf 13, hf 14, hf 15, hf 16, hf 17, hf 18, hf 19, hf 20, hf 21, hf 22, hf 23, hf 24, hf 25, hf 26, hf 27, hf 28, hf 29, hf 30, hf 31, hf 32, hf 33, hf 34, hf 35, hf 36, hf 37, hf 38, G3]
   clear haq hf hd hw
   try dsimp only
   refine h3 _ _ ?_
   go_meet
   refine ⟨rfl, ?_, ?_, ?_, ?_, ?_, ?_, ?_, hS.below⟩
   all_goals first | exact hS.cells (_, _) (by simp) | exact (hS.free _ (by simp)).2
 try clear c00 c01 c02 c03 c04 c05 c06
 obtain ⟨rfl, c00, c01, c02, c03, c04, c05, c06, hb0⟩ := hcut
 have z0 := World.block_lt_of_cell? _ _ c00
 change w.heap.size < wc.heap.size at z0
 skip
 obtain ⟨O1, hO1⟩ : ∃ l, KW ++ [32] ++ n = l := ⟨_, rfl⟩
 have lo1 : O1.length ≤ 13 := by rw [← hO1]; simp only [List.length_append, List.length_cons, List.length_nil]; omega
 first | rw [hO1] | (have hO2 : KW ++ 32 :: n = O1 := by rw [← hO1]; simp; rw [hO2])
 have HO1 := hide hO1
 clear hO1
 rcases hff with ⟨hf, hci⟩ | ⟨hf, hze⟩
 ·obtain ⟨x0, x1, y1, z1⟩ := ci_of hci
  simp only [] at x0 x1 y1 z1
  have lf := fmT_len (a := x) (b := y) (c := z) ⟨by omega, by omega⟩ ⟨by omega, by omega⟩ ⟨by omega, by omega⟩
  obtain ⟨FL, hFL⟩ : ∃ l, fmT x y z = l := ⟨_, rfl⟩
  have HI : ∀ W, Calls Tryz.prog 31 #[.agg #[.int .i64 x, .int .i64 y, .int .i64 z]] W fun e w' => e = .returned (.string (tx FL)) ∧ Below W.heap.size W w' := fun W => by rw [← hFL]; exact foText_a x y z W ⟨by omega, by omega⟩ ⟨by omega, by omega⟩ ⟨by omega, by omega⟩
  rw [hFL] at lf
  have HI2 := hide HI
  have HFL := hide hFL
  have HF := hide hf
  clear HI hFL hf hci x0 x1 y1 z1
  rcases a with _ | ⟨ua, la⟩
  ·rcases b with _ | ⟨ub, lb⟩
   ·skip
    have ea := tx_nil_em
    have eb := tx_nil_em
    have h5 : ¬ (1 + (tx FL).size > 9223372036854775807) := by rw [tx_size]; omega
    have h6 : ¬ ((tx O1).size + (1 + (tx FL).size) > 9223372036854775807) := by simp only [tx_size, List.length_cons]; omega
    have HE : Hid (tx (cmT ⟨(m : Int), tx n, tx [], tx [], (x, y, z)⟩) = (tx O1 ++ (tx [32] ++ tx FL))) := hide (by
     have hk := (unhide HF)
     try simp only [tx_app]
     unfold cmT optL
     rw [hk, ← unhide HO1, unhide HK2, unhide HFL]
     simp [tx_list])
    go_wp2_with fail
    refine (hasForm_a _ _).mono ?_
    rintro e w' ⟨rfl, rfl⟩
    rw [unhide HF]
    go_wp2_with fail
    refine ((unhide HI2) _).mono ?_
    rintro e w2 ⟨rfl, hb2⟩
    go_wp2
    go_ret
    exact ⟨by rw [unhide HE]; rfl, hb0.trans (hb2.mono hb0.size)⟩
   ·simp only [List.length_cons] at lb8
    have ea := tx_nil_em
    have h3 : ¬ (1 + (tx (ub :: lb)).size > 9223372036854775807) := by simp only [tx_size, List.length_cons]; omega
    have h4 : ¬ ((tx O1).size + (1 + (tx (ub :: lb)).size) > 9223372036854775807) := by simp only [tx_size, List.length_cons]; omega
    have eb := tx_cons_ne ub lb
    have h5 : ¬ (1 + (tx FL).size > 9223372036854775807) := by rw [tx_size]; omega
    have h6 : ¬ (((tx O1).size + (1 + (tx (ub :: lb)).size)) + (1 + (tx FL).size) > 9223372036854775807) := by simp only [tx_size, List.length_cons]; omega
    have HE : Hid (tx (cmT ⟨(m : Int), tx n, tx [], tx (ub :: lb), (x, y, z)⟩) = ((tx O1 ++ (tx [32] ++ tx (ub :: lb))) ++ (tx [32] ++ tx FL))) := hide (by
     have hk := (unhide HF)
     try simp only [tx_app]
     unfold cmT optL
     rw [hk, ← unhide HO1, unhide HK2, unhide HFL]
     simp [tx_list])
    go_wp2_with fail
    refine (hasForm_a _ _).mono ?_
    rintro e w' ⟨rfl, rfl⟩
    rw [unhide HF]
    go_wp2_with fail
    refine ((unhide HI2) _).mono ?_
    rintro e w2 ⟨rfl, hb2⟩
    go_wp2
    go_ret
    exact ⟨by rw [unhide HE]; rfl, hb0.trans (hb2.mono hb0.size)⟩
  ·rcases b with _ | ⟨ub, lb⟩
   all_goals simp only [List.length_cons] at la8
   ·skip
    have h1 : ¬ (1 + (tx (ua :: la)).size > 9223372036854775807) := by simp only [tx_size, List.length_cons]; omega
    have h2 : ¬ ((tx O1).size + (1 + (tx (ua :: la)).size) > 9223372036854775807) := by simp only [tx_size, List.length_cons]; omega
    have ea := tx_cons_ne ua la
    have eb := tx_nil_em
    have h5 : ¬ (1 + (tx FL).size > 9223372036854775807) := by rw [tx_size]; omega
    have h6 : ¬ (((tx O1).size + (1 + (tx (ua :: la)).size)) + (1 + (tx FL).size) > 9223372036854775807) := by simp only [tx_size, List.length_cons]; omega
    have HE : Hid (tx (cmT ⟨(m : Int), tx n, tx (ua :: la), tx [], (x, y, z)⟩) = ((tx O1 ++ (tx [32] ++ tx (ua :: la))) ++ (tx [32] ++ tx FL))) := hide (by
     have hk := (unhide HF)
     try simp only [tx_app]
     unfold cmT optL
     rw [hk, ← unhide HO1, unhide HK2, unhide HFL]
     simp [tx_list])
    go_wp2_with fail
    refine (hasForm_a _ _).mono ?_
    rintro e w' ⟨rfl, rfl⟩
    rw [unhide HF]
    go_wp2_with fail
    refine ((unhide HI2) _).mono ?_
    rintro e w2 ⟨rfl, hb2⟩
    go_wp2
    go_ret
    exact ⟨by rw [unhide HE]; rfl, hb0.trans (hb2.mono hb0.size)⟩
   ·simp only [List.length_cons] at lb8
    have h1 : ¬ (1 + (tx (ua :: la)).size > 9223372036854775807) := by simp only [tx_size, List.length_cons]; omega
    have h2 : ¬ ((tx O1).size + (1 + (tx (ua :: la)).size) > 9223372036854775807) := by simp only [tx_size, List.length_cons]; omega
    have ea := tx_cons_ne ua la
    have h3 : ¬ (1 + (tx (ub :: lb)).size > 9223372036854775807) := by simp only [tx_size, List.length_cons]; omega
    have h4 : ¬ (((tx O1).size + (1 + (tx (ua :: la)).size)) + (1 + (tx (ub :: lb)).size) > 9223372036854775807) := by simp only [tx_size, List.length_cons]; omega
    have eb := tx_cons_ne ub lb
    have h5 : ¬ (1 + (tx FL).size > 9223372036854775807) := by rw [tx_size]; omega
    have h6 : ¬ ((((tx O1).size + (1 + (tx (ua :: la)).size)) + (1 + (tx (ub :: lb)).size)) + (1 + (tx FL).size) > 9223372036854775807) := by simp only [tx_size, List.length_cons]; omega
    have HE : Hid (tx (cmT ⟨(m : Int), tx n, tx (ua :: la), tx (ub :: lb), (x, y, z)⟩) = (((tx O1 ++ (tx [32] ++ tx (ua :: la))) ++ (tx [32] ++ tx (ub :: lb))) ++ (tx [32] ++ tx FL))) := hide (by
     have hk := (unhide HF)
     try simp only [tx_app]
     unfold cmT optL
     rw [hk, ← unhide HO1, unhide HK2, unhide HFL]
     simp [tx_list])
    go_wp2_with fail
    refine (hasForm_a _ _).mono ?_
    rintro e w' ⟨rfl, rfl⟩
    rw [unhide HF]
    go_wp2_with fail
    refine ((unhide HI2) _).mono ?_
    rintro e w2 ⟨rfl, hb2⟩
    go_wp2
    go_ret
    exact ⟨by rw [unhide HE]; rfl, hb0.trans (hb2.mono hb0.size)⟩
 ·obtain ⟨rfl, rfl, rfl⟩ := ze_of hze
  have HF := hide hf
  clear hf hze
  rcases a with _ | ⟨ua, la⟩
  ·rcases b with _ | ⟨ub, lb⟩
   ·skip
    have ea := tx_nil_em
    have eb := tx_nil_em
    have HE : Hid (tx (cmT ⟨(m : Int), tx n, tx [], tx [], (0, 0, 0)⟩) = tx O1) := hide (by
     have hk := (unhide HF)
     try simp only [tx_app]
     unfold cmT optL
     rw [hk, ← unhide HO1, unhide HK2]
     simp [tx_list])
    go_wp2_with fail
    refine (hasForm_a _ _).mono ?_
    rintro e w' ⟨rfl, rfl⟩
    rw [unhide HF]
    go_wp2
    go_ret
    exact ⟨by rw [unhide HE]; rfl, hb0⟩
   ·simp only [List.length_cons] at lb8
    have ea := tx_nil_em
    have h3 : ¬ (1 + (tx (ub :: lb)).size > 9223372036854775807) := by simp only [tx_size, List.length_cons]; omega
    have h4 : ¬ ((tx O1).size + (1 + (tx (ub :: lb)).size) > 9223372036854775807) := by simp only [tx_size, List.length_cons]; omega
    have eb := tx_cons_ne ub lb
    have HE : Hid (tx (cmT ⟨(m : Int), tx n, tx [], tx (ub :: lb), (0, 0, 0)⟩) = (tx O1 ++ (tx [32] ++ tx (ub :: lb)))) := hide (by
     have hk := (unhide HF)
     try simp only [tx_app]
     unfold cmT optL
     rw [hk, ← unhide HO1, unhide HK2]
     simp [tx_list])
    go_wp2_with fail
    refine (hasForm_a _ _).mono ?_
    rintro e w' ⟨rfl, rfl⟩
    rw [unhide HF]
    go_wp2
    go_ret
    exact ⟨by rw [unhide HE]; rfl, hb0⟩
  ·rcases b with _ | ⟨ub, lb⟩
   all_goals simp only [List.length_cons] at la8
   ·skip
    have h1 : ¬ (1 + (tx (ua :: la)).size > 9223372036854775807) := by simp only [tx_size, List.length_cons]; omega
    have h2 : ¬ ((tx O1).size + (1 + (tx (ua :: la)).size) > 9223372036854775807) := by simp only [tx_size, List.length_cons]; omega
    have ea := tx_cons_ne ua la
    have eb := tx_nil_em
    have HE : Hid (tx (cmT ⟨(m : Int), tx n, tx (ua :: la), tx [], (0, 0, 0)⟩) = (tx O1 ++ (tx [32] ++ tx (ua :: la)))) := hide (by
     have hk := (unhide HF)
     try simp only [tx_app]
     unfold cmT optL
     rw [hk, ← unhide HO1, unhide HK2]
     simp [tx_list])
    go_wp2_with fail
    refine (hasForm_a _ _).mono ?_
    rintro e w' ⟨rfl, rfl⟩
    rw [unhide HF]
    go_wp2
    go_ret
    exact ⟨by rw [unhide HE]; rfl, hb0⟩
   ·simp only [List.length_cons] at lb8
    have h1 : ¬ (1 + (tx (ua :: la)).size > 9223372036854775807) := by simp only [tx_size, List.length_cons]; omega
    have h2 : ¬ ((tx O1).size + (1 + (tx (ua :: la)).size) > 9223372036854775807) := by simp only [tx_size, List.length_cons]; omega
    have ea := tx_cons_ne ua la
    have h3 : ¬ (1 + (tx (ub :: lb)).size > 9223372036854775807) := by simp only [tx_size, List.length_cons]; omega
    have h4 : ¬ (((tx O1).size + (1 + (tx (ua :: la)).size)) + (1 + (tx (ub :: lb)).size) > 9223372036854775807) := by simp only [tx_size, List.length_cons]; omega
    have eb := tx_cons_ne ub lb
    have HE : Hid (tx (cmT ⟨(m : Int), tx n, tx (ua :: la), tx (ub :: lb), (0, 0, 0)⟩) = ((tx O1 ++ (tx [32] ++ tx (ua :: la))) ++ (tx [32] ++ tx (ub :: lb)))) := hide (by
     have hk := (unhide HF)
     try simp only [tx_app]
     unfold cmT optL
     rw [hk, ← unhide HO1, unhide HK2]
     simp [tx_list])
    go_wp2_with fail
    refine (hasForm_a _ _).mono ?_
    rintro e w' ⟨rfl, rfl⟩
    rw [unhide HF]
    go_wp2
    go_ret
    exact ⟨by rw [unhide HE]; rfl, hb0⟩
end Go.Proofs.YtfoofbcmaljmoaaGreatDoor
