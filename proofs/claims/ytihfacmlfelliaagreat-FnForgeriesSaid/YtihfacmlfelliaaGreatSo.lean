/- Plain: orders of classes, forgeries. Orders of classes on both sides. -/
import Derived.Test.YtihfacmlfelliaaGreatGi
import Derived.Test.YtihfacmlfelliaaGreatHv
import Derived.Test.YtihfacmlfelliaaGreatPt
import Derived.Test.YtihfacmlfelliaaGreatInv
import Derived.Test.YtihfacmlfelliaaGreatGqu
import Derived.Test.YtihfacmlfelliaaGreatRw
namespace Go.Proofs.YtihfacmlfelliaaGreat
open Go.RowKit
set_option linter.unusedVariables false
set_option linter.unusedSimpArgs false

theorem least_ex {p : Nat → Prop} : ∀ (n : Nat), p n → ∃ m, p m ∧ ∀ k, k < m → ¬ p k := by
 intro n
 induction n using Nat.strongRecOn with
 | _ n ih =>
  intro h
  by_cases c : ∃ k, k < n ∧ p k
  ·obtain ⟨k, h1, h2⟩ := c
   exact ih k h1 h2
  ·exact ⟨n, h, fun k hk hp => c ⟨k, hk, hp⟩⟩
def IsOd (D : Int) (W : T3) (n : Nat) : Prop := 1 ≤ n ∧ n ≤ 2000 ∧ poN D W n = onT D ∧ ∀ k, 1 ≤ k → k < n → poN D W k ≠ onT D
theorem isOd_ex {D : Int} {W : T3} (h : InD D W) : ∃ n, IsOd D W n := by
 obtain ⟨n, h1, h2, h3⟩ := ord_ex h
 obtain ⟨m, ⟨m1, m2, m3⟩, hm⟩ := least_ex (p := fun n => 1 ≤ n ∧ n ≤ 2000 ∧ poN D W n = onT D) n ⟨h1, h2, h3⟩
 exact ⟨m, m1, m2, m3, fun k hk hlt he => hm k hlt ⟨hk, by omega, he⟩⟩
open Classical in
noncomputable def odN (D : Int) (W : T3) : Nat := if h : ∃ n, IsOd D W n then h.choose else 0
theorem od_is {D : Int} {W : T3} (h : InD D W) : IsOd D W (odN D W) := by
 unfold odN
 rw [dif_pos (isOd_ex h)]
 exact (isOd_ex h).choose_spec
theorem od_here {D : Int} {W : T3} (h : InD D W) {n : Nat} (h1 : 1 ≤ n) (h2 : n ≤ odN D W) (h3 : poN D W n = onT D) : n = odN D W := by
 rcases Nat.lt_or_ge n (odN D W) with q | q
 ·exact absurd h3 ((od_is h).2.2.2 n h1 q)
 ·omega
theorem od_not {D : Int} {W : T3} (h : InD D W) {n : Nat} (h2 : n ≤ odN D W) (h3 : poN D W n ≠ onT D) : n < odN D W := by
 rcases Nat.lt_or_ge n (odN D W) with q | q
 ·exact q
 ·obtain rfl : n = odN D W := by omega
  exact absurd (od_is h).2.2.1 h3
noncomputable def soG (F : T3) (t : Int) (W : T3) : T3 := cmp (sqN (rdT F) t.toNat) W
noncomputable def soL (F : T3) (t : Int) (W : T3) : Int := dpL F (soG F t W) t
noncomputable def soI (D : Int) (W : T3) : Bool := eqT (rdT W) (onT D)
noncomputable def soK (F : T3) (t : Int) (W : T3) : Bool := prB F W && (tmB t && !soI (dT F) W)
noncomputable def soN (F : T3) (W : T3) : Int := (odN (dT F) W : Int)
noncomputable def soB (F : T3) (t : Int) (W : T3) : Bool := soK F t W && (igcd (soL F t W) (soN F W) == 1)
noncomputable def soV (F : T3) (t : Int) (W : T3) : T3 := cmp (quD (dT F) F t (soL F t W)) (pwD (dT F) W (invI (soL F t W) (soN F W)))
noncomputable def soX (F : T3) (t : Int) (W : T3) : T3 := if soB F t W then soG F t W else (0, 0, 0)
noncomputable def soY (F : T3) (t : Int) (W : T3) : T3 := if soB F t W then soV F t W else (0, 0, 0)
end Go.Proofs.YtihfacmlfelliaaGreat
namespace Go.Proofs.YtihfacmlfelliaaGreat
open Go.RowKit
set_option linter.unusedVariables false
set_option linter.unusedSimpArgs false
attribute [local go_sem] q2 q3 q4 q5 q6 q7 q8 q9 q10 q11 q12

theorem eqT_iff2 {X Y : T3} : eqT X Y = false ↔ X ≠ Y := by
 rw [← Bool.not_eq_true, eqT_iff]
theorem neq3_res (X Y : T3) (w : World) : (if X.1 = Y.1 then if X.2.1 = Y.2.1 then if X.2.2 = Y.2.2 then Result.ok (Next.value (Value.bool false)) w else Result.ok (Next.value (Value.bool true)) w else Result.ok (Next.value (Value.bool true)) w else Result.ok (Next.value (Value.bool true)) w) = Result.ok (Next.value (Value.bool (!eqT X Y))) w := by
 unfold eqT
 by_cases h1 : X.1 = Y.1
 ·by_cases h2 : X.2.1 = Y.2.1
  ·by_cases h3 : X.2.2 = Y.2.2
   ·simp [h1, h2, h3]
   ·simp [h1, h2, h3]
  ·simp [h1, h2]
 ·simp [h1]
theorem pr_rwi {D : Int} (O : T3) (w : World) (h0 : -2000 ≤ D) (h1 : D < 0) (hO : O = onT D) :
  Calls Tryz.prog 72 #[.int .i64 D] w fun e w' => e = .returned (frm O) ∧ Below w.heap.size w w' := by
 subst hO; exact principal_D D w h0 h1
theorem co_rws {D : Int} (O : T3) (w : World) (h0 : -2000 ≤ D) (h1 : D < 0) (hO : O = onT D) :
  Calls Tryz.prog 41 #[.int .i64 D] w fun e w' => e = .returned (frm O) ∧ Below w.heap.size w w' := by
 subst hO; exact coOne_D D w h0 h1

set_option maxRecDepth 100000 in
set_option maxHeartbeats 4000000 in
theorem isIdentity_D {D : Int} (F : T3) (w : World) (h0 : Frm D F) :
  Calls Tryz.prog 29 #[frm F] w fun e w' => e = .returned (.bool (eqT (rdT F) (onT D))) ∧ Below w.heap.size w w' := by
 have hdd := h0.dd
 have ho := h0.on
 obtain ⟨R, hR⟩ : ∃ R, R = rdT F := ⟨_, rfl⟩
 obtain ⟨O, hO⟩ : ∃ O, O = onT D := ⟨_, rfl⟩
 rw [← hO] at ho
 have hO2 := ho.1
 have hO3 : Hid (O = rdT O) := hide (rd_same ho.2).symm
 have HV : Hid (eqT (rdT F) (onT D) = eqT R O) := hide (by rw [hR, hO])
 replace hR := hide hR
 replace hO := hide hO
 clear ho
 go_enter Tryz.func29, Tryz.ntmps29
 go_upto_region 1 with fail
 go_cut [2] (fun s2 wx => s2 = .bool (eqT R O) ∧ Ri3 wx w.heap.size F.1 F.2.1 F.2.2 ∧ Below w.heap.size w wx)
 case first =>
  have h1 := trivial
  rename_i K2 h2 h3
  refine region_n0 (by kernel_rfl) (fun j => #[3,4,5,6,7,8,9,2].getD j 0) (fun j => Kd.ok ((fun j => match j with | 0 => Kd.val (.agg #[.int .i64 (F.1), .int .i64 (F.2.1), .int .i64 (F.2.2)]) | 1 => Kd.val (.agg #[.int .i64 (R.1), .int .i64 (R.2.1), .int .i64 (R.2.2)]) | 2 => Kd.val (.agg #[.int .i64 (F.1), .int .i64 (F.2.1), .int .i64 (F.2.2)]) | 3 => Kd.val (.int .i64 D) | 4 => Kd.val (.agg #[.int .i64 (O.1), .int .i64 (O.2.1), .int .i64 (O.2.2)]) | 5 => Kd.val (.agg #[.int .i64 (O.1), .int .i64 (O.2.1), .int .i64 (O.2.2)]) | 6 => Kd.val (.bool (eqT R O)) | 7 => Kd.val (.bool (eqT R O)) | _ => Kd.any : Nat → Kd) j)) (Sy w (w.heap.size + 1) [(⟨w.heap.size, 0, none⟩, .int .i64 (F.1)), (⟨w.heap.size, 1, none⟩, .int .i64 (F.2.1)), (⟨w.heap.size, 2, none⟩, .int .i64 (F.2.2))] []) (by kernel_rfl) (by kernel_rfl) ?_ ?_ ?_ ?_
  ·intro j hj
   have hj2 : j < 8 := hj
   have : ∀ j, j < 8 → (#[3,4,5,6,7,8,9,2] : Array Nat).getD j 0 < 10 := by decide
   exact this j hj2
  ·refine Sy.drew (Sy.mk_of ?_ ?_ ?_ ?_)
   ·first | rfl | (simp; done) | (simp; omega)
   ·intro c hc
    simp only [List.mem_cons, List.not_mem_nil, or_false] at hc
    rcases hc with rfl | rfl | rfl <;> exact byCT
   ·intro p hp; cases hp
   ·(repeat' first | with_reducible (first | exact Below.refl _ _ | assumption | refine gr_alloc ?_ _ | refine below_drewN ?_ _ | refine below_drew ?_ | refine gr_call ?_ (by assumption) | refine Below.setCell ?_ ?_ _) | go_size | omega | (simp; omega))
  ·clear h1 h2 h3
   refine ⟨?r40x0, ?r40x1, ?r40x2, ?r40x3, ?r40x4, ?r40x5, ?r40x6, ?r40x7, trivial⟩
   all_goals intro _ aq wx Kq hf hS hdep ev1 ev2 hK
   case' r40x0 =>
    have F1 : aq.eval (.tmp 1) = .pointer (some ⟨w.heap.size, 0, none⟩) := hf 1
    have c0 := hS.cells (⟨w.heap.size, 0, none⟩, .int .i64 (F.1)) (by simp)
    have c1 := hS.cells (⟨w.heap.size, 1, none⟩, .int .i64 (F.2.1)) (by simp)
    have c2 := hS.cells (⟨w.heap.size, 2, none⟩, .int .i64 (F.2.2)) (by simp)
   case' r40x1 =>
    have D0 : aq.eval (.tmp 3) = _ := hdep 0
   case' r40x2 =>
    have F1 : aq.eval (.tmp 1) = .pointer (some ⟨w.heap.size, 0, none⟩) := hf 1
    have c0 := hS.cells (⟨w.heap.size, 0, none⟩, .int .i64 (F.1)) (by simp)
    have c1 := hS.cells (⟨w.heap.size, 1, none⟩, .int .i64 (F.2.1)) (by simp)
    have c2 := hS.cells (⟨w.heap.size, 2, none⟩, .int .i64 (F.2.2)) (by simp)
   case' r40x3 =>
    have D2 : aq.eval (.tmp 5) = _ := hdep 2
   case' r40x4 =>
    have D3 : aq.eval (.tmp 6) = _ := hdep 3
   case' r40x5 =>
    have D4 : aq.eval (.tmp 7) = _ := hdep 4
   case' r40x6 =>
    have D1 : aq.eval (.tmp 4) = _ := hdep 1
    have D5 : aq.eval (.tmp 8) = _ := hdep 5
   case' r40x7 =>
    have D6 : aq.eval (.tmp 9) = _ := hdep 6
   all_goals (clear hf hdep; unfold Oper.wp; generalize Act.eval _ = ev at *; go_simp)
   case r40x1 =>
    refine ((rd_rwi F R _ h0.i (unhide hR))).mono ?_
    rintro e w2 ⟨rfl, hb⟩
    refine hK _ _ (hS.call hb) ?_ (fun j u _ h => Kd.ok_below hb h)
    rw [if_pos (by rfl)]
    show (_ : Value) = _
    first | rfl | (refine congrArg (Value.int .i64) ?_; first | rfl | exact int_in (by omega) | exact quo_in (by omega) (by omega) (by omega) | exact rem_in (by omega) (by omega) | omega | rfl) | (simp; done) | (simp [*]; done)
   case r40x3 =>
    refine ((disc_D F _ h0.i h0.f)).mono ?_
    rintro e w2 ⟨rfl, hb⟩
    refine hK _ _ (hS.call hb) ?_ (fun j u _ h => Kd.ok_below hb h)
    rw [if_pos (by rfl)]
    show (_ : Value) = _
    first | rfl | (refine congrArg (Value.int .i64) ?_; first | rfl | exact int_in (by omega) | exact quo_in (by omega) (by omega) (by omega) | exact rem_in (by omega) (by omega) | omega | rfl) | (simp; done) | (simp [*]; done)
   case r40x4 =>
    refine ((pr_rwi O _ hdd.1 hdd.2 (unhide hO))).mono ?_
    rintro e w2 ⟨rfl, hb⟩
    refine hK _ _ (hS.call hb) ?_ (fun j u _ h => Kd.ok_below hb h)
    rw [if_pos (by rfl)]
    show (_ : Value) = _
    first | rfl | (refine congrArg (Value.int .i64) ?_; first | rfl | exact int_in (by omega) | exact quo_in (by omega) (by omega) (by omega) | exact rem_in (by omega) (by omega) | omega | rfl) | (simp; done) | (simp [*]; done)
   case r40x5 =>
    refine ((rd_rwi O O _ hO2.i (unhide hO3))).mono ?_
    rintro e w2 ⟨rfl, hb⟩
    refine hK _ _ (hS.call hb) ?_ (fun j u _ h => Kd.ok_below hb h)
    rw [if_pos (by rfl)]
    show (_ : Value) = _
    first | rfl | (refine congrArg (Value.int .i64) ?_; first | rfl | exact int_in (by omega) | exact quo_in (by omega) (by omega) (by omega) | exact rem_in (by omega) (by omega) | omega | rfl) | (simp; done) | (simp [*]; done)
   case' r40x6 =>
    rw [eq3_res, Oper.upon_value]
   all_goals (refine hK _ _ hS ?_ (fun j u _ h => h); rw [if_pos (by rfl)]; show (_ : Value) = _; (first | rfl | (refine congrArg (Value.int .i64) ?_; first | rfl | exact int_in (by omega) | exact quo_in (by omega) (by omega) (by omega) | exact rem_in (by omega) (by omega) | omega | rfl) | (simp; done) | (simp [*]; done)))
  ·intro aq wx hd hw hf hS hg
   have G2 : tau aq 2 = .bool (eqT R O) := hg 7 (by decide)
   have haq : aq = ⟨#[tau aq 0, tau aq 1, tau aq 2, tau aq 3, tau aq 4, tau aq 5, tau aq 6, tau aq 7, tau aq 8, tau aq 9], []⟩ := by
    obtain ⟨tq, dq⟩ := aq
    have h5 := arr_eq (show tq.size = 10 from hw)
    have h6 : dq = [] := hd
    subst h6
    exact congrArg (fun z => Act.mk z []) h5
   show K2 aq wx
   rw [haq, hf 0, hf 1, G2]
   clear haq hf hd hw
   try dsimp only
   refine h3 _ _ ?_
   go_meet
   refine ⟨rfl, Ri3.m ?_ ?_ ?_, hS.below⟩
   all_goals first | exact hS.cells (_, _) (by simp) | exact (hS.free _ (by simp)).2
 obtain ⟨rfl, ⟨c00, c01, c02, z0⟩, hb0⟩ := hcut
 go_wp2
 go_ret
 exact ⟨by rw [unhide HV]; rfl, hb0⟩
theorem isId_rw {D : Int} (F : T3) (b : Bool) (w : World) (h0 : Frm D F) (hb : eqT (rdT F) (onT D) = b) :
  Calls Tryz.prog 29 #[frm F] w fun e w' => e = .returned (.bool b) ∧ Below w.heap.size w w' := by
 subst hb; exact isIdentity_D F w h0

set_option maxRecDepth 100000 in
set_option maxHeartbeats 8000000 in
theorem orderOf_D {D : Int} (W : T3) (w : World) (h0 : Frm D W) :
  Calls Tryz.prog 33 #[frm W] w fun e w' => e = .returned (.int .i64 (odN D W : Int)) ∧ Below w.heap.size w w' := by
 have hod := od_is h0.i
 obtain ⟨N, hN⟩ : ∃ N, odN D W = N := ⟨_, rfl⟩
 rw [hN] at hod ⊢
 have hN1 : 1 ≤ N ∧ N ≤ 2000 := ⟨hod.1, hod.2.1⟩
 have HN := hide hN
 clear hN hod
 have HP1 : Hid (rdT W = poN D W 1) := hide (poN_one h0.i).symm
 go_enter Tryz.func33, Tryz.ntmps33
 go_wp2_with fail
 refine (reduced_D W _ h0.i).mono ?_
 rintro en w1 ⟨rfl, hb1⟩
 have tq0 := Ri3.c hb1 w.heap.size W.1 W.2.1 W.2.2
 try clear c00 c01 c02
 obtain ⟨c00, c01, c02, z0⟩ := tq0
 have hs1 := hb1.size
 have o10 := z0
 go_wp2
 go_loopw [3, 4] (fun s3 s4 wr => ∃ n g : Nat, s3 = .int .i64 ((n : Int) + 1) ∧ s4 = .pointer (some ⟨g, 0, none⟩) ∧ n + 1 ≤ N ∧ wr.cell? ⟨w.heap.size, 0, none⟩ = some (.int .i64 W.1) ∧ wr.cell? ⟨w.heap.size, 1, none⟩ = some (.int .i64 W.2.1) ∧ wr.cell? ⟨w.heap.size, 2, none⟩ = some (.int .i64 W.2.2) ∧ wr.cell? ⟨g, 0, none⟩ = some (.int .i64 ((poN D W (n + 1))).1) ∧ wr.cell? ⟨g, 1, none⟩ = some (.int .i64 ((poN D W (n + 1))).2.1) ∧ wr.cell? ⟨g, 2, none⟩ = some (.int .i64 ((poN D W (n + 1))).2.2) ∧ wr.frozen? ⟨g, 0, none⟩ = false ∧ wr.frozen? ⟨g, 1, none⟩ = false ∧ wr.frozen? ⟨g, 2, none⟩ = false ∧ w.heap.size + 1 ≤ g ∧ Below w.heap.size w wr) (fun s3 s4 _ => N - (intOf s3).toNat)
 case atStart =>
  refine ⟨0, _, by first | rfl | (congr 1; omega), rfl, by omega, ?_⟩
  rw [← unhide HP1]
  refine ⟨?_, ?_, ?_, ?_, ?_, ?_, ?_, ?_, ?_, ?_, ?_⟩ <;> first | with_reducible assumption | (go_simp; done) | (simp; omega) | omega | (repeat' first | with_reducible (first | exact Below.refl _ _ | assumption | refine gr_alloc ?_ _ | refine below_drewN ?_ _ | refine below_drew ?_ | refine gr_call ?_ (by assumption) | refine Below.setCell ?_ ?_ _) | go_size | omega | (simp; omega))
 case round =>
  obtain ⟨n, g, rfl, rfl, hn, c00, c01, c02, c10, c11, c12, f10, f11, f12, hgs, hb⟩ := hrel
  obtain ⟨wl, rfl⟩ : ∃ wl : World, wl = wr := ⟨_, rfl⟩
  have hz := hb.size
  obtain ⟨P, hP⟩ : ∃ P, P = poN D W (n + 1) := ⟨_, rfl⟩
  have fP : Frm D P := by rw [hP]; exact .of (poN_in h0.i _) (poN_rc h0.i _)
  have rP : rdT P = P := by rw [hP]; exact poN_rd h0.i _
  rw [← hP] at c10 c11 c12
  have zl0 : w.heap.size < wl.heap.size := World.block_lt_of_cell? _ _ c00
  have zl1 : g < wl.heap.size := World.block_lt_of_cell? _ _ c10
  cases hq : eqT P (onT D)
  ·have hne := eqT_iff2.1 hq
   have hlt : n + 1 < N := by rw [hP] at hne; rw [← unhide HN] at hn ⊢; exact od_not h0.i hn hne
   obtain ⟨P2, hP2⟩ : ∃ P2, P2 = cmp P W := ⟨_, rfl⟩
   have HPN : Hid (poN D W (n + 1 + 1) = P2) := hide (by rw [hP2, hP]; rfl)
   have HQ : Hid (eqT (rdT P) (onT D) = false) := hide (by rw [rP]; exact hq)
   replace hP2 := hide hP2
   clear hP hne hq rP
   go_wp2_with fail
   refine (isId_rw P false _ fP (unhide HQ)).mono ?_
   rintro en w5 ⟨rfl, hb5⟩
   have tq0 := Ri3.c hb5 w.heap.size W.1 W.2.1 W.2.2
   have tq1 := Wi3.c hb5 g P.1 P.2.1 P.2.2
   try clear c00 c01 c02
   try clear c10 c11 c12 f10 f11 f12
   obtain ⟨c00, c01, c02, z0⟩ := tq0
   obtain ⟨c10, c11, c12, f10, f11, f12, z1⟩ := tq1
   have hs5 := hb5.size
   have o50 := z0
   have o51 := z1
   obtain ⟨w9, rfl⟩ : ∃ w9 : World, w9 = w5 := ⟨_, rfl⟩
   have hb9 : Below w.heap.size w w9 := hb.trans (hb5.mono hz)
   have hz9 : w.heap.size + 1 ≤ w9.heap.size := by omega
   go_wp2_with fail
   refine (cm_rwi P W P2 _ fP.i h0.i (unhide hP2)).mono ?_
   rintro en w6 ⟨rfl, hb6⟩
   have tq0 := Ri3.c hb6 w.heap.size W.1 W.2.1 W.2.2
   have tq1 := Wi3.c hb6 w9.heap.size P.1 P.2.1 P.2.2
   try clear c00 c01 c02
   try clear c10 c11 c12 f10 f11 f12
   obtain ⟨c00, c01, c02, z0⟩ := tq0
   obtain ⟨c10, c11, c12, f10, f11, f12, z1⟩ := tq1
   have hs6 := hb6.size
   have o60 := z0
   have o61 := z1
   go_wp2
   go_roundw
   case rel =>
    refine ⟨n + 1, _, by first | rfl | (congr 1; omega) | go_num, rfl, by omega, ?_⟩
    rw [unhide HPN]
    refine ⟨?_, ?_, ?_, ?_, ?_, ?_, ?_, ?_, ?_, ?_, ?_⟩ <;> first | with_reducible assumption | (go_simp; done) | (simp; omega) | omega | (repeat' first | with_reducible (first | exact Below.refl _ _ | assumption | refine gr_alloc ?_ _ | refine below_drewN ?_ _ | refine below_drew ?_ | refine gr_call ?_ (by assumption) | refine Below.setCell ?_ ?_ _) | go_size | omega | (simp; omega))
   case measure => simp [intOf]; omega
  ·have hen : n + 1 = N := by rw [← unhide HN] at hn ⊢; exact od_here h0.i (by omega) hn (by rw [← hP]; exact eqT_iff.1 hq)
   have HQ : Hid (eqT (rdT P) (onT D) = true) := hide (by rw [rP]; exact hq)
   have HE := hide hen
   clear hP hq rP hen
   go_wp2_with fail
   refine (isId_rw P true _ fP (unhide HQ)).mono ?_
   rintro en w5 ⟨rfl, hb5⟩
   have tq0 := Ri3.c hb5 w.heap.size W.1 W.2.1 W.2.2
   have tq1 := Wi3.c hb5 g P.1 P.2.1 P.2.2
   try clear c00 c01 c02
   try clear c10 c11 c12 f10 f11 f12
   obtain ⟨c00, c01, c02, z0⟩ := tq0
   obtain ⟨c10, c11, c12, f10, f11, f12, z1⟩ := tq1
   have hs5 := hb5.size
   have o50 := z0
   have o51 := z1
   go_wp2
   go_ret
   exact ⟨ret_int (by have := unhide HE; omega), byGG⟩

set_option maxRecDepth 100000 in
set_option maxHeartbeats 8000000 in
theorem coOrder_D {D : Int} (W : T3) (w : World) (h0 : Frm D W) :
  Calls Tryz.prog 46 #[frm W] w fun e w' => e = .returned (.int .i64 (odN D W : Int)) ∧ Below w.heap.size w w' := by
 have hod := od_is h0.i
 obtain ⟨N, hN⟩ : ∃ N, odN D W = N := ⟨_, rfl⟩
 rw [hN] at hod ⊢
 have hN1 : 1 ≤ N ∧ N ≤ 2000 := ⟨hod.1, hod.2.1⟩
 have HN := hide hN
 clear hN hod
 have HP1 : Hid (rdT W = poN D W 1) := hide (poN_one h0.i).symm
 have hdd := h0.dd
 obtain ⟨W1, hW1⟩ : ∃ W1, W1 = rdT W := ⟨_, rfl⟩
 have fW : Frm D W1 := by rw [hW1]; exact h0.rd
 have HP2 : Hid (W1 = poN D W 1) := hide (by rw [hW1]; exact unhide HP1)
 replace HP1 := HP2
 clear HP2
 have HW := hide hW1
 clear hW1
 obtain ⟨O, hO⟩ : ∃ O, O = onT D := ⟨_, rfl⟩
 replace hO := hide hO
 go_enter Tryz.func46, Tryz.ntmps46
 go_wp2_with fail
 refine (rd_rws W W1 _ h0.i (unhide HW)).mono ?_
 rintro en w1 ⟨rfl, hb1⟩
 have tq0 := Wi3.c hb1 w.heap.size W.1 W.2.1 W.2.2
 try clear c00 c01 c02 f00 f01 f02
 obtain ⟨c00, c01, c02, f00, f01, f02, z0⟩ := tq0
 have hs1 := hb1.size
 have o10 := z0
 go_wp2
 go_loopw [3, 4] (fun s3 s4 wr => ∃ n g : Nat, s3 = .int .i64 ((n : Int) + 1) ∧ s4 = .pointer (some ⟨g, 0, none⟩) ∧ n + 1 ≤ N ∧ wr.cell? ⟨w.heap.size, 0, none⟩ = some (.int .i64 W1.1) ∧ wr.cell? ⟨w.heap.size, 1, none⟩ = some (.int .i64 W1.2.1) ∧ wr.cell? ⟨w.heap.size, 2, none⟩ = some (.int .i64 W1.2.2) ∧ wr.cell? ⟨g, 0, none⟩ = some (.int .i64 ((poN D W (n + 1))).1) ∧ wr.cell? ⟨g, 1, none⟩ = some (.int .i64 ((poN D W (n + 1))).2.1) ∧ wr.cell? ⟨g, 2, none⟩ = some (.int .i64 ((poN D W (n + 1))).2.2) ∧ wr.frozen? ⟨g, 0, none⟩ = false ∧ wr.frozen? ⟨g, 1, none⟩ = false ∧ wr.frozen? ⟨g, 2, none⟩ = false ∧ w.heap.size + 1 ≤ g ∧ Below w.heap.size w wr) (fun s3 s4 _ => N - (intOf s3).toNat)
 case atStart =>
  refine ⟨0, _, by first | rfl | (congr 1; omega), rfl, by omega, ?_⟩
  rw [← unhide HP1]
  refine ⟨?_, ?_, ?_, ?_, ?_, ?_, ?_, ?_, ?_, ?_, ?_⟩ <;> first | with_reducible assumption | (go_simp; done) | (simp; omega) | omega | (repeat' first | with_reducible (first | exact Below.refl _ _ | assumption | refine gr_alloc ?_ _ | refine below_drewN ?_ _ | refine below_drew ?_ | refine gr_call ?_ (by assumption) | refine Below.setCell ?_ ?_ _) | go_size | omega | (simp; omega))
 case round =>
  obtain ⟨n, g, rfl, rfl, hn, c00, c01, c02, c10, c11, c12, f10, f11, f12, hgs, hb⟩ := hrel
  obtain ⟨wl, rfl⟩ : ∃ wl : World, wl = wr := ⟨_, rfl⟩
  have hz := hb.size
  obtain ⟨P, hP⟩ : ∃ P, P = poN D W (n + 1) := ⟨_, rfl⟩
  have fP : Frm D P := by rw [hP]; exact .of (poN_in h0.i _) (poN_rc h0.i _)
  have rP : rdT P = P := by rw [hP]; exact poN_rd h0.i _
  rw [← hP] at c10 c11 c12
  have zl0 : w.heap.size < wl.heap.size := World.block_lt_of_cell? _ _ c00
  have zl1 : g < wl.heap.size := World.block_lt_of_cell? _ _ c10
  cases hq : eqT P (onT D)
  ·have hne := eqT_iff2.1 hq
   have hlt : n + 1 < N := by rw [hP] at hne; rw [← unhide HN] at hn ⊢; exact od_not h0.i hn hne
   obtain ⟨P2, hP2⟩ : ∃ P2, P2 = cmp P W1 := ⟨_, rfl⟩
   have HPN : Hid (poN D W (n + 1 + 1) = P2) := hide (by rw [hP2, hP]; rw [unhide HW]; have hi := poN_in h0.i (n + 1); exact (cp_rd2 hi.cl h0.i.cl (h0.i.d.trans hi.d.symm)).symm)
   have RP := hide rP
   have HQ : Hid (eqT (rdT P) (onT D) = false) := hide (by rw [rP]; exact hq)
   replace hP2 := hide hP2
   clear hP hne hq rP
   have hqq : eqT P O = false := by have h1 := unhide HQ; rw [unhide RP, ← unhide hO] at h1; exact h1
   go_upto_region 4 with fail
   go_cut [12] (fun s12 wx => s12 = .bool true ∧ Ri3 wx w.heap.size W1.1 W1.2.1 W1.2.2 ∧ Wi3 wx g P.1 P.2.1 P.2.2 ∧ Below wl.heap.size wl wx)
   case first =>
    have h1 := trivial
    rename_i K2 h2 h3
    refine region_n0 (by kernel_rfl) (fun j => #[8,9,10,11,12].getD j 0) (fun j => Kd.ok ((fun j => match j with | 0 => Kd.val (.agg #[.int .i64 (P.1), .int .i64 (P.2.1), .int .i64 (P.2.2)]) | 1 => Kd.val (.agg #[.int .i64 (W1.1), .int .i64 (W1.2.1), .int .i64 (W1.2.2)]) | 2 => Kd.val (.int .i64 D) | 3 => Kd.val (.agg #[.int .i64 (O.1), .int .i64 (O.2.1), .int .i64 (O.2.2)]) | 4 => Kd.val (.bool true) | _ => Kd.any : Nat → Kd) j)) (Sy wl (wl.heap.size) [(⟨w.heap.size, 0, none⟩, .int .i64 (W1.1)), (⟨w.heap.size, 1, none⟩, .int .i64 (W1.2.1)), (⟨w.heap.size, 2, none⟩, .int .i64 (W1.2.2)), (⟨g, 0, none⟩, .int .i64 (P.1)), (⟨g, 1, none⟩, .int .i64 (P.2.1)), (⟨g, 2, none⟩, .int .i64 (P.2.2))] [⟨g, 0, none⟩, ⟨g, 1, none⟩, ⟨g, 2, none⟩]) (by kernel_rfl) (by kernel_rfl) ?_ ?_ ?_ ?_
    ·intro j hj
     have hj2 : j < 5 := hj
     have : ∀ j, j < 5 → (#[8,9,10,11,12] : Array Nat).getD j 0 < 20 := by decide
     exact this j hj2
    ·refine Sy.drew (Sy.mk_of ?_ ?_ ?_ ?_)
     ·first | rfl | (simp; done) | (simp; omega)
     ·intro c hc
      simp only [List.mem_cons, List.not_mem_nil, or_false] at hc
      rcases hc with rfl | rfl | rfl | rfl | rfl | rfl <;> exact byCT
     ·intro p hp
      simp only [List.mem_cons, List.not_mem_nil, or_false] at hp
      rcases hp with rfl | rfl | rfl <;> exact ⟨by first | ((repeat' with_reducible (first | refine ex_set _ ?_ | refine ex_al _ ?_ | exact ⟨_, by assumption⟩)); done) | first | exact ⟨_, by assumption⟩ | assumption | (go_simp; done) | (go_simp; exact ⟨_, rfl⟩), by first | ((repeat' first | with_reducible (first | assumption | refine frz_al _ ?_ ?_ | refine frz_set _ ?_) | omega | (simp; omega)); done) | assumption | (go_simp; done)⟩
     ·(repeat' first | with_reducible (first | exact Below.refl _ _ | assumption | refine gr_alloc ?_ _ | refine below_drewN ?_ _ | refine below_drew ?_ | refine gr_call ?_ (by assumption) | refine Below.setCell ?_ ?_ _) | go_size | omega | (simp; omega))
    ·clear h1 h2 h3
     refine ⟨?r41x0, ?r41x1, ?r41x2, ?r41x3, ?r41x4, trivial⟩
     all_goals intro _ aq wx Kq hf hS hdep ev1 ev2 hK
     case' r41x0 =>
      have F4 : aq.eval (.tmp 4) = .pointer (some ⟨g, 0, none⟩) := hf 4
      have c0 := hS.cells (⟨g, 0, none⟩, .int .i64 (P.1)) (by simp)
      have c1 := hS.cells (⟨g, 1, none⟩, .int .i64 (P.2.1)) (by simp)
      have c2 := hS.cells (⟨g, 2, none⟩, .int .i64 (P.2.2)) (by simp)
     case' r41x1 =>
      have F1 : aq.eval (.tmp 1) = .pointer (some ⟨w.heap.size, 0, none⟩) := hf 1
      have c0 := hS.cells (⟨w.heap.size, 0, none⟩, .int .i64 (W1.1)) (by simp)
      have c1 := hS.cells (⟨w.heap.size, 1, none⟩, .int .i64 (W1.2.1)) (by simp)
      have c2 := hS.cells (⟨w.heap.size, 2, none⟩, .int .i64 (W1.2.2)) (by simp)
     case' r41x2 =>
      have D1 : aq.eval (.tmp 9) = _ := hdep 1
     case' r41x3 =>
      have D2 : aq.eval (.tmp 10) = _ := hdep 2
     case' r41x4 =>
      have D0 : aq.eval (.tmp 8) = _ := hdep 0
      have D3 : aq.eval (.tmp 11) = _ := hdep 3
     all_goals (clear hf hdep; unfold Oper.wp; generalize Act.eval _ = ev at *; go_simp)
     case r41x2 =>
      refine ((foDisc_D W1 _ fW.i fW.f)).mono ?_
      rintro e w2 ⟨rfl, hb⟩
      refine hK _ _ (hS.call hb) ?_ (fun j u _ h => Kd.ok_below hb h)
      rw [if_pos (by rfl)]
      show (_ : Value) = _
      first | rfl | (refine congrArg (Value.int .i64) ?_; first | rfl | exact int_in (by omega) | exact quo_in (by omega) (by omega) (by omega) | exact rem_in (by omega) (by omega) | omega | rfl) | (simp; done) | (simp [*]; done)
     case r41x3 =>
      refine ((co_rws O _ hdd.1 hdd.2 (unhide hO))).mono ?_
      rintro e w2 ⟨rfl, hb⟩
      refine hK _ _ (hS.call hb) ?_ (fun j u _ h => Kd.ok_below hb h)
      rw [if_pos (by rfl)]
      show (_ : Value) = _
      first | rfl | (refine congrArg (Value.int .i64) ?_; first | rfl | exact int_in (by omega) | exact quo_in (by omega) (by omega) (by omega) | exact rem_in (by omega) (by omega) | omega | rfl) | (simp; done) | (simp [*]; done)
     case' r41x4 =>
      rw [neq3_res, Oper.upon_value]
     all_goals (refine hK _ _ hS ?_ (fun j u _ h => h); rw [if_pos (by rfl)]; show (_ : Value) = _; (first | rfl | (refine congrArg (Value.int .i64) ?_; first | rfl | exact int_in (by omega) | exact quo_in (by omega) (by omega) (by omega) | exact rem_in (by omega) (by omega) | omega | rfl) | (simp; done) | (simp [*]; done)))
    ·intro aq wx hd hw hf hS hg
     have G12 : tau aq 12 = .bool true := hg 4 (by decide)
     have haq : aq = ⟨#[tau aq 0, tau aq 1, tau aq 2, tau aq 3, tau aq 4, tau aq 5, tau aq 6, tau aq 7, tau aq 8, tau aq 9, tau aq 10, tau aq 11, tau aq 12, tau aq 13, tau aq 14, tau aq 15, tau aq 16, tau aq 17, tau aq 18, tau aq 19], []⟩ := by
      obtain ⟨tq, dq⟩ := aq
      have h5 := arr_eq (show tq.size = 20 from hw)
      have h6 : dq = [] := hd
      subst h6
      exact congrArg (fun z => Act.mk z []) h5
     show K2 aq wx
     rw [haq, hf 0, hf 1, hf 2, hf 3, hf 4, hf 5, hf 6, hf 7, hf 13, hf 14, hf 15, hf 16, hf 17, hf 18, hf 19, G12]
     clear haq hf hd hw
     try dsimp only
     refine h3 _ _ ?_
     go_meet
     refine ⟨rfl, Ri3.m ?_ ?_ ?_, Wi3.m ?_ ?_ ?_ ?_ ?_ ?_, hS.below⟩
     all_goals first | exact hS.cells (_, _) (by simp) | exact (hS.free _ (by simp)).2
   try clear c00
   try clear c01
   try clear c02
   try clear c10
   try clear c11
   try clear c12
   try clear f10
   try clear f11
   try clear f12
   obtain ⟨rfl, ⟨c00, c01, c02, z0⟩, ⟨c10, c11, c12, f10, f11, f12, z1⟩, hb0⟩ := hcut
   obtain ⟨w9, rfl⟩ : ∃ w9 : World, w9 = wc := ⟨_, rfl⟩
   have hb9 : Below w.heap.size w w9 := hb.trans (hb0.mono hz)
   have hz9 : w.heap.size + 1 ≤ w9.heap.size := by omega
   go_wp2_with fail
   refine (cm_rws P W1 P2 _ fP.i fW.i (unhide hP2)).mono ?_
   rintro en w6 ⟨rfl, hb6⟩
   have tq0 := Ri3.c hb6 w.heap.size W1.1 W1.2.1 W1.2.2
   have tq1 := Wi3.c hb6 g P.1 P.2.1 P.2.2
   try clear c00 c01 c02
   try clear c10 c11 c12 f10 f11 f12
   obtain ⟨c00, c01, c02, z0⟩ := tq0
   obtain ⟨c10, c11, c12, f10, f11, f12, z1⟩ := tq1
   have hs6 := hb6.size
   have o60 := z0
   have o61 := z1
   go_wp2
   go_roundw
   case rel =>
    refine ⟨n + 1, _, by first | rfl | (congr 1; omega) | go_num, rfl, by omega, ?_⟩
    rw [unhide HPN]
    refine ⟨?_, ?_, ?_, ?_, ?_, ?_, ?_, ?_, ?_, ?_, ?_⟩ <;> first | with_reducible assumption | (go_simp; done) | (simp; omega) | omega | (repeat' first | with_reducible (first | exact Below.refl _ _ | assumption | refine gr_alloc ?_ _ | refine below_drewN ?_ _ | refine below_drew ?_ | refine gr_call ?_ (by assumption) | refine Below.setCell ?_ ?_ _) | go_size | omega | (simp; omega))
   case measure => simp [intOf]; omega
  ·have hen : n + 1 = N := by rw [← unhide HN] at hn ⊢; exact od_here h0.i (by omega) hn (by rw [← hP]; exact eqT_iff.1 hq)
   have RP := hide rP
   have HQ : Hid (eqT (rdT P) (onT D) = true) := hide (by rw [rP]; exact hq)
   have HE := hide hen
   clear hP hq rP hen
   have hqq : eqT P O = true := by have h1 := unhide HQ; rw [unhide RP, ← unhide hO] at h1; exact h1
   go_upto_region 4 with fail
   go_cut [12] (fun s12 wx => s12 = .bool false ∧ Ri3 wx w.heap.size W1.1 W1.2.1 W1.2.2 ∧ Wi3 wx g P.1 P.2.1 P.2.2 ∧ Below wl.heap.size wl wx)
   case first =>
    have h1 := trivial
    rename_i K2 h2 h3
    refine region_n0 (by kernel_rfl) (fun j => #[8,9,10,11,12].getD j 0) (fun j => Kd.ok ((fun j => match j with | 0 => Kd.val (.agg #[.int .i64 (P.1), .int .i64 (P.2.1), .int .i64 (P.2.2)]) | 1 => Kd.val (.agg #[.int .i64 (W1.1), .int .i64 (W1.2.1), .int .i64 (W1.2.2)]) | 2 => Kd.val (.int .i64 D) | 3 => Kd.val (.agg #[.int .i64 (O.1), .int .i64 (O.2.1), .int .i64 (O.2.2)]) | 4 => Kd.val (.bool false) | _ => Kd.any : Nat → Kd) j)) (Sy wl (wl.heap.size) [(⟨w.heap.size, 0, none⟩, .int .i64 (W1.1)), (⟨w.heap.size, 1, none⟩, .int .i64 (W1.2.1)), (⟨w.heap.size, 2, none⟩, .int .i64 (W1.2.2)), (⟨g, 0, none⟩, .int .i64 (P.1)), (⟨g, 1, none⟩, .int .i64 (P.2.1)), (⟨g, 2, none⟩, .int .i64 (P.2.2))] [⟨g, 0, none⟩, ⟨g, 1, none⟩, ⟨g, 2, none⟩]) (by kernel_rfl) (by kernel_rfl) ?_ ?_ ?_ ?_
    ·intro j hj
     have hj2 : j < 5 := hj
     have : ∀ j, j < 5 → (#[8,9,10,11,12] : Array Nat).getD j 0 < 20 := by decide
     exact this j hj2
    ·refine Sy.drew (Sy.mk_of ?_ ?_ ?_ ?_)
     ·first | rfl | (simp; done) | (simp; omega)
     ·intro c hc
      simp only [List.mem_cons, List.not_mem_nil, or_false] at hc
      rcases hc with rfl | rfl | rfl | rfl | rfl | rfl <;> exact byCT
     ·intro p hp
      simp only [List.mem_cons, List.not_mem_nil, or_false] at hp
      rcases hp with rfl | rfl | rfl <;> exact ⟨by first | ((repeat' with_reducible (first | refine ex_set _ ?_ | refine ex_al _ ?_ | exact ⟨_, by assumption⟩)); done) | first | exact ⟨_, by assumption⟩ | assumption | (go_simp; done) | (go_simp; exact ⟨_, rfl⟩), by first | ((repeat' first | with_reducible (first | assumption | refine frz_al _ ?_ ?_ | refine frz_set _ ?_) | omega | (simp; omega)); done) | assumption | (go_simp; done)⟩
     ·(repeat' first | with_reducible (first | exact Below.refl _ _ | assumption | refine gr_alloc ?_ _ | refine below_drewN ?_ _ | refine below_drew ?_ | refine gr_call ?_ (by assumption) | refine Below.setCell ?_ ?_ _) | go_size | omega | (simp; omega))
    ·clear h1 h2 h3
     refine ⟨?r42x0, ?r42x1, ?r42x2, ?r42x3, ?r42x4, trivial⟩
     all_goals intro _ aq wx Kq hf hS hdep ev1 ev2 hK
     case' r42x0 =>
      have F4 : aq.eval (.tmp 4) = .pointer (some ⟨g, 0, none⟩) := hf 4
      have c0 := hS.cells (⟨g, 0, none⟩, .int .i64 (P.1)) (by simp)
      have c1 := hS.cells (⟨g, 1, none⟩, .int .i64 (P.2.1)) (by simp)
      have c2 := hS.cells (⟨g, 2, none⟩, .int .i64 (P.2.2)) (by simp)
     case' r42x1 =>
      have F1 : aq.eval (.tmp 1) = .pointer (some ⟨w.heap.size, 0, none⟩) := hf 1
      have c0 := hS.cells (⟨w.heap.size, 0, none⟩, .int .i64 (W1.1)) (by simp)
      have c1 := hS.cells (⟨w.heap.size, 1, none⟩, .int .i64 (W1.2.1)) (by simp)
      have c2 := hS.cells (⟨w.heap.size, 2, none⟩, .int .i64 (W1.2.2)) (by simp)
     case' r42x2 =>
      have D1 : aq.eval (.tmp 9) = _ := hdep 1
     case' r42x3 =>
      have D2 : aq.eval (.tmp 10) = _ := hdep 2
     case' r42x4 =>
      have D0 : aq.eval (.tmp 8) = _ := hdep 0
      have D3 : aq.eval (.tmp 11) = _ := hdep 3
     all_goals (clear hf hdep; unfold Oper.wp; generalize Act.eval _ = ev at *; go_simp)
     case r42x2 =>
      refine ((foDisc_D W1 _ fW.i fW.f)).mono ?_
      rintro e w2 ⟨rfl, hb⟩
      refine hK _ _ (hS.call hb) ?_ (fun j u _ h => Kd.ok_below hb h)
      rw [if_pos (by rfl)]
      show (_ : Value) = _
      first | rfl | (refine congrArg (Value.int .i64) ?_; first | rfl | exact int_in (by omega) | exact quo_in (by omega) (by omega) (by omega) | exact rem_in (by omega) (by omega) | omega | rfl) | (simp; done) | (simp [*]; done)
     case r42x3 =>
      refine ((co_rws O _ hdd.1 hdd.2 (unhide hO))).mono ?_
      rintro e w2 ⟨rfl, hb⟩
      refine hK _ _ (hS.call hb) ?_ (fun j u _ h => Kd.ok_below hb h)
      rw [if_pos (by rfl)]
      show (_ : Value) = _
      first | rfl | (refine congrArg (Value.int .i64) ?_; first | rfl | exact int_in (by omega) | exact quo_in (by omega) (by omega) (by omega) | exact rem_in (by omega) (by omega) | omega | rfl) | (simp; done) | (simp [*]; done)
     case' r42x4 =>
      rw [neq3_res, Oper.upon_value]
     all_goals (refine hK _ _ hS ?_ (fun j u _ h => h); rw [if_pos (by rfl)]; show (_ : Value) = _; (first | rfl | (refine congrArg (Value.int .i64) ?_; first | rfl | exact int_in (by omega) | exact quo_in (by omega) (by omega) (by omega) | exact rem_in (by omega) (by omega) | omega | rfl) | (simp; done) | (simp [*]; done)))
    ·intro aq wx hd hw hf hS hg
     have G12 : tau aq 12 = .bool false := hg 4 (by decide)
     have haq : aq = ⟨#[tau aq 0, tau aq 1, tau aq 2, tau aq 3, tau aq 4, tau aq 5, tau aq 6, tau aq 7, tau aq 8, tau aq 9, tau aq 10, tau aq 11, tau aq 12, tau aq 13, tau aq 14, tau aq 15, tau aq 16, tau aq 17, tau aq 18, tau aq 19], []⟩ := by
      obtain ⟨tq, dq⟩ := aq
      have h5 := arr_eq (show tq.size = 20 from hw)
      have h6 : dq = [] := hd
      subst h6
      exact congrArg (fun z => Act.mk z []) h5
     show K2 aq wx
     rw [haq, hf 0, hf 1, hf 2, hf 3, hf 4, hf 5, hf 6, hf 7, hf 13, hf 14, hf 15, hf 16, hf 17, hf 18, hf 19, G12]
     clear haq hf hd hw
     try dsimp only
     refine h3 _ _ ?_
     go_meet
     refine ⟨rfl, Ri3.m ?_ ?_ ?_, Wi3.m ?_ ?_ ?_ ?_ ?_ ?_, hS.below⟩
     all_goals first | exact hS.cells (_, _) (by simp) | exact (hS.free _ (by simp)).2
   try clear c00
   try clear c01
   try clear c02
   try clear c10
   try clear c11
   try clear c12
   try clear f10
   try clear f11
   try clear f12
   obtain ⟨rfl, ⟨c00, c01, c02, z0⟩, ⟨c10, c11, c12, f10, f11, f12, z1⟩, hb0⟩ := hcut
   have hb9 : Below w.heap.size w wc := hb.trans (hb0.mono hz)
   go_wp2
   go_ret
   exact ⟨ret_int (by have := unhide HE; omega), byGG⟩
end Go.Proofs.YtihfacmlfelliaaGreat
