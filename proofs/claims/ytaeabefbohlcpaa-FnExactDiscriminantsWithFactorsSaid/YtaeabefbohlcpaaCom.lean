/- Common residues (spec). -/
import Derived.Test.YtaeabefbohlcpaaInv
namespace Go.Proofs.Ytaeabefbohlcpaa
open Go.RowKit
set_option linter.unusedVariables false
set_option linter.unusedSimpArgs false
attribute [local go_sem] q2 q3 q4 q5 q6 q7 q8 q9 q10 q11 q12

noncomputable def cmK (a0 p b0 q : Int) : Int := ((b0 - a0) / 2 * invI p q) % q
noncomputable def cmT (a0 p b0 q : Int) : Int := (a0 + 2 * p * cmK a0 p b0 q) % (p * (2 * q))
theorem cm_facts {a0 p b0 q : Int} (hp : 1 ≤ p) (hq : 1 ≤ q) (hg : Int.gcd q p = 1) (h2 : 2 ∣ b0 - a0) : 0 ≤ cmT a0 p b0 q ∧ cmT a0 p b0 q < 2 * p * q ∧ 2 * p ∣ cmT a0 p b0 q - a0 ∧ 2 * q ∣ cmT a0 p b0 q - b0 := by
 obtain ⟨d, hd⟩ := h2
 have ed : (b0 - a0) / 2 = d := by omega
 obtain ⟨i0, i1, j, hj⟩ := inv_is hq hg
 unfold cmT cmK
 rw [ed]
 generalize invI p q = s at *
 have k0 := Int.emod_nonneg (d * s) (show q ≠ 0 by omega)
 have k1 := Int.emod_lt_of_pos (d * s) (show 0 < q by omega)
 have k2 := Int.emod_add_mul_ediv (d * s) q
 generalize (d * s) % q = k at *
 generalize (d * s) / q = l at *
 have pq : 0 < p * (2 * q) := Int.mul_pos (by omega) (by omega)
 have t0 := Int.emod_nonneg (a0 + 2 * p * k) (show p * (2 * q) ≠ 0 by omega)
 have t1 := Int.emod_lt_of_pos (a0 + 2 * p * k) pq
 have t2 := Int.emod_add_mul_ediv (a0 + 2 * p * k) (p * (2 * q))
 generalize (a0 + 2 * p * k) % (p * (2 * q)) = t at *
 generalize (a0 + 2 * p * k) / (p * (2 * q)) = n at *
 have e2 : p * (2 * q) = 2 * p * q := by grind
 rw [e2] at t1
 refine ⟨t0, t1, ⟨k - q * n, by grind⟩, ⟨j * d - p * l - p * n, by grind⟩⟩
theorem gcd_two {p q : Int} (hg : Int.gcd q p = 1) : igcd (2 * p) (2 * q) = 2 := by
 unfold igcd
 rw [Int.gcd_mul_left, Int.gcd_comm, hg]; rfl

set_option maxRecDepth 100000 in
set_option maxHeartbeats 4000000 in
theorem nuCommon_z (a0 p b0 q : Int) (w : World) (h0 : -1000000 ≤ a0 ∧ a0 ≤ 1000000) (h1 : -1000000 ≤ b0 ∧ b0 ≤ 1000000) (h2 : 1 ≤ p) (h3 : p ≤ 100000) (h4 : 1 ≤ q) (h5 : q ≤ 100000) (h6 : Int.gcd q p = 1) (h7 : 2 ∣ b0 - a0) :
  Calls Try.prog 101 #[.int .i64 a0, .int .i64 (2 * p), .int .i64 b0, .int .i64 (2 * q)] w fun e w' => e = .returned (.tuple #[.int .i64 (cmT a0 p b0 q), .int .i64 (p * (2 * q)), .bool true]) ∧ Below w.heap.size w w' := by
 have e0 := gcd_two h6
 have g1 : 2 ≤ igcd (2 * p) (2 * q) := by omega
 have g2 : igcd (2 * p) (2 * q) ≤ 2 := by omega
 obtain ⟨d, hd⟩ := h7
 have HX1 : IntKind.i64.wrap ((b0 - a0).tdiv (igcd (2 * p) (2 * q))) = (b0 - a0) / 2 := by
  rw [e0, hd, Int.mul_tdiv_cancel_left _ (by omega), Int.mul_ediv_cancel_left _ (by omega)]; exact int_in (by omega)
 have HX2 : IntKind.i64.wrap ((2 * p).tdiv (igcd (2 * p) (2 * q))) = p := by
  rw [e0, Int.mul_tdiv_cancel_left _ (by omega)]; exact int_in (by omega)
 have HX3 : IntKind.i64.wrap ((2 * q).tdiv (igcd (2 * p) (2 * q))) = q := by
  rw [e0, Int.mul_tdiv_cancel_left _ (by omega)]; exact int_in (by omega)
 have HT : (b0 - a0).tmod (igcd (2 * p) (2 * q)) = 0 := by rw [e0, hd, Int.mul_tmod_right]
 have HD : 2 * p / (igcd (2 * p) (2 * q)) = p := by rw [e0]; omega
 have HG2 := h6
 obtain ⟨i0, i1, _⟩ := inv_is h4 h6
 have ib : -100000000000 ≤ (b0 - a0) / 2 * invI p q ∧ (b0 - a0) / 2 * invI p q ≤ 100000000000 := mul_bd (A := 1000000) (B := 100000) (by omega) (by omega) (by omega)
 have k0 : 0 ≤ cmK a0 p b0 q := Int.emod_nonneg _ (by omega)
 have k1 : cmK a0 p b0 q < q := Int.emod_lt_of_pos _ (by omega)
 have pk : -20000000000 ≤ 2 * p * cmK a0 p b0 q ∧ 2 * p * cmK a0 p b0 q ≤ 20000000000 := mul_bd (A := 200000) (B := 100000) (by omega) (by omega) (by omega)
 have pq : -20000000000 ≤ p * (2 * q) ∧ p * (2 * q) ≤ 20000000000 := mul_bd (A := 100000) (B := 200000) (by omega) (by omega) (by omega)
 have pq2 : 0 < p * (2 * q) := Int.mul_pos (by omega) (by omega)
 clear e0 hd
 go_enter Try.func101, Try.ntmps101
 go_upto_region 4 with (go_at_call 54; refine (nuGcd_a _ _ _ (by first | assumption | omega) (by first | assumption | omega)).mono ?_; rintro e w' ⟨rfl, nq, rfl⟩)
 go_cut [12] (fun s12 wx => s12 = .int .i64 (cmK a0 p b0 q) ∧ Below w.heap.size w wx)
 case first =>
  have h1 := trivial
  rename_i K2 h2 h3
  refine region_n0 (by kernel_rfl) (fun j => #[23,24,25,26,27,28,29,30,31,32,33,34,35,36,37,38,39,12].getD j 0) (fun j => Kd.ok ((fun j => match j with | 0 => Kd.val (.int .i64 b0) | 1 => Kd.val (.int .i64 a0) | 2 => Kd.val (.int .i64 (b0 - a0)) | 3 => Kd.val (.int .i64 (igcd (2 * p) (2 * q))) | 4 => Kd.val (.int .i64 ((b0 - a0) / 2)) | 5 => Kd.val (.int .i64 (2 * p)) | 6 => Kd.val (.int .i64 (igcd (2 * p) (2 * q))) | 7 => Kd.val (.int .i64 p) | 8 => Kd.val (.int .i64 (2 * q)) | 9 => Kd.val (.int .i64 (igcd (2 * p) (2 * q))) | 10 => Kd.val (.int .i64 q) | 11 => Kd.val (.int .i64 (invI p q)) | 12 => Kd.val (.int .i64 (((b0 - a0) / 2) * (invI p q))) | 13 => Kd.val (.int .i64 (2 * q)) | 14 => Kd.val (.int .i64 (igcd (2 * p) (2 * q))) | 15 => Kd.val (.int .i64 q) | 16 => Kd.val (.int .i64 (cmK a0 p b0 q)) | 17 => Kd.val (.int .i64 (cmK a0 p b0 q)) | _ => Kd.any : Nat → Kd) j)) (Sy w (w.heap.size) [] []) (by kernel_rfl) (by kernel_rfl) ?_ ?_ ?_ ?_
  ·intro j hj
   have hj2 : j < 18 := hj
   have : ∀ j, j < 18 → (#[23,24,25,26,27,28,29,30,31,32,33,34,35,36,37,38,39,12] : Array Nat).getD j 0 < 53 := by decide
   exact this j hj2
  ·refine Sy.drew (Sy.mk_of ?_ ?_ ?_ ?_)
   ·first | rfl | (simp; done) | (simp; omega)
   ·intro c hc; cases hc
   ·intro p hp; cases hp
   ·(repeat' first | with_reducible (first | exact Below.refl _ _ | assumption | refine gr_alloc ?_ _ | refine below_drewN ?_ _ | refine below_drew ?_ | refine gr_call ?_ (by assumption) | refine Below.setCell ?_ ?_ _) | go_size | omega | (simp; omega))
  ·clear h1 h2 h3
   refine ⟨?r10x0, ?r10x1, ?r10x2, ?r10x3, ?r10x4, ?r10x5, ?r10x6, ?r10x7, ?r10x8, ?r10x9, ?r10x10, ?r10x11, ?r10x12, ?r10x13, ?r10x14, ?r10x15, ?r10x16, ?r10x17, trivial⟩
   all_goals intro _ aq wx Kq hf hS hdep ev1 ev2 hK
   case' r10x0 =>
    have F2 : aq.eval (.tmp 2) = .int .i64 b0 := hf 2
   case' r10x1 =>
    have F0 : aq.eval (.tmp 0) = .int .i64 a0 := hf 0
   case' r10x2 =>
    have D0 : aq.eval (.tmp 23) = _ := hdep 0
    have D1 : aq.eval (.tmp 24) = _ := hdep 1
   case' r10x3 =>
    have F11 : aq.eval (.tmp 11) = .int .i64 (igcd (2 * p) (2 * q)) := hf 11
   case' r10x4 =>
    have D2 : aq.eval (.tmp 25) = _ := hdep 2
    have D3 : aq.eval (.tmp 26) = _ := hdep 3
   case' r10x5 =>
    have F1 : aq.eval (.tmp 1) = .int .i64 (2 * p) := hf 1
   case' r10x6 =>
    have F11 : aq.eval (.tmp 11) = .int .i64 (igcd (2 * p) (2 * q)) := hf 11
   case' r10x7 =>
    have D5 : aq.eval (.tmp 28) = _ := hdep 5
    have D6 : aq.eval (.tmp 29) = _ := hdep 6
   case' r10x8 =>
    have F3 : aq.eval (.tmp 3) = .int .i64 (2 * q) := hf 3
   case' r10x9 =>
    have F11 : aq.eval (.tmp 11) = .int .i64 (igcd (2 * p) (2 * q)) := hf 11
   case' r10x10 =>
    have D8 : aq.eval (.tmp 31) = _ := hdep 8
    have D9 : aq.eval (.tmp 32) = _ := hdep 9
   case' r10x11 =>
    have D7 : aq.eval (.tmp 30) = _ := hdep 7
    have D10 : aq.eval (.tmp 33) = _ := hdep 10
   case' r10x12 =>
    have D4 : aq.eval (.tmp 27) = _ := hdep 4
    have D11 : aq.eval (.tmp 34) = _ := hdep 11
   case' r10x13 =>
    have F3 : aq.eval (.tmp 3) = .int .i64 (2 * q) := hf 3
   case' r10x14 =>
    have F11 : aq.eval (.tmp 11) = .int .i64 (igcd (2 * p) (2 * q)) := hf 11
   case' r10x15 =>
    have D13 : aq.eval (.tmp 36) = _ := hdep 13
    have D14 : aq.eval (.tmp 37) = _ := hdep 14
   case' r10x16 =>
    have D12 : aq.eval (.tmp 35) = _ := hdep 12
    have D15 : aq.eval (.tmp 38) = _ := hdep 15
   case' r10x17 =>
    have D16 : aq.eval (.tmp 39) = _ := hdep 16
   all_goals (clear hf hdep; unfold Oper.wp; generalize Act.eval _ = ev at *; go_simp)
   case' r10x4 =>
    try rw [if_neg (by omega), Oper.upon_value]
   case' r10x7 =>
    try rw [if_neg (by omega), Oper.upon_value]
   case' r10x10 =>
    try rw [if_neg (by omega), Oper.upon_value]
   case r10x11 =>
    refine ((nuInverse_i p q _ (by omega) (by omega) (by omega) HG2)).mono ?_
    rintro e w2 ⟨rfl, rfl⟩
    refine hK _ _ (hS.call (below_refl_self _)) ?_ (fun j u _ h => Kd.ok_below (below_refl_self _) h)
    rw [if_pos (by rfl)]
    show (_ : Value) = _
    first | rfl | (refine congrArg (Value.int .i64) ?_; first | rfl | exact int_in (by omega) | exact quo_in (by omega) (by omega) (by omega) | exact rem_in (by omega) (by omega) | omega | exact HX1 | exact HX2 | exact HX3) | (simp; done) | (simp [*]; done)
   case' r10x15 =>
    try rw [if_neg (by omega), Oper.upon_value]
   case r10x16 =>
    refine ((nuMod_a ((b0 - a0) / 2 * invI p q) q _ (by omega) (by omega) (by omega))).mono ?_
    rintro e w2 ⟨rfl, rfl⟩
    refine hK _ _ (hS.call (below_refl_self _)) ?_ (fun j u _ h => Kd.ok_below (below_refl_self _) h)
    rw [if_pos (by rfl)]
    show (_ : Value) = _
    first | rfl | (refine congrArg (Value.int .i64) ?_; first | rfl | exact int_in (by omega) | exact quo_in (by omega) (by omega) (by omega) | exact rem_in (by omega) (by omega) | omega | exact HX1 | exact HX2 | exact HX3) | (simp; done) | (simp [*]; done)
   all_goals (refine hK _ _ hS ?_ (fun j u _ h => h); rw [if_pos (by rfl)]; show (_ : Value) = _; (first | rfl | (refine congrArg (Value.int .i64) ?_; first | rfl | exact int_in (by omega) | exact quo_in (by omega) (by omega) (by omega) | exact rem_in (by omega) (by omega) | omega | exact HX1 | exact HX2 | exact HX3) | (simp; done) | (simp [*]; done)))
  ·intro aq wx hd hw hf hS hg
   have G12 : tau aq 12 = .int .i64 (cmK a0 p b0 q) := hg 17 (by decide)
   have haq : aq = ⟨#[tau aq 0, tau aq 1, tau aq 2, tau aq 3, tau aq 4, tau aq 5, tau aq 6, tau aq 7, tau aq 8, tau aq 9, tau aq 10, tau aq 11, tau aq 12, tau aq 13, tau aq 14, tau aq 15, tau aq 16, tau aq 17, tau aq 18, tau aq 19, tau aq 20, tau aq 21, tau aq 22, tau aq 23, tau aq 24, tau aq 25, tau aq 26, tau aq 27, tau aq 28, tau aq 29, tau aq 30, tau aq 31, tau aq 32, tau aq 33, tau aq 34, tau aq 35, tau aq 36, tau aq 37, tau aq 38, tau aq 39, tau aq 40, tau aq 41, tau aq 42, tau aq 43, tau aq 44, tau aq 45, tau aq 46, tau aq 47, tau aq 48, tau aq 49, tau aq 50, tau aq 51, tau aq 52], []⟩ := by
    obtain ⟨tq, dq⟩ := aq
    have h5 := arr_eq (show tq.size = 53 from hw)
    have h6 : dq = [] := hd
    subst h6
    exact congrArg (fun z => Act.mk z []) h5
   show K2 aq wx
   rw [haq, hf 0, hf 1, hf 2, hf 3, hf 4, hf 5, hf 6, hf 7, hf 8, hf 9, hf 10, hf 11, hf 13, hf 14, hf 15, hf 16, hf 17, hf 18, hf 19, hf 20, hf 21, hf 22, hf 40, hf 41, hf 42, hf 43, hf 44, hf 45, hf 46, hf 47, hf 48, hf 49, hf 50, hf 51, hf 52, G12]
   clear haq hf hd hw
   try dsimp only
   refine h3 _ _ ?_
   go_meet
   exact ⟨rfl, hS.below⟩
 obtain ⟨rfl, hb0⟩ := hcut
 go_wp2_with (go_at_call 48; refine (nuMod_a _ _ _ (by first | assumption | omega) (by first | assumption | omega) (by first | assumption | omega)).mono ?_; rintro e w' ⟨rfl, rfl⟩)
 go_ret3
 exact ⟨rfl, byGG⟩

theorem nuCommon_rw (a0 p b0 q t : Int) (w : World) (h0 : -1000000 ≤ a0 ∧ a0 ≤ 1000000) (h1 : -1000000 ≤ b0 ∧ b0 ≤ 1000000) (h2 : 1 ≤ p) (h3 : p ≤ 100000) (h4 : 1 ≤ q) (h5 : q ≤ 100000) (h6 : Int.gcd q p = 1) (h7 : 2 ∣ b0 - a0) (hT : cmT a0 p b0 q = t) :
  Calls Try.prog 101 #[.int .i64 a0, .int .i64 (2 * p), .int .i64 b0, .int .i64 (2 * q)] w fun e w' => e = .returned (.tuple #[.int .i64 t, .int .i64 (p * (2 * q)), .bool true]) ∧ Below w.heap.size w w' := by
 subst hT
 exact nuCommon_z a0 p b0 q w h0 h1 h2 h3 h4 h5 h6 h7
end Go.Proofs.Ytaeabefbohlcpaa
