/- Forms as triples: bounds, reduced forms, discriminants. -/
import Derived.Test.YtihfacmlfelliaaGreatGp
import Derived.Test.YtihfacmlfelliaaGreatRule
import Derived.Test.YtihfacmlfelliaaGreatOwn
namespace Go.Proofs.YtihfacmlfelliaaGreat
open Go.RowKit
set_option linter.unusedVariables false
set_option linter.unusedSimpArgs false
attribute [local go_sem] q2 q3 q4 q5 q6 q7 q8 q9 q10 q11 q12

theorem reduced_D {D : Int} (F : T3) (w : World) (h : InD D F) : Calls Tryz.prog 53 #[frm F] w fun e w' => e = .returned (frm (rdT F)) ∧ Below w.heap.size w w' :=
 reduced_a F.1 F.2.1 F.2.2 w h.cl.ok
theorem reClass_D {D : Int} (F : T3) (w : World) (h : InD D F) : Calls Tryz.prog 40 #[frm F] w fun e w' => e = .returned (frm (rdT F)) ∧ Below w.heap.size w w' :=
 reClass_a F.1 F.2.1 F.2.2 w h.cl.ok
theorem bnd_of {F : T3} (h : RcT F) : (1 ≤ F.1 ∧ F.1 ≤ 26) ∧ (-26 ≤ F.2.1 ∧ F.2.1 ≤ 26) ∧ (1 ≤ F.2.2 ∧ F.2.2 ≤ 100000000) := by
 have hr : RedC F.1 F.2.1 F.2.2 := h
 obtain ⟨s1, s2, s3, s4⟩ := red_small hr.cls.ok hr.red
 have a0 := hr.cls.ok.a0
 have c0 := hr.cls.ok.c0
 have c1 := hr.cls.ok.c1
 omega
theorem disc_D {D : Int} (F : T3) (w : World) (h : InD D F) (hf : formB F.1 F.2.1 F.2.2 = true) : Calls Tryz.prog 71 #[frm F] w fun e w' => e = .returned (.int .i64 D) ∧ Below w.heap.size w w' :=
 (disc_a F.1 F.2.1 F.2.2 w hf).mono fun e w' ⟨he, hb⟩ => ⟨by rw [← h.d]; exact he, hb⟩
theorem foDisc_D {D : Int} (F : T3) (w : World) (h : InD D F) (hf : formB F.1 F.2.1 F.2.2 = true) : Calls Tryz.prog 42 #[frm F] w fun e w' => e = .returned (.int .i64 D) ∧ Below w.heap.size w w' :=
 (foDisc_a F.1 F.2.1 F.2.2 w hf).mono fun e w' ⟨he, hb⟩ => ⟨by rw [← h.d]; exact he, hb⟩
structure Frm (D : Int) (F : T3) : Prop where
 i : InD D F
 f : formB F.1 F.2.1 F.2.2 = true
theorem Frm.of {D : Int} {F : T3} (h : InD D F) (h2 : RcT F) : Frm D F := ⟨h, red_form h2⟩
theorem Frm.rd {D : Int} {F : T3} (h : Frm D F) : Frm D (rdT F) := .of h.i.rd (rd_rc h.i.cl)
theorem Frm.cp {D : Int} {F G : T3} (h : Frm D F) (h2 : Frm D G) : Frm D (cmp F G) := .of (h.i.cp h2.i) (h.i.rc h2.i)
theorem Frm.on {D : Int} {F : T3} (h : Frm D F) : Frm D (onT D) ∧ RcT (onT D) := by
 have := one_in h.i.cl
 rw [h.i.d] at this
 exact ⟨.of this.1 this.2, this.2⟩
theorem Frm.dd {D : Int} {F : T3} (h : Frm D F) : -2000 ≤ D ∧ D < 0 := by
 have h1 := h.i.cl.ok.d0
 have h2 := h.i.cl.ok.d1
 have h3 : discI F.1 F.2.1 F.2.2 = D := h.i.d
 omega

set_option maxRecDepth 100000 in
set_option maxHeartbeats 4000000 in
theorem principal_D (D : Int) (w : World) (h0 : -2000 ≤ D) (h1 : D < 0) :
  Calls Tryz.prog 72 #[.int .i64 D] w fun e w' => e = .returned (frm (onT D)) ∧ Below w.heap.size w w' := by
 have hm := Int.emod_two_eq D
 have HQ : IntKind.i64.wrap ((D % 2 - D).tdiv 4) = (D % 2 - D) / 4 := quo_in (by omega) (by omega) (by omega)
 go_enter Tryz.func72, Tryz.ntmps72
 go_wp2_with (go_at_call 75; refine (mod_a _ _ _ (by first | assumption | omega) (by first | assumption | omega) (by first | assumption | omega)).mono ?_; rintro e w' ⟨rfl, rfl⟩)
 refine bodyPost_ret (v := .agg #[.int .i64 1, .int .i64 (D % 2), .int .i64 ((D % 2 - D) / 4)]) (by simp [results, Tryz.results72, go_sem, *]) rfl ?_
 exact ⟨rfl, byGG⟩

set_option maxRecDepth 100000 in
set_option maxHeartbeats 4000000 in
theorem coOne_D (D : Int) (w : World) (h0 : -2000 ≤ D) (h1 : D < 0) :
  Calls Tryz.prog 41 #[.int .i64 D] w fun e w' => e = .returned (frm (onT D)) ∧ Below w.heap.size w w' := by
 have hm := Int.emod_two_eq D
 have HQ : IntKind.i64.wrap ((D % 2 - D).tdiv 4) = (D % 2 - D) / 4 := quo_in (by omega) (by omega) (by omega)
 go_enter Tryz.func41, Tryz.ntmps41
 go_wp2_with (go_at_call 81; refine (nuMod_a _ _ _ (by first | assumption | omega) (by first | assumption | omega) (by first | assumption | omega)).mono ?_; rintro e w' ⟨rfl, rfl⟩)
 refine bodyPost_ret (v := .agg #[.int .i64 1, .int .i64 (D % 2), .int .i64 ((D % 2 - D) / 4)]) (by simp [results, Tryz.results41, go_sem, *]) rfl ?_
 exact ⟨rfl, byGG⟩

noncomputable def pwD (D : Int) (F : T3) (k : Int) : T3 := pwL (onT D) (rdT F) k.toNat
noncomputable def quD (D : Int) (F : T3) (t l : Int) : T3 := quL F l (onT D) 1 t.toNat
theorem on_rd {D : Int} {F : T3} (h : Frm D F) : rdT (onT D) = onT D := rd_same h.on.2
theorem Frm.pw {D : Int} {F : T3} (h : Frm D F) (k : Int) : Frm D (pwD D F k) := .of (pwL_in _ h.on.1.i h.i.rd) (pwL_rc _ h.on.1.i h.i.rd h.on.2)
theorem Frm.qu {D : Int} {F : T3} (h : Frm D F) (t l : Int) : Frm D (quD D F t l) := .of (quL_in h.i _ h.on.1.i) (quL_rc h.i _ h.on.1.i h.on.2)
theorem qu_rd {D : Int} {F : T3} (h : Frm D F) (t l : Int) : rdT (quD D F t l) = quD D F t l := rd_same (quL_rc h.i _ h.on.1.i h.on.2)
theorem Frm.sq {D : Int} {F : T3} (h : Frm D F) (n : Nat) : Frm D (sqN (rdT F) n) := .of (sqN_in n h.i.rd) (sqN_rc n h.i.rd (rd_rc h.i.cl))
theorem tq_mod {n : Int} (h : 0 ≤ n) : n.tmod 2 = n % 2 := Int.tmod_eq_emod_of_nonneg h
theorem pw_odd {p g : T3} {n : Int} (h0 : 0 ≤ n) (h : n % 2 = 1) : pwL p g n.toNat = pwL (cmp p g) (cmp g g) (n / 2).toNat := by
 rw [pwL, dif_neg (by omega), if_pos (by omega), show n.toNat / 2 = (n / 2).toNat by omega]
theorem pw_even {p g : T3} {n : Int} (h0 : 0 < n) (h : ¬ n % 2 = 1) : pwL p g n.toNat = pwL p (cmp g g) (n / 2).toNat := by
 rw [pwL, dif_neg (by omega), if_neg (by omega), show n.toNat / 2 = (n / 2).toNat by omega]
theorem pw_zero {p g : T3} : pwL p g (0 : Int).toNat = p := by rw [pwL]; simp
theorem qu_hi {F p : T3} {l r n : Int} (h : 0 < n) (hl : l ≤ 2 * r) : quL F l p r n.toNat = quL F l (cmp (cmp p p) F) (2 * r - l) (n - 1).toNat := by
 rw [show n.toNat = (n - 1).toNat + 1 by omega, quL, if_pos hl]
theorem qu_lo {F p : T3} {l r n : Int} (h : 0 < n) (hl : ¬ l ≤ 2 * r) : quL F l p r n.toNat = quL F l (cmp p p) (2 * r) (n - 1).toNat := by
 rw [show n.toNat = (n - 1).toNat + 1 by omega, quL, if_neg hl]
theorem int_wrap {n : Int} (h0 : 0 ≤ n) (h1 : n ≤ 1000000) : IntKind.i64.wrap (n.tdiv 2) = n / 2 := quo_in h0 (by omega) (by omega)

end Go.Proofs.YtihfacmlfelliaaGreat
