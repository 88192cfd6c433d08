/-
  The group's functions over triples: impl.
-/
import Derived.Test.YtninagdclibmnaaMul
import Derived.Test.YtninagdclibmnaaGp
import Derived.Test.YtninagdclibmnaaOwn
namespace Go.Proofs.Ytninagdclibmnaa
open Go.RowKit
set_option linter.unusedVariables false
set_option linter.unusedSimpArgs false
attribute [local go_sem] q2 q3 q4 q5 q6 q7 q8 q9 q10 q11 q12

theorem reduced_D {D : Int} (F : T3) (w : World) (h : InD D F) : Calls Try.prog 67 #[frm F] w fun e w' => e = .returned (frm (rdT F)) ∧ Below w.heap.size w w' :=
  reduced_a F.1 F.2.1 F.2.2 w h.cl.ok
theorem reClass_D {D : Int} (F : T3) (w : World) (h : InD D F) : Calls Try.prog 65 #[frm F] w fun e w' => e = .returned (frm (rdT F)) ∧ Below w.heap.size w w' :=
  reClass_a F.1 F.2.1 F.2.2 w h.cl.ok
theorem compose_D {D : Int} (F G : T3) (w : World) (h : InD D F) (h2 : InD D G) : Calls Try.prog 72 #[frm F, frm G] w fun e w' => e = .returned (frm (cmp F G)) ∧ Below w.heap.size w w' :=
  (compose_r F.1 F.2.1 F.2.2 G.1 G.2.1 G.2.2 w h.cl h2.cl (h2.d.trans h.d.symm)).mono fun e w' ⟨u, v, k, he, hc, hb⟩ => ⟨by rw [cp_of hc]; exact he, hb⟩
theorem coMul_D {D : Int} (F G : T3) (w : World) (h : InD D F) (h2 : InD D G) : Calls Try.prog 66 #[frm F, frm G] w fun e w' => e = .returned (frm (cmp F G)) ∧ Below w.heap.size w w' :=
  (coMul_r F.1 F.2.1 F.2.2 G.1 G.2.1 G.2.2 w h.cl h2.cl (h2.d.trans h.d.symm)).mono fun e w' ⟨u, v, k, he, hc, hb⟩ => ⟨by rw [cp_of hc]; exact he, hb⟩
theorem bnd_of {F : T3} (h : RcT F) : (1 ≤ F.1 ∧ F.1 ≤ 26) ∧ (-26 ≤ F.2.1 ∧ F.2.1 ≤ 26) ∧ (1 ≤ F.2.2 ∧ F.2.2 ≤ 100000000) := by
  have hr : RedC F.1 F.2.1 F.2.2 := h
  obtain ⟨s1, s2, s3, s4⟩ := red_small hr.cls.ok hr.red
  have a0 := hr.cls.ok.a0
  have c0 := hr.cls.ok.c0
  have c1 := hr.cls.ok.c1
  omega
theorem disc_D {D : Int} (F : T3) (w : World) (h : InD D F) (hf : formB F.1 F.2.1 F.2.2 = true) : Calls Try.prog 92 #[frm F] w fun e w' => e = .returned (.int .i64 D) ∧ Below w.heap.size w w' :=
  (disc_a F.1 F.2.1 F.2.2 w hf).mono fun e w' ⟨he, hb⟩ => ⟨by rw [← h.d]; exact he, hb⟩
theorem foDisc_D {D : Int} (F : T3) (w : World) (h : InD D F) (hf : formB F.1 F.2.1 F.2.2 = true) : Calls Try.prog 78 #[frm F] w fun e w' => e = .returned (.int .i64 D) ∧ Below w.heap.size w w' :=
  (foDisc_a F.1 F.2.1 F.2.2 w hf).mono fun e w' ⟨he, hb⟩ => ⟨by rw [← h.d]; exact he, hb⟩
/-- A class form of the program: within bounds. -/
structure Frm (D : Int) (F : T3) : Prop where
  i : InD D F
  f : formB F.1 F.2.1 F.2.2 = true
theorem Frm.of {D : Int} {F : T3} (h : InD D F) (h2 : RcT F) : Frm D F := ⟨h, red_form h2⟩
theorem Frm.rd {D : Int} {F : T3} (h : Frm D F) : Frm D (rdT F) := .of h.i.rd (rd_rc h.i.cl)
theorem Frm.cp {D : Int} {F G : T3} (h : Frm D F) (h2 : Frm D G) : Frm D (cmp F G) := .of (h.i.cp h2.i) (h.i.rc h2.i)
theorem Frm.on {D : Int} {F : T3} (h : Frm D F) : Frm D (onT D) ∧ RcT (onT D) := by
  have := one_in h.i.cl
  rw [h.i.d] at this
  exact ⟨.of this.1 this.2, this.2⟩
theorem Frm.dd {D : Int} {F : T3} (h : Frm D F) : -2000 ≤ D ∧ D < 0 := by
  have h1 := h.i.cl.ok.d0
  have h2 := h.i.cl.ok.d1
  have h3 : discI F.1 F.2.1 F.2.2 = D := h.i.d
  omega

set_option maxRecDepth 100000 in
set_option maxHeartbeats 4000000 in
theorem principal_D (D : Int) (w : World) (h0 : -2000 ≤ D) (h1 : D < 0) :
    Calls Try.prog 119 #[.int .i64 D] w fun e w' => e = .returned (frm (onT D)) ∧ Below w.heap.size w w' := by
  have hm := Int.emod_two_eq D
  have HQ : IntKind.i64.wrap ((D % 2 - D).tdiv 4) = (D % 2 - D) / 4 := quo_in (by omega) (by omega) (by omega)
  go_enter Try.func119, Try.ntmps119
  go_wp2_with (go_at_call 109; refine (mod_a _ _ _ (by first | assumption | omega) (by first | assumption | omega) (by first | assumption | omega)).mono ?_; rintro e w' ⟨rfl, rfl⟩)
  refine bodyPost_ret (v := .agg #[.int .i64 1, .int .i64 (D % 2), .int .i64 ((D % 2 - D) / 4)]) (by simp [results, Try.results119, go_sem, *]) rfl ?_
  exact ⟨rfl, by (repeat' first | with_reducible (first | exact Below.refl _ _ | assumption | refine gr_alloc ?_ _ | refine below_drewN ?_ _ | refine below_drew ?_ | refine gr_call ?_ (by assumption) | refine Below.setCell ?_ ?_ _) | go_size | omega | (simp; omega))⟩

set_option maxRecDepth 100000 in
set_option maxHeartbeats 4000000 in
theorem coOne_D (D : Int) (w : World) (h0 : -2000 ≤ D) (h1 : D < 0) :
    Calls Try.prog 77 #[.int .i64 D] w fun e w' => e = .returned (frm (onT D)) ∧ Below w.heap.size w w' := by
  have hm := Int.emod_two_eq D
  have HQ : IntKind.i64.wrap ((D % 2 - D).tdiv 4) = (D % 2 - D) / 4 := quo_in (by omega) (by omega) (by omega)
  go_enter Try.func77, Try.ntmps77
  go_wp2_with (go_at_call 121; refine (nuMod_a _ _ _ (by first | assumption | omega) (by first | assumption | omega) (by first | assumption | omega)).mono ?_; rintro e w' ⟨rfl, rfl⟩)
  refine bodyPost_ret (v := .agg #[.int .i64 1, .int .i64 (D % 2), .int .i64 ((D % 2 - D) / 4)]) (by simp [results, Try.results77, go_sem, *]) rfl ?_
  exact ⟨rfl, by (repeat' first | with_reducible (first | exact Below.refl _ _ | assumption | refine gr_alloc ?_ _ | refine below_drewN ?_ _ | refine below_drew ?_ | refine gr_call ?_ (by assumption) | refine Below.setCell ?_ ?_ _) | go_size | omega | (simp; omega))⟩

set_option maxRecDepth 100000 in
set_option maxHeartbeats 8000000 in
theorem square_D {D : Int} (F : T3) (t : Int) (w : World) (h0 : InD D F) (h1 : 0 ≤ t) (h2 : t ≤ 1000000) :
    Calls Try.prog 64 #[frm F, .int .i64 t] w fun e w' => e = .returned (frm (sqN (rdT F) t.toNat)) ∧ Below w.heap.size w w' := by
  go_enter Try.func64, Try.ntmps64
  go_wp2_with fail
  refine (reduced_D F _ h0).mono ?_
  rintro en w1 ⟨rfl, hb1⟩
  have hcs9 := cells_calls hb1 [⟨w.heap.size, 0, none⟩, ⟨w.heap.size, 1, none⟩, ⟨w.heap.size, 2, none⟩, ⟨w.heap.size + 1, 0, none⟩, ⟨w.heap.size + 1, 1, none⟩, ⟨w.heap.size + 1, 2, none⟩] [.int .i64 (F.1), .int .i64 (F.2.1), .int .i64 (F.2.2), .int .i64 0, .int .i64 0, .int .i64 0] (by refine ⟨?_, ?_, ?_, ?_, ?_, ?_, trivial⟩ <;> (first | with_reducible assumption | ((repeat' first | with_reducible (first | assumption | refine cell_al _ ?_ | refine cell_eq _ ?_ | refine cell_ne _ ?_ ?_ | refine ex_set _ ?_ | refine ex_al _ ?_ | exact ⟨_, by assumption⟩) | (intro hh; injection hh with hh1 hh2; omega)); done) | go_simp))
  have hfs9 := frees_calls hb1 [⟨w.heap.size, 0, none⟩, ⟨w.heap.size, 1, none⟩, ⟨w.heap.size, 2, none⟩, ⟨w.heap.size + 1, 0, none⟩, ⟨w.heap.size + 1, 1, none⟩, ⟨w.heap.size + 1, 2, none⟩] (by refine ⟨?_, ?_, ?_, ?_, ?_, ?_, trivial⟩ <;> first | with_reducible assumption | omega | (simp; omega) | (simp; done)) (by refine ⟨?_, ?_, ?_, ?_, ?_, ?_, trivial⟩ <;> (first | with_reducible assumption | ((repeat' first | with_reducible (first | assumption | refine frz_al _ ?_ ?_ | refine frz_set _ ?_) | omega | (simp; omega)); done) | go_simp))
  have hzs9 := blocks_calls hb1 [w.heap.size, w.heap.size + 1] (by refine ⟨?_, ?_, trivial⟩ <;> first | with_reducible assumption | omega | (simp; omega) | (simp; done))
  try clear c00 c01 c02 f00 f01 f02
  try clear c10 c11 c12 f10 f11 f12
  obtain ⟨c00, c01, c02, c10, c11, c12, -⟩ := hcs9
  obtain ⟨f00, f01, f02, f10, f11, f12, -⟩ := hfs9
  obtain ⟨z0, z1, -⟩ := hzs9
  have hs1 := hb1.size
  have o10 := z0
  have o11 := z1
  go_wp2

  go_loopw [1] (fun s1 wr => ∃ n : Int, ∃ G : T3, s1 = .int .i64 n ∧ 0 ≤ n ∧ n ≤ 1000000 ∧ InD D G ∧ Hid (sqN G n.toNat = sqN (rdT F) t.toNat) ∧ wr.cell? ⟨w.heap.size, 0, none⟩ = some (.int .i64 (G.1)) ∧ wr.cell? ⟨w.heap.size, 1, none⟩ = some (.int .i64 (G.2.1)) ∧ wr.cell? ⟨w.heap.size, 2, none⟩ = some (.int .i64 (G.2.2)) ∧ wr.cell? ⟨w.heap.size + 1, 0, none⟩ = some (.int .i64 0) ∧ wr.cell? ⟨w.heap.size + 1, 1, none⟩ = some (.int .i64 0) ∧ wr.cell? ⟨w.heap.size + 1, 2, none⟩ = some (.int .i64 0) ∧ wr.frozen? ⟨w.heap.size, 0, none⟩ = false ∧ wr.frozen? ⟨w.heap.size, 1, none⟩ = false ∧ wr.frozen? ⟨w.heap.size, 2, none⟩ = false ∧ wr.frozen? ⟨w.heap.size + 1, 0, none⟩ = false ∧ wr.frozen? ⟨w.heap.size + 1, 1, none⟩ = false ∧ wr.frozen? ⟨w.heap.size + 1, 2, none⟩ = false ∧ Below w.heap.size w wr) (fun s1 _ => (intOf s1).toNat)
  case atStart =>
    refine ⟨t, rdT F, rfl, h1, h2, h0.rd, hide rfl, ?_, ?_, ?_, ?_, ?_, ?_, ?_, ?_, ?_, ?_, ?_, ?_, ?_⟩
    all_goals (first | (with_reducible assumption) | ((first | with_reducible assumption | ((repeat' first | with_reducible (first | assumption | refine cell_al _ ?_ | refine cell_eq _ ?_ | refine cell_ne _ ?_ ?_ | refine ex_set _ ?_ | refine ex_al _ ?_ | exact ⟨_, by assumption⟩) | (intro hh; injection hh with hh1 hh2; omega)); done) | go_simp); done) | ((first | with_reducible assumption | ((repeat' first | with_reducible (first | assumption | refine frz_al _ ?_ ?_ | refine frz_set _ ?_) | omega | (simp; omega)); done) | go_simp); done) | (repeat' first | with_reducible (first | exact Below.refl _ _ | assumption | refine gr_alloc ?_ _ | refine below_drewN ?_ _ | refine below_drew ?_ | refine gr_call ?_ (by assumption) | refine Below.setCell ?_ ?_ _) | go_size | omega | (simp; omega)))
  case round =>
    try clear c00; try clear c01; try clear c02; try clear c10; try clear c11; try clear c12; try clear f00; try clear f01; try clear f02; try clear f10; try clear f11; try clear f12
    try clear hb9
    obtain ⟨n, G, rfl, hn0, hn1, hG, HS, c00, c01, c02, c10, c11, c12, f00, f01, f02, f10, f11, f12, hb9⟩ := hrel
    obtain ⟨wl, rfl⟩ : ∃ wl : World, wl = wr := ⟨_, rfl⟩
    have z0 := World.block_lt_of_cell? _ _ c00
    change w.heap.size < wl.heap.size at z0
    have z1 := World.block_lt_of_cell? _ _ c10
    change w.heap.size + 1 < wl.heap.size at z1
    by_cases q : n = 0
    · subst q
      have HE : G = sqN (rdT F) t.toNat := by have := unhide HS; simpa [sqN] using this
      go_wp2
      refine bodyPost_ret (v := frm G) (by simp [results, Try.results64, go_sem, *]) rfl ?_
      exact ⟨by rw [HE], by (repeat' first | with_reducible (first | exact Below.refl _ _ | assumption | refine gr_alloc ?_ _ | refine below_drewN ?_ _ | refine below_drew ?_ | refine gr_call ?_ (by assumption) | refine Below.setCell ?_ ?_ _) | go_size | omega | (simp; omega))⟩
    · have HE : Hid (sqN (cmp G G) (n - 1).toNat = sqN (rdT F) t.toNat) := hide (by
        have := unhide HS
        rw [show n.toNat = (n - 1).toNat + 1 by omega, sqN] at this
        exact this)
      clear HS
      go_wp2_with fail
      refine (compose_D G G _ hG hG).mono ?_
      rintro en w2 ⟨rfl, hb2⟩
      have hcs9 := cells_calls hb2 [⟨w.heap.size, 0, none⟩, ⟨w.heap.size, 1, none⟩, ⟨w.heap.size, 2, none⟩, ⟨w.heap.size + 1, 0, none⟩, ⟨w.heap.size + 1, 1, none⟩, ⟨w.heap.size + 1, 2, none⟩] [.int .i64 (G.1), .int .i64 (G.2.1), .int .i64 (G.2.2), .int .i64 0, .int .i64 0, .int .i64 0] (by refine ⟨?_, ?_, ?_, ?_, ?_, ?_, trivial⟩ <;> (first | with_reducible assumption | ((repeat' first | with_reducible (first | assumption | refine cell_al _ ?_ | refine cell_eq _ ?_ | refine cell_ne _ ?_ ?_ | refine ex_set _ ?_ | refine ex_al _ ?_ | exact ⟨_, by assumption⟩) | (intro hh; injection hh with hh1 hh2; omega)); done) | go_simp))
      have hfs9 := frees_calls hb2 [⟨w.heap.size, 0, none⟩, ⟨w.heap.size, 1, none⟩, ⟨w.heap.size, 2, none⟩, ⟨w.heap.size + 1, 0, none⟩, ⟨w.heap.size + 1, 1, none⟩, ⟨w.heap.size + 1, 2, none⟩] (by refine ⟨?_, ?_, ?_, ?_, ?_, ?_, trivial⟩ <;> first | with_reducible assumption | omega | (simp; omega) | (simp; done)) (by refine ⟨?_, ?_, ?_, ?_, ?_, ?_, trivial⟩ <;> (first | with_reducible assumption | ((repeat' first | with_reducible (first | assumption | refine frz_al _ ?_ ?_ | refine frz_set _ ?_) | omega | (simp; omega)); done) | go_simp))
      have hzs9 := blocks_calls hb2 [w.heap.size, w.heap.size + 1] (by refine ⟨?_, ?_, trivial⟩ <;> first | with_reducible assumption | omega | (simp; omega) | (simp; done))
      try clear c00 c01 c02 f00 f01 f02
      try clear c10 c11 c12 f10 f11 f12
      obtain ⟨c00, c01, c02, c10, c11, c12, -⟩ := hcs9
      obtain ⟨f00, f01, f02, f10, f11, f12, -⟩ := hfs9
      obtain ⟨z0, z1, -⟩ := hzs9
      have hs2 := hb2.size
      have o20 := z0
      have o21 := z1
      go_wp2
      go_roundw
      case rel =>
        first
        | (refine ⟨n - 1, cmp G G, rfl, by omega, by omega, hG.cp hG, HE, ?_, ?_, ?_, ?_, ?_, ?_, ?_, ?_, ?_, ?_, ?_, ?_, ?_⟩ <;> (first | (with_reducible assumption) | ((first | with_reducible assumption | ((repeat' first | with_reducible (first | assumption | refine cell_al _ ?_ | refine cell_eq _ ?_ | refine cell_ne _ ?_ ?_ | refine ex_set _ ?_ | refine ex_al _ ?_ | exact ⟨_, by assumption⟩) | (intro hh; injection hh with hh1 hh2; omega)); done) | go_simp); done) | ((first | with_reducible assumption | ((repeat' first | with_reducible (first | assumption | refine frz_al _ ?_ ?_ | refine frz_set _ ?_) | omega | (simp; omega)); done) | go_simp); done) | (repeat' first | with_reducible (first | exact Below.refl _ _ | assumption | refine gr_alloc ?_ _ | refine below_drewN ?_ _ | refine below_drew ?_ | refine gr_call ?_ (by assumption) | refine Below.setCell ?_ ?_ _) | go_size | omega | (simp; omega))))
        | ((repeat apply Exists.intro); refine ⟨?_, rfl⟩; (refine ⟨n - 1, cmp G G, rfl, by omega, by omega, hG.cp hG, HE, ?_, ?_, ?_, ?_, ?_, ?_, ?_, ?_, ?_, ?_, ?_, ?_, ?_⟩ <;> (first | (with_reducible assumption) | ((first | with_reducible assumption | ((repeat' first | with_reducible (first | assumption | refine cell_al _ ?_ | refine cell_eq _ ?_ | refine cell_ne _ ?_ ?_ | refine ex_set _ ?_ | refine ex_al _ ?_ | exact ⟨_, by assumption⟩) | (intro hh; injection hh with hh1 hh2; omega)); done) | go_simp); done) | ((first | with_reducible assumption | ((repeat' first | with_reducible (first | assumption | refine frz_al _ ?_ ?_ | refine frz_set _ ?_) | omega | (simp; omega)); done) | go_simp); done) | (repeat' first | with_reducible (first | exact Below.refl _ _ | assumption | refine gr_alloc ?_ _ | refine below_drewN ?_ _ | refine below_drew ?_ | refine gr_call ?_ (by assumption) | refine Below.setCell ?_ ?_ _) | go_size | omega | (simp; omega)))))
      case measure => (simp [intOf] <;> omega)

noncomputable def pwD (D : Int) (F : T3) (k : Int) : T3 := pwL (onT D) (rdT F) k.toNat
noncomputable def quD (D : Int) (F : T3) (t l : Int) : T3 := quL F l (onT D) 1 t.toNat
theorem on_rd {D : Int} {F : T3} (h : Frm D F) : rdT (onT D) = onT D := rd_same h.on.2
theorem Frm.pw {D : Int} {F : T3} (h : Frm D F) (k : Int) : Frm D (pwD D F k) := .of (pwL_in _ h.on.1.i h.i.rd) (pwL_rc _ h.on.1.i h.i.rd h.on.2)
theorem Frm.qu {D : Int} {F : T3} (h : Frm D F) (t l : Int) : Frm D (quD D F t l) := .of (quL_in h.i _ h.on.1.i) (quL_rc h.i _ h.on.1.i h.on.2)
theorem qu_rd {D : Int} {F : T3} (h : Frm D F) (t l : Int) : rdT (quD D F t l) = quD D F t l := rd_same (quL_rc h.i _ h.on.1.i h.on.2)
theorem Frm.sq {D : Int} {F : T3} (h : Frm D F) (n : Nat) : Frm D (sqN (rdT F) n) := .of (sqN_in n h.i.rd) (sqN_rc n h.i.rd (rd_rc h.i.cl))
theorem tq_mod {n : Int} (h : 0 ≤ n) : n.tmod 2 = n % 2 := Int.tmod_eq_emod_of_nonneg h
theorem pw_odd {p g : T3} {n : Int} (h0 : 0 ≤ n) (h : n % 2 = 1) : pwL p g n.toNat = pwL (cmp p g) (cmp g g) (n / 2).toNat := by
  rw [pwL, dif_neg (by omega), if_pos (by omega), show n.toNat / 2 = (n / 2).toNat by omega]
theorem pw_even {p g : T3} {n : Int} (h0 : 0 < n) (h : ¬ n % 2 = 1) : pwL p g n.toNat = pwL p (cmp g g) (n / 2).toNat := by
  rw [pwL, dif_neg (by omega), if_neg (by omega), show n.toNat / 2 = (n / 2).toNat by omega]
theorem pw_zero {p g : T3} : pwL p g (0 : Int).toNat = p := by rw [pwL]; simp
theorem qu_hi {F p : T3} {l r n : Int} (h : 0 < n) (hl : l ≤ 2 * r) : quL F l p r n.toNat = quL F l (cmp (cmp p p) F) (2 * r - l) (n - 1).toNat := by
  rw [show n.toNat = (n - 1).toNat + 1 by omega, quL, if_pos hl]
theorem qu_lo {F p : T3} {l r n : Int} (h : 0 < n) (hl : ¬ l ≤ 2 * r) : quL F l p r n.toNat = quL F l (cmp p p) (2 * r) (n - 1).toNat := by
  rw [show n.toNat = (n - 1).toNat + 1 by omega, quL, if_neg hl]
theorem int_wrap {n : Int} (h0 : 0 ≤ n) (h1 : n ≤ 1000000) : IntKind.i64.wrap (n.tdiv 2) = n / 2 := quo_in h0 (by omega) (by omega)

set_option maxRecDepth 100000 in
set_option maxHeartbeats 16000000 in
theorem powerForm_D {D : Int} (F : T3) (k : Int) (w : World) (h0 : Frm D F) (h1 : 0 ≤ k) (h2 : k ≤ 1000000) :
    Calls Try.prog 73 #[frm F, .int .i64 k] w fun e w' => e = .returned (frm (pwD D F k)) ∧ Below w.heap.size w w' := by
  have hdd := h0.dd
  have ht0 : ¬ (k < 0) := by omega
  go_enter Try.func73, Try.ntmps73
  go_wp2_with fail
  refine (disc_D F _ h0.i h0.f).mono ?_
  rintro en w1 ⟨rfl, hb1⟩
  have hcs9 := cells_calls hb1 [⟨w.heap.size, 0, none⟩, ⟨w.heap.size, 1, none⟩, ⟨w.heap.size, 2, none⟩, ⟨w.heap.size + 1, 0, none⟩, ⟨w.heap.size + 1, 1, none⟩, ⟨w.heap.size + 1, 2, none⟩] [.int .i64 (F.1), .int .i64 (F.2.1), .int .i64 (F.2.2), .int .i64 0, .int .i64 0, .int .i64 0] (by refine ⟨?_, ?_, ?_, ?_, ?_, ?_, trivial⟩ <;> (first | with_reducible assumption | ((repeat' first | with_reducible (first | assumption | refine cell_al _ ?_ | refine cell_eq _ ?_ | refine cell_ne _ ?_ ?_ | refine ex_set _ ?_ | refine ex_al _ ?_ | exact ⟨_, by assumption⟩) | (intro hh; injection hh with hh1 hh2; omega)); done) | go_simp))
  have hfs9 := frees_calls hb1 [⟨w.heap.size, 0, none⟩, ⟨w.heap.size, 1, none⟩, ⟨w.heap.size, 2, none⟩, ⟨w.heap.size + 1, 0, none⟩, ⟨w.heap.size + 1, 1, none⟩, ⟨w.heap.size + 1, 2, none⟩] (by refine ⟨?_, ?_, ?_, ?_, ?_, ?_, trivial⟩ <;> first | with_reducible assumption | omega | (simp; omega) | (simp; done)) (by refine ⟨?_, ?_, ?_, ?_, ?_, ?_, trivial⟩ <;> (first | with_reducible assumption | ((repeat' first | with_reducible (first | assumption | refine frz_al _ ?_ ?_ | refine frz_set _ ?_) | omega | (simp; omega)); done) | go_simp))
  have hzs9 := blocks_calls hb1 [w.heap.size, w.heap.size + 1] (by refine ⟨?_, ?_, trivial⟩ <;> first | with_reducible assumption | omega | (simp; omega) | (simp; done))
  try clear c00 c01 c02 f00 f01 f02
  try clear c10 c11 c12 f10 f11 f12
  obtain ⟨c00, c01, c02, c10, c11, c12, -⟩ := hcs9
  obtain ⟨f00, f01, f02, f10, f11, f12, -⟩ := hfs9
  obtain ⟨z0, z1, -⟩ := hzs9
  have hs1 := hb1.size
  have o10 := z0
  have o11 := z1
  go_wp2_with fail
  refine (principal_D D _ hdd.1 hdd.2).mono ?_
  rintro en w2 ⟨rfl, hb2⟩
  have hcs9 := cells_calls hb2 [⟨w.heap.size, 0, none⟩, ⟨w.heap.size, 1, none⟩, ⟨w.heap.size, 2, none⟩, ⟨w.heap.size + 1, 0, none⟩, ⟨w.heap.size + 1, 1, none⟩, ⟨w.heap.size + 1, 2, none⟩] [.int .i64 (F.1), .int .i64 (F.2.1), .int .i64 (F.2.2), .int .i64 0, .int .i64 0, .int .i64 0] (by refine ⟨?_, ?_, ?_, ?_, ?_, ?_, trivial⟩ <;> (first | with_reducible assumption | ((repeat' first | with_reducible (first | assumption | refine cell_al _ ?_ | refine cell_eq _ ?_ | refine cell_ne _ ?_ ?_ | refine ex_set _ ?_ | refine ex_al _ ?_ | exact ⟨_, by assumption⟩) | (intro hh; injection hh with hh1 hh2; omega)); done) | go_simp))
  have hfs9 := frees_calls hb2 [⟨w.heap.size, 0, none⟩, ⟨w.heap.size, 1, none⟩, ⟨w.heap.size, 2, none⟩, ⟨w.heap.size + 1, 0, none⟩, ⟨w.heap.size + 1, 1, none⟩, ⟨w.heap.size + 1, 2, none⟩] (by refine ⟨?_, ?_, ?_, ?_, ?_, ?_, trivial⟩ <;> first | with_reducible assumption | omega | (simp; omega) | (simp; done)) (by refine ⟨?_, ?_, ?_, ?_, ?_, ?_, trivial⟩ <;> (first | with_reducible assumption | ((repeat' first | with_reducible (first | assumption | refine frz_al _ ?_ ?_ | refine frz_set _ ?_) | omega | (simp; omega)); done) | go_simp))
  have hzs9 := blocks_calls hb2 [w.heap.size, w.heap.size + 1] (by refine ⟨?_, ?_, trivial⟩ <;> first | with_reducible assumption | omega | (simp; omega) | (simp; done))
  try clear c00 c01 c02 f00 f01 f02
  try clear c10 c11 c12 f10 f11 f12
  obtain ⟨c00, c01, c02, c10, c11, c12, -⟩ := hcs9
  obtain ⟨f00, f01, f02, f10, f11, f12, -⟩ := hfs9
  obtain ⟨z0, z1, -⟩ := hzs9
  have hs2 := hb2.size
  have o20 := z0
  have o21 := z1
  go_wp2_with fail
  refine (reduced_D (onT D) _ h0.on.1.i).mono ?_
  rintro en w3 ⟨rfl, hb3⟩
  have hcs9 := cells_calls hb3 [⟨w.heap.size, 0, none⟩, ⟨w.heap.size, 1, none⟩, ⟨w.heap.size, 2, none⟩, ⟨w.heap.size + 1, 0, none⟩, ⟨w.heap.size + 1, 1, none⟩, ⟨w.heap.size + 1, 2, none⟩] [.int .i64 (F.1), .int .i64 (F.2.1), .int .i64 (F.2.2), .int .i64 0, .int .i64 0, .int .i64 0] (by refine ⟨?_, ?_, ?_, ?_, ?_, ?_, trivial⟩ <;> (first | with_reducible assumption | ((repeat' first | with_reducible (first | assumption | refine cell_al _ ?_ | refine cell_eq _ ?_ | refine cell_ne _ ?_ ?_ | refine ex_set _ ?_ | refine ex_al _ ?_ | exact ⟨_, by assumption⟩) | (intro hh; injection hh with hh1 hh2; omega)); done) | go_simp))
  have hfs9 := frees_calls hb3 [⟨w.heap.size, 0, none⟩, ⟨w.heap.size, 1, none⟩, ⟨w.heap.size, 2, none⟩, ⟨w.heap.size + 1, 0, none⟩, ⟨w.heap.size + 1, 1, none⟩, ⟨w.heap.size + 1, 2, none⟩] (by refine ⟨?_, ?_, ?_, ?_, ?_, ?_, trivial⟩ <;> first | with_reducible assumption | omega | (simp; omega) | (simp; done)) (by refine ⟨?_, ?_, ?_, ?_, ?_, ?_, trivial⟩ <;> (first | with_reducible assumption | ((repeat' first | with_reducible (first | assumption | refine frz_al _ ?_ ?_ | refine frz_set _ ?_) | omega | (simp; omega)); done) | go_simp))
  have hzs9 := blocks_calls hb3 [w.heap.size, w.heap.size + 1] (by refine ⟨?_, ?_, trivial⟩ <;> first | with_reducible assumption | omega | (simp; omega) | (simp; done))
  try clear c00 c01 c02 f00 f01 f02
  try clear c10 c11 c12 f10 f11 f12
  obtain ⟨c00, c01, c02, c10, c11, c12, -⟩ := hcs9
  obtain ⟨f00, f01, f02, f10, f11, f12, -⟩ := hfs9
  obtain ⟨z0, z1, -⟩ := hzs9
  have hs3 := hb3.size
  have o30 := z0
  have o31 := z1
  have E1 := on_rd h0
  rw [E1]
  clear E1
  go_wp2_with fail
  refine (reduced_D F _ h0.i).mono ?_
  rintro en w4 ⟨rfl, hb4⟩
  have hcs9 := cells_calls hb4 [⟨w.heap.size, 0, none⟩, ⟨w.heap.size, 1, none⟩, ⟨w.heap.size, 2, none⟩, ⟨w.heap.size + 1, 0, none⟩, ⟨w.heap.size + 1, 1, none⟩, ⟨w.heap.size + 1, 2, none⟩, ⟨w3.heap.size, 0, none⟩, ⟨w3.heap.size, 1, none⟩, ⟨w3.heap.size, 2, none⟩] [.int .i64 (F.1), .int .i64 (F.2.1), .int .i64 (F.2.2), .int .i64 0, .int .i64 0, .int .i64 0, .int .i64 (((onT D)).1), .int .i64 (((onT D)).2.1), .int .i64 (((onT D)).2.2)] (by refine ⟨?_, ?_, ?_, ?_, ?_, ?_, ?_, ?_, ?_, trivial⟩ <;> (first | with_reducible assumption | ((repeat' first | with_reducible (first | assumption | refine cell_al _ ?_ | refine cell_eq _ ?_ | refine cell_ne _ ?_ ?_ | refine ex_set _ ?_ | refine ex_al _ ?_ | exact ⟨_, by assumption⟩) | (intro hh; injection hh with hh1 hh2; omega)); done) | go_simp))
  have hfs9 := frees_calls hb4 [⟨w.heap.size, 0, none⟩, ⟨w.heap.size, 1, none⟩, ⟨w.heap.size, 2, none⟩, ⟨w.heap.size + 1, 0, none⟩, ⟨w.heap.size + 1, 1, none⟩, ⟨w.heap.size + 1, 2, none⟩, ⟨w3.heap.size, 0, none⟩, ⟨w3.heap.size, 1, none⟩, ⟨w3.heap.size, 2, none⟩] (by refine ⟨?_, ?_, ?_, ?_, ?_, ?_, ?_, ?_, ?_, trivial⟩ <;> first | with_reducible assumption | omega | (simp; omega) | (simp; done)) (by refine ⟨?_, ?_, ?_, ?_, ?_, ?_, ?_, ?_, ?_, trivial⟩ <;> (first | with_reducible assumption | ((repeat' first | with_reducible (first | assumption | refine frz_al _ ?_ ?_ | refine frz_set _ ?_) | omega | (simp; omega)); done) | go_simp))
  have hzs9 := blocks_calls hb4 [w.heap.size, w.heap.size + 1, w3.heap.size] (by refine ⟨?_, ?_, ?_, trivial⟩ <;> first | with_reducible assumption | omega | (simp; omega) | (simp; done))
  try clear c00 c01 c02 f00 f01 f02
  try clear c10 c11 c12 f10 f11 f12
  try clear c20 c21 c22 f20 f21 f22
  obtain ⟨c00, c01, c02, c10, c11, c12, c20, c21, c22, -⟩ := hcs9
  obtain ⟨f00, f01, f02, f10, f11, f12, f20, f21, f22, -⟩ := hfs9
  obtain ⟨z0, z1, z2, -⟩ := hzs9
  have hs4 := hb4.size
  have o40 := z0
  have o41 := z1
  have o42 := z2
  go_wp2
  have n02 : ¬ w.heap.size = w3.heap.size := by omega
  have n12 : ¬ w.heap.size + 1 = w3.heap.size := by omega
  have n20 : ¬ w3.heap.size = w.heap.size := by omega
  have n21 : ¬ w3.heap.size = w.heap.size + 1 := by omega
  go_loopw [1] (fun s1 wr => ∃ n : Int, ∃ p : T3, ∃ g : T3, s1 = .int .i64 n ∧ 0 ≤ n ∧ n ≤ 1000000 ∧ InD D p ∧ InD D g ∧ Hid (pwL p g n.toNat = pwD D F k) ∧ wr.cell? ⟨w.heap.size, 0, none⟩ = some (.int .i64 (g.1)) ∧ wr.cell? ⟨w.heap.size, 1, none⟩ = some (.int .i64 (g.2.1)) ∧ wr.cell? ⟨w.heap.size, 2, none⟩ = some (.int .i64 (g.2.2)) ∧ wr.cell? ⟨w.heap.size + 1, 0, none⟩ = some (.int .i64 0) ∧ wr.cell? ⟨w.heap.size + 1, 1, none⟩ = some (.int .i64 0) ∧ wr.cell? ⟨w.heap.size + 1, 2, none⟩ = some (.int .i64 0) ∧ wr.cell? ⟨w3.heap.size, 0, none⟩ = some (.int .i64 (p.1)) ∧ wr.cell? ⟨w3.heap.size, 1, none⟩ = some (.int .i64 (p.2.1)) ∧ wr.cell? ⟨w3.heap.size, 2, none⟩ = some (.int .i64 (p.2.2)) ∧ wr.frozen? ⟨w.heap.size, 0, none⟩ = false ∧ wr.frozen? ⟨w.heap.size, 1, none⟩ = false ∧ wr.frozen? ⟨w.heap.size, 2, none⟩ = false ∧ wr.frozen? ⟨w.heap.size + 1, 0, none⟩ = false ∧ wr.frozen? ⟨w.heap.size + 1, 1, none⟩ = false ∧ wr.frozen? ⟨w.heap.size + 1, 2, none⟩ = false ∧ wr.frozen? ⟨w3.heap.size, 0, none⟩ = false ∧ wr.frozen? ⟨w3.heap.size, 1, none⟩ = false ∧ wr.frozen? ⟨w3.heap.size, 2, none⟩ = false ∧ Below w.heap.size w wr) (fun s1 _ => (intOf s1).toNat)
  case atStart =>
    refine ⟨k, onT D, rdT F, rfl, h1, h2, h0.on.1.i, h0.i.rd, hide rfl, ?_, ?_, ?_, ?_, ?_, ?_, ?_, ?_, ?_, ?_, ?_, ?_, ?_, ?_, ?_, ?_, ?_, ?_, ?_⟩
    all_goals (first | (with_reducible assumption) | ((first | with_reducible assumption | ((repeat' first | with_reducible (first | assumption | refine cell_al _ ?_ | refine cell_eq _ ?_ | refine cell_ne _ ?_ ?_ | refine ex_set _ ?_ | refine ex_al _ ?_ | exact ⟨_, by assumption⟩) | (intro hh; injection hh with hh1 hh2; omega)); done) | go_simp); done) | ((first | with_reducible assumption | ((repeat' first | with_reducible (first | assumption | refine frz_al _ ?_ ?_ | refine frz_set _ ?_) | omega | (simp; omega)); done) | go_simp); done) | (repeat' first | with_reducible (first | exact Below.refl _ _ | assumption | refine gr_alloc ?_ _ | refine below_drewN ?_ _ | refine below_drew ?_ | refine gr_call ?_ (by assumption) | refine Below.setCell ?_ ?_ _) | go_size | omega | (simp; omega)))
  case round =>
    try clear c00; try clear c01; try clear c02; try clear c10; try clear c11; try clear c12; try clear c20; try clear c21; try clear c22; try clear f00; try clear f01; try clear f02; try clear f10; try clear f11; try clear f12; try clear f20; try clear f21; try clear f22
    try clear hb9
    obtain ⟨n, p, g, rfl, hn0, hn1, hp, hg, HS, c00, c01, c02, c10, c11, c12, c20, c21, c22, f00, f01, f02, f10, f11, f12, f20, f21, f22, hb9⟩ := hrel
    obtain ⟨wl, rfl⟩ : ∃ wl : World, wl = wr := ⟨_, rfl⟩
    have z0 := World.block_lt_of_cell? _ _ c00
    change w.heap.size < wl.heap.size at z0
    have z1 := World.block_lt_of_cell? _ _ c10
    change w.heap.size + 1 < wl.heap.size at z1
    have z2 := World.block_lt_of_cell? _ _ c20
    change w3.heap.size < wl.heap.size at z2
    by_cases q : n = 0
    · subst q
      have HE : p = pwD D F k := by have := unhide HS; rw [pw_zero] at this; exact this
      go_wp2
      refine bodyPost_ret (v := frm p) (by simp [results, Try.results73, go_sem, *]) rfl ?_
      exact ⟨by rw [HE], by (repeat' first | with_reducible (first | exact Below.refl _ _ | assumption | refine gr_alloc ?_ _ | refine below_drewN ?_ _ | refine below_drew ?_ | refine gr_call ?_ (by assumption) | refine Below.setCell ?_ ?_ _) | go_size | omega | (simp; omega))⟩
    · have hn2 : 0 < n := by omega
      have HM := tq_mod hn0
      have HW := int_wrap hn0 hn1
      by_cases q2 : n % 2 = 1
      · have HE : Hid (pwL (cmp p g) (cmp g g) (n / 2).toNat = pwD D F k) := hide ((pw_odd hn0 q2).symm.trans (unhide HS))
        have HP := hp.cp hg
        clear HS
        rw [q2] at HM
        go_wp2_with fail
        refine (compose_D p g _ hp hg).mono ?_
        rintro en w5 ⟨rfl, hb5⟩
        have hcs9 := cells_calls hb5 [⟨w.heap.size, 0, none⟩, ⟨w.heap.size, 1, none⟩, ⟨w.heap.size, 2, none⟩, ⟨w.heap.size + 1, 0, none⟩, ⟨w.heap.size + 1, 1, none⟩, ⟨w.heap.size + 1, 2, none⟩, ⟨w3.heap.size, 0, none⟩, ⟨w3.heap.size, 1, none⟩, ⟨w3.heap.size, 2, none⟩] [.int .i64 (g.1), .int .i64 (g.2.1), .int .i64 (g.2.2), .int .i64 0, .int .i64 0, .int .i64 0, .int .i64 (p.1), .int .i64 (p.2.1), .int .i64 (p.2.2)] (by refine ⟨?_, ?_, ?_, ?_, ?_, ?_, ?_, ?_, ?_, trivial⟩ <;> (first | with_reducible assumption | ((repeat' first | with_reducible (first | assumption | refine cell_al _ ?_ | refine cell_eq _ ?_ | refine cell_ne _ ?_ ?_ | refine ex_set _ ?_ | refine ex_al _ ?_ | exact ⟨_, by assumption⟩) | (intro hh; injection hh with hh1 hh2; omega)); done) | go_simp))
        have hfs9 := frees_calls hb5 [⟨w.heap.size, 0, none⟩, ⟨w.heap.size, 1, none⟩, ⟨w.heap.size, 2, none⟩, ⟨w.heap.size + 1, 0, none⟩, ⟨w.heap.size + 1, 1, none⟩, ⟨w.heap.size + 1, 2, none⟩, ⟨w3.heap.size, 0, none⟩, ⟨w3.heap.size, 1, none⟩, ⟨w3.heap.size, 2, none⟩] (by refine ⟨?_, ?_, ?_, ?_, ?_, ?_, ?_, ?_, ?_, trivial⟩ <;> first | with_reducible assumption | omega | (simp; omega) | (simp; done)) (by refine ⟨?_, ?_, ?_, ?_, ?_, ?_, ?_, ?_, ?_, trivial⟩ <;> (first | with_reducible assumption | ((repeat' first | with_reducible (first | assumption | refine frz_al _ ?_ ?_ | refine frz_set _ ?_) | omega | (simp; omega)); done) | go_simp))
        have hzs9 := blocks_calls hb5 [w.heap.size, w.heap.size + 1, w3.heap.size] (by refine ⟨?_, ?_, ?_, trivial⟩ <;> first | with_reducible assumption | omega | (simp; omega) | (simp; done))
        try clear c00 c01 c02 f00 f01 f02
        try clear c10 c11 c12 f10 f11 f12
        try clear c20 c21 c22 f20 f21 f22
        obtain ⟨c00, c01, c02, c10, c11, c12, c20, c21, c22, -⟩ := hcs9
        obtain ⟨f00, f01, f02, f10, f11, f12, f20, f21, f22, -⟩ := hfs9
        obtain ⟨z0, z1, z2, -⟩ := hzs9
        have hs5 := hb5.size
        have o50 := z0
        have o51 := z1
        have o52 := z2
        go_wp2_with fail
        refine (compose_D g g _ hg hg).mono ?_
        rintro en w6 ⟨rfl, hb6⟩
        have hcs9 := cells_calls hb6 [⟨w.heap.size, 0, none⟩, ⟨w.heap.size, 1, none⟩, ⟨w.heap.size, 2, none⟩, ⟨w.heap.size + 1, 0, none⟩, ⟨w.heap.size + 1, 1, none⟩, ⟨w.heap.size + 1, 2, none⟩, ⟨w3.heap.size, 0, none⟩, ⟨w3.heap.size, 1, none⟩, ⟨w3.heap.size, 2, none⟩] [.int .i64 (g.1), .int .i64 (g.2.1), .int .i64 (g.2.2), .int .i64 0, .int .i64 0, .int .i64 0, .int .i64 (((cmp p g)).1), .int .i64 (((cmp p g)).2.1), .int .i64 (((cmp p g)).2.2)] (by refine ⟨?_, ?_, ?_, ?_, ?_, ?_, ?_, ?_, ?_, trivial⟩ <;> (first | with_reducible assumption | ((repeat' first | with_reducible (first | assumption | refine cell_al _ ?_ | refine cell_eq _ ?_ | refine cell_ne _ ?_ ?_ | refine ex_set _ ?_ | refine ex_al _ ?_ | exact ⟨_, by assumption⟩) | (intro hh; injection hh with hh1 hh2; omega)); done) | go_simp))
        have hfs9 := frees_calls hb6 [⟨w.heap.size, 0, none⟩, ⟨w.heap.size, 1, none⟩, ⟨w.heap.size, 2, none⟩, ⟨w.heap.size + 1, 0, none⟩, ⟨w.heap.size + 1, 1, none⟩, ⟨w.heap.size + 1, 2, none⟩, ⟨w3.heap.size, 0, none⟩, ⟨w3.heap.size, 1, none⟩, ⟨w3.heap.size, 2, none⟩] (by refine ⟨?_, ?_, ?_, ?_, ?_, ?_, ?_, ?_, ?_, trivial⟩ <;> first | with_reducible assumption | omega | (simp; omega) | (simp; done)) (by refine ⟨?_, ?_, ?_, ?_, ?_, ?_, ?_, ?_, ?_, trivial⟩ <;> (first | with_reducible assumption | ((repeat' first | with_reducible (first | assumption | refine frz_al _ ?_ ?_ | refine frz_set _ ?_) | omega | (simp; omega)); done) | go_simp))
        have hzs9 := blocks_calls hb6 [w.heap.size, w.heap.size + 1, w3.heap.size] (by refine ⟨?_, ?_, ?_, trivial⟩ <;> first | with_reducible assumption | omega | (simp; omega) | (simp; done))
        try clear c00 c01 c02 f00 f01 f02
        try clear c10 c11 c12 f10 f11 f12
        try clear c20 c21 c22 f20 f21 f22
        obtain ⟨c00, c01, c02, c10, c11, c12, c20, c21, c22, -⟩ := hcs9
        obtain ⟨f00, f01, f02, f10, f11, f12, f20, f21, f22, -⟩ := hfs9
        obtain ⟨z0, z1, z2, -⟩ := hzs9
        have hs6 := hb6.size
        have o60 := z0
        have o61 := z1
        have o62 := z2
        go_wp2
        go_roundw
        case rel =>
          first
          | (refine ⟨n / 2, cmp p g, cmp g g, rfl, by omega, by omega, HP, hg.cp hg, HE, ?_, ?_, ?_, ?_, ?_, ?_, ?_, ?_, ?_, ?_, ?_, ?_, ?_, ?_, ?_, ?_, ?_, ?_, ?_⟩ <;> (first | (with_reducible assumption) | ((first | with_reducible assumption | ((repeat' first | with_reducible (first | assumption | refine cell_al _ ?_ | refine cell_eq _ ?_ | refine cell_ne _ ?_ ?_ | refine ex_set _ ?_ | refine ex_al _ ?_ | exact ⟨_, by assumption⟩) | (intro hh; injection hh with hh1 hh2; omega)); done) | go_simp); done) | ((first | with_reducible assumption | ((repeat' first | with_reducible (first | assumption | refine frz_al _ ?_ ?_ | refine frz_set _ ?_) | omega | (simp; omega)); done) | go_simp); done) | (repeat' first | with_reducible (first | exact Below.refl _ _ | assumption | refine gr_alloc ?_ _ | refine below_drewN ?_ _ | refine below_drew ?_ | refine gr_call ?_ (by assumption) | refine Below.setCell ?_ ?_ _) | go_size | omega | (simp; omega))))
          | ((repeat apply Exists.intro); refine ⟨?_, rfl⟩; (refine ⟨n / 2, cmp p g, cmp g g, rfl, by omega, by omega, HP, hg.cp hg, HE, ?_, ?_, ?_, ?_, ?_, ?_, ?_, ?_, ?_, ?_, ?_, ?_, ?_, ?_, ?_, ?_, ?_, ?_, ?_⟩ <;> (first | (with_reducible assumption) | ((first | with_reducible assumption | ((repeat' first | with_reducible (first | assumption | refine cell_al _ ?_ | refine cell_eq _ ?_ | refine cell_ne _ ?_ ?_ | refine ex_set _ ?_ | refine ex_al _ ?_ | exact ⟨_, by assumption⟩) | (intro hh; injection hh with hh1 hh2; omega)); done) | go_simp); done) | ((first | with_reducible assumption | ((repeat' first | with_reducible (first | assumption | refine frz_al _ ?_ ?_ | refine frz_set _ ?_) | omega | (simp; omega)); done) | go_simp); done) | (repeat' first | with_reducible (first | exact Below.refl _ _ | assumption | refine gr_alloc ?_ _ | refine below_drewN ?_ _ | refine below_drew ?_ | refine gr_call ?_ (by assumption) | refine Below.setCell ?_ ?_ _) | go_size | omega | (simp; omega)))))
        case measure => (simp [intOf] <;> omega)
      · have HE : Hid (pwL p (cmp g g) (n / 2).toNat = pwD D F k) := hide ((pw_even hn2 q2).symm.trans (unhide HS))
        have HP := hp
        clear HS
        rw [show n % 2 = 0 by omega] at HM
        go_wp2_with fail
        refine (compose_D g g _ hg hg).mono ?_
        rintro en w5 ⟨rfl, hb5⟩
        have hcs9 := cells_calls hb5 [⟨w.heap.size, 0, none⟩, ⟨w.heap.size, 1, none⟩, ⟨w.heap.size, 2, none⟩, ⟨w.heap.size + 1, 0, none⟩, ⟨w.heap.size + 1, 1, none⟩, ⟨w.heap.size + 1, 2, none⟩, ⟨w3.heap.size, 0, none⟩, ⟨w3.heap.size, 1, none⟩, ⟨w3.heap.size, 2, none⟩] [.int .i64 (g.1), .int .i64 (g.2.1), .int .i64 (g.2.2), .int .i64 0, .int .i64 0, .int .i64 0, .int .i64 (p.1), .int .i64 (p.2.1), .int .i64 (p.2.2)] (by refine ⟨?_, ?_, ?_, ?_, ?_, ?_, ?_, ?_, ?_, trivial⟩ <;> (first | with_reducible assumption | ((repeat' first | with_reducible (first | assumption | refine cell_al _ ?_ | refine cell_eq _ ?_ | refine cell_ne _ ?_ ?_ | refine ex_set _ ?_ | refine ex_al _ ?_ | exact ⟨_, by assumption⟩) | (intro hh; injection hh with hh1 hh2; omega)); done) | go_simp))
        have hfs9 := frees_calls hb5 [⟨w.heap.size, 0, none⟩, ⟨w.heap.size, 1, none⟩, ⟨w.heap.size, 2, none⟩, ⟨w.heap.size + 1, 0, none⟩, ⟨w.heap.size + 1, 1, none⟩, ⟨w.heap.size + 1, 2, none⟩, ⟨w3.heap.size, 0, none⟩, ⟨w3.heap.size, 1, none⟩, ⟨w3.heap.size, 2, none⟩] (by refine ⟨?_, ?_, ?_, ?_, ?_, ?_, ?_, ?_, ?_, trivial⟩ <;> first | with_reducible assumption | omega | (simp; omega) | (simp; done)) (by refine ⟨?_, ?_, ?_, ?_, ?_, ?_, ?_, ?_, ?_, trivial⟩ <;> (first | with_reducible assumption | ((repeat' first | with_reducible (first | assumption | refine frz_al _ ?_ ?_ | refine frz_set _ ?_) | omega | (simp; omega)); done) | go_simp))
        have hzs9 := blocks_calls hb5 [w.heap.size, w.heap.size + 1, w3.heap.size] (by refine ⟨?_, ?_, ?_, trivial⟩ <;> first | with_reducible assumption | omega | (simp; omega) | (simp; done))
        try clear c00 c01 c02 f00 f01 f02
        try clear c10 c11 c12 f10 f11 f12
        try clear c20 c21 c22 f20 f21 f22
        obtain ⟨c00, c01, c02, c10, c11, c12, c20, c21, c22, -⟩ := hcs9
        obtain ⟨f00, f01, f02, f10, f11, f12, f20, f21, f22, -⟩ := hfs9
        obtain ⟨z0, z1, z2, -⟩ := hzs9
        have hs5 := hb5.size
        have o50 := z0
        have o51 := z1
        have o52 := z2
        go_wp2
        go_roundw
        case rel =>
          first
          | (refine ⟨n / 2, p, cmp g g, rfl, by omega, by omega, HP, hg.cp hg, HE, ?_, ?_, ?_, ?_, ?_, ?_, ?_, ?_, ?_, ?_, ?_, ?_, ?_, ?_, ?_, ?_, ?_, ?_, ?_⟩ <;> (first | (with_reducible assumption) | ((first | with_reducible assumption | ((repeat' first | with_reducible (first | assumption | refine cell_al _ ?_ | refine cell_eq _ ?_ | refine cell_ne _ ?_ ?_ | refine ex_set _ ?_ | refine ex_al _ ?_ | exact ⟨_, by assumption⟩) | (intro hh; injection hh with hh1 hh2; omega)); done) | go_simp); done) | ((first | with_reducible assumption | ((repeat' first | with_reducible (first | assumption | refine frz_al _ ?_ ?_ | refine frz_set _ ?_) | omega | (simp; omega)); done) | go_simp); done) | (repeat' first | with_reducible (first | exact Below.refl _ _ | assumption | refine gr_alloc ?_ _ | refine below_drewN ?_ _ | refine below_drew ?_ | refine gr_call ?_ (by assumption) | refine Below.setCell ?_ ?_ _) | go_size | omega | (simp; omega))))
          | ((repeat apply Exists.intro); refine ⟨?_, rfl⟩; (refine ⟨n / 2, p, cmp g g, rfl, by omega, by omega, HP, hg.cp hg, HE, ?_, ?_, ?_, ?_, ?_, ?_, ?_, ?_, ?_, ?_, ?_, ?_, ?_, ?_, ?_, ?_, ?_, ?_, ?_⟩ <;> (first | (with_reducible assumption) | ((first | with_reducible assumption | ((repeat' first | with_reducible (first | assumption | refine cell_al _ ?_ | refine cell_eq _ ?_ | refine cell_ne _ ?_ ?_ | refine ex_set _ ?_ | refine ex_al _ ?_ | exact ⟨_, by assumption⟩) | (intro hh; injection hh with hh1 hh2; omega)); done) | go_simp); done) | ((first | with_reducible assumption | ((repeat' first | with_reducible (first | assumption | refine frz_al _ ?_ ?_ | refine frz_set _ ?_) | omega | (simp; omega)); done) | go_simp); done) | (repeat' first | with_reducible (first | exact Below.refl _ _ | assumption | refine gr_alloc ?_ _ | refine below_drewN ?_ _ | refine below_drew ?_ | refine gr_call ?_ (by assumption) | refine Below.setCell ?_ ?_ _) | go_size | omega | (simp; omega)))))
        case measure => (simp [intOf] <;> omega)

set_option maxRecDepth 100000 in
set_option maxHeartbeats 16000000 in
theorem quotientPower_D {D : Int} (F : T3) (t l : Int) (w : World) (h0 : Frm D F) (h1 : 0 ≤ t) (h2 : t ≤ 1000000) (h3 : 2 ≤ l) (h4 : l ≤ 1000) :
    Calls Try.prog 69 #[frm F, .int .i64 t, .int .i64 l] w fun e w' => e = .returned (frm (quD D F t l)) ∧ Below w.heap.size w w' := by
  have hdd := h0.dd
  go_enter Try.func69, Try.ntmps69
  go_wp2_with fail
  refine (disc_D F _ h0.i h0.f).mono ?_
  rintro en w1 ⟨rfl, hb1⟩
  have hcs9 := cells_calls hb1 [⟨w.heap.size, 0, none⟩, ⟨w.heap.size, 1, none⟩, ⟨w.heap.size, 2, none⟩, ⟨w.heap.size + 1, 0, none⟩, ⟨w.heap.size + 1, 1, none⟩, ⟨w.heap.size + 1, 2, none⟩] [.int .i64 (F.1), .int .i64 (F.2.1), .int .i64 (F.2.2), .int .i64 0, .int .i64 0, .int .i64 0] (by refine ⟨?_, ?_, ?_, ?_, ?_, ?_, trivial⟩ <;> (first | with_reducible assumption | ((repeat' first | with_reducible (first | assumption | refine cell_al _ ?_ | refine cell_eq _ ?_ | refine cell_ne _ ?_ ?_ | refine ex_set _ ?_ | refine ex_al _ ?_ | exact ⟨_, by assumption⟩) | (intro hh; injection hh with hh1 hh2; omega)); done) | go_simp))
  have hfs9 := frees_calls hb1 [⟨w.heap.size + 1, 0, none⟩, ⟨w.heap.size + 1, 1, none⟩, ⟨w.heap.size + 1, 2, none⟩] (by refine ⟨?_, ?_, ?_, trivial⟩ <;> first | with_reducible assumption | omega | (simp; omega) | (simp; done)) (by refine ⟨?_, ?_, ?_, trivial⟩ <;> (first | with_reducible assumption | ((repeat' first | with_reducible (first | assumption | refine frz_al _ ?_ ?_ | refine frz_set _ ?_) | omega | (simp; omega)); done) | go_simp))
  have hzs9 := blocks_calls hb1 [w.heap.size, w.heap.size + 1] (by refine ⟨?_, ?_, trivial⟩ <;> first | with_reducible assumption | omega | (simp; omega) | (simp; done))
  try clear c00 c01 c02
  try clear c10 c11 c12 f10 f11 f12
  obtain ⟨c00, c01, c02, c10, c11, c12, -⟩ := hcs9
  obtain ⟨f10, f11, f12, -⟩ := hfs9
  obtain ⟨z0, z1, -⟩ := hzs9
  have hs1 := hb1.size
  have o10 := z0
  have o11 := z1
  go_wp2_with fail
  refine (principal_D D _ hdd.1 hdd.2).mono ?_
  rintro en w2 ⟨rfl, hb2⟩
  have hcs9 := cells_calls hb2 [⟨w.heap.size, 0, none⟩, ⟨w.heap.size, 1, none⟩, ⟨w.heap.size, 2, none⟩, ⟨w.heap.size + 1, 0, none⟩, ⟨w.heap.size + 1, 1, none⟩, ⟨w.heap.size + 1, 2, none⟩] [.int .i64 (F.1), .int .i64 (F.2.1), .int .i64 (F.2.2), .int .i64 0, .int .i64 0, .int .i64 0] (by refine ⟨?_, ?_, ?_, ?_, ?_, ?_, trivial⟩ <;> (first | with_reducible assumption | ((repeat' first | with_reducible (first | assumption | refine cell_al _ ?_ | refine cell_eq _ ?_ | refine cell_ne _ ?_ ?_ | refine ex_set _ ?_ | refine ex_al _ ?_ | exact ⟨_, by assumption⟩) | (intro hh; injection hh with hh1 hh2; omega)); done) | go_simp))
  have hfs9 := frees_calls hb2 [⟨w.heap.size + 1, 0, none⟩, ⟨w.heap.size + 1, 1, none⟩, ⟨w.heap.size + 1, 2, none⟩] (by refine ⟨?_, ?_, ?_, trivial⟩ <;> first | with_reducible assumption | omega | (simp; omega) | (simp; done)) (by refine ⟨?_, ?_, ?_, trivial⟩ <;> (first | with_reducible assumption | ((repeat' first | with_reducible (first | assumption | refine frz_al _ ?_ ?_ | refine frz_set _ ?_) | omega | (simp; omega)); done) | go_simp))
  have hzs9 := blocks_calls hb2 [w.heap.size, w.heap.size + 1] (by refine ⟨?_, ?_, trivial⟩ <;> first | with_reducible assumption | omega | (simp; omega) | (simp; done))
  try clear c00 c01 c02
  try clear c10 c11 c12 f10 f11 f12
  obtain ⟨c00, c01, c02, c10, c11, c12, -⟩ := hcs9
  obtain ⟨f10, f11, f12, -⟩ := hfs9
  obtain ⟨z0, z1, -⟩ := hzs9
  have hs2 := hb2.size
  have o20 := z0
  have o21 := z1
  go_wp2_with fail
  refine (reduced_D (onT D) _ h0.on.1.i).mono ?_
  rintro en w3 ⟨rfl, hb3⟩
  have hcs9 := cells_calls hb3 [⟨w.heap.size, 0, none⟩, ⟨w.heap.size, 1, none⟩, ⟨w.heap.size, 2, none⟩, ⟨w.heap.size + 1, 0, none⟩, ⟨w.heap.size + 1, 1, none⟩, ⟨w.heap.size + 1, 2, none⟩] [.int .i64 (F.1), .int .i64 (F.2.1), .int .i64 (F.2.2), .int .i64 0, .int .i64 0, .int .i64 0] (by refine ⟨?_, ?_, ?_, ?_, ?_, ?_, trivial⟩ <;> (first | with_reducible assumption | ((repeat' first | with_reducible (first | assumption | refine cell_al _ ?_ | refine cell_eq _ ?_ | refine cell_ne _ ?_ ?_ | refine ex_set _ ?_ | refine ex_al _ ?_ | exact ⟨_, by assumption⟩) | (intro hh; injection hh with hh1 hh2; omega)); done) | go_simp))
  have hfs9 := frees_calls hb3 [⟨w.heap.size + 1, 0, none⟩, ⟨w.heap.size + 1, 1, none⟩, ⟨w.heap.size + 1, 2, none⟩] (by refine ⟨?_, ?_, ?_, trivial⟩ <;> first | with_reducible assumption | omega | (simp; omega) | (simp; done)) (by refine ⟨?_, ?_, ?_, trivial⟩ <;> (first | with_reducible assumption | ((repeat' first | with_reducible (first | assumption | refine frz_al _ ?_ ?_ | refine frz_set _ ?_) | omega | (simp; omega)); done) | go_simp))
  have hzs9 := blocks_calls hb3 [w.heap.size, w.heap.size + 1] (by refine ⟨?_, ?_, trivial⟩ <;> first | with_reducible assumption | omega | (simp; omega) | (simp; done))
  try clear c00 c01 c02
  try clear c10 c11 c12 f10 f11 f12
  obtain ⟨c00, c01, c02, c10, c11, c12, -⟩ := hcs9
  obtain ⟨f10, f11, f12, -⟩ := hfs9
  obtain ⟨z0, z1, -⟩ := hzs9
  have hs3 := hb3.size
  have o30 := z0
  have o31 := z1
  have E1 := on_rd h0
  rw [E1]
  clear E1
  go_wp2
  have n02 : ¬ w.heap.size = w3.heap.size := by omega
  have n12 : ¬ w.heap.size + 1 = w3.heap.size := by omega
  have n20 : ¬ w3.heap.size = w.heap.size := by omega
  have n21 : ¬ w3.heap.size = w.heap.size + 1 := by omega
  go_loopw [1, 8] (fun s1 s8 wr => ∃ n : Int, ∃ r : Int, ∃ p : T3, s1 = .int .i64 n ∧ s8 = .int .i64 r ∧ 0 ≤ n ∧ n ≤ 1000000 ∧ 0 ≤ r ∧ r < l ∧ InD D p ∧ Hid (quL F l p r n.toNat = quD D F t l) ∧ wr.cell? ⟨w.heap.size, 0, none⟩ = some (.int .i64 (F.1)) ∧ wr.cell? ⟨w.heap.size, 1, none⟩ = some (.int .i64 (F.2.1)) ∧ wr.cell? ⟨w.heap.size, 2, none⟩ = some (.int .i64 (F.2.2)) ∧ wr.cell? ⟨w.heap.size + 1, 0, none⟩ = some (.int .i64 0) ∧ wr.cell? ⟨w.heap.size + 1, 1, none⟩ = some (.int .i64 0) ∧ wr.cell? ⟨w.heap.size + 1, 2, none⟩ = some (.int .i64 0) ∧ wr.cell? ⟨w3.heap.size, 0, none⟩ = some (.int .i64 (p.1)) ∧ wr.cell? ⟨w3.heap.size, 1, none⟩ = some (.int .i64 (p.2.1)) ∧ wr.cell? ⟨w3.heap.size, 2, none⟩ = some (.int .i64 (p.2.2)) ∧ wr.frozen? ⟨w.heap.size + 1, 0, none⟩ = false ∧ wr.frozen? ⟨w.heap.size + 1, 1, none⟩ = false ∧ wr.frozen? ⟨w.heap.size + 1, 2, none⟩ = false ∧ wr.frozen? ⟨w3.heap.size, 0, none⟩ = false ∧ wr.frozen? ⟨w3.heap.size, 1, none⟩ = false ∧ wr.frozen? ⟨w3.heap.size, 2, none⟩ = false ∧ Below w.heap.size w wr) (fun s1 s8 _ => (intOf s1).toNat)
  case atStart =>
    refine ⟨t, 1, onT D, rfl, rfl, h1, h2, by omega, by omega, h0.on.1.i, hide rfl, ?_, ?_, ?_, ?_, ?_, ?_, ?_, ?_, ?_, ?_, ?_, ?_, ?_, ?_, ?_, ?_⟩
    all_goals (first | (with_reducible assumption) | ((first | with_reducible assumption | ((repeat' first | with_reducible (first | assumption | refine cell_al _ ?_ | refine cell_eq _ ?_ | refine cell_ne _ ?_ ?_ | refine ex_set _ ?_ | refine ex_al _ ?_ | exact ⟨_, by assumption⟩) | (intro hh; injection hh with hh1 hh2; omega)); done) | go_simp); done) | ((first | with_reducible assumption | ((repeat' first | with_reducible (first | assumption | refine frz_al _ ?_ ?_ | refine frz_set _ ?_) | omega | (simp; omega)); done) | go_simp); done) | (repeat' first | with_reducible (first | exact Below.refl _ _ | assumption | refine gr_alloc ?_ _ | refine below_drewN ?_ _ | refine below_drew ?_ | refine gr_call ?_ (by assumption) | refine Below.setCell ?_ ?_ _) | go_size | omega | (simp; omega)))
  case round =>
    try clear c00; try clear c01; try clear c02; try clear c10; try clear c11; try clear c12; try clear c20; try clear c21; try clear c22; try clear f10; try clear f11; try clear f12; try clear f20; try clear f21; try clear f22
    try clear hb9
    obtain ⟨n, r, p, rfl, rfl, hn0, hn1, hr0, hr1, hp, HS, c00, c01, c02, c10, c11, c12, c20, c21, c22, f10, f11, f12, f20, f21, f22, hb9⟩ := hrel
    obtain ⟨wl, rfl⟩ : ∃ wl : World, wl = wr := ⟨_, rfl⟩
    have z0 := World.block_lt_of_cell? _ _ c00
    change w.heap.size < wl.heap.size at z0
    have z1 := World.block_lt_of_cell? _ _ c10
    change w.heap.size + 1 < wl.heap.size at z1
    have z2 := World.block_lt_of_cell? _ _ c20
    change w3.heap.size < wl.heap.size at z2
    by_cases q : n = 0
    · subst q
      have HE : p = quD D F t l := unhide HS
      go_wp2
      refine bodyPost_ret (v := frm p) (by simp [results, Try.results69, go_sem, *]) rfl ?_
      exact ⟨by rw [HE], by (repeat' first | with_reducible (first | exact Below.refl _ _ | assumption | refine gr_alloc ?_ _ | refine below_drewN ?_ _ | refine below_drew ?_ | refine gr_call ?_ (by assumption) | refine Below.setCell ?_ ?_ _) | go_size | omega | (simp; omega))⟩
    · have hn2 : 0 < n := by omega
      have w2r : -4000000 ≤ 2 * r ∧ 2 * r ≤ 4000000 := by omega
      have w2s : -4000000 ≤ r * 2 ∧ r * 2 ≤ 4000000 := by omega
      by_cases q2 : l ≤ r * 2
      · have HE : Hid (quL F l (cmp (cmp p p) F) (2 * r - l) (n - 1).toNat = quD D F t l) := hide ((qu_hi hn2 (by omega)).symm.trans (unhide HS))
        have HP := (hp.cp hp).cp h0.i
        clear HS
        go_wp2_with fail
        refine (compose_D p p _ hp hp).mono ?_
        rintro en w4 ⟨rfl, hb4⟩
        have hcs9 := cells_calls hb4 [⟨w.heap.size, 0, none⟩, ⟨w.heap.size, 1, none⟩, ⟨w.heap.size, 2, none⟩, ⟨w.heap.size + 1, 0, none⟩, ⟨w.heap.size + 1, 1, none⟩, ⟨w.heap.size + 1, 2, none⟩, ⟨w3.heap.size, 0, none⟩, ⟨w3.heap.size, 1, none⟩, ⟨w3.heap.size, 2, none⟩] [.int .i64 (F.1), .int .i64 (F.2.1), .int .i64 (F.2.2), .int .i64 0, .int .i64 0, .int .i64 0, .int .i64 (p.1), .int .i64 (p.2.1), .int .i64 (p.2.2)] (by refine ⟨?_, ?_, ?_, ?_, ?_, ?_, ?_, ?_, ?_, trivial⟩ <;> (first | with_reducible assumption | ((repeat' first | with_reducible (first | assumption | refine cell_al _ ?_ | refine cell_eq _ ?_ | refine cell_ne _ ?_ ?_ | refine ex_set _ ?_ | refine ex_al _ ?_ | exact ⟨_, by assumption⟩) | (intro hh; injection hh with hh1 hh2; omega)); done) | go_simp))
        have hfs9 := frees_calls hb4 [⟨w.heap.size + 1, 0, none⟩, ⟨w.heap.size + 1, 1, none⟩, ⟨w.heap.size + 1, 2, none⟩, ⟨w3.heap.size, 0, none⟩, ⟨w3.heap.size, 1, none⟩, ⟨w3.heap.size, 2, none⟩] (by refine ⟨?_, ?_, ?_, ?_, ?_, ?_, trivial⟩ <;> first | with_reducible assumption | omega | (simp; omega) | (simp; done)) (by refine ⟨?_, ?_, ?_, ?_, ?_, ?_, trivial⟩ <;> (first | with_reducible assumption | ((repeat' first | with_reducible (first | assumption | refine frz_al _ ?_ ?_ | refine frz_set _ ?_) | omega | (simp; omega)); done) | go_simp))
        have hzs9 := blocks_calls hb4 [w.heap.size, w.heap.size + 1, w3.heap.size] (by refine ⟨?_, ?_, ?_, trivial⟩ <;> first | with_reducible assumption | omega | (simp; omega) | (simp; done))
        try clear c00 c01 c02
        try clear c10 c11 c12 f10 f11 f12
        try clear c20 c21 c22 f20 f21 f22
        obtain ⟨c00, c01, c02, c10, c11, c12, c20, c21, c22, -⟩ := hcs9
        obtain ⟨f10, f11, f12, f20, f21, f22, -⟩ := hfs9
        obtain ⟨z0, z1, z2, -⟩ := hzs9
        have hs4 := hb4.size
        have o40 := z0
        have o41 := z1
        have o42 := z2
        go_wp2_with fail
        refine (compose_D (cmp p p) F _ (hp.cp hp) h0.i).mono ?_
        rintro en w5 ⟨rfl, hb5⟩
        have hcs9 := cells_calls hb5 [⟨w.heap.size, 0, none⟩, ⟨w.heap.size, 1, none⟩, ⟨w.heap.size, 2, none⟩, ⟨w.heap.size + 1, 0, none⟩, ⟨w.heap.size + 1, 1, none⟩, ⟨w.heap.size + 1, 2, none⟩, ⟨w3.heap.size, 0, none⟩, ⟨w3.heap.size, 1, none⟩, ⟨w3.heap.size, 2, none⟩] [.int .i64 (F.1), .int .i64 (F.2.1), .int .i64 (F.2.2), .int .i64 0, .int .i64 0, .int .i64 0, .int .i64 (((cmp p p)).1), .int .i64 (((cmp p p)).2.1), .int .i64 (((cmp p p)).2.2)] (by refine ⟨?_, ?_, ?_, ?_, ?_, ?_, ?_, ?_, ?_, trivial⟩ <;> (first | with_reducible assumption | ((repeat' first | with_reducible (first | assumption | refine cell_al _ ?_ | refine cell_eq _ ?_ | refine cell_ne _ ?_ ?_ | refine ex_set _ ?_ | refine ex_al _ ?_ | exact ⟨_, by assumption⟩) | (intro hh; injection hh with hh1 hh2; omega)); done) | go_simp))
        have hfs9 := frees_calls hb5 [⟨w.heap.size + 1, 0, none⟩, ⟨w.heap.size + 1, 1, none⟩, ⟨w.heap.size + 1, 2, none⟩, ⟨w3.heap.size, 0, none⟩, ⟨w3.heap.size, 1, none⟩, ⟨w3.heap.size, 2, none⟩] (by refine ⟨?_, ?_, ?_, ?_, ?_, ?_, trivial⟩ <;> first | with_reducible assumption | omega | (simp; omega) | (simp; done)) (by refine ⟨?_, ?_, ?_, ?_, ?_, ?_, trivial⟩ <;> (first | with_reducible assumption | ((repeat' first | with_reducible (first | assumption | refine frz_al _ ?_ ?_ | refine frz_set _ ?_) | omega | (simp; omega)); done) | go_simp))
        have hzs9 := blocks_calls hb5 [w.heap.size, w.heap.size + 1, w3.heap.size] (by refine ⟨?_, ?_, ?_, trivial⟩ <;> first | with_reducible assumption | omega | (simp; omega) | (simp; done))
        try clear c00 c01 c02
        try clear c10 c11 c12 f10 f11 f12
        try clear c20 c21 c22 f20 f21 f22
        obtain ⟨c00, c01, c02, c10, c11, c12, c20, c21, c22, -⟩ := hcs9
        obtain ⟨f10, f11, f12, f20, f21, f22, -⟩ := hfs9
        obtain ⟨z0, z1, z2, -⟩ := hzs9
        have hs5 := hb5.size
        have o50 := z0
        have o51 := z1
        have o52 := z2
        go_wp2
        go_roundw
        case rel =>
          first
          | (refine ⟨n - 1, 2 * r - l, cmp (cmp p p) F, rfl, by first | rfl | (congr 1; omega), by omega, by omega, by omega, by omega, HP, HE, ?_, ?_, ?_, ?_, ?_, ?_, ?_, ?_, ?_, ?_, ?_, ?_, ?_, ?_, ?_, ?_⟩ <;> (first | (with_reducible assumption) | ((first | with_reducible assumption | ((repeat' first | with_reducible (first | assumption | refine cell_al _ ?_ | refine cell_eq _ ?_ | refine cell_ne _ ?_ ?_ | refine ex_set _ ?_ | refine ex_al _ ?_ | exact ⟨_, by assumption⟩) | (intro hh; injection hh with hh1 hh2; omega)); done) | go_simp); done) | ((first | with_reducible assumption | ((repeat' first | with_reducible (first | assumption | refine frz_al _ ?_ ?_ | refine frz_set _ ?_) | omega | (simp; omega)); done) | go_simp); done) | (repeat' first | with_reducible (first | exact Below.refl _ _ | assumption | refine gr_alloc ?_ _ | refine below_drewN ?_ _ | refine below_drew ?_ | refine gr_call ?_ (by assumption) | refine Below.setCell ?_ ?_ _) | go_size | omega | (simp; omega))))
          | ((repeat apply Exists.intro); refine ⟨?_, rfl⟩; (refine ⟨n - 1, 2 * r - l, cmp (cmp p p) F, rfl, by first | rfl | (congr 1; omega), by omega, by omega, by omega, by omega, HP, HE, ?_, ?_, ?_, ?_, ?_, ?_, ?_, ?_, ?_, ?_, ?_, ?_, ?_, ?_, ?_, ?_⟩ <;> (first | (with_reducible assumption) | ((first | with_reducible assumption | ((repeat' first | with_reducible (first | assumption | refine cell_al _ ?_ | refine cell_eq _ ?_ | refine cell_ne _ ?_ ?_ | refine ex_set _ ?_ | refine ex_al _ ?_ | exact ⟨_, by assumption⟩) | (intro hh; injection hh with hh1 hh2; omega)); done) | go_simp); done) | ((first | with_reducible assumption | ((repeat' first | with_reducible (first | assumption | refine frz_al _ ?_ ?_ | refine frz_set _ ?_) | omega | (simp; omega)); done) | go_simp); done) | (repeat' first | with_reducible (first | exact Below.refl _ _ | assumption | refine gr_alloc ?_ _ | refine below_drewN ?_ _ | refine below_drew ?_ | refine gr_call ?_ (by assumption) | refine Below.setCell ?_ ?_ _) | go_size | omega | (simp; omega)))))
        case measure => (simp [intOf] <;> omega)
      · have HE : Hid (quL F l (cmp p p) (2 * r) (n - 1).toNat = quD D F t l) := hide ((qu_lo hn2 (by omega)).symm.trans (unhide HS))
        have HP := hp.cp hp
        clear HS
        go_wp2_with fail
        refine (compose_D p p _ hp hp).mono ?_
        rintro en w4 ⟨rfl, hb4⟩
        have hcs9 := cells_calls hb4 [⟨w.heap.size, 0, none⟩, ⟨w.heap.size, 1, none⟩, ⟨w.heap.size, 2, none⟩, ⟨w.heap.size + 1, 0, none⟩, ⟨w.heap.size + 1, 1, none⟩, ⟨w.heap.size + 1, 2, none⟩, ⟨w3.heap.size, 0, none⟩, ⟨w3.heap.size, 1, none⟩, ⟨w3.heap.size, 2, none⟩] [.int .i64 (F.1), .int .i64 (F.2.1), .int .i64 (F.2.2), .int .i64 0, .int .i64 0, .int .i64 0, .int .i64 (p.1), .int .i64 (p.2.1), .int .i64 (p.2.2)] (by refine ⟨?_, ?_, ?_, ?_, ?_, ?_, ?_, ?_, ?_, trivial⟩ <;> (first | with_reducible assumption | ((repeat' first | with_reducible (first | assumption | refine cell_al _ ?_ | refine cell_eq _ ?_ | refine cell_ne _ ?_ ?_ | refine ex_set _ ?_ | refine ex_al _ ?_ | exact ⟨_, by assumption⟩) | (intro hh; injection hh with hh1 hh2; omega)); done) | go_simp))
        have hfs9 := frees_calls hb4 [⟨w.heap.size + 1, 0, none⟩, ⟨w.heap.size + 1, 1, none⟩, ⟨w.heap.size + 1, 2, none⟩, ⟨w3.heap.size, 0, none⟩, ⟨w3.heap.size, 1, none⟩, ⟨w3.heap.size, 2, none⟩] (by refine ⟨?_, ?_, ?_, ?_, ?_, ?_, trivial⟩ <;> first | with_reducible assumption | omega | (simp; omega) | (simp; done)) (by refine ⟨?_, ?_, ?_, ?_, ?_, ?_, trivial⟩ <;> (first | with_reducible assumption | ((repeat' first | with_reducible (first | assumption | refine frz_al _ ?_ ?_ | refine frz_set _ ?_) | omega | (simp; omega)); done) | go_simp))
        have hzs9 := blocks_calls hb4 [w.heap.size, w.heap.size + 1, w3.heap.size] (by refine ⟨?_, ?_, ?_, trivial⟩ <;> first | with_reducible assumption | omega | (simp; omega) | (simp; done))
        try clear c00 c01 c02
        try clear c10 c11 c12 f10 f11 f12
        try clear c20 c21 c22 f20 f21 f22
        obtain ⟨c00, c01, c02, c10, c11, c12, c20, c21, c22, -⟩ := hcs9
        obtain ⟨f10, f11, f12, f20, f21, f22, -⟩ := hfs9
        obtain ⟨z0, z1, z2, -⟩ := hzs9
        have hs4 := hb4.size
        have o40 := z0
        have o41 := z1
        have o42 := z2
        go_wp2
        go_roundw
        case rel =>
          first
          | (refine ⟨n - 1, 2 * r, cmp p p, rfl, by first | rfl | (congr 1; omega), by omega, by omega, by omega, by omega, HP, HE, ?_, ?_, ?_, ?_, ?_, ?_, ?_, ?_, ?_, ?_, ?_, ?_, ?_, ?_, ?_, ?_⟩ <;> (first | (with_reducible assumption) | ((first | with_reducible assumption | ((repeat' first | with_reducible (first | assumption | refine cell_al _ ?_ | refine cell_eq _ ?_ | refine cell_ne _ ?_ ?_ | refine ex_set _ ?_ | refine ex_al _ ?_ | exact ⟨_, by assumption⟩) | (intro hh; injection hh with hh1 hh2; omega)); done) | go_simp); done) | ((first | with_reducible assumption | ((repeat' first | with_reducible (first | assumption | refine frz_al _ ?_ ?_ | refine frz_set _ ?_) | omega | (simp; omega)); done) | go_simp); done) | (repeat' first | with_reducible (first | exact Below.refl _ _ | assumption | refine gr_alloc ?_ _ | refine below_drewN ?_ _ | refine below_drew ?_ | refine gr_call ?_ (by assumption) | refine Below.setCell ?_ ?_ _) | go_size | omega | (simp; omega))))
          | ((repeat apply Exists.intro); refine ⟨?_, rfl⟩; (refine ⟨n - 1, 2 * r, cmp p p, rfl, by first | rfl | (congr 1; omega), by omega, by omega, by omega, by omega, HP, HE, ?_, ?_, ?_, ?_, ?_, ?_, ?_, ?_, ?_, ?_, ?_, ?_, ?_, ?_, ?_, ?_⟩ <;> (first | (with_reducible assumption) | ((first | with_reducible assumption | ((repeat' first | with_reducible (first | assumption | refine cell_al _ ?_ | refine cell_eq _ ?_ | refine cell_ne _ ?_ ?_ | refine ex_set _ ?_ | refine ex_al _ ?_ | exact ⟨_, by assumption⟩) | (intro hh; injection hh with hh1 hh2; omega)); done) | go_simp); done) | ((first | with_reducible assumption | ((repeat' first | with_reducible (first | assumption | refine frz_al _ ?_ ?_ | refine frz_set _ ?_) | omega | (simp; omega)); done) | go_simp); done) | (repeat' first | with_reducible (first | exact Below.refl _ _ | assumption | refine gr_alloc ?_ _ | refine below_drewN ?_ _ | refine below_drew ?_ | refine gr_call ?_ (by assumption) | refine Below.setCell ?_ ?_ _) | go_size | omega | (simp; omega)))))
        case measure => (simp [intOf] <;> omega)

end Go.Proofs.Ytninagdclibmnaa
