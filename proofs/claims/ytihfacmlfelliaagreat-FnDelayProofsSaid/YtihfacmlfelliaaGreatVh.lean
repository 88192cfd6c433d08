/- VerifyHalving on both sides. -/
import Derived.Test.YtihfacmlfelliaaGreatHp
import Derived.Test.YtihfacmlfelliaaGreatToF
namespace Go.Proofs.YtihfacmlfelliaaGreat
open Go.RowKit
set_option linter.unusedVariables false
set_option linter.unusedSimpArgs false
attribute [local go_sem] q2 q3 q4 q5 q6 q7 q8 q9 q10 q11 q12

def vhP (F G : T3) (P : Nat → T3) (i : Nat) : T3 := if i = 0 then F else if i = 1 then G else P (i - 2)
noncomputable def vhS (D : Int) (F G : T3) (P : Nat → T3) (k : Int) : Nat → T3 × T3
 | 0 => (rdT F, rdT G)
 | j + 1 => (hvX D (vhS D F G P k j).1 (vhS D F G P k j).2 (P j) (k - j), hvY D (vhS D F G P k j).1 (vhS D F G P k j).2 (P j) (k - j))
def vhB (F G : T3) (n : Nat) (P : Nat → T3) (k : Int) : Bool := onB (vhP F G P) (n + 2) && hvB k
noncomputable def vhV (F G : T3) (n : Nat) (P : Nat → T3) (k : Int) : Bool := if vhB F G n P k = true ∧ (n : Int) = k then eqT (cmp (vhS (dT F) F G P k n).1 (vhS (dT F) F G P k n).1) (vhS (dT F) F G P k n).2 else false
theorem vh_on {F G : T3} {n : Nat} {P : Nat → T3} (h : onB (vhP F G P) (n + 2) = true) : Frm (dT F) F ∧ Frm (dT F) G ∧ ∀ i, i < n → Frm (dT F) (P i) := by
 have key := on_true _ h
 have k1 := pr_true (key 1 (by omega))
 refine ⟨k1.1, k1.2, fun i hi => ?_⟩
 have k2 := pr_true (key (i + 2) (by omega))
 have e : vhP F G P (i + 2) = P i := by unfold vhP; rw [if_neg (by omega), if_neg (by omega)]; rfl
 rw [e] at k2
 exact k2.2
theorem vhS_frm {D : Int} {F G : T3} {P : Nat → T3} {k : Int} {n : Nat} (h : Frm D F) (hg : Frm D G) (hp : ∀ i, i < n → Frm D (P i)) : ∀ j, j ≤ n → Frm D (vhS D F G P k j).1 ∧ Frm D (vhS D F G P k j).2
 | 0, _ => ⟨h.rd, hg.rd⟩
 | j + 1, hj => ⟨hvX_frm (vhS_frm h hg hp j (by omega)).1 (hp j (by omega)), hvY_frm (vhS_frm h hg hp j (by omega)).2 (hp j (by omega))⟩
theorem vhS_rc {D : Int} {F G : T3} {P : Nat → T3} {k : Int} {n : Nat} (h : Frm D F) (hg : Frm D G) (hp : ∀ i, i < n → Frm D (P i)) : ∀ j, j ≤ n → RcT (vhS D F G P k j).2
 | 0, _ => rd_rc hg.i.cl
 | j + 1, hj => hvY_rc (vhS_frm h hg hp j (by omega)).2 (hp j (by omega))
theorem vh_no {F G : T3} {n : Nat} {P : Nat → T3} {k : Int} (h : vhB F G n P k = false) : vhV F G n P k = false := by unfold vhV; rw [if_neg]; rw [h]; simp
theorem vh_ne {F G : T3} {n : Nat} {P : Nat → T3} {k : Int} (h : (n : Int) ≠ k) : vhV F G n P k = false := by unfold vhV; rw [if_neg]; exact fun q => h q.2
theorem vh_yes {F G : T3} {n : Nat} {P : Nat → T3} {k : Int} (h : vhB F G n P k = true) (h2 : (n : Int) = k) : vhV F G n P k = eqT (cmp (vhS (dT F) F G P k n).1 (vhS (dT F) F G P k n).1) (vhS (dT F) F G P k n).2 := by unfold vhV; rw [if_pos ⟨h, h2⟩]
theorem vh_i64 {F G : T3} {n : Nat} {P : Nat → T3} (h1 : I64T F) (h2 : I64T G) (h3 : ∀ i, i < n → I64T (P i)) : ∀ i, i < n + 2 → I64T (vhP F G P i) := by
 intro i hi
 unfold vhP
 split
 ·exact h1
 ·split
  ·exact h2
  ·exact h3 _ (by omega)
theorem app_rows (w : World) {ops : Array Oper} {rest : List Oper} {o : Oper} {a : Act} {Q : Exit → Act → World → Prop} (hgd : o.guard = none) (s x : Operand)
  (ho : o.op = .call { callee := .builtin .append, args := #[s, x], argTypes := #[39, 39] })
  (F G : T3) (P : Nat → T3) (g B n c : Nat) (hs : a.eval s = .slice (some ⟨g, 0, none⟩) 2 2) (hx : a.eval x = .slice (some ⟨B, 0, none⟩) n c)
  (hown : w.ownsRow g 25 3 (.slice (some ⟨g, 0, none⟩) 2 2) 2 [.int .i64 F.1, .int .i64 F.2.1, .int .i64 F.2.2, .int .i64 G.1, .int .i64 G.2.1, .int .i64 G.2.2]) (hlo : g ≤ w.heap.size) (hn : n ≤ 2000000) (hB : FsAt w B n P)
  (h : ∀ g' cap w', FsAt w' g' (n + 2) (vhP F G P) → w.grownBy w' (some g) → g ≤ g' → wpList Tryz.prog ops Q rest (a.put o.dst (.slice (some ⟨g', 0, none⟩) (n + 2) cap)) w') : wpList Tryz.prog ops Q (o :: rest) a w := by
 obtain ⟨i0, hi, hz0, hz1, hz2⟩ := info_parts Tryz.infoForm
 refine wpList_append_own w hgd s x 39 ho g 25 i0 (.agg #[.int .i64 0, .int .i64 0, .int .i64 0]) 3 24 Tryz.underlying39 hi hz0 hz1 hz2 rfl (by decide) _ 2 _ hs hown ⟨B, 0, none⟩ n c ((List.range (n * 3)).map (fun i => Value.int .i64 (flP P i))) hx (by simp) ?_ (by simp [Value.oneCell']) (by unfold maxLen; omega) (by omega) hlo ?_
 ·intro j u hu
  have hj : j < n * 3 := by
   have := (List.getElem?_eq_some_iff.1 hu).1
   simpa using this
  rw [List.getElem?_map, List.getElem?_range hj] at hu
  simp only [Option.map_some, Option.some.injEq] at hu
  subst hu
  obtain ⟨e0, e1, e2⟩ := flP_at P (j / 3)
  obtain ⟨c0, c1, c2⟩ := hB (j / 3) (by omega)
  have ha : (⟨B, 0, none⟩ : Addr).add j = ⟨B, j, none⟩ := by unfold Addr.add; split <;> simp_all
  rw [ha]
  rcases (show j = j / 3 * 3 ∨ j = j / 3 * 3 + 1 ∨ j = j / 3 * 3 + 2 by omega) with e | e | e
  ·rw [← e] at c0 e0; rw [c0, e0]
  ·rw [← e] at c1 e1; rw [c1, e1]
  ·rw [← e] at c2 e2; rw [c2, e2]
 ·intro v' w' h1 h2 _
  rcases h1.2 with ⟨h3, h4⟩ | ⟨g', cap, cur, h3, h4, h5, h6, h7, h8, h9⟩
  ·simp at h4
  ·subst h3
   rw [Nat.add_comm 2 n]
   refine h g' cap w' ?_ h2 h4
   have key : ∀ j u, ([Value.int .i64 F.1, .int .i64 F.2.1, .int .i64 F.2.2, .int .i64 G.1, .int .i64 G.2.1, .int .i64 G.2.2] ++ (List.range (n * 3)).map (fun i => Value.int .i64 (flP P i)))[j]? = some u → w'.cell? ⟨g', j, none⟩ = some u := by
    intro j u hu
    have := h1.cells (g := g') rfl j u hu
    have ha : (⟨g', 0, none⟩ : Addr).add j = ⟨g', j, none⟩ := by unfold Addr.add; split <;> simp_all
    rwa [ha] at this
   have tail : ∀ j, j < n * 3 → w'.cell? ⟨g', 6 + j, none⟩ = some (.int .i64 (flP P j)) := by
    intro j hj
    refine key _ _ ?_
    rw [List.getElem?_append_right (by simp)]
    simp [hj]
   intro i hi
   by_cases q0 : i = 0
   ·subst q0
    exact ⟨key 0 _ rfl, key 1 _ rfl, key 2 _ rfl⟩
   ·by_cases q1 : i = 1
    ·subst q1
     exact ⟨key 3 _ rfl, key 4 _ rfl, key 5 _ rfl⟩
    ·have e : vhP F G P i = P (i - 2) := by unfold vhP; rw [if_neg q0, if_neg q1]
     rw [e]
     obtain ⟨e0, e1, e2⟩ := flP_at P (i - 2)
     have t0 := tail ((i - 2) * 3) (by omega)
     have t1 := tail ((i - 2) * 3 + 1) (by omega)
     have t2 := tail ((i - 2) * 3 + 2) (by omega)
     rw [e0, show 6 + (i - 2) * 3 = i * 3 by omega] at t0
     rw [e1, show 6 + ((i - 2) * 3 + 1) = i * 3 + 1 by omega] at t1
     rw [e2, show 6 + ((i - 2) * 3 + 2) = i * 3 + 2 by omega] at t2
     exact ⟨t0, t1, t2⟩

set_option maxRecDepth 100000 in
set_option maxHeartbeats 8000000 in
theorem implVerifyHalving (F G : T3) (k : Int) (n : Nat) (P : Nat → T3) (B c : Nat) (w : World) (hn : n ≤ 1100000) (hF : FsAt w B n P) (hBw : B < w.heap.size) (i0 : I64T F) (i1 : I64T G) (i2 : ∀ i, i < n → I64T (P i)) :
  Calls Tryz.prog 23 #[frm F, frm G, .int .i64 k, .slice (some ⟨B, 0, none⟩) n c] w fun e w' => e = .returned (.tuple #[.bool (vhV F G n P k), .bool (vhB F G n P k)]) ∧ Below w.heap.size w w' := by
 have HF9 : Hid (FsAt ((((w.alloc (.cells #[.int .i64 F.1, .int .i64 F.2.1, .int .i64 F.2.2] 25)).alloc (.cells #[.int .i64 G.1, .int .i64 G.2.1, .int .i64 G.2.2] 25)).alloc (.cells #[.int .i64 F.1, .int .i64 F.2.1, .int .i64 F.2.2, .int .i64 G.1, .int .i64 G.2.1, .int .i64 G.2.2] 25))) B n P) := hide (((hF.below (below_alloc_self _ _)).below (below_alloc_self _ _)).below (below_alloc_self _ _))
 have HO9 : Hid ((((w.alloc (.cells #[.int .i64 F.1, .int .i64 F.2.1, .int .i64 F.2.2] 25)).alloc (.cells #[.int .i64 G.1, .int .i64 G.2.1, .int .i64 G.2.2] 25)).alloc (.cells #[.int .i64 F.1, .int .i64 F.2.1, .int .i64 F.2.2, .int .i64 G.1, .int .i64 G.2.1, .int .i64 G.2.2] 25)).ownsRow (w.heap.size + 1 + 1) 25 3 (.slice (some ⟨w.heap.size + 1 + 1, 0, none⟩) 2 2) 2 [.int .i64 F.1, .int .i64 F.2.1, .int .i64 F.2.2, .int .i64 G.1, .int .i64 G.2.1, .int .i64 G.2.2]) := hide (by
  have h := World.ownsRow_lit (size := 3) (e := 25) ((w.alloc (.cells #[.int .i64 F.1, .int .i64 F.2.1, .int .i64 F.2.2] 25)).alloc (.cells #[.int .i64 G.1, .int .i64 G.2.1, .int .i64 G.2.2] 25)) #[.int .i64 F.1, .int .i64 F.2.1, .int .i64 F.2.2, .int .i64 G.1, .int .i64 G.2.1, .int .i64 G.2.2] 2 (Nat.le_refl _) (by decide) rfl
  rw [show ((w.alloc (.cells #[.int .i64 F.1, .int .i64 F.2.1, .int .i64 F.2.2] 25)).alloc (.cells #[.int .i64 G.1, .int .i64 G.2.1, .int .i64 G.2.2] 25)).heap.size = w.heap.size + 1 + 1 from by simp] at h
  exact h)
 have HF0 := hide hF
 clear hF
 cases k0 : onB (vhP F G P) (n + 2)
 ·have e0 : vhB F G n P k = false := by unfold vhB; rw [k0]; rfl
  have HV := hide (And.intro (vh_no e0) e0)
  clear e0
  go_enter Tryz.func23, Tryz.ntmps23
  go_wp2_with (at_builtin; go_loud (refine app_rows _ rfl (.tmp 16) (.tmp 17) rfl F G P (w.heap.size + 1 + 1) B n c rfl rfl (unhide HO9) (by first | go_size | omega | (simp; omega) | (simp; done) | exact Nat.le_refl _) (by omega) (unhide HF9) ?_); intro g' cap w0 hfs hgr hg')
  have gr0 := hgr
  have hb0 : Below w.heap.size w w0 := by
   refine (((Below.refl w.heap.size w).alloc (Nat.le_refl _) _).alloc (by simp) _).alloc (by simp; omega) _ |>.grown hgr (by simp; omega) (fun k hk => by cases hk; omega)
  have c00 : w0.cell? ⟨w.heap.size, 0, none⟩ = some (.int .i64 F.1) := hgr.cell byCT (by first | (simp; done) | (simp; omega))
  have c01 : w0.cell? ⟨w.heap.size, 1, none⟩ = some (.int .i64 F.2.1) := hgr.cell byCT (by first | (simp; done) | (simp; omega))
  have c02 : w0.cell? ⟨w.heap.size, 2, none⟩ = some (.int .i64 F.2.2) := hgr.cell byCT (by first | (simp; done) | (simp; omega))
  have c10 : w0.cell? ⟨w.heap.size + 1, 0, none⟩ = some (.int .i64 G.1) := hgr.cell byCT (by first | (simp; done) | (simp; omega))
  have c11 : w0.cell? ⟨w.heap.size + 1, 1, none⟩ = some (.int .i64 G.2.1) := hgr.cell byCT (by first | (simp; done) | (simp; omega))
  have c12 : w0.cell? ⟨w.heap.size + 1, 2, none⟩ = some (.int .i64 G.2.2) := hgr.cell byCT (by first | (simp; done) | (simp; omega))
  have zz0 : w.heap.size < w0.heap.size := World.block_lt_of_cell? _ _ c00
  have zz1 : w.heap.size + 1 < w0.heap.size := World.block_lt_of_cell? _ _ c10
  have HFS := hide hfs
  clear hfs hgr gr0
  refine (areOne_l (vhP F G P) g' (n + 2) cap _ (by omega) (unhide HFS) (vh_i64 i0 i1 i2)).mono ?_
  rintro en w1 ⟨rfl, hb1⟩
  have tq0 := Ri3.c hb1 w.heap.size F.1 F.2.1 F.2.2
  have tq1 := Ri3.c hb1 (w.heap.size + 1) G.1 G.2.1 G.2.2
  try clear c00 c01 c02
  try clear c10 c11 c12
  obtain ⟨c00, c01, c02, z0⟩ := tq0
  obtain ⟨c10, c11, c12, z1⟩ := tq1
  have hs1 := hb1.size
  have hB1 : Below w.heap.size w w1 := hb0.trans (hb1.mono hb0.size)
  rw [k0]
  go_wp2
  go_ret2
  exact ⟨by rw [(unhide HV).1, (unhide HV).2]; rfl, byGG⟩
 ·cases k1 : hvB k
  ·have e0 : vhB F G n P k = false := by unfold vhB; rw [k1]; simp
   have HV := hide (And.intro (vh_no e0) e0)
   clear e0
   go_enter Tryz.func23, Tryz.ntmps23
   go_wp2_with (at_builtin; go_loud (refine app_rows _ rfl (.tmp 16) (.tmp 17) rfl F G P (w.heap.size + 1 + 1) B n c rfl rfl (unhide HO9) (by first | go_size | omega | (simp; omega) | (simp; done) | exact Nat.le_refl _) (by omega) (unhide HF9) ?_); intro g' cap w0 hfs hgr hg')
   have gr0 := hgr
   have hb0 : Below w.heap.size w w0 := by
    refine (((Below.refl w.heap.size w).alloc (Nat.le_refl _) _).alloc (by simp) _).alloc (by simp; omega) _ |>.grown hgr (by simp; omega) (fun k hk => by cases hk; omega)
   have c00 : w0.cell? ⟨w.heap.size, 0, none⟩ = some (.int .i64 F.1) := hgr.cell byCT (by first | (simp; done) | (simp; omega))
   have c01 : w0.cell? ⟨w.heap.size, 1, none⟩ = some (.int .i64 F.2.1) := hgr.cell byCT (by first | (simp; done) | (simp; omega))
   have c02 : w0.cell? ⟨w.heap.size, 2, none⟩ = some (.int .i64 F.2.2) := hgr.cell byCT (by first | (simp; done) | (simp; omega))
   have c10 : w0.cell? ⟨w.heap.size + 1, 0, none⟩ = some (.int .i64 G.1) := hgr.cell byCT (by first | (simp; done) | (simp; omega))
   have c11 : w0.cell? ⟨w.heap.size + 1, 1, none⟩ = some (.int .i64 G.2.1) := hgr.cell byCT (by first | (simp; done) | (simp; omega))
   have c12 : w0.cell? ⟨w.heap.size + 1, 2, none⟩ = some (.int .i64 G.2.2) := hgr.cell byCT (by first | (simp; done) | (simp; omega))
   have zz0 : w.heap.size < w0.heap.size := World.block_lt_of_cell? _ _ c00
   have zz1 : w.heap.size + 1 < w0.heap.size := World.block_lt_of_cell? _ _ c10
   have HFS := hide hfs
   clear hfs hgr gr0
   refine (areOne_l (vhP F G P) g' (n + 2) cap _ (by omega) (unhide HFS) (vh_i64 i0 i1 i2)).mono ?_
   rintro en w1 ⟨rfl, hb1⟩
   have tq0 := Ri3.c hb1 w.heap.size F.1 F.2.1 F.2.2
   have tq1 := Ri3.c hb1 (w.heap.size + 1) G.1 G.2.1 G.2.2
   try clear c00 c01 c02
   try clear c10 c11 c12
   obtain ⟨c00, c01, c02, z0⟩ := tq0
   obtain ⟨c10, c11, c12, z1⟩ := tq1
   have hs1 := hb1.size
   have hB1 : Below w.heap.size w w1 := hb0.trans (hb1.mono hb0.size)
   rw [k0]
   go_wp2_with (go_at_call 61; refine (isHalvings_b _ _).mono ?_; rintro e w' ⟨rfl, rfl⟩)
   go_ret2
   exact ⟨by rw [(unhide HV).1, (unhide HV).2]; rfl, byGG⟩
  ·have ht := inB_true k1
   have e0 : vhB F G n P k = true := by unfold vhB; rw [k0, k1]; rfl
   by_cases k2 : (n : Int) = k
   ·subst k2
    obtain ⟨hF0, hG0, hP0⟩ := vh_on k0
    obtain ⟨D, hD⟩ : ∃ D, D = dT F := ⟨_, rfl⟩
    have HV : Hid (vhV F G n P n = eqT (cmp (vhS D F G P n n).1 (vhS D F G P n n).1) (vhS D F G P n n).2 ∧ vhB F G n P n = true) := hide ⟨by rw [hD]; exact vh_yes e0 rfl, e0⟩
    rw [← hD] at hF0 hG0 hP0
    clear hD e0
    have HSF := fun j (hj : j ≤ n) => vhS_frm (k := (n : Int)) hF0 hG0 hP0 j hj
    have HSR := vhS_rc (k := (n : Int)) hF0 hG0 hP0 n (Nat.le_refl _)
    obtain ⟨X0, hX0⟩ : ∃ X0, X0 = rdT F := ⟨_, rfl⟩
    obtain ⟨Y0, hY0⟩ : ∃ Y0, Y0 = rdT G := ⟨_, rfl⟩
    have HS0 : Hid (vhS D F G P n 0 = (X0, Y0)) := hide (by rw [hX0, hY0]; rfl)
    replace hX0 := hide hX0
    replace hY0 := hide hY0
    have HSF9 := hide HSF
    have HSR9 := hide HSR
    have HP9 := hide hP0
    clear HSF HSR hP0
    have hnn : (n : Int) ≤ 6 := by omega
    have t2 : ((n : Int) != (n : Int)) = false := by simp
    go_enter Tryz.func23, Tryz.ntmps23
    go_wp2_with (at_builtin; go_loud (refine app_rows _ rfl (.tmp 16) (.tmp 17) rfl F G P (w.heap.size + 1 + 1) B n c rfl rfl (unhide HO9) (by first | go_size | omega | (simp; omega) | (simp; done) | exact Nat.le_refl _) (by omega) (unhide HF9) ?_); intro g' cap w0 hfs hgr hg')
    have gr0 := hgr
    have hb0 : Below w.heap.size w w0 := by
     refine (((Below.refl w.heap.size w).alloc (Nat.le_refl _) _).alloc (by simp) _).alloc (by simp; omega) _ |>.grown hgr (by simp; omega) (fun k hk => by cases hk; omega)
    have c00 : w0.cell? ⟨w.heap.size, 0, none⟩ = some (.int .i64 F.1) := hgr.cell byCT (by first | (simp; done) | (simp; omega))
    have c01 : w0.cell? ⟨w.heap.size, 1, none⟩ = some (.int .i64 F.2.1) := hgr.cell byCT (by first | (simp; done) | (simp; omega))
    have c02 : w0.cell? ⟨w.heap.size, 2, none⟩ = some (.int .i64 F.2.2) := hgr.cell byCT (by first | (simp; done) | (simp; omega))
    have c10 : w0.cell? ⟨w.heap.size + 1, 0, none⟩ = some (.int .i64 G.1) := hgr.cell byCT (by first | (simp; done) | (simp; omega))
    have c11 : w0.cell? ⟨w.heap.size + 1, 1, none⟩ = some (.int .i64 G.2.1) := hgr.cell byCT (by first | (simp; done) | (simp; omega))
    have c12 : w0.cell? ⟨w.heap.size + 1, 2, none⟩ = some (.int .i64 G.2.2) := hgr.cell byCT (by first | (simp; done) | (simp; omega))
    have zz0 : w.heap.size < w0.heap.size := World.block_lt_of_cell? _ _ c00
    have zz1 : w.heap.size + 1 < w0.heap.size := World.block_lt_of_cell? _ _ c10
    have HFS := hide hfs
    clear hfs hgr gr0
    refine (areOne_l (vhP F G P) g' (n + 2) cap _ (by omega) (unhide HFS) (vh_i64 i0 i1 i2)).mono ?_
    rintro en w1 ⟨rfl, hb1⟩
    have tq0 := Ri3.c hb1 w.heap.size F.1 F.2.1 F.2.2
    have tq1 := Ri3.c hb1 (w.heap.size + 1) G.1 G.2.1 G.2.2
    try clear c00 c01 c02
    try clear c10 c11 c12
    obtain ⟨c00, c01, c02, z0⟩ := tq0
    obtain ⟨c10, c11, c12, z1⟩ := tq1
    have hs1 := hb1.size
    have hB1 : Below w.heap.size w w1 := hb0.trans (hb1.mono hb0.size)
    rw [k0]
    go_upto_region 5 with (go_at_call 61; refine (isHalvings_b _ _).mono ?_; rintro e w' ⟨rfl, rfl⟩)
    go_cut [10, 11] (fun s10 s11 wx => ∃ gx0 gx1 : Nat, s10 = .pointer (some ⟨gx0, 0, none⟩) ∧ s11 = .pointer (some ⟨gx1, 0, none⟩) ∧ Ri3 wx w.heap.size F.1 F.2.1 F.2.2 ∧ Ri3 wx (w.heap.size + 1) G.1 G.2.1 G.2.2 ∧ Wi3 wx gx0 X0.1 X0.2.1 X0.2.2 ∧ Wi3 wx gx1 Y0.1 Y0.2.1 Y0.2.2 ∧ Below w.heap.size w wx ∧ w1.heap.size ≤ gx0 ∧ w1.heap.size ≤ gx1 ∧ ¬ gx0 = gx1)
    case first =>
     have h1 := trivial
     rename_i K2 h2 h3
     refine region_p0 (by kernel_rfl) (fun j => #[30,31,32,33,10,11,10,11].getD j 0) (fun j => Kd.ok ((fun j => match j with | 0 => Kd.val (.agg #[.int .i64 (F.1), .int .i64 (F.2.1), .int .i64 (F.2.2)]) | 1 => Kd.val (.agg #[.int .i64 (X0.1), .int .i64 (X0.2.1), .int .i64 (X0.2.2)]) | 2 => Kd.val (.agg #[.int .i64 (G.1), .int .i64 (G.2.1), .int .i64 (G.2.2)]) | 3 => Kd.val (.agg #[.int .i64 (Y0.1), .int .i64 (Y0.2.1), .int .i64 (Y0.2.2)]) | 4 => Kd.own (w1.heap.size) 3 | 5 => Kd.own (w1.heap.size) 3 | 6 => Kd.held (w1.heap.size) [.int .i64 (X0.1), .int .i64 (X0.2.1), .int .i64 (X0.2.2)] | 7 => Kd.held (w1.heap.size) [.int .i64 (Y0.1), .int .i64 (Y0.2.1), .int .i64 (Y0.2.2)] | _ => Kd.any : Nat → Kd) j)) (Sy w (w1.heap.size) [(⟨w.heap.size, 0, none⟩, .int .i64 (F.1)), (⟨w.heap.size, 1, none⟩, .int .i64 (F.2.1)), (⟨w.heap.size, 2, none⟩, .int .i64 (F.2.2)), (⟨w.heap.size + 1, 0, none⟩, .int .i64 (G.1)), (⟨w.heap.size + 1, 1, none⟩, .int .i64 (G.2.1)), (⟨w.heap.size + 1, 2, none⟩, .int .i64 (G.2.2))] []) 10 11 (by kernel_rfl) (by kernel_rfl) (PairOk.start (by rfl) (by rfl) (show 10 < 57 by decide) (show 11 < 57 by decide)) ?_ ?_ ?_ ?_
     ·intro j hj
      have hj2 : j < 8 := hj
      have : ∀ j, j < 8 → (#[30,31,32,33,10,11,10,11] : Array Nat).getD j 0 < 57 := by decide
      exact this j hj2
     ·refine Sy.drew (Sy.mk_of ?_ ?_ ?_ ?_)
      ·first | rfl | (simp; done) | (simp; omega)
      ·intro c hc
       simp only [List.mem_cons, List.not_mem_nil, or_false] at hc
       rcases hc with rfl | rfl | rfl | rfl | rfl | rfl <;> exact byCT
      ·intro p hp; cases hp
      ·(repeat' first | with_reducible (first | exact Below.refl _ _ | assumption | refine gr_alloc ?_ _ | refine below_drewN ?_ _ | refine below_drew ?_ | refine gr_call ?_ (by assumption) | refine Below.setCell ?_ ?_ _) | go_size | omega | (simp; omega))
     ·clear h1 h2 h3
      try clear c00
      try clear c01
      try clear c02
      try clear c10
      try clear c11
      try clear c12
      refine ⟨?r48x0, ?r48x1, ?r48x2, ?r48x3, ?r48x4, ?r48x5, ?r48x6, ?r48x7, trivial⟩
      all_goals intro _ aq wx Kq hf hS hPQ hdep ev1 ev2 hK
      case' r48x0 =>
       have F4 : aq.eval (.tmp 4) = .pointer (some ⟨w.heap.size, 0, none⟩) := hf 4
       have c0 := hS.cells (⟨w.heap.size, 0, none⟩, .int .i64 (F.1)) (by simp)
       have c1 := hS.cells (⟨w.heap.size, 1, none⟩, .int .i64 (F.2.1)) (by simp)
       have c2 := hS.cells (⟨w.heap.size, 2, none⟩, .int .i64 (F.2.2)) (by simp)
      case' r48x1 =>
       have D0 : aq.eval (.tmp 30) = _ := hdep 0
      case' r48x2 =>
       have F5 : aq.eval (.tmp 5) = .pointer (some ⟨w.heap.size + 1, 0, none⟩) := hf 5
       have c0 := hS.cells (⟨w.heap.size + 1, 0, none⟩, .int .i64 (G.1)) (by simp)
       have c1 := hS.cells (⟨w.heap.size + 1, 1, none⟩, .int .i64 (G.2.1)) (by simp)
       have c2 := hS.cells (⟨w.heap.size + 1, 2, none⟩, .int .i64 (G.2.2)) (by simp)
      case' r48x3 =>
       have D2 : aq.eval (.tmp 32) = _ := hdep 2
      case' r48x6 =>
       have D1 : aq.eval (.tmp 31) = _ := hdep 1
       obtain ⟨gn, D4, r1, r2, r3⟩ := hdep 4
       change aq.eval (.tmp 10) = _ at D4
       obtain ⟨⟨vx0, cx0⟩, cf0⟩ := r3 0 (by decide)
       obtain ⟨⟨vx1, cx1⟩, cf1⟩ := r3 1 (by decide)
       obtain ⟨⟨vx2, cx2⟩, cf2⟩ := r3 2 (by decide)
       have D4' : tau aq 10 = _ := D4
      case' r48x7 =>
       have D3 : aq.eval (.tmp 33) = _ := hdep 3
       obtain ⟨gn, D5, r1, r2, r3⟩ := hdep 5
       change aq.eval (.tmp 11) = _ at D5
       obtain ⟨⟨vx0, cx0⟩, cf0⟩ := r3 0 (by decide)
       obtain ⟨⟨vx1, cx1⟩, cf1⟩ := r3 1 (by decide)
       obtain ⟨⟨vx2, cx2⟩, cf2⟩ := r3 2 (by decide)
       have D5' : tau aq 11 = _ := D5
      all_goals (clear hf hdep; unfold Oper.wp; generalize Act.eval _ = ev at *; go_simp)
      case r48x1 =>
       refine ((rd_rwi F X0 _ hF0.i (unhide hX0))).mono ?_
       rintro e w2 ⟨rfl, hb⟩
       refine hK _ _ (hS.call hb) ?_ (fun j u _ _ h => Kd.ok_below hb h) (PairOk.put hPQ (by decide) (by decide) hb.size)
       rw [if_pos (by rfl)]
       show (_ : Value) = _
       first | rfl | (refine congrArg (Value.int .i64) ?_; first | rfl | exact int_in (by omega) | exact quo_in (by omega) (by omega) (by omega) | exact rem_in (by omega) (by omega) | omega) | (simp; done) | (simp [*]; done)
      case r48x3 =>
       refine ((rd_rwi G Y0 _ hG0.i (unhide hY0))).mono ?_
       rintro e w2 ⟨rfl, hb⟩
       refine hK _ _ (hS.call hb) ?_ (fun j u _ _ h => Kd.ok_below hb h) (PairOk.put hPQ (by decide) (by decide) hb.size)
       rw [if_pos (by rfl)]
       show (_ : Value) = _
       first | rfl | (refine congrArg (Value.int .i64) ?_; first | rfl | exact int_in (by omega) | exact quo_in (by omega) (by omega) (by omega) | exact rem_in (by omega) (by omega) | omega) | (simp; done) | (simp [*]; done)
      case r48x4 =>
       refine hK _ _ (hS.call (below_alloc_self _ _)) ?_ (fun j u _ _ h => Kd.ok_below (below_alloc_self _ _) h) (PairOk.left hPQ (by decide) (by simp))
       rw [if_pos (by rfl)]
       exact kd_new hS.size rfl
      case r48x5 =>
       refine hK _ _ (hS.call (below_alloc_self _ _)) ?_ (fun j u _ _ h => Kd.ok_below (below_alloc_self _ _) h) (PairOk.right hPQ (by decide) (by simp))
       rw [if_pos (by rfl)]
       exact kd_new hS.size rfl
      case r48x6 =>
       refine hK undef (setAll gn 0 [.int .i64 (X0.1), .int .i64 (X0.2.1), .int .i64 (X0.2.2)] wx) (Sy.setAll_new r1 hS) ?_ (fun j u hj hu h => ?_) (PairOk.put hPQ (by decide) (by decide) (by rw [setAll_size]; exact Nat.le_refl _))
       ·rw [if_neg (by decide)]
        exact kd_held r1 r2 D4' r3
       ·match j, hj with
        | 0, hj | 1, hj | 2, hj | 3, hj => exact (show (u : Value) = _ from h)
        | 4, hj | 5, hj => exact Kd.ok_setAll_new (k := Kd.own (w1.heap.size) 3) rfl (fun B' cs e => by cases e) h
        | 6, hj => exact absurd rfl hj
        | 7, hj => exact held_far h (fun b e => hPQ.ne _ _ _ _ D4' (hu.symm.trans e))
        | j + 8, _ => trivial
      case r48x7 =>
       refine hK undef (setAll gn 0 [.int .i64 (Y0.1), .int .i64 (Y0.2.1), .int .i64 (Y0.2.2)] wx) (Sy.setAll_new r1 hS) ?_ (fun j u hj hu h => ?_) (PairOk.put hPQ (by decide) (by decide) (by rw [setAll_size]; exact Nat.le_refl _))
       ·rw [if_neg (by decide)]
        exact kd_held r1 r2 D5' r3
       ·match j, hj with
        | 0, hj | 1, hj | 2, hj | 3, hj => exact (show (u : Value) = _ from h)
        | 4, hj | 5, hj => exact Kd.ok_setAll_new (k := Kd.own (w1.heap.size) 3) rfl (fun B' cs e => by cases e) h
        | 6, hj => exact held_far h (fun b e => (hPQ.ne _ _ _ _ (hu.symm.trans e) D5').symm)
        | 7, hj => exact absurd rfl hj
        | j + 8, _ => trivial
      all_goals (refine hK _ _ hS ?_ (fun j u _ _ h => h) (PairOk.put hPQ (by decide) (by decide) (Nat.le_refl _)); rw [if_pos (by rfl)]; show (_ : Value) = _; (first | rfl | (refine congrArg (Value.int .i64) ?_; first | rfl | exact int_in (by omega) | exact quo_in (by omega) (by omega) (by omega) | exact rem_in (by omega) (by omega) | omega) | (simp; done) | (simp [*]; done)))
     ·intro aq wx hPQ hd hw hf hS hg
      obtain ⟨gx0, G10, r1gx0, r2gx0, r3gx0⟩ := hg 6 (by decide)
      change tau aq 10 = _ at G10
      obtain ⟨gx1, G11, r1gx1, r2gx1, r3gx1⟩ := hg 7 (by decide)
      change tau aq 11 = _ at G11
      have haq : aq = ⟨#[tau aq 0, tau aq 1, tau aq 2, tau aq 3, tau aq 4, tau aq 5, tau aq 6, tau aq 7, tau aq 8, tau aq 9, tau aq 10, tau aq 11, tau aq 12, tau aq 13, tau aq 14, tau aq 15, tau aq 16, tau aq 17, tau aq 18, tau aq 19, tau aq 20, tau aq 21, tau aq 22, tau aq 23, tau aq 24, tau aq 25, tau aq 26, tau aq 27, tau aq 28, tau aq 29, tau aq 30, tau aq 31, tau aq 32, tau aq 33, tau aq 34, tau aq 35, tau aq 36, tau aq 37, tau aq 38, tau aq 39, tau aq 40, tau aq 41, tau aq 42, tau aq 43, tau aq 44, tau aq 45, tau aq 46, tau aq 47, tau aq 48, tau aq 49, tau aq 50, tau aq 51, tau aq 52, tau aq 53, tau aq 54, tau aq 55, tau aq 56], []⟩ := by
       obtain ⟨tq, dq⟩ := aq
       have h5 := arr_eq (show tq.size = 57 from hw)
       have h6 : dq = [] := hd
       subst h6
       exact congrArg (fun z => Act.mk z []) h5
      show K2 aq wx
      rw [haq, hf 0, hf 1, hf 2, hf 3, hf 4, hf 5, hf 6, hf 7, hf 8, hf 9, hf 12, hf 13, hf 14, hf 15, hf 16, hf 17, hf 18, hf 19, hf 20, hf 21, hf 22, hf 23, hf 24, hf 25, hf 26, hf 27, hf 28, hf 29, hf 34, hf 35, hf 36, hf 37, hf 38, hf 39, hf 40, hf 41, hf 42, hf 43, hf 44, hf 45, hf 46, hf 47, hf 48, hf 49, hf 50, hf 51, hf 52, hf 53, hf 54, hf 55, hf 56, G10, G11]
      clear haq hf hd hw
      try dsimp only
      refine h3 _ _ ?_
      go_meet
      refine ⟨gx0, gx1, rfl, rfl, Ri3.m ?_ ?_ ?_, Ri3.m ?_ ?_ ?_, Wi3.m (r3gx0 0 (by simp)).1 (r3gx0 1 (by simp)).1 (r3gx0 2 (by simp)).1 (r3gx0 0 (by simp)).2 (r3gx0 1 (by simp)).2 (r3gx0 2 (by simp)).2, Wi3.m (r3gx1 0 (by simp)).1 (r3gx1 1 (by simp)).1 (r3gx1 2 (by simp)).1 (r3gx1 0 (by simp)).2 (r3gx1 1 (by simp)).2 (r3gx1 2 (by simp)).2, hS.below, r1gx0, r1gx1, (hPQ.ne _ _ _ _ G10 G11)⟩
      all_goals first | exact hS.cells (_, _) (by simp) | exact (hS.free _ (by simp)).2
    try clear c00
    try clear c01
    try clear c02
    try clear c10
    try clear c11
    try clear c12
    obtain ⟨gx0, gx1, rfl, rfl, ⟨c00, c01, c02, z0⟩, ⟨c10, c11, c12, z1⟩, ⟨c20, c21, c22, f20, f21, f22, z2⟩, ⟨c30, c31, c32, f30, f31, f32, z3⟩, hb0, ngx0, ngx1, npq⟩ := hcut
    obtain ⟨w5, rfl⟩ : ∃ w5 : World, w5 = wc := ⟨_, rfl⟩
    have hx0 : w.heap.size ≤ gx0 ∧ w.heap.size ≤ gx1 := by have := hB1.size; omega
    clear z0 z1 z2 z3
    go_wp2
    go_loopw [36] (fun s36 wr => ∃ jx : Nat, s36 = .int .i64 (jx : Int) ∧ jx ≤ n ∧ wr.cell? ⟨gx0, 0, none⟩ = some (.int .i64 (((vhS D F G P n jx).1).1)) ∧ wr.cell? ⟨gx0, 1, none⟩ = some (.int .i64 (((vhS D F G P n jx).1).2.1)) ∧ wr.cell? ⟨gx0, 2, none⟩ = some (.int .i64 (((vhS D F G P n jx).1).2.2)) ∧ wr.cell? ⟨gx1, 0, none⟩ = some (.int .i64 (((vhS D F G P n jx).2).1)) ∧ wr.cell? ⟨gx1, 1, none⟩ = some (.int .i64 (((vhS D F G P n jx).2).2.1)) ∧ wr.cell? ⟨gx1, 2, none⟩ = some (.int .i64 (((vhS D F G P n jx).2).2.2)) ∧ wr.frozen? ⟨gx0, 0, none⟩ = false ∧ wr.frozen? ⟨gx0, 1, none⟩ = false ∧ wr.frozen? ⟨gx0, 2, none⟩ = false ∧ wr.frozen? ⟨gx1, 0, none⟩ = false ∧ wr.frozen? ⟨gx1, 1, none⟩ = false ∧ wr.frozen? ⟨gx1, 2, none⟩ = false ∧ Below w.heap.size w wr) (fun s36 _ => n - (intOf s36).toNat)
    case atStart =>
     refine ⟨0, rfl, by omega, ?_⟩
     rw [unhide HS0]
     refine ⟨?_, ?_, ?_, ?_, ?_, ?_, ?_, ?_, ?_, ?_, ?_, ?_, ?_⟩ <;> first | with_reducible assumption | (go_simp; done) | (repeat' first | with_reducible (first | exact Below.refl _ _ | assumption | refine gr_alloc ?_ _ | refine below_drewN ?_ _ | refine below_drew ?_ | refine gr_call ?_ (by assumption) | refine Below.setCell ?_ ?_ _) | go_size | omega | (simp; omega))
    case round =>
     obtain ⟨jx, rfl, hjn, c00, c01, c02, c10, c11, c12, f00, f01, f02, f10, f11, f12, hb⟩ := hrel
     obtain ⟨wl, rfl⟩ : ∃ wl : World, wl = wr := ⟨_, rfl⟩
     have hz := hb.size
     have fX := (unhide HSF9 jx hjn).1
     have fY := (unhide HSF9 jx hjn).2
     obtain ⟨X, hX⟩ : ∃ X, X = (vhS D F G P n jx).1 := ⟨_, rfl⟩
     obtain ⟨Y, hY⟩ : ∃ Y, Y = (vhS D F G P n jx).2 := ⟨_, rfl⟩
     rw [← hX] at fX c00 c01 c02
     rw [← hY] at fY c10 c11 c12
     have zz0 : gx0 < wl.heap.size := World.block_lt_of_cell? _ _ c00
     have zz1 : gx1 < wl.heap.size := World.block_lt_of_cell? _ _ c10
     by_cases q : jx < n
     ·have hci : (jx : Int) < (n : Int) := by omega
      obtain ⟨d0, d1, d2⟩ := ((unhide HF0).below hb) jx q
      obtain ⟨M, hM⟩ : ∃ M, M = P jx := ⟨_, rfl⟩
      have fM := unhide HP9 jx q
      rw [← hM] at fM d0 d1 d2
      obtain ⟨X2, hX2⟩ : ∃ X2, X2 = hvX D X Y M ((n : Int) - jx) := ⟨_, rfl⟩
      obtain ⟨Y2, hY2⟩ : ∃ Y2, Y2 = hvY D X Y M ((n : Int) - jx) := ⟨_, rfl⟩
      have HSn : Hid (vhS D F G P n (jx + 1) = (X2, Y2)) := hide (by rw [hX2, hY2, hX, hY, hM]; rfl)
      replace hX2 := hide hX2
      replace hY2 := hide hY2
      have hkj : 0 < (n : Int) - jx ∧ (n : Int) - jx ≤ 6 := by omega
      clear hX hY hM
      go_wp2_with fail
      refine (hv_rwi X Y M X2 Y2 ((n : Int) - jx) _ fX fY fM (by omega) (by omega) (unhide hX2) (unhide hY2)).mono ?_
      rintro en w7 ⟨rfl, hb7⟩
      have tq0 := Wi3.c hb7 gx0 X.1 X.2.1 X.2.2
      have tq1 := Wi3.c hb7 gx1 Y.1 Y.2.1 Y.2.2
      try clear c00 c01 c02 f00 f01 f02
      try clear c10 c11 c12 f10 f11 f12
      obtain ⟨c00, c01, c02, f00, f01, f02, z0⟩ := tq0
      obtain ⟨c10, c11, c12, f10, f11, f12, z1⟩ := tq1
      have hs7 := hb7.size
      have o70 := z0
      have o71 := z1
      have hbw : Below w.heap.size w w7 := byGG
      go_wp2
      go_roundw
      case rel =>
       refine ⟨jx + 1, by go_num, by omega, ?_⟩
       rw [unhide HSn]
       refine ⟨?_, ?_, ?_, ?_, ?_, ?_, ?_, ?_, ?_, ?_, ?_, ?_, ?_⟩ <;> first | with_reducible assumption | (go_simp; done) | (repeat' first | with_reducible (first | exact Below.refl _ _ | assumption | refine gr_alloc ?_ _ | refine below_drewN ?_ _ | refine below_drew ?_ | refine gr_call ?_ (by assumption) | refine Below.setCell ?_ ?_ _) | go_size | omega | (simp; omega))
      case measure => simp [intOf]; omega
     ·obtain rfl : n = jx := by omega
      obtain ⟨C9, hC⟩ : ∃ C9, C9 = cmp X X := ⟨_, rfl⟩
      have hYY : Hid (Y = rdT Y) := hide (by rw [hY]; exact (rd_same (unhide HSR9)).symm)
      have HE : Hid (vhV F G n P n = eqT C9 Y ∧ vhB F G n P n = true) := hide ⟨by rw [(unhide HV).1, ← hX, ← hY, ← hC], (unhide HV).2⟩
      replace hC := hide hC
      clear hX hY
      go_upto_region 11 with fail
      go_cut [8, 9] (fun s8 s9 wx => s8 = .bool (eqT C9 Y) ∧ s9 = .bool true ∧ Ri3 wx gx0 X.1 X.2.1 X.2.2 ∧ Ri3 wx gx1 Y.1 Y.2.1 Y.2.2 ∧ Below wl.heap.size wl wx)
      case first =>
       have h1 := trivial
       rename_i K2 h2 h3
       refine region_n0 (by kernel_rfl) (fun j => #[52,53,54,55,56,8,9].getD j 0) (fun j => Kd.ok ((fun j => match j with | 0 => Kd.val (.agg #[.int .i64 (X.1), .int .i64 (X.2.1), .int .i64 (X.2.2)]) | 1 => Kd.val (.agg #[.int .i64 (X.1), .int .i64 (X.2.1), .int .i64 (X.2.2)]) | 2 => Kd.val (.agg #[.int .i64 (C9.1), .int .i64 (C9.2.1), .int .i64 (C9.2.2)]) | 3 => Kd.val (.agg #[.int .i64 (Y.1), .int .i64 (Y.2.1), .int .i64 (Y.2.2)]) | 4 => Kd.val (.bool (eqT C9 Y)) | 5 => Kd.val (.bool (eqT C9 Y)) | 6 => Kd.val (.bool true) | _ => Kd.any : Nat → Kd) j)) (Sy wl (wl.heap.size) [(⟨gx0, 0, none⟩, .int .i64 (X.1)), (⟨gx0, 1, none⟩, .int .i64 (X.2.1)), (⟨gx0, 2, none⟩, .int .i64 (X.2.2)), (⟨gx1, 0, none⟩, .int .i64 (Y.1)), (⟨gx1, 1, none⟩, .int .i64 (Y.2.1)), (⟨gx1, 2, none⟩, .int .i64 (Y.2.2))] []) (by kernel_rfl) (by kernel_rfl) ?_ ?_ ?_ ?_
       ·intro j hj
        have hj2 : j < 7 := hj
        have : ∀ j, j < 7 → (#[52,53,54,55,56,8,9] : Array Nat).getD j 0 < 57 := by decide
        exact this j hj2
       ·refine Sy.drew (Sy.mk_of ?_ ?_ ?_ ?_)
        ·first | rfl | (simp; done) | (simp; omega)
        ·intro c hc
         simp only [List.mem_cons, List.not_mem_nil, or_false] at hc
         rcases hc with rfl | rfl | rfl | rfl | rfl | rfl <;> exact byCT
        ·intro p hp; cases hp
        ·(repeat' first | with_reducible (first | exact Below.refl _ _ | assumption | refine gr_alloc ?_ _ | refine below_drewN ?_ _ | refine below_drew ?_ | refine gr_call ?_ (by assumption) | refine Below.setCell ?_ ?_ _) | go_size | omega | (simp; omega))
       ·clear h1 h2 h3
        refine ⟨?r49x0, ?r49x1, ?r49x2, ?r49x3, ?r49x4, ?r49x5, ?r49x6, trivial⟩
        all_goals intro _ aq wx Kq hf hS hdep ev1 ev2 hK
        case' r49x0 =>
         have F10 : aq.eval (.tmp 10) = .pointer (some ⟨gx0, 0, none⟩) := hf 10
         have c0 := hS.cells (⟨gx0, 0, none⟩, .int .i64 (X.1)) (by simp)
         have c1 := hS.cells (⟨gx0, 1, none⟩, .int .i64 (X.2.1)) (by simp)
         have c2 := hS.cells (⟨gx0, 2, none⟩, .int .i64 (X.2.2)) (by simp)
        case' r49x1 =>
         have F10 : aq.eval (.tmp 10) = .pointer (some ⟨gx0, 0, none⟩) := hf 10
         have c0 := hS.cells (⟨gx0, 0, none⟩, .int .i64 (X.1)) (by simp)
         have c1 := hS.cells (⟨gx0, 1, none⟩, .int .i64 (X.2.1)) (by simp)
         have c2 := hS.cells (⟨gx0, 2, none⟩, .int .i64 (X.2.2)) (by simp)
        case' r49x2 =>
         have D0 : aq.eval (.tmp 52) = _ := hdep 0
         have D1 : aq.eval (.tmp 53) = _ := hdep 1
        case' r49x3 =>
         have F11 : aq.eval (.tmp 11) = .pointer (some ⟨gx1, 0, none⟩) := hf 11
         have c0 := hS.cells (⟨gx1, 0, none⟩, .int .i64 (Y.1)) (by simp)
         have c1 := hS.cells (⟨gx1, 1, none⟩, .int .i64 (Y.2.1)) (by simp)
         have c2 := hS.cells (⟨gx1, 2, none⟩, .int .i64 (Y.2.2)) (by simp)
        case' r49x4 =>
         have D2 : aq.eval (.tmp 54) = _ := hdep 2
         have D3 : aq.eval (.tmp 55) = _ := hdep 3
        case' r49x5 =>
         have D4 : aq.eval (.tmp 56) = _ := hdep 4
        all_goals (clear hf hdep; unfold Oper.wp; generalize Act.eval _ = ev at *; go_simp)
        case r49x2 =>
         refine ((cm_rwi X X C9 _ fX.i fX.i (unhide hC))).mono ?_
         rintro e w2 ⟨rfl, hb⟩
         refine hK _ _ (hS.call hb) ?_ (fun j u _ h => Kd.ok_below hb h)
         rw [if_pos (by rfl)]
         show (_ : Value) = _
         first | rfl | (refine congrArg (Value.int .i64) ?_; first | rfl | exact int_in (by omega) | exact quo_in (by omega) (by omega) (by omega) | exact rem_in (by omega) (by omega) | omega | rfl) | (simp; done) | (simp [*]; done)
        case' r49x4 =>
         rw [eq3_res, Oper.upon_value]
        all_goals (refine hK _ _ hS ?_ (fun j u _ h => h); rw [if_pos (by rfl)]; show (_ : Value) = _; (first | rfl | (refine congrArg (Value.int .i64) ?_; first | rfl | exact int_in (by omega) | exact quo_in (by omega) (by omega) (by omega) | exact rem_in (by omega) (by omega) | omega | rfl) | (simp; done) | (simp [*]; done)))
       ·intro aq wx hd hw hf hS hg
        have G8 : tau aq 8 = .bool (eqT C9 Y) := hg 5 (by decide)
        have G9 : tau aq 9 = .bool true := hg 6 (by decide)
        have haq : aq = ⟨#[tau aq 0, tau aq 1, tau aq 2, tau aq 3, tau aq 4, tau aq 5, tau aq 6, tau aq 7, tau aq 8, tau aq 9, tau aq 10, tau aq 11, tau aq 12, tau aq 13, tau aq 14, tau aq 15, tau aq 16, tau aq 17, tau aq 18, tau aq 19, tau aq 20, tau aq 21, tau aq 22, tau aq 23, tau aq 24, tau aq 25, tau aq 26, tau aq 27, tau aq 28, tau aq 29, tau aq 30, tau aq 31, tau aq 32, tau aq 33, tau aq 34, tau aq 35, tau aq 36, tau aq 37, tau aq 38, tau aq 39, tau aq 40, tau aq 41, tau aq 42, tau aq 43, tau aq 44, tau aq 45, tau aq 46, tau aq 47, tau aq 48, tau aq 49, tau aq 50, tau aq 51, tau aq 52, tau aq 53, tau aq 54, tau aq 55, tau aq 56], []⟩ := by
         obtain ⟨tq, dq⟩ := aq
         have h5 := arr_eq (show tq.size = 57 from hw)
         have h6 : dq = [] := hd
         subst h6
         exact congrArg (fun z => Act.mk z []) h5
        show K2 aq wx
        rw [haq, hf 0, hf 1, hf 2, hf 3, hf 4, hf 5, hf 6, hf 7, hf 10, hf 11, hf 12, hf 13, hf 14, hf 15, hf 16, hf 17, hf 18, hf 19, hf 20, hf 21, hf 22, hf 23, hf 24, hf 25, hf 26, hf 27, hf 28, hf 29, hf 30, hf 31, hf 32, hf 33, hf 34, hf 35, hf 36, hf 37, hf 38, hf 39, hf 40, hf 41, hf 42, hf 43, hf 44, hf 45, hf 46, hf 47, hf 48, hf 49, hf 50, hf 51, G8, G9]
        clear haq hf hd hw
        try dsimp only
        refine h3 _ _ ?_
        go_meet
        refine ⟨rfl, rfl, Ri3.m ?_ ?_ ?_, Ri3.m ?_ ?_ ?_, hS.below⟩
        all_goals first | exact hS.cells (_, _) (by simp) | exact (hS.free _ (by simp)).2
      try clear c00
      try clear c01
      try clear c02
      try clear c10
      try clear c11
      try clear c12
      obtain ⟨rfl, rfl, ⟨c00, c01, c02, z0⟩, ⟨c10, c11, c12, z1⟩, hb0⟩ := hcut
      have hbf : Below w.heap.size w wc := hb.trans (hb0.mono hz)
      go_wp2
      go_ret2
      exact ⟨by rw [(unhide HE).1, (unhide HE).2]; rfl, hbf⟩
   ·have HV := hide (And.intro (vh_ne (F := F) (G := G) (P := P) k2) e0)
    have t2 : ((n : Int) != k) = true := by simpa using k2
    clear e0
    go_enter Tryz.func23, Tryz.ntmps23
    go_wp2_with (at_builtin; go_loud (refine app_rows _ rfl (.tmp 16) (.tmp 17) rfl F G P (w.heap.size + 1 + 1) B n c rfl rfl (unhide HO9) (by first | go_size | omega | (simp; omega) | (simp; done) | exact Nat.le_refl _) (by omega) (unhide HF9) ?_); intro g' cap w0 hfs hgr hg')
    have gr0 := hgr
    have hb0 : Below w.heap.size w w0 := by
     refine (((Below.refl w.heap.size w).alloc (Nat.le_refl _) _).alloc (by simp) _).alloc (by simp; omega) _ |>.grown hgr (by simp; omega) (fun k hk => by cases hk; omega)
    have c00 : w0.cell? ⟨w.heap.size, 0, none⟩ = some (.int .i64 F.1) := hgr.cell byCT (by first | (simp; done) | (simp; omega))
    have c01 : w0.cell? ⟨w.heap.size, 1, none⟩ = some (.int .i64 F.2.1) := hgr.cell byCT (by first | (simp; done) | (simp; omega))
    have c02 : w0.cell? ⟨w.heap.size, 2, none⟩ = some (.int .i64 F.2.2) := hgr.cell byCT (by first | (simp; done) | (simp; omega))
    have c10 : w0.cell? ⟨w.heap.size + 1, 0, none⟩ = some (.int .i64 G.1) := hgr.cell byCT (by first | (simp; done) | (simp; omega))
    have c11 : w0.cell? ⟨w.heap.size + 1, 1, none⟩ = some (.int .i64 G.2.1) := hgr.cell byCT (by first | (simp; done) | (simp; omega))
    have c12 : w0.cell? ⟨w.heap.size + 1, 2, none⟩ = some (.int .i64 G.2.2) := hgr.cell byCT (by first | (simp; done) | (simp; omega))
    have zz0 : w.heap.size < w0.heap.size := World.block_lt_of_cell? _ _ c00
    have zz1 : w.heap.size + 1 < w0.heap.size := World.block_lt_of_cell? _ _ c10
    have HFS := hide hfs
    clear hfs hgr gr0
    refine (areOne_l (vhP F G P) g' (n + 2) cap _ (by omega) (unhide HFS) (vh_i64 i0 i1 i2)).mono ?_
    rintro en w1 ⟨rfl, hb1⟩
    have tq0 := Ri3.c hb1 w.heap.size F.1 F.2.1 F.2.2
    have tq1 := Ri3.c hb1 (w.heap.size + 1) G.1 G.2.1 G.2.2
    try clear c00 c01 c02
    try clear c10 c11 c12
    obtain ⟨c00, c01, c02, z0⟩ := tq0
    obtain ⟨c10, c11, c12, z1⟩ := tq1
    have hs1 := hb1.size
    have hB1 : Below w.heap.size w w1 := hb0.trans (hb1.mono hb0.size)
    rw [k0]
    go_wp2_with (go_at_call 61; refine (isHalvings_b _ _).mono ?_; rintro e w' ⟨rfl, rfl⟩)
    go_ret2
    exact ⟨by rw [(unhide HV).1, (unhide HV).2]; rfl, byGG⟩

end Go.Proofs.YtihfacmlfelliaaGreat
