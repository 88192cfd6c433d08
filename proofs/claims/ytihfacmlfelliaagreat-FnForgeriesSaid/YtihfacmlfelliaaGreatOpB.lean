/- The law of forgeries. The last step of a law whose walk ends in a world in which nothing that was there has turned. An argument that is a slice of bytes, opened: its length, its bytes. -/
import Derived.Test.YtihfacmlfelliaaGreatLawFp
import Derived.Test.YtihfacmlfelliaaGreatBig
import Derived.Below
import Derived.ChangeSame
import Derived.ProofKit
import Derived.Deep.Slices
import Derived.Carry
namespace Go.Proofs.YtihfacmlfelliaaGreat
open Go.RowKit
set_option linter.unusedVariables false
set_option linter.unusedSimpArgs false
attribute [local go_sem] q2 q3 q4 q5 q6 q7 q8 q9 q10 q11 q12

set_option maxRecDepth 100000 in
set_option maxHeartbeats 16000000 in
theorem lawForgeries (v1 v2 : Value) (n1 n2 : Nat) (w : World) (h1 : ArgB w v1 n1) (h2 : ArgB w v2 n2) (m1 : n1 ≤ 9223372036854775807) (m2 : n2 ≤ 9223372036854775807) :
  Calls Tryz.prog 3 #[v1, v2] w fun e w' => e = .returned (.bool true) ∧ Below w.heap.size w w' := by
 have HA1 := hide h1
 go_enter Tryz.func3, Tryz.ntmps3
 go_wp2_with fail
 refine (big_a v1 v2 n1 n2 w h1 h2 m1 m2).mono ?_
 rintro e0 w0 ⟨tb, rfl, rfl⟩
 clear h1 h2
 cases tb
 rotate_left
 ·go_wp2
  go_ret
  exact ⟨rfl, Below.refl _ _⟩
 ·go_wp2_with fail
  refine (drawSO_a v1 n1 w (unhide HA1)).mono ?_
  rintro e1 w1 ⟨f0, f1, f2, t, g0, g1, g2, rfl, p1, p2, p3, gw1⟩
  have IF : Hid (I64T (f0, f1, f2)) := hide p1
  have IW : Hid (I64T (g0, g1, g2)) := hide p3
  clear p1 p2 p3
  obtain ⟨X, hX⟩ : ∃ X, soX (f0, f1, f2) t (g0, g1, g2) = X := ⟨_, rfl⟩
  obtain ⟨Y, hY⟩ : ∃ Y, soY (f0, f1, f2) t (g0, g1, g2) = Y := ⟨_, rfl⟩
  obtain ⟨b, hb⟩ : ∃ b, soB (f0, f1, f2) t (g0, g1, g2) = b := ⟨_, rfl⟩
  obtain ⟨x0, x1, x2⟩ := X
  obtain ⟨y0, y1, y2⟩ := Y
  have HX := hide hX
  have HY := hide hY
  have HB := hide hb
  cases b
  ·clear hX hY hb
   go_wp2_with fail
   refine (lsoI (f0, f1, f2) (g0, g1, g2) (x0, x1, x2) (y0, y1, y2) t false _ (unhide IF) (unhide IW) (unhide HX) (unhide HY) (unhide HB)).mono ?_
   rintro en w2 ⟨rfl, hb2⟩
   have tq0 := Ri3.c hb2 w1.heap.size f0 f1 f2
   have tq1 := Ri3.c hb2 (w1.heap.size + 1) g0 g1 g2
   try clear c00 c01 c02
   try clear c10 c11 c12
   obtain ⟨c00, c01, c02, z0⟩ := tq0
   obtain ⟨c10, c11, c12, z1⟩ := tq1
   have gw2 : Below w.heap.size w w2 := byGG
   clear hb2
   go_wp2_with fail
   refine (lsoS (f0, f1, f2) (g0, g1, g2) (x0, x1, x2) (y0, y1, y2) t false _ (unhide HX) (unhide HY) (unhide HB)).mono ?_
   rintro en w3 ⟨rfl, hb3⟩
   have tq0 := Ri3.c hb3 w1.heap.size f0 f1 f2
   have tq1 := Ri3.c hb3 (w1.heap.size + 1) g0 g1 g2
   have tq2 := Ri3.c hb3 w2.heap.size x0 x1 x2
   have tq3 := Ri3.c hb3 (w2.heap.size + 1) y0 y1 y2
   try clear c00 c01 c02
   try clear c10 c11 c12
   try clear c20 c21 c22
   try clear c30 c31 c32
   obtain ⟨c00, c01, c02, z0⟩ := tq0
   obtain ⟨c10, c11, c12, z1⟩ := tq1
   obtain ⟨c20, c21, c22, z2⟩ := tq2
   obtain ⟨c30, c31, c32, z3⟩ := tq3
   have gw3 : Below w.heap.size w w3 := byGG
   clear hb3
   clear HX HY HB
   go_wp2
   go_ret
   exact ⟨rfl, byGG⟩
  ·have HX2 := hide hX
   have HY2 := hide hY
   have HB2 := hide hb
   clear hX hY hb
   go_wp2_with fail
   refine (lsoI (f0, f1, f2) (g0, g1, g2) (x0, x1, x2) (y0, y1, y2) t true _ (unhide IF) (unhide IW) (unhide HX) (unhide HY) (unhide HB)).mono ?_
   rintro en w2 ⟨rfl, hb2⟩
   have tq0 := Ri3.c hb2 w1.heap.size f0 f1 f2
   have tq1 := Ri3.c hb2 (w1.heap.size + 1) g0 g1 g2
   try clear c00 c01 c02
   try clear c10 c11 c12
   obtain ⟨c00, c01, c02, z0⟩ := tq0
   obtain ⟨c10, c11, c12, z1⟩ := tq1
   have gw2 : Below w.heap.size w w2 := byGG
   clear hb2
   have hX := unhide HX2
   have hY := unhide HY2
   have hb := unhide HB2
   clear HX2 HY2 HB2
   obtain ⟨S, hS⟩ := forged_of hX hY hb
   obtain ⟨s0, s1, s2⟩ := S
   have hne : ¬ (s0, s1, s2) = (x0, x1, x2) := hS.ne
   obtain ⟨Q, hQ⟩ : ∃ Q, rdT (g0, g1, g2) = Q := ⟨_, rfl⟩
   have hQ2 : cmp (x0, x1, x2) (inT (s0, s1, s2)) = Q := by rw [← hQ]; exact hS.q
   have fQ : Frm (dT (f0, f1, f2)) Q := by rw [← hQ]; exact hS.w.rd
   have rQ : rdT Q = Q := by rw [← hQ]; exact rd_same (rd_rc hS.w.i.cl)
   obtain ⟨q0, q1, q2⟩ := Q
   have HS := hide hS
   have HQ := hide hQ
   have HQ2 := hide hQ2
   have FQ := hide fQ
   have RQ := hide rQ
   have i0 := i64_of_frm hS.f
   have i1 := i64_of_frm hS.x
   have i2 := i64_of_frm hS.y
   have I0 := hide i0
   have I1 := hide i1
   have I2 := hide i2
   clear hS hQ hQ2 fQ rQ hX hY hb i0 i1 i2
   go_wp2_with fail
   refine (lsoS (f0, f1, f2) (g0, g1, g2) (x0, x1, x2) (y0, y1, y2) t true _ (unhide HX) (unhide HY) (unhide HB)).mono ?_
   rintro en w3 ⟨rfl, hb3⟩
   have tq0 := Ri3.c hb3 w1.heap.size f0 f1 f2
   have tq1 := Ri3.c hb3 (w1.heap.size + 1) g0 g1 g2
   have tq2 := Ri3.c hb3 w2.heap.size x0 x1 x2
   have tq3 := Ri3.c hb3 (w2.heap.size + 1) y0 y1 y2
   try clear c00 c01 c02
   try clear c10 c11 c12
   try clear c20 c21 c22
   try clear c30 c31 c32
   obtain ⟨c00, c01, c02, z0⟩ := tq0
   obtain ⟨c10, c11, c12, z1⟩ := tq1
   obtain ⟨c20, c21, c22, z2⟩ := tq2
   obtain ⟨c30, c31, c32, z3⟩ := tq3
   have gw3 : Below w.heap.size w w3 := byGG
   clear hb3
   go_wp2_with fail
   refine (vd_y (f0, f1, f2) (x0, x1, x2) (y0, y1, y2) t _ (unhide I0) (unhide I1) (unhide I2) (unhide HS).vv (unhide HS).vb).mono ?_
   rintro en w4 ⟨rfl, hb4⟩
   have tq0 := Ri3.c hb4 w1.heap.size f0 f1 f2
   have tq1 := Ri3.c hb4 (w1.heap.size + 1) g0 g1 g2
   have tq2 := Ri3.c hb4 w2.heap.size x0 x1 x2
   have tq3 := Ri3.c hb4 (w2.heap.size + 1) y0 y1 y2
   have tq4 := Ri3.c hb4 w3.heap.size x0 x1 x2
   have tq5 := Ri3.c hb4 (w3.heap.size + 1) y0 y1 y2
   try clear c00 c01 c02
   try clear c10 c11 c12
   try clear c20 c21 c22
   try clear c30 c31 c32
   try clear c40 c41 c42
   try clear c50 c51 c52
   obtain ⟨c00, c01, c02, z0⟩ := tq0
   obtain ⟨c10, c11, c12, z1⟩ := tq1
   obtain ⟨c20, c21, c22, z2⟩ := tq2
   obtain ⟨c30, c31, c32, z3⟩ := tq3
   obtain ⟨c40, c41, c42, z4⟩ := tq4
   obtain ⟨c50, c51, c52, z5⟩ := tq5
   have gw4 : Below w.heap.size w w4 := byGG
   clear hb4
   go_wp2_with fail
   refine (sr_y (f0, f1, f2) (s0, s1, s2) t _ (unhide I0) (unhide HS).sv (unhide HS).sb).mono ?_
   rintro en w5 ⟨rfl, hb5⟩
   have tq0 := Ri3.c hb5 w1.heap.size f0 f1 f2
   have tq1 := Ri3.c hb5 (w1.heap.size + 1) g0 g1 g2
   have tq2 := Ri3.c hb5 w2.heap.size x0 x1 x2
   have tq3 := Ri3.c hb5 (w2.heap.size + 1) y0 y1 y2
   have tq4 := Ri3.c hb5 w3.heap.size x0 x1 x2
   have tq5 := Ri3.c hb5 (w3.heap.size + 1) y0 y1 y2
   try clear c00 c01 c02
   try clear c10 c11 c12
   try clear c20 c21 c22
   try clear c30 c31 c32
   try clear c40 c41 c42
   try clear c50 c51 c52
   obtain ⟨c00, c01, c02, z0⟩ := tq0
   obtain ⟨c10, c11, c12, z1⟩ := tq1
   obtain ⟨c20, c21, c22, z2⟩ := tq2
   obtain ⟨c30, c31, c32, z3⟩ := tq3
   obtain ⟨c40, c41, c42, z4⟩ := tq4
   obtain ⟨c50, c51, c52, z5⟩ := tq5
   have gw5 : Below w.heap.size w w5 := byGG
   clear hb5
   go_wp2_with fail
   refine (divide_y (x0, x1, x2) (s0, s1, s2) (q0, q1, q2) _ (unhide HS).x (unhide HS).s (unhide HQ2)).mono ?_
   rintro en w6 ⟨rfl, hb6⟩
   have tq0 := Ri3.c hb6 w1.heap.size f0 f1 f2
   have tq1 := Ri3.c hb6 (w1.heap.size + 1) g0 g1 g2
   have tq2 := Ri3.c hb6 w2.heap.size x0 x1 x2
   have tq3 := Ri3.c hb6 (w2.heap.size + 1) y0 y1 y2
   have tq4 := Ri3.c hb6 w3.heap.size x0 x1 x2
   have tq5 := Ri3.c hb6 (w3.heap.size + 1) y0 y1 y2
   have tq6 := Ri3.c hb6 w5.heap.size s0 s1 s2
   try clear c00 c01 c02
   try clear c10 c11 c12
   try clear c20 c21 c22
   try clear c30 c31 c32
   try clear c40 c41 c42
   try clear c50 c51 c52
   try clear c60 c61 c62
   obtain ⟨c00, c01, c02, z0⟩ := tq0
   obtain ⟨c10, c11, c12, z1⟩ := tq1
   obtain ⟨c20, c21, c22, z2⟩ := tq2
   obtain ⟨c30, c31, c32, z3⟩ := tq3
   obtain ⟨c40, c41, c42, z4⟩ := tq4
   obtain ⟨c50, c51, c52, z5⟩ := tq5
   obtain ⟨c60, c61, c62, z6⟩ := tq6
   have gw6 : Below w.heap.size w w6 := byGG
   clear hb6
   go_wp2_with fail
   refine (equiv_y (q0, q1, q2) (g0, g1, g2) (q0, q1, q2) _ (unhide FQ) (unhide HS).w (unhide RQ) (unhide HQ)).mono ?_
   rintro en w7 ⟨rfl, hb7⟩
   have tq0 := Ri3.c hb7 w1.heap.size f0 f1 f2
   have tq1 := Ri3.c hb7 (w1.heap.size + 1) g0 g1 g2
   have tq2 := Ri3.c hb7 w2.heap.size x0 x1 x2
   have tq3 := Ri3.c hb7 (w2.heap.size + 1) y0 y1 y2
   have tq4 := Ri3.c hb7 w3.heap.size x0 x1 x2
   have tq5 := Ri3.c hb7 (w3.heap.size + 1) y0 y1 y2
   have tq6 := Ri3.c hb7 w5.heap.size s0 s1 s2
   have tq7 := Ri3.c hb7 w6.heap.size q0 q1 q2
   try clear c00 c01 c02
   try clear c10 c11 c12
   try clear c20 c21 c22
   try clear c30 c31 c32
   try clear c40 c41 c42
   try clear c50 c51 c52
   try clear c60 c61 c62
   try clear c70 c71 c72
   obtain ⟨c00, c01, c02, z0⟩ := tq0
   obtain ⟨c10, c11, c12, z1⟩ := tq1
   obtain ⟨c20, c21, c22, z2⟩ := tq2
   obtain ⟨c30, c31, c32, z3⟩ := tq3
   obtain ⟨c40, c41, c42, z4⟩ := tq4
   obtain ⟨c50, c51, c52, z5⟩ := tq5
   obtain ⟨c60, c61, c62, z6⟩ := tq6
   obtain ⟨c70, c71, c72, z7⟩ := tq7
   have gw7 : Below w.heap.size w w7 := byGG
   clear hb7
   clear HS HQ HQ2 FQ RQ I0 I1 I2 HX HY HB
   by_cases e0 : s0 = x0
   ·subst e0
    by_cases e1 : s1 = x1
    ·subst e1
     have e2 : ¬ s2 = x2 := fun e => hne (by rw [e])
     clear hne
     go_wp2
     go_ret
     exact ⟨rfl, byGG⟩
    ·clear hne
     go_wp2
     go_ret
     exact ⟨rfl, byGG⟩
   ·clear hne
    go_wp2
    go_ret
    exact ⟨rfl, byGG⟩
end Go.Proofs.YtihfacmlfelliaaGreat
namespace Go.Proofs.YtihfacmlfelliaaGreat
open Go.RowKit Go.WideShapes Go.ChangeShapes
set_option linter.unusedVariables false

theorem post_of_below {H : Type} {enc : TypeId × Value → H} {P : Program} {f : Func} {s : ChangeSpec} {apart fresh handsOn again : Bool} {W W' : World} {args : Array Value} {v : Value} {ds gs : List (DataW H)} {before pa pv : List MemPlace}
  (hW : DataW.Whole enc P f.params.toList s.vars apart W args.toList ds gs before)
  (hres : ∀ (b : Nat) (sp : Nat → Bool) (hd : Bool), DataW.TrodAll enc P W' b sp hd f.resultTypes.toList (v.resultList f.resultTypes.size) (s.fn H (ds ++ gs)).results [])
  (hargs : ∀ sp : Nat → Bool, (∀ p ∈ before, sp p.block = true) → DataW.TrodAll enc P W' 0 sp true f.params.toList args.toList (s.fn H (ds ++ gs)).args pa)
  (hvars : ∀ sp : Nat → Bool, (∀ p ∈ before, sp p.block = true) → DataW.TrodVars enc P W' sp s.vars (s.fn H (ds ++ gs)).vars pv)
  (hps : before = pa ++ pv) (hb : Below W.heap.size W W')
  (hok : ∀ (j : Nat) (t : TypeId) (r : Value), f.resultTypes[j]? = some t → (v.resultList f.resultTypes.size)[j]? = some r → Value.okWide P W' .any 0 t r) :
  s.post enc P f apart fresh handsOn again W args v W' := by
 have hlt : ∀ p ∈ before, p.block < W.heap.size := fun p hp => hW.lt p hp
 have hold : ∀ p ∈ before, (fun b => decide (b < W.heap.size)) p.block = true := fun p hp => by simpa using hlt p hp
 refine ⟨ds, gs, before, [], pa, pv, hW, hres _ _ _, hargs _ hold, hvars _ hold, World.keptBut_mono (fun p hp => ⟨hp, ?_⟩) (hb.frame (· ∈ before)), fun _ => ?_⟩
 ·rw [hps, List.mem_append] at hp
  exact Or.inr hp
 ·obtain ⟨_, _, _, _, _, hz, hn⟩ := hW
  refine ⟨hok, _, _, ([] ++ pa) ++ pv, ⟨[] ++ pa, pv, trodAll_append (hargs _ (fun _ _ => rfl)) (hres _ _ _), hvars _ (fun _ _ => rfl), rfl, ?_, ?_⟩, ?_⟩
  ·intro b off hp
   have hin : MemPlace.cell b off ∈ before := by rw [hps]; simpa using hp
   rw [hb.frozen (hlt _ hin)]
   exact hz b off hin
  ·intro ha
   have := hn ha
   rw [hps] at this
   simpa using this
  ·intro p hp _
   rw [hps]
   simpa using hp
end Go.Proofs.YtihfacmlfelliaaGreat
namespace Go.Proofs.YtihfacmlfelliaaGreat
open Go.RowKit Go.WideShapes Go.ChangeShapes Go.Deep
set_option linter.unusedVariables false
set_option linter.unusedSimpArgs false

theorem Tryz.cellsU8 : Tryz.prog.cellsOf 5 = 1 := by kernel_rfl
theorem addr_addB {b off k : Nat} : (⟨b, off, none⟩ : Addr).add k = ⟨b, off + k, none⟩ := by unfold Addr.add; split <;> simp_all
theorem cell_spotB {w : World} {a : Addr} {v : Value} (h : w.cell? a = some v) : a.spot = none := by
 unfold World.cell? at h
 split at h
 ·split at h
  ·cases h
  ·rename_i hs; cases hx : a.spot with
   | none => rfl
   | some _ => rw [hx] at hs; simp at hs
 ·cases h
section
variable {H : Type} {enc : TypeId × Value → H} {w : World} {base : Nat} {spare : Nat → Bool} {held : Bool}
set_option maxRecDepth 100000 in
theorem open_bytes {fuel : Nat} {cs : List Value} {x : DataW H × List MemPlace} (h : DataW.trod enc Tryz.prog w base spare held fuel 22 cs = some x) :
  ∃ (v : Value) (n : Nat), cs = [v] ∧ ArgB w v n ∧ n ≤ maxLen := by
 rcases open_slice Tryz.underlying22 h with ⟨hcs, _⟩ | ⟨a, len, cap, m, n, D, Pl, hcs, hb, hl, hm, hmm, hx, hi⟩
 ·exact ⟨_, 0, hcs, .inl ⟨none, 0, rfl, rfl⟩, Nat.zero_le _⟩
 ·have hlm : len ≤ m := by rw [hmm]; split <;> omega
  have one : ∀ i, i < len → ∃ X : Int, w.cell? (a.add i) = some (.int .u8 X) ∧ 0 ≤ X ∧ X ≤ 255 := by
   intro i q
   obtain ⟨cs', hc, ht⟩ := hi i (by omega)
   rw [Tryz.cellsU8, Nat.mul_one] at hc
   obtain ⟨hl1, _, hat⟩ := World.cells?_some hc
   match cs', hl1 with
   | [c0], _ =>
    obtain ⟨n0, e0, _, w0⟩ := DataW.trod_int Tryz.underlying5 ht
    cases e0
    have a0 := hat 0 (by omega)
    rw [Go.Deep.add_add] at a0
    refine ⟨n0, a0, ?_⟩
    simp only [Lit.wf, Bool.and_eq_true, decide_eq_true_eq] at w0
    exact ⟨w0.1, w0.2⟩
  refine ⟨_, len, hcs, ?_, Nat.le_trans hl hm⟩
  by_cases q : len = 0
  ·exact .inl ⟨some a, cap, rfl, q⟩
  ·obtain ⟨X0, h0, _⟩ := one 0 (by omega)
   have hs : a.spot = none := cell_spotB (a := a) (by simpa [Addr.add] using h0)
   obtain ⟨b, off, sp⟩ := a
   have hs2 : sp = none := hs
   subst hs2
   refine .inr ⟨b, off, cap, rfl, World.block_lt_of_cell? _ _ h0, fun i hi => ?_⟩
   obtain ⟨X, h1, h2⟩ := one i hi
   rw [addr_addB] at h1
   exact ⟨X, h1, h2⟩
end
end Go.Proofs.YtihfacmlfelliaaGreat
