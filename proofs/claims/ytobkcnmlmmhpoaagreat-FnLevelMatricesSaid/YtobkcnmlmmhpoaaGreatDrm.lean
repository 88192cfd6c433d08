/- A form moved. -/
import Derived.Test.YtobkcnmlmmhpoaaGreatDrc
namespace Go.Proofs.YtobkcnmlmmhpoaaGreat
open Go.RowKit
set_option linter.unusedVariables false
set_option linter.unusedSimpArgs false
attribute [local go_sem] q2 q3 q4 q5 q6 q7 q8 q9 q10 q11 q12

variable {B:Nat}
theorem dcell {W w1:World} {b:Nat} (hg:W.grownBy w1 (some b)):(∀g o,g<W.heap.size→ ¬g=b→w1.cell? ⟨g,o,none⟩=W.cell? ⟨g,o,none⟩)∧(∀g o,g<W.heap.size→ ¬g=b→w1.frozen? ⟨g,o,none⟩=W.frozen? ⟨g,o,none⟩)∧ ∀k,k<W.heap.size→k<w1.heap.size:=
 ⟨fun g o h n=>hg.cell_far ⟨g,o,none⟩ h (fun e=>n (Option.some.inj e)),fun g o h n=>hg.frozen_far ⟨g,o,none⟩ h (fun e=>n (Option.some.inj e)),fun k h=>Nat.lt_of_lt_of_le h hg.size⟩
theorem at_ok {a b c x y:Int} (ha:In 10000 a) (hb:In 10000 b) (hc:In 10000 c) (hx:In 3125 x) (hy:In 3125 y):AtOk a b c x y:=by
 unfold In at*
 have a1:=mul_bd (A:=10000) (B:=3125) (by omega) ha hx
 have b1:=mul_bd (A:=10000) (B:=3125) (by omega) hb hx
 have c1:=mul_bd (A:=10000) (B:=3125) (by omega) hc hy
 have a2:=mul_bd (A:=10000*3125) (B:=3125) (by omega) a1 hx
 have b2:=mul_bd (A:=10000*3125) (B:=3125) (by omega) b1 hy
 have c2:=mul_bd (A:=10000*3125) (B:=3125) (by omega) c1 hy
 constructor<;>omega
theorem po_ok {a b c x y u v:Int} (ha:In 10000 a) (hb:In 10000 b) (hc:In 10000 c) (hx:In 3125 x) (hy:In 3125 y) (hu:In 3125 u) (hv:In 3125 v):PoOk a b c x y u v:=by
 unfold In at*
 have a1:=mul_bd (A:=20000) (B:=3125) (by omega) (show -20000≤2*a∧2*a≤20000 by omega) hx
 have a2:=mul_bd (A:=20000*3125) (B:=3125) (by omega) a1 hu
 have x1:=mul_bd (A:=3125) (B:=3125) (by omega) hx hv
 have y1:=mul_bd (A:=3125) (B:=3125) (by omega) hy hu
 have b1:=mul_bd (A:=10000) (B:=20000000) (by omega) hb (show -20000000≤x*v+y*u∧x*v+y*u≤20000000 by omega)
 have c1:=mul_bd (A:=20000) (B:=3125) (by omega) (show -20000≤2*c∧2*c≤20000 by omega) hy
 have c2:=mul_bd (A:=20000*3125) (B:=3125) (by omega) c1 hv
 constructor<;>omega
theorem fin_set {w:World} {g k j:Nat} {u0 u1 u2 v:Value} (n: ¬g=k) (m:w.cell? ⟨k,j,none⟩=some v):(((w.setCell ⟨g,0,none⟩ u0).setCell ⟨g,1,none⟩ u1).setCell ⟨g,2,none⟩ u2).cell? ⟨k,j,none⟩=some v:=
 cell_ne _ (fun e=>n (by injection e)) (cell_ne _ (fun e=>n (by injection e)) (cell_ne _ (fun e=>n (by injection e)) m))
theorem set3_new {w:World} {g:Nat} {u0 u1 u2:Value} (e0: ∃v,w.cell? ⟨g,0,none⟩=some v) (e1: ∃v,w.cell? ⟨g,1,none⟩=some v) (e2: ∃v,w.cell? ⟨g,2,none⟩=some v):
  (((w.setCell ⟨g,0,none⟩ u0).setCell ⟨g,1,none⟩ u1).setCell ⟨g,2,none⟩ u2).cell? ⟨g,0,none⟩=some u0∧(((w.setCell ⟨g,0,none⟩ u0).setCell ⟨g,1,none⟩ u1).setCell ⟨g,2,none⟩ u2).cell? ⟨g,1,none⟩=some u1∧(((w.setCell ⟨g,0,none⟩ u0).setCell ⟨g,1,none⟩ u1).setCell ⟨g,2,none⟩ u2).cell? ⟨g,2,none⟩=some u2:=
 ⟨cell_ne _ (ne_off (by decide)) (cell_ne _ (ne_off (by decide)) (cell_eq _ e0)),cell_ne _ (ne_off (by decide)) (cell_eq _ (ex_set _ e1)),cell_eq _ (ex_set _ (ex_set _ e2))⟩
theorem foAct_m (a b c p q r s:Int) (w:World) (ha:In 10000 a) (hb:In 10000 b) (hc:In 10000 c) (h:InM 3125 p q r s):
  Calls Tryz.prog 50 #[.agg #[.int .i64 a,.int .i64 b,.int .i64 c],.agg #[.int .i64 p,.int .i64 q,.int .i64 r,.int .i64 s]] w fun e w'=>e= .returned (.agg #[.int .i64 (valI a b c p r),.int .i64 (polI a b c p r q s),.int .i64 (valI a b c q s)])∧Below w.heap.size w w':=
 foAct_a a b c p q r s w (at_ok ha hb hc h.1 h.2.2.1) (po_ok ha hb hc h.1 h.2.2.1 h.2.1 h.2.2.2) (at_ok ha hb hc h.2.1 h.2.2.2)

set_option maxRecDepth 100000 in
set_option maxHeartbeats 8000000 in
theorem moved_d (b:Nat) (K:Int) (x y z:Int) (w:World) (h0:Cur B w b K) (hK:K≤8000000000) (hx:In 10000 x) (hy:In 10000 y) (hz:In 10000 z):Calls Tryz.prog 102 #[.pointer (some ⟨b,0,none⟩),.agg #[.int .i64 x,.int .i64 y,.int .i64 z]] w (DrewF B w b (K+22) (fun x y z=>R64 x∧R64 y∧R64 z)):=by
 have hs0:=h0.lt
 have nb0:w.heap.size≠b:=by omega
 have nb1:w.heap.size+1≠b:=by omega
 go_enter Tryz.func102,Tryz.ntmps102
 have nb3: ¬w.heap.size+1+1=b:=by omega
 have nb4: ¬w.heap.size+1=b:=by omega
 have nb5: ¬w.heap.size=b:=by omega
 go_upto_region 1 with fail
 go_cut [5] (fun s5 wx=> ∃(g:Nat) (X Y Z:Int),s5= .pointer (some ⟨g,0,none⟩)∧wx.cell? ⟨g,0,none⟩=some (.int .i64 X)∧wx.cell? ⟨g,1,none⟩=some (.int .i64 Y)∧wx.cell? ⟨g,2,none⟩=some (.int .i64 Z)∧Cur B wx b (K+22)∧w.grownBy wx (some b)∧w.heap.size+1<g∧wx.cell? ⟨w.heap.size,0,none⟩=some (.int .i64 x)∧wx.cell? ⟨w.heap.size,1,none⟩=some (.int .i64 y)∧wx.cell? ⟨w.heap.size,2,none⟩=some (.int .i64 z)∧wx.cell? ⟨w.heap.size+1,0,none⟩=some (.int .i64 0)∧wx.frozen? ⟨w.heap.size+1,0,none⟩=false∧wx.cell? ⟨w.heap.size+1,1,none⟩=some (.int .i64 0)∧wx.frozen? ⟨w.heap.size+1,1,none⟩=false∧wx.cell? ⟨w.heap.size+1,2,none⟩=some (.int .i64 0)∧wx.frozen? ⟨w.heap.size+1,2,none⟩=false)
 case first=>
  go_region_with (first|(go_at_call 97;refine (proper_d (B:=B) b K _ (by repeat' with_reducible first|assumption|refine Cur.alc ?_ _|refine Cur.drw ?_|refine Cur.setN ?_ (by first|with_reducible assumption|omega)) (by omega)).mono ?_;rintro e1 w1 ⟨p,q,r,s,rfl,p1,h1,g1⟩;obtain ⟨dc,df,dl⟩:=dcell g1;have hs1:=h1.lt;have hz1:=g1.size)|(go_loud (go_at_call 50;refine (foAct_m x y z p q r s _ hx hy hz p1).mono ?_;rintro e2 w2 ⟨rfl,b2⟩;obtain ⟨hc2,hf2⟩:=bcell b2;have hl2:=lt_keep b2;have hz2:=b2.size)))
  all_goals (go_wp2_with fail;go_meet;have hq1:w.heap.size+1<w1.heap.size:=(by have q9:=g1.size;simp at q9;omega);have hq2:w1.heap.size≤w2.heap.size:=(by have q9:=b2.size;first|omega|(simp at q9;omega));have nA0: ¬w1.heap.size=w.heap.size:=(by omega);have nA1: ¬w1.heap.size=w.heap.size+1:=(by omega);have nB0: ¬w.heap.size+1+1=w.heap.size:=(by omega);have nB1: ¬w.heap.size+1+1=w.heap.size+1:=(by omega);have zA0:w.heap.size<w1.heap.size:=(by omega);have zB0:w.heap.size<w2.heap.size:=(by omega);have zB1:w.heap.size+1<w2.heap.size:=(by omega);have k00:=far_cell g1 (g:=w.heap.size) (i:=0) (v:= .int .i64 x) byCT nb0;have m00:w2.cell? ⟨w.heap.size,0,none⟩=some (.int .i64 x):=(by first|with_reducible exact cell_call b2 k00|with_reducible exact cell_call b2 (cell_al _ k00));have k01:=far_cell g1 (g:=w.heap.size) (i:=1) (v:= .int .i64 y) byCT nb0;have m01:w2.cell? ⟨w.heap.size,1,none⟩=some (.int .i64 y):=(by first|with_reducible exact cell_call b2 k01|with_reducible exact cell_call b2 (cell_al _ k01));have k02:=far_cell g1 (g:=w.heap.size) (i:=2) (v:= .int .i64 z) byCT nb0;have m02:w2.cell? ⟨w.heap.size,2,none⟩=some (.int .i64 z):=(by first|with_reducible exact cell_call b2 k02|with_reducible exact cell_call b2 (cell_al _ k02));have k10:=far_cell g1 (g:=w.heap.size+1) (i:=0) (v:= .int .i64 0) byCT nb1;have m10:w2.cell? ⟨w.heap.size+1,0,none⟩=some (.int .i64 0):=(by first|with_reducible exact cell_call b2 k10|with_reducible exact cell_call b2 (cell_al _ k10));have l10:=far_frz g1 (g:=w.heap.size+1) (i:=0) (by first|(simp;done)|(simp;omega)) byFT nb1;have o10:w2.frozen? ⟨w.heap.size+1,0,none⟩=false:=(by first|with_reducible exact frz_call b2 hq1 l10|exact frz_call b2 (show w.heap.size+1<(w1.alloc _).heap.size by simp;omega) (frz_al _ hq1 l10));have k11:=far_cell g1 (g:=w.heap.size+1) (i:=1) (v:= .int .i64 0) byCT nb1;have m11:w2.cell? ⟨w.heap.size+1,1,none⟩=some (.int .i64 0):=(by first|with_reducible exact cell_call b2 k11|with_reducible exact cell_call b2 (cell_al _ k11));have l11:=far_frz g1 (g:=w.heap.size+1) (i:=1) (by first|(simp;done)|(simp;omega)) byFT nb1;have o11:w2.frozen? ⟨w.heap.size+1,1,none⟩=false:=(by first|with_reducible exact frz_call b2 hq1 l11|exact frz_call b2 (show w.heap.size+1<(w1.alloc _).heap.size by simp;omega) (frz_al _ hq1 l11));have k12:=far_cell g1 (g:=w.heap.size+1) (i:=2) (v:= .int .i64 0) byCT nb1;have m12:w2.cell? ⟨w.heap.size+1,2,none⟩=some (.int .i64 0):=(by first|with_reducible exact cell_call b2 k12|with_reducible exact cell_call b2 (cell_al _ k12));have l12:=far_frz g1 (g:=w.heap.size+1) (i:=2) (by first|(simp;done)|(simp;omega)) byFT nb1;have o12:w2.frozen? ⟨w.heap.size+1,2,none⟩=false:=(by first|with_reducible exact frz_call b2 hq1 l12|exact frz_call b2 (show w.heap.size+1<(w1.alloc _).heap.size by simp;omega) (frz_al _ hq1 l12));exact ⟨_,valI x y z p r,polI x y z p r q s,valI x y z q s,rfl,(by first|((first|with_reducible assumption|((repeat' first|with_reducible (first|assumption|refine cell_al _ ?_|refine cell_eq _ ?_|refine cell_ne _ ?_ ?_|refine ex_set _ ?_|refine ex_al _ ?_|exact ⟨_,by assumption⟩)|(intro hh;injection hh with hh1 hh2;omega));done)|go_simp);done)|exact (set3_new ⟨_,cell_call b2 (far_cell g1 (g:=w.heap.size+1+1) (i:=0) (v:= .int .i64 0) (by go_simp) (by omega))⟩ ⟨_,cell_call b2 (far_cell g1 (g:=w.heap.size+1+1) (i:=1) (v:= .int .i64 0) (by go_simp) (by omega))⟩ ⟨_,cell_call b2 (far_cell g1 (g:=w.heap.size+1+1) (i:=2) (v:= .int .i64 0) (by go_simp) (by omega))⟩).1),(by first|((first|with_reducible assumption|((repeat' first|with_reducible (first|assumption|refine cell_al _ ?_|refine cell_eq _ ?_|refine cell_ne _ ?_ ?_|refine ex_set _ ?_|refine ex_al _ ?_|exact ⟨_,by assumption⟩)|(intro hh;injection hh with hh1 hh2;omega));done)|go_simp);done)|exact (set3_new ⟨_,cell_call b2 (far_cell g1 (g:=w.heap.size+1+1) (i:=0) (v:= .int .i64 0) (by go_simp) (by omega))⟩ ⟨_,cell_call b2 (far_cell g1 (g:=w.heap.size+1+1) (i:=1) (v:= .int .i64 0) (by go_simp) (by omega))⟩ ⟨_,cell_call b2 (far_cell g1 (g:=w.heap.size+1+1) (i:=2) (v:= .int .i64 0) (by go_simp) (by omega))⟩).2.1),(by first|((first|with_reducible assumption|((repeat' first|with_reducible (first|assumption|refine cell_al _ ?_|refine cell_eq _ ?_|refine cell_ne _ ?_ ?_|refine ex_set _ ?_|refine ex_al _ ?_|exact ⟨_,by assumption⟩)|(intro hh;injection hh with hh1 hh2;omega));done)|go_simp);done)|exact (set3_new ⟨_,cell_call b2 (far_cell g1 (g:=w.heap.size+1+1) (i:=0) (v:= .int .i64 0) (by go_simp) (by omega))⟩ ⟨_,cell_call b2 (far_cell g1 (g:=w.heap.size+1+1) (i:=1) (v:= .int .i64 0) (by go_simp) (by omega))⟩ ⟨_,cell_call b2 (far_cell g1 (g:=w.heap.size+1+1) (i:=2) (v:= .int .i64 0) (by go_simp) (by omega))⟩).2.2),(by repeat' with_reducible first|assumption|refine Cur.alc ?_ _|refine Cur.drw ?_|refine Cur.setN ?_ (by first|with_reducible assumption|omega)|refine Cur.below ?_ (by assumption)),(by repeat' first|exact World.grownBy.refl' _ _|refine World.grownBy.setNew ?_ (by first|omega|(simp;omega)) _ _|refine World.grownBy.alloc' ?_ _|refine World.grownBy.drewN' ?_ _|refine World.grownBy.drew' ?_|refine World.grownBy.trans' ?_ (by assumption)|refine World.grownBy.below' ?_ (by assumption)),by first|omega|(simp;omega),(by first|with_reducible exact cell_al _ m00|with_reducible exact fin_set nA0 m00|exact fin_set nB0 m00),(by first|with_reducible exact cell_al _ m01|with_reducible exact fin_set nA0 m01|exact fin_set nB0 m01),(by first|with_reducible exact cell_al _ m02|with_reducible exact fin_set nA0 m02|exact fin_set nB0 m02),(by first|with_reducible exact cell_al _ m10|with_reducible exact fin_set nA1 m10|exact fin_set nB1 m10),(by first|with_reducible exact frz_al _ zB1 o10|with_reducible exact frz_set _ (frz_set _ (frz_set _ o10))),(by first|with_reducible exact cell_al _ m11|with_reducible exact fin_set nA1 m11|exact fin_set nB1 m11),(by first|with_reducible exact frz_al _ zB1 o11|with_reducible exact frz_set _ (frz_set _ (frz_set _ o11))),(by first|with_reducible exact cell_al _ m12|with_reducible exact fin_set nA1 m12|exact fin_set nB1 m12),(by first|with_reducible exact frz_al _ zB1 o12|with_reducible exact frz_set _ (frz_set _ (frz_set _ o12)))⟩)
 obtain ⟨g,X,Y,Z,rfl,x0,x1,x2,h3,g3,hg,c00,c01,c02,c10,f10,c11,f11,c12,f12⟩:=hcut
 obtain ⟨w3,rfl⟩: ∃w3:World,w3=wc:=⟨_,rfl⟩
 have hs3:=h3.lt
 have zg:=World.block_lt_of_cell? _ _ x0
 change g<w3.heap.size at zg
 have z0:w.heap.size<w3.heap.size:=by omega
 have z1:w.heap.size+1<w3.heap.size:=by omega
 clear h0
 cases k1:formB X Y Z
 ·go_wp2_with fail
  refine (foGood_a X Y Z _).mono ?_
  rintro e4 w4 ⟨rfl,b4⟩
  have tq0:=Ri3.c b4 w.heap.size x y z
  have tq1:=Wi3.c b4 (w.heap.size+1) 0 0 0
  have tq2:=Ri3.c b4 g X Y Z
  try clear c00 c01 c02
  try clear c10 c11 c12 f10 f11 f12
  try clear c20 c21 c22
  obtain ⟨c00,c01,c02,z0⟩:=tq0
  obtain ⟨c10,c11,c12,f10,f11,f12,z1⟩:=tq1
  obtain ⟨c20,c21,c22,z2⟩:=tq2
  have h4:=Cur.below (B:=B) (b:=b) (K:=(K+22)) (by repeat' with_reducible first|assumption|refine Cur.alc ?_ _|refine Cur.drw ?_|refine Cur.setN ?_ (by first|with_reducible assumption|omega)) b4
  have hs4:=h4.lt
  have hz4:w.heap.size≤w4.heap.size:=Nat.le_trans (by first|exact Nat.le_refl _|omega|(simp;done)|(simp;omega)) b4.size
  rw[k1]
  go_wp2
  refine bodyPost_ret (v:= .agg #[.int .i64 x,.int .i64 y,.int .i64 z]) (by simp [results,Tryz.results102,go_sem, *]) rfl ?_
  exact ⟨_,_,_,rfl,⟨by unfold R64;unfold In at hx;omega,by unfold R64;unfold In at hy;omega,by unfold R64;unfold In at hz;omega⟩,Cur.le (K:=(K+22)) (by repeat' with_reducible first|assumption|refine Cur.alc ?_ _|refine Cur.drw ?_|refine Cur.setN ?_ (by first|with_reducible assumption|omega)) (by omega),(by repeat' first|exact World.grownBy.refl' _ _|refine World.grownBy.setNew ?_ (by first|omega|(simp;omega)) _ _|refine World.grownBy.alloc' ?_ _|refine World.grownBy.drewN' ?_ _|refine World.grownBy.drew' ?_|refine World.grownBy.trans' ?_ (by assumption)|refine World.grownBy.below' ?_ (by assumption))⟩
 ·have HFT:=hide (form_true k1)
  go_wp2_with fail
  refine (foGood_a X Y Z _).mono ?_
  rintro e4 w4 ⟨rfl,b4⟩
  have tq0:=Ri3.c b4 w.heap.size x y z
  have tq1:=Wi3.c b4 (w.heap.size+1) 0 0 0
  have tq2:=Ri3.c b4 g X Y Z
  try clear c00 c01 c02
  try clear c10 c11 c12 f10 f11 f12
  try clear c20 c21 c22
  obtain ⟨c00,c01,c02,z0⟩:=tq0
  obtain ⟨c10,c11,c12,f10,f11,f12,z1⟩:=tq1
  obtain ⟨c20,c21,c22,z2⟩:=tq2
  have h4:=Cur.below (B:=B) (b:=b) (K:=(K+22)) (by repeat' with_reducible first|assumption|refine Cur.alc ?_ _|refine Cur.drw ?_|refine Cur.setN ?_ (by first|with_reducible assumption|omega)) b4
  have hs4:=h4.lt
  have hz4:w.heap.size≤w4.heap.size:=Nat.le_trans (by first|exact Nat.le_refl _|omega|(simp;done)|(simp;omega)) b4.size
  rw[k1]
  go_wp2
  refine bodyPost_ret (v:= .agg #[.int .i64 X,.int .i64 Y,.int .i64 Z]) (by simp [results,Tryz.results102,go_sem, *]) rfl ?_
  exact ⟨_,_,_,rfl,⟨by have:=unhide HFT;unfold R64;omega,by have:=unhide HFT;unfold R64;omega,by have:=unhide HFT;unfold R64;omega⟩,Cur.le (K:=(K+22)) (by repeat' with_reducible first|assumption|refine Cur.alc ?_ _|refine Cur.drw ?_|refine Cur.setN ?_ (by first|with_reducible assumption|omega)) (by omega),(by repeat' first|exact World.grownBy.refl' _ _|refine World.grownBy.setNew ?_ (by first|omega|(simp;omega)) _ _|refine World.grownBy.alloc' ?_ _|refine World.grownBy.drewN' ?_ _|refine World.grownBy.drew' ?_|refine World.grownBy.trans' ?_ (by assumption)|refine World.grownBy.below' ?_ (by assumption))⟩
end Go.Proofs.YtobkcnmlmmhpoaaGreat
