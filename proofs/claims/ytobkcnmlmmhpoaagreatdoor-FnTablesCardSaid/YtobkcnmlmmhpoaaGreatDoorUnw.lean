/- United forms (impl). -/
import Derived.Test.YtobkcnmlmmhpoaaGreatDoorGp
namespace Go.Proofs.YtobkcnmlmmhpoaaGreatDoor
set_option maxRecDepth 100000
set_option maxHeartbeats 80000000
open Go.RowKit
set_option linter.unusedVariables false
set_option linter.unusedSimpArgs false
attribute [local go_sem] q2 q3 q4 q5 q6 q7 q8 q9 q10 q11 q12

theorem quot_bd {a t m:Int} (ha:0<a) (h:t=a*m) (ht: -1100000≤t∧t≤1100000): -1100000≤m∧m≤1100000:=by
 refine ⟨?_,?_⟩
 ·by_cases q: -1100000≤m
  ·exact q
  ·have:=Int.mul_le_mul_of_nonneg_left (show m≤ -1100001 by omega) (show 0≤a by omega);omega
 ·by_cases q:m≤1100000
  ·exact q
  ·have:=Int.mul_le_mul_of_nonneg_left (show 1100001≤m by omega) (show 0≤a by omega);omega

theorem unite_u (a b c p q r:Int) (w:World) (h0:RedC a b c) (h1:RedC p q r) (hD:discI p q r=discI a b c):
  Calls Tryz.prog 140 #[.agg #[.int .i64 a,.int .i64 b,.int .i64 c],.agg #[.int .i64 p,.int .i64 q,.int .i64 r]] w fun e w'=>e= .returned (uV a b c p q r (fpP p q r a).1 (fpP p q r a).2)∧Below w.heap.size w w':=by
 obtain ⟨s1,s2,s3,s4⟩:=red_small h0.cls.ok h0.red
 have a0:=h0.cls.ok.a0
 have d0:=h0.cls.ok.d0
 have d1:=h0.cls.ok.d1
 have hform:=red_form h0
 go_enter Tryz.func140,Tryz.ntmps140
 go_wp2_with fail
 refine (firstPoint_r p q r a _ h1 Vn Vn).mono ?_
 rintro en w1 ⟨k,x,y,rfl,hfp,hb1⟩
 have hcs9:=cells_calls hb1 [⟨w.heap.size,0,none⟩,⟨w.heap.size,1,none⟩,⟨w.heap.size,2,none⟩,⟨w.heap.size+1,0,none⟩,⟨w.heap.size+1,1,none⟩,⟨w.heap.size+1,2,none⟩,⟨w.heap.size+1+1,0,none⟩,⟨w.heap.size+1+1,1,none⟩,⟨w.heap.size+1+1,2,none⟩,⟨w.heap.size+1+1,3,none⟩,⟨w.heap.size+1+1,4,none⟩,⟨w.heap.size+1+1,5,none⟩,⟨w.heap.size+1+1,6,none⟩,⟨w.heap.size+1+1,7,none⟩,⟨w.heap.size+1+1,8,none⟩,⟨w.heap.size+1+1,9,none⟩,⟨w.heap.size+1+1,10,none⟩,⟨w.heap.size+1+1,11,none⟩] [.int .i64 a,.int .i64 b,.int .i64 c,.int .i64 p,.int .i64 q,.int .i64 r,.int .i64 0,.int .i64 0,.int .i64 0,.int .i64 0,.int .i64 0,.int .i64 0,.int .i64 0,.int .i64 0,.int .i64 0,.int .i64 0,.int .i64 0,.int .i64 0] (by refine ⟨?_,?_,?_,?_,?_,?_,?_,?_,?_,?_,?_,?_,?_,?_,?_,?_,?_,?_,trivial⟩<;>exact byCT)
 have hfs9:=frees_calls hb1 [⟨w.heap.size+1+1,0,none⟩,⟨w.heap.size+1+1,1,none⟩,⟨w.heap.size+1+1,2,none⟩,⟨w.heap.size+1+1,3,none⟩,⟨w.heap.size+1+1,4,none⟩,⟨w.heap.size+1+1,5,none⟩,⟨w.heap.size+1+1,6,none⟩,⟨w.heap.size+1+1,7,none⟩,⟨w.heap.size+1+1,8,none⟩,⟨w.heap.size+1+1,9,none⟩,⟨w.heap.size+1+1,10,none⟩,⟨w.heap.size+1+1,11,none⟩] (by refine ⟨?_,?_,?_,?_,?_,?_,?_,?_,?_,?_,?_,?_,trivial⟩<;>first|with_reducible assumption|omega|(simp;omega)|(simp;done)) (by refine ⟨?_,?_,?_,?_,?_,?_,?_,?_,?_,?_,?_,?_,trivial⟩<;>exact byFT)
 have hzs9:=blocks_calls hb1 [w.heap.size,w.heap.size+1,w.heap.size+1+1] (by refine ⟨?_,?_,?_,trivial⟩<;>first|with_reducible assumption|omega|(simp;omega)|(simp;done))
 try clear c00 c01 c02
 try clear c10 c11 c12
 try clear c20 c21 c22 c23 c24 c25 c26 c27 c28 c29 c210 c211 f20 f21 f22 f23 f24 f25 f26 f27 f28 f29 f210 f211
 obtain ⟨c00,c01,c02,c10,c11,c12,c20,c21,c22,c23,c24,c25,c26,c27,c28,c29,c210,c211,-⟩:=hcs9
 obtain ⟨f20,f21,f22,f23,f24,f25,f26,f27,f28,f29,f210,f211,-⟩:=hfs9
 obtain ⟨z0,z1,z2,-⟩:=hzs9
 have hs1:=hb1.size
 obtain ⟨⟨hx,hy,hg⟩,hU⟩:=uni_facts h0 h1 hD hfp
 obtain ⟨q1,q2⟩:=fp_eq hfp
 have HV:Hid (uV a b c p q r (fpP p q r a).1 (fpP p q r a).2=uV a b c p q r x y):=hide (by rw[q1,q2])
 clear q1 q2 hfp
 go_wp2_with fail
 refine (complete_c p q r x y _ h1 hx hy hg).mono ?_
 rintro en w2 ⟨P,Q,R,S,rfl,hpm,hb2⟩
 have hcs9:=cells_calls hb2 [⟨w.heap.size,0,none⟩,⟨w.heap.size,1,none⟩,⟨w.heap.size,2,none⟩,⟨w.heap.size+1,0,none⟩,⟨w.heap.size+1,1,none⟩,⟨w.heap.size+1,2,none⟩,⟨w.heap.size+1+1,0,none⟩,⟨w.heap.size+1+1,1,none⟩,⟨w.heap.size+1+1,2,none⟩,⟨w.heap.size+1+1,3,none⟩,⟨w.heap.size+1+1,4,none⟩,⟨w.heap.size+1+1,5,none⟩,⟨w.heap.size+1+1,6,none⟩,⟨w.heap.size+1+1,7,none⟩,⟨w.heap.size+1+1,8,none⟩,⟨w.heap.size+1+1,9,none⟩,⟨w.heap.size+1+1,10,none⟩,⟨w.heap.size+1+1,11,none⟩] [.int .i64 a,.int .i64 b,.int .i64 c,.int .i64 p,.int .i64 q,.int .i64 r,.int .i64 0,.int .i64 0,.int .i64 0,.int .i64 0,.int .i64 0,.int .i64 0,.int .i64 0,.int .i64 0,.int .i64 0,.int .i64 0,.int .i64 0,.int .i64 0] (by refine ⟨?_,?_,?_,?_,?_,?_,?_,?_,?_,?_,?_,?_,?_,?_,?_,?_,?_,?_,trivial⟩<;>exact byCT)
 have hfs9:=frees_calls hb2 [⟨w.heap.size+1+1,0,none⟩,⟨w.heap.size+1+1,1,none⟩,⟨w.heap.size+1+1,2,none⟩,⟨w.heap.size+1+1,3,none⟩,⟨w.heap.size+1+1,4,none⟩,⟨w.heap.size+1+1,5,none⟩,⟨w.heap.size+1+1,6,none⟩,⟨w.heap.size+1+1,7,none⟩,⟨w.heap.size+1+1,8,none⟩,⟨w.heap.size+1+1,9,none⟩,⟨w.heap.size+1+1,10,none⟩,⟨w.heap.size+1+1,11,none⟩] (by refine ⟨?_,?_,?_,?_,?_,?_,?_,?_,?_,?_,?_,?_,trivial⟩<;>first|with_reducible assumption|omega|(simp;omega)|(simp;done)) (by refine ⟨?_,?_,?_,?_,?_,?_,?_,?_,?_,?_,?_,?_,trivial⟩<;>exact byFT)
 have hzs9:=blocks_calls hb2 [w.heap.size,w.heap.size+1,w.heap.size+1+1] (by refine ⟨?_,?_,?_,trivial⟩<;>first|with_reducible assumption|omega|(simp;omega)|(simp;done))
 try clear c00 c01 c02
 try clear c10 c11 c12
 try clear c20 c21 c22 c23 c24 c25 c26 c27 c28 c29 c210 c211 f20 f21 f22 f23 f24 f25 f26 f27 f28 f29 f210 f211
 obtain ⟨c00,c01,c02,c10,c11,c12,c20,c21,c22,c23,c24,c25,c26,c27,c28,c29,c210,c211,-⟩:=hcs9
 obtain ⟨f20,f21,f22,f23,f24,f25,f26,f27,f28,f29,f210,f211,-⟩:=hfs9
 obtain ⟨z0,z1,z2,-⟩:=hzs9
 have hs2:=hb2.size
 obtain ⟨rfl,eQ,rfl,eS⟩:=hpm
 have HV:Hid (uV a b c p q r (fpP p q r a).1 (fpP p q r a).2=uV1 a b c p q r x y (cpE p q r x y) (cpB p q r x y) (uT a b (cpE p q r x y) (cpB p q r x y)) (uS a b c (cpE p q r x y) (cpB p q r x y))):=HV
 unfold uV1 at HV
 rw[←eQ,←eS] at HV
 clear eQ eS
 generalize uS a b c (cpE p q r x y) (cpB p q r x y)=s at*
 generalize uT a b (cpE p q r x y) (cpB p q r x y)=t at*
 generalize cpE p q r x y=e at*
 generalize cpB p q r x y=B at*
 generalize cpC p q r x y=C at*
 obtain ⟨u0,u1,⟨u2,u3⟩,e0,e1,v0,v1,g1,par,t0,t1,⟨ae0,ae1⟩,ta,te,uni,⟨tt0,tt1⟩,ss,ss0,ss1,isu⟩:=hU
 have E2:2*a*e=2*(a*e):=Int.mul_assoc _ _ _
 have E4:4*a*e=4*(a*e):=Int.mul_assoc _ _ _
 obtain ⟨m1,hm1⟩:=ta
 obtain ⟨m2,hm2⟩:=te
 have mb1: -1100000≤m1∧m1≤1100000:=quot_bd (a:=2*a) (t:=t-b) Vn hm1 Vn
 have mb2: -1100000≤m2∧m2≤1100000:=quot_bd (a:=2*e) (t:=t-B) Vn hm2 Vn
 have Q1:(t-b).tdiv (2*a)=m1:=by rw[hm1,Int.mul_tdiv_cancel_left _ Vn]
 have Q2:(t-B).tdiv (2*e)=m2:=by rw[hm2,Int.mul_tdiv_cancel_left _ Vn]
 rw[Q1,Q2] at HV
 unfold uV0 at HV
 have HX1:IntKind.i64.wrap ((t*t-discI a b c).tdiv (4*a*e))=s:=by rw[ss];exact int_in Vn
 have HX2:IntKind.i64.wrap ((t-B).tdiv (2*e))=m2:=by rw[Q2];exact int_in Vn
 have hm0:=Int.emod_nonneg b (show 2*a≠0 by omega)
 have hm3:=Int.emod_lt_of_pos b (show 0<2*a by omega)
 have hmt:b%(2*a)≤t:=by
  have z:=Int.emod_add_mul_ediv b (2*a)
  by_cases qq:b%(2*a)≤t
  ·exact qq
  ·have z2:2*a*(m1+b / (2*a))=t-b%(2*a):=by rw[Int.mul_add,←hm1];omega
   have z3:m1+b / (2*a)≤ -1:=by
    by_cases z4:m1+b / (2*a)≤ -1
    ·exact z4
    ·have:=Int.mul_nonneg (show 0≤2*a by omega) (show 0≤m1+b / (2*a) by omega);omega
   have:=Int.mul_le_mul_of_nonneg_left z3 (show 0≤2*a by omega)
   omega
 have HM0:Hid (2*a∣b%(2*a)-b):=hide (by have z:=Int.emod_add_mul_ediv b (2*a);exact ⟨-(b / (2*a)),by rw[Int.mul_neg];omega⟩)
 have hunI: ∀z,0≤z→z≤t→2*a∣z-b→2*e∣z-B→z=t:=uni
 have hstep: ∀z,z≤t→2*a∣z-b→ ¬(z-B)%(2*e)=0→z+2*a≤t:=by
  intro z z1 z2 z3
  by_cases z4:z=t
  ·exact absurd (Int.emod_eq_zero_of_dvd ⟨m2,by rw[z4];exact hm2⟩) z3
  ·obtain ⟨l,hl⟩:=z2
   have z5:2*a*(m1-l)=t-z:=by rw[Int.mul_sub];omega
   have z6:1≤m1-l:=by
    by_cases z7:1≤m1-l
    ·exact z7
    ·have:=Int.mul_le_mul_of_nonneg_left (show m1-l≤0 by omega) (show 0≤2*a by omega);omega
   have:=Int.mul_le_mul_of_nonneg_left z6 (show 0≤2*a by omega)
   omega
 have HT:t%(2*a*e)=t:=Int.emod_eq_of_lt t0 t1
 have EB2:0<2*a*e∧2*a*e≤1040000:=by omega
 have EB4:0<4*a*e∧4*a*e≤2080000:=by omega
 clear E2 E4
 clear par uni ss isu hm1 hm2 h0 h1 hD hx hy hg Q2
 try clear hU
 have HUI:=hide hunI
 have HST:=hide hstep
 clear hunI hstep
 go_upto_region 3 with (go_at_call 53;refine (mod_a _ _ _ Vp Vp Vp).mono ?_;rintro e w' ⟨rfl,rfl⟩)
 go_cut [9] (fun s9 wx=> ∃g:Nat,s9= .pointer (some ⟨g,0,none⟩)∧Ri3 wx w.heap.size a b c∧Ri3 wx (w.heap.size+1) p q r∧wx.cell? ⟨w.heap.size+1+1,0,none⟩=some (.int .i64 0)∧wx.frozen? ⟨w.heap.size+1+1,0,none⟩=false∧wx.cell? ⟨w.heap.size+1+1,1,none⟩=some (.int .i64 0)∧wx.frozen? ⟨w.heap.size+1+1,1,none⟩=false∧wx.cell? ⟨w.heap.size+1+1,2,none⟩=some (.int .i64 0)∧wx.frozen? ⟨w.heap.size+1+1,2,none⟩=false∧wx.cell? ⟨w.heap.size+1+1,3,none⟩=some (.int .i64 0)∧wx.frozen? ⟨w.heap.size+1+1,3,none⟩=false∧wx.cell? ⟨w.heap.size+1+1,4,none⟩=some (.int .i64 0)∧wx.frozen? ⟨w.heap.size+1+1,4,none⟩=false∧wx.cell? ⟨w.heap.size+1+1,5,none⟩=some (.int .i64 0)∧wx.frozen? ⟨w.heap.size+1+1,5,none⟩=false∧wx.cell? ⟨w.heap.size+1+1,6,none⟩=some (.int .i64 0)∧wx.frozen? ⟨w.heap.size+1+1,6,none⟩=false∧wx.cell? ⟨w.heap.size+1+1,7,none⟩=some (.int .i64 0)∧wx.frozen? ⟨w.heap.size+1+1,7,none⟩=false∧wx.cell? ⟨w.heap.size+1+1,8,none⟩=some (.int .i64 0)∧wx.frozen? ⟨w.heap.size+1+1,8,none⟩=false∧wx.cell? ⟨w.heap.size+1+1,9,none⟩=some (.int .i64 0)∧wx.frozen? ⟨w.heap.size+1+1,9,none⟩=false∧wx.cell? ⟨w.heap.size+1+1,10,none⟩=some (.int .i64 0)∧wx.frozen? ⟨w.heap.size+1+1,10,none⟩=false∧wx.cell? ⟨w.heap.size+1+1,11,none⟩=some (.int .i64 0)∧wx.frozen? ⟨w.heap.size+1+1,11,none⟩=false∧Ri3 wx w2.heap.size e B C∧Ri4 wx (w2.heap.size+1) ((x:Int)) Q ((y:Int)) S∧wx.cell? ⟨g,0,none⟩=some (.int .i64 a)∧wx.frozen? ⟨g,0,none⟩=false∧wx.cell? ⟨g,1,none⟩=some (.int .i64 e)∧wx.frozen? ⟨g,1,none⟩=false∧wx.cell? ⟨g,2,none⟩=some (.int .i64 (b%(2*a)))∧wx.frozen? ⟨g,2,none⟩=false∧wx.cell? ⟨g,3,none⟩=some (.int .i64 0)∧wx.frozen? ⟨g,3,none⟩=false∧wx.cell? ⟨g,4,none⟩=some (.int .i64 0)∧wx.frozen? ⟨g,4,none⟩=false∧wx.cell? ⟨g,5,none⟩=some (.int .i64 0)∧wx.frozen? ⟨g,5,none⟩=false∧wx.cell? ⟨g,6,none⟩=some (.int .i64 0)∧wx.frozen? ⟨g,6,none⟩=false∧wx.cell? ⟨g,7,none⟩=some (.int .i64 0)∧wx.frozen? ⟨g,7,none⟩=false∧wx.cell? ⟨g,8,none⟩=some (.int .i64 0)∧wx.frozen? ⟨g,8,none⟩=false∧wx.cell? ⟨g,9,none⟩=some (.int .i64 0)∧wx.frozen? ⟨g,9,none⟩=false∧wx.cell? ⟨g,10,none⟩=some (.int .i64 0)∧wx.frozen? ⟨g,10,none⟩=false∧wx.cell? ⟨g,11,none⟩=some (.int .i64 0)∧wx.frozen? ⟨g,11,none⟩=false∧Below w.heap.size w wx∧w2.heap.size+1+1≤g)
 case first=>
  have h1:=trivial
  rename_i K2 h2 h3
  refine region_n0 Vw (fun j=> #[24,25,26,27,28,29,30,31,32,33,34,9,9].getD j 0) (fun j=>Kd.ok ((fun j=>match j with|0=>Kd.val (.pointer (some ⟨w.heap.size,0,none⟩))|1=>Kd.val (.int .i64 a)|2=>Kd.val (.pointer (some ⟨w2.heap.size,0,none⟩))|3=>Kd.val (.int .i64 e)|4=>Kd.val (.pointer (some ⟨w.heap.size,1,none⟩))|5=>Kd.val (.int .i64 b)|6=>Kd.val (.pointer (some ⟨w.heap.size,0,none⟩))|7=>Kd.val (.int .i64 a)|8=>Kd.val (.int .i64 (2*a))|9=>Kd.val (.int .i64 (b%(2*a)))|10=>Kd.val (.agg #[.int .i64 a,.int .i64 e,.int .i64 (b%(2*a)),.int .i64 0,.int .i64 0,.int .i64 0,.int .i64 0,.int .i64 0,.int .i64 0,.int .i64 0,.int .i64 0,.int .i64 0])|11=>Kd.own (w2.heap.size+1+1) 12|12=>Kd.held (w2.heap.size+1+1) [.int .i64 a,.int .i64 e,.int .i64 (b%(2*a)),.int .i64 0,.int .i64 0,.int .i64 0,.int .i64 0,.int .i64 0,.int .i64 0,.int .i64 0,.int .i64 0,.int .i64 0]|_=>Kd.any:Nat→Kd) j)) (Sy w (w2.heap.size+1+1) [(⟨w.heap.size,0,none⟩,.int .i64 a),(⟨w.heap.size,1,none⟩,.int .i64 b),(⟨w.heap.size,2,none⟩,.int .i64 c),(⟨w.heap.size+1,0,none⟩,.int .i64 p),(⟨w.heap.size+1,1,none⟩,.int .i64 q),(⟨w.heap.size+1,2,none⟩,.int .i64 r),(⟨w.heap.size+1+1,0,none⟩,.int .i64 0),(⟨w.heap.size+1+1,1,none⟩,.int .i64 0),(⟨w.heap.size+1+1,2,none⟩,.int .i64 0),(⟨w.heap.size+1+1,3,none⟩,.int .i64 0),(⟨w.heap.size+1+1,4,none⟩,.int .i64 0),(⟨w.heap.size+1+1,5,none⟩,.int .i64 0),(⟨w.heap.size+1+1,6,none⟩,.int .i64 0),(⟨w.heap.size+1+1,7,none⟩,.int .i64 0),(⟨w.heap.size+1+1,8,none⟩,.int .i64 0),(⟨w.heap.size+1+1,9,none⟩,.int .i64 0),(⟨w.heap.size+1+1,10,none⟩,.int .i64 0),(⟨w.heap.size+1+1,11,none⟩,.int .i64 0),(⟨w2.heap.size,0,none⟩,.int .i64 e),(⟨w2.heap.size,1,none⟩,.int .i64 B),(⟨w2.heap.size,2,none⟩,.int .i64 C),(⟨w2.heap.size+1,0,none⟩,.int .i64 ((x:Int))),(⟨w2.heap.size+1,1,none⟩,.int .i64 Q),(⟨w2.heap.size+1,2,none⟩,.int .i64 ((y:Int))),(⟨w2.heap.size+1,3,none⟩,.int .i64 S)] [⟨w.heap.size+1+1,0,none⟩,⟨w.heap.size+1+1,1,none⟩,⟨w.heap.size+1+1,2,none⟩,⟨w.heap.size+1+1,3,none⟩,⟨w.heap.size+1+1,4,none⟩,⟨w.heap.size+1+1,5,none⟩,⟨w.heap.size+1+1,6,none⟩,⟨w.heap.size+1+1,7,none⟩,⟨w.heap.size+1+1,8,none⟩,⟨w.heap.size+1+1,9,none⟩,⟨w.heap.size+1+1,10,none⟩,⟨w.heap.size+1+1,11,none⟩]) Vw Vw ?_ ?_ ?_ ?_
  ·intro j hj
   have hj2:j<13:=hj
   have: ∀j,j<13→(#[24,25,26,27,28,29,30,31,32,33,34,9,9]:Array Nat).getD j 0<103:=by decide
   exact this j hj2
  ·refine Sy.drew (Sy.mk_of ?_ ?_ ?_ ?_)
   ·first|rfl|(simp;done)|(simp;omega)
   ·intro c hc
    simp only[List.mem_cons,List.not_mem_nil,or_false] at hc
    rcases hc with rfl|rfl|rfl|rfl|rfl|rfl|rfl|rfl|rfl|rfl|rfl|rfl|rfl|rfl|rfl|rfl|rfl|rfl|rfl|rfl|rfl|rfl|rfl|rfl|rfl<;>exact byCT
   ·intro p hp
    simp only[List.mem_cons,List.not_mem_nil,or_false] at hp
    rcases hp with rfl|rfl|rfl|rfl|rfl|rfl|rfl|rfl|rfl|rfl|rfl|rfl<;>exact ⟨by first|((repeat' with_reducible (first|refine ex_set _ ?_|refine ex_al _ ?_|exact ⟨_,VV⟩));done)|first|exact ⟨_,VV⟩|assumption|(go_simp;done)|(go_simp;exact ⟨_,rfl⟩),by first|((repeat' first|with_reducible (first|assumption|refine frz_al _ ?_ ?_|refine frz_set _ ?_)|omega|(simp;omega));done)|assumption|(go_simp;done)⟩
   ·(repeat' first|with_reducible (first|exact Below.refl _ _|assumption|refine gr_alloc ?_ _|refine below_drewN ?_ _|refine below_drew ?_|refine gr_call ?_ VV|refine Below.setCell ?_ ?_ _)|go_size|omega|(simp;omega))
  ·clear h1 h2 h3
   refine ⟨?r14x0,?r14x1,?r14x2,?r14x3,?r14x4,?r14x5,?r14x6,?r14x7,?r14x8,?r14x9,?r14x10,?r14x11,?r14x12,trivial⟩
   all_goals intro _ aq wx Kq hf hS hdep ev1 ev2 hK
   case' r14x0=>
    have F2:aq.eval (.tmp 2)= .pointer (some ⟨w.heap.size,0,none⟩):=hf 2
   case' r14x1=>
    have D0:aq.eval (.tmp 24)=_:=hdep 0
    have c0:=hS.cells (⟨w.heap.size,0,none⟩,.int .i64 a) Vs
   case' r14x2=>
    have F7:aq.eval (.tmp 7)= .pointer (some ⟨w2.heap.size,0,none⟩):=hf 7
   case' r14x3=>
    have D2:aq.eval (.tmp 26)=_:=hdep 2
    have c0:=hS.cells (⟨w2.heap.size,0,none⟩,.int .i64 e) Vs
   case' r14x4=>
    have F2:aq.eval (.tmp 2)= .pointer (some ⟨w.heap.size,0,none⟩):=hf 2
   case' r14x5=>
    have D4:aq.eval (.tmp 28)=_:=hdep 4
    have c0:=hS.cells (⟨w.heap.size,1,none⟩,.int .i64 b) Vs
   case' r14x6=>
    have F2:aq.eval (.tmp 2)= .pointer (some ⟨w.heap.size,0,none⟩):=hf 2
   case' r14x7=>
    have D6:aq.eval (.tmp 30)=_:=hdep 6
    have c0:=hS.cells (⟨w.heap.size,0,none⟩,.int .i64 a) Vs
   case' r14x8=>
    have D7:aq.eval (.tmp 31)=_:=hdep 7
   case' r14x9=>
    have D5:aq.eval (.tmp 29)=_:=hdep 5
    have D8:aq.eval (.tmp 32)=_:=hdep 8
   case' r14x10=>
    have D1:aq.eval (.tmp 25)=_:=hdep 1
    have D3:aq.eval (.tmp 27)=_:=hdep 3
    have D9:aq.eval (.tmp 33)=_:=hdep 9
   case' r14x12=>
    have D10:aq.eval (.tmp 34)=_:=hdep 10
    obtain ⟨gn,D11,r1,r2,r3⟩:=hdep 11
    change aq.eval (.tmp 9)=_ at D11
    obtain ⟨⟨vx0,cx0⟩,cf0⟩:=r3 0 VA
    obtain ⟨⟨vx1,cx1⟩,cf1⟩:=r3 1 VA
    obtain ⟨⟨vx2,cx2⟩,cf2⟩:=r3 2 VA
    obtain ⟨⟨vx3,cx3⟩,cf3⟩:=r3 3 VA
    obtain ⟨⟨vx4,cx4⟩,cf4⟩:=r3 4 VA
    obtain ⟨⟨vx5,cx5⟩,cf5⟩:=r3 5 VA
    obtain ⟨⟨vx6,cx6⟩,cf6⟩:=r3 6 VA
    obtain ⟨⟨vx7,cx7⟩,cf7⟩:=r3 7 VA
    obtain ⟨⟨vx8,cx8⟩,cf8⟩:=r3 8 VA
    obtain ⟨⟨vx9,cx9⟩,cf9⟩:=r3 9 VA
    obtain ⟨⟨vx10,cx10⟩,cf10⟩:=r3 10 VA
    obtain ⟨⟨vx11,cx11⟩,cf11⟩:=r3 11 VA
    have D11':tau aq 9=_:=D11
   all_goals (clear hf hdep;unfold Oper.wp;generalize Act.eval _=ev at *;go_simp)
   case r14x9=>
    refine ((mod_a (b) (2*a) _ Vn Vn Vn)).mono ?_
    rintro e w2 ⟨rfl,rfl⟩
    refine hK _ _ (hS.call (below_refl_self _)) ?_ (fun j u _ h=>Kd.ok_below (below_refl_self _) h)
    rw[if_pos VH]
    show (_:Value)=_
    first|rfl|(refine congrArg (Value.int .i64) ?_;first|rfl|exact int_in Vn|exact quo_in Vn Vn Vn|exact rem_in Vn Vn|omega)|(simp;done)|(simp [*];done)
   case r14x11=>
    refine hK _ _ (hS.call (below_alloc_self _ _)) ?_ (fun j u _ h=>Kd.ok_below (below_alloc_self _ _) h)
    rw[if_pos VH]
    exact kd_new hS.size rfl
   case r14x12=>
    refine hK undef (setAll gn 0 [.int .i64 a,.int .i64 e,.int .i64 (b%(2*a)),.int .i64 0,.int .i64 0,.int .i64 0,.int .i64 0,.int .i64 0,.int .i64 0,.int .i64 0,.int .i64 0,.int .i64 0] wx) (Sy.setAll_new r1 hS) ?_ (fun j u hj h=> ?_)
    ·rw [if_neg VA]
     exact kd_held r1 r2 D11' r3
    ·match j,hj with
     |0,hj|1,hj|2,hj|3,hj|4,hj|5,hj|6,hj|7,hj|8,hj|9,hj|10,hj=>exact (show (u:Value)=_ from h)
     |11,hj=>exact Kd.ok_setAll_new (k:=Kd.own (w2.heap.size+1+1) 12) rfl (fun B' cs e=>by cases e) h
     |12,hj=>exact absurd rfl hj
     |j+13,_=>trivial
   all_goals (refine hK _ _ hS ?_ (fun j u _ h=>h);rw [if_pos VH];show (_:Value)=_;(first|rfl|(refine congrArg (Value.int .i64) ?_;first|rfl|exact int_in Vn|exact quo_in Vn Vn Vn|exact rem_in Vn Vn|omega)|(simp;done)|(simp [*];done)))
  ·intro aq wx hd hw hf hS hg
   obtain ⟨g,G9,r1g,r2g,r3g⟩:=hg 12 VA
   change tau aq 9=_ at G9
   have haq:aq=⟨#[tau aq 0,tau aq 1,tau aq 2,tau aq 3,tau aq 4,tau aq 5,tau aq 6,tau aq 7,tau aq 8,tau aq 9,tau aq 10,tau aq 11,tau aq 12,tau aq 13,tau aq 14,tau aq 15,tau aq 16,tau aq 17,tau aq 18,tau aq 19,tau aq 20,tau aq 21,tau aq 22,tau aq 23,tau aq 24,tau aq 25,tau aq 26,tau aq 27,tau aq 28,tau aq 29,tau aq 30,tau aq 31,tau aq 32,tau aq 33,tau aq 34,tau aq 35,tau aq 36,tau aq 37,tau aq 38,tau aq 39,tau aq 40,tau aq 41,tau aq 42,tau aq 43,tau aq 44,tau aq 45,tau aq 46,tau aq 47,tau aq 48,tau aq 49,tau aq 50,tau aq 51,tau aq 52,tau aq 53,tau aq 54,tau aq 55,tau aq 56,tau aq 57,tau aq 58,tau aq 59,tau aq 60,tau aq 61,tau aq 62,tau aq 63,tau aq 64,tau aq 65,tau aq 66,tau aq 67,tau aq 68,tau aq 69,tau aq 70,tau aq 71,tau aq 72,tau aq 73,tau aq 74,tau aq 75,tau aq 76,tau aq 77,tau aq 78,tau aq 79,tau aq 80,tau aq 81,tau aq 82,tau aq 83,tau aq 84,tau aq 85,tau aq 86,tau aq 87,tau aq 88,tau aq 89,tau aq 90,tau aq 91,tau aq 92,tau aq 93,tau aq 94,tau aq 95,tau aq 96,tau aq 97,tau aq 98,tau aq 99,tau aq 100,tau aq 101,tau aq 102],[]⟩:=by
    obtain ⟨tq,dq⟩:=aq
    have h5:=arr_eq (show tq.size=103 from hw)
    have h6:dq= []:=hd
    subst h6
    exact congrArg (fun z=>Act.mk z []) h5
   show K2 aq wx
   rw[haq,hf 0,hf 1,hf 2,hf 3,hf 4,hf 5,hf 6,hf 7,hf 8,hf 10,hf 11,hf 12,hf 13,hf 14,hf 15,hf 16,hf 17,hf 18,hf 19,hf 20,hf 21,hf 22,hf 23,hf 35,hf 36,hf 37,hf 38,hf 39,hf 40,hf 41,hf 42,hf 43,hf 44,hf 45,hf 46,hf 47,hf 48,hf 49,hf 50,hf 51,hf 52,hf 53,hf 54,hf 55,hf 56,hf 57,hf 58,hf 59,hf 60,hf 61,hf 62,hf 63,hf 64,hf 65,hf 66,hf 67,hf 68,hf 69,hf 70,hf 71,hf 72,hf 73,hf 74,hf 75,hf 76,hf 77,hf 78,hf 79,hf 80,hf 81,hf 82,hf 83,hf 84,hf 85,hf 86,hf 87,hf 88,hf 89,hf 90,hf 91,hf 92,hf 93,hf 94,hf 95,hf 96,hf 97,hf 98,hf 99,hf 100,hf 101,hf 102,G9]
   clear haq hf hd hw
   try dsimp only
   refine h3 _ _ ?_
   go_meet
   refine ⟨g,rfl,Ri3.m ?_ ?_ ?_,Ri3.m ?_ ?_ ?_,?_,?_,?_,?_,?_,?_,?_,?_,?_,?_,?_,?_,?_,?_,?_,?_,?_,?_,?_,?_,?_,?_,?_,?_,Ri3.m ?_ ?_ ?_,Ri4.m ?_ ?_ ?_ ?_,(r3g 0 Vs).1,(r3g 0 Vs).2,(r3g 1 Vs).1,(r3g 1 Vs).2,(r3g 2 Vs).1,(r3g 2 Vs).2,(r3g 3 Vs).1,(r3g 3 Vs).2,(r3g 4 Vs).1,(r3g 4 Vs).2,(r3g 5 Vs).1,(r3g 5 Vs).2,(r3g 6 Vs).1,(r3g 6 Vs).2,(r3g 7 Vs).1,(r3g 7 Vs).2,(r3g 8 Vs).1,(r3g 8 Vs).2,(r3g 9 Vs).1,(r3g 9 Vs).2,(r3g 10 Vs).1,(r3g 10 Vs).2,(r3g 11 Vs).1,(r3g 11 Vs).2,hS.below,r1g⟩
   all_goals first|exact hS.cells (_,_) Vs|exact (hS.free _ Vs).2
 case rest=>
  try clear c00
  try clear c01
  try clear c02
  try clear c10
  try clear c11
  try clear c12
  try clear c20
  try clear c21
  try clear c22
  try clear c23
  try clear c24
  try clear c25
  try clear c26
  try clear c27
  try clear c28
  try clear c29
  try clear c210
  try clear c211
  try clear c30
  try clear c31
  try clear c32
  try clear c40
  try clear c41
  try clear c42
  try clear c43
  try clear f20
  try clear f21
  try clear f22
  try clear f23
  try clear f24
  try clear f25
  try clear f26
  try clear f27
  try clear f28
  try clear f29
  try clear f210
  try clear f211
  obtain ⟨g,rfl,⟨c00,c01,c02,z0⟩,⟨c10,c11,c12,z1⟩,c20,f20,c21,f21,c22,f22,c23,f23,c24,f24,c25,f25,c26,f26,c27,f27,c28,f28,c29,f29,c210,f210,c211,f211,⟨c30,c31,c32,z3⟩,⟨c40,c41,c42,c43,z4⟩,c50,f50,c51,f51,c52,f52,c53,f53,c54,f54,c55,f55,c56,f56,c57,f57,c58,f58,c59,f59,c510,f510,c511,f511,hb0,ng⟩:=hcut
  have z2:=World.block_lt_of_cell? _ _ c20
  change w.heap.size+1+1<wc.heap.size at z2
  have z5:=World.block_lt_of_cell? _ _ c50
  change g<wc.heap.size at z5
  go_wp2_with fail
  go_loopg [] ((t-b%(2*a)).toNat) (fun n wr=> ∃y2:Int,n=(t-y2).toNat∧0≤y2∧y2≤t∧Hid (2*a∣y2-b)∧wr.cell? ⟨w.heap.size,0,none⟩=some (.int .i64 a)∧wr.cell? ⟨w.heap.size,1,none⟩=some (.int .i64 b)∧wr.cell? ⟨w.heap.size,2,none⟩=some (.int .i64 c)∧wr.cell? ⟨w.heap.size+1,0,none⟩=some (.int .i64 p)∧wr.cell? ⟨w.heap.size+1,1,none⟩=some (.int .i64 q)∧wr.cell? ⟨w.heap.size+1,2,none⟩=some (.int .i64 r)∧wr.cell? ⟨w.heap.size+1+1,0,none⟩=some (.int .i64 0)∧wr.cell? ⟨w.heap.size+1+1,1,none⟩=some (.int .i64 0)∧wr.cell? ⟨w.heap.size+1+1,2,none⟩=some (.int .i64 0)∧wr.cell? ⟨w.heap.size+1+1,3,none⟩=some (.int .i64 0)∧wr.cell? ⟨w.heap.size+1+1,4,none⟩=some (.int .i64 0)∧wr.cell? ⟨w.heap.size+1+1,5,none⟩=some (.int .i64 0)∧wr.cell? ⟨w.heap.size+1+1,6,none⟩=some (.int .i64 0)∧wr.cell? ⟨w.heap.size+1+1,7,none⟩=some (.int .i64 0)∧wr.cell? ⟨w.heap.size+1+1,8,none⟩=some (.int .i64 0)∧wr.cell? ⟨w.heap.size+1+1,9,none⟩=some (.int .i64 0)∧wr.cell? ⟨w.heap.size+1+1,10,none⟩=some (.int .i64 0)∧wr.cell? ⟨w.heap.size+1+1,11,none⟩=some (.int .i64 0)∧wr.cell? ⟨w2.heap.size,0,none⟩=some (.int .i64 e)∧wr.cell? ⟨w2.heap.size,1,none⟩=some (.int .i64 B)∧wr.cell? ⟨w2.heap.size,2,none⟩=some (.int .i64 C)∧wr.cell? ⟨w2.heap.size+1,0,none⟩=some (.int .i64 ((x:Int)))∧wr.cell? ⟨w2.heap.size+1,1,none⟩=some (.int .i64 Q)∧wr.cell? ⟨w2.heap.size+1,2,none⟩=some (.int .i64 ((y:Int)))∧wr.cell? ⟨w2.heap.size+1,3,none⟩=some (.int .i64 S)∧wr.cell? ⟨g,0,none⟩=some (.int .i64 a)∧wr.cell? ⟨g,1,none⟩=some (.int .i64 e)∧wr.cell? ⟨g,2,none⟩=some (.int .i64 y2)∧wr.cell? ⟨g,3,none⟩=some (.int .i64 0)∧wr.cell? ⟨g,4,none⟩=some (.int .i64 0)∧wr.cell? ⟨g,5,none⟩=some (.int .i64 0)∧wr.cell? ⟨g,6,none⟩=some (.int .i64 0)∧wr.cell? ⟨g,7,none⟩=some (.int .i64 0)∧wr.cell? ⟨g,8,none⟩=some (.int .i64 0)∧wr.cell? ⟨g,9,none⟩=some (.int .i64 0)∧wr.cell? ⟨g,10,none⟩=some (.int .i64 0)∧wr.cell? ⟨g,11,none⟩=some (.int .i64 0)∧wr.frozen? ⟨w.heap.size+1+1,0,none⟩=false∧wr.frozen? ⟨w.heap.size+1+1,1,none⟩=false∧wr.frozen? ⟨w.heap.size+1+1,2,none⟩=false∧wr.frozen? ⟨w.heap.size+1+1,3,none⟩=false∧wr.frozen? ⟨w.heap.size+1+1,4,none⟩=false∧wr.frozen? ⟨w.heap.size+1+1,5,none⟩=false∧wr.frozen? ⟨w.heap.size+1+1,6,none⟩=false∧wr.frozen? ⟨w.heap.size+1+1,7,none⟩=false∧wr.frozen? ⟨w.heap.size+1+1,8,none⟩=false∧wr.frozen? ⟨w.heap.size+1+1,9,none⟩=false∧wr.frozen? ⟨w.heap.size+1+1,10,none⟩=false∧wr.frozen? ⟨w.heap.size+1+1,11,none⟩=false∧wr.frozen? ⟨g,0,none⟩=false∧wr.frozen? ⟨g,1,none⟩=false∧wr.frozen? ⟨g,2,none⟩=false∧wr.frozen? ⟨g,3,none⟩=false∧wr.frozen? ⟨g,4,none⟩=false∧wr.frozen? ⟨g,5,none⟩=false∧wr.frozen? ⟨g,6,none⟩=false∧wr.frozen? ⟨g,7,none⟩=false∧wr.frozen? ⟨g,8,none⟩=false∧wr.frozen? ⟨g,9,none⟩=false∧wr.frozen? ⟨g,10,none⟩=false∧wr.frozen? ⟨g,11,none⟩=false∧Below w.heap.size w wr)
  case atStart=>exact ⟨b%(2*a),rfl,hm0,hmt,HM0,c00,c01,c02,c10,c11,c12,c20,c21,c22,c23,c24,c25,c26,c27,c28,c29,c210,c211,c30,c31,c32,c40,c41,c42,c43,c50,c51,c52,c53,c54,c55,c56,c57,c58,c59,c510,c511,f20,f21,f22,f23,f24,f25,f26,f27,f28,f29,f210,f211,f50,f51,f52,f53,f54,f55,f56,f57,f58,f59,f510,f511,byGG⟩
  case round=>
   try clear c00
   try clear c01
   try clear c02
   try clear c10
   try clear c11
   try clear c12
   try clear c20
   try clear c21
   try clear c22
   try clear c23
   try clear c24
   try clear c25
   try clear c26
   try clear c27
   try clear c28
   try clear c29
   try clear c210
   try clear c211
   try clear c30
   try clear c31
   try clear c32
   try clear c40
   try clear c41
   try clear c42
   try clear c43
   try clear c50
   try clear c51
   try clear c52
   try clear c53
   try clear c54
   try clear c55
   try clear c56
   try clear c57
   try clear c58
   try clear c59
   try clear c510
   try clear c511
   try clear f20
   try clear f21
   try clear f22
   try clear f23
   try clear f24
   try clear f25
   try clear f26
   try clear f27
   try clear f28
   try clear f29
   try clear f210
   try clear f211
   try clear f50
   try clear f51
   try clear f52
   try clear f53
   try clear f54
   try clear f55
   try clear f56
   try clear f57
   try clear f58
   try clear f59
   try clear f510
   try clear f511
   obtain ⟨y2,rfl,hy0,hyt,HY,c00,c01,c02,c10,c11,c12,c20,c21,c22,c23,c24,c25,c26,c27,c28,c29,c210,c211,c30,c31,c32,c40,c41,c42,c43,c50,c51,c52,c53,c54,c55,c56,c57,c58,c59,c510,c511,f20,f21,f22,f23,f24,f25,f26,f27,f28,f29,f210,f211,f50,f51,f52,f53,f54,f55,f56,f57,f58,f59,f510,f511,hb9⟩:=hrel
   obtain ⟨wl,rfl⟩: ∃wl:World,wl=wr:=⟨_,rfl⟩
   have z0:=World.block_lt_of_cell? _ _ c00
   change w.heap.size<wl.heap.size at z0
   have z1:=World.block_lt_of_cell? _ _ c10
   change w.heap.size+1<wl.heap.size at z1
   have z2:=World.block_lt_of_cell? _ _ c20
   change w.heap.size+1+1<wl.heap.size at z2
   have z3:=World.block_lt_of_cell? _ _ c30
   change w2.heap.size<wl.heap.size at z3
   have z4:=World.block_lt_of_cell? _ _ c40
   change w2.heap.size+1<wl.heap.size at z4
   have z5:=World.block_lt_of_cell? _ _ c50
   change g<wl.heap.size at z5
   by_cases hz:(y2-B)%(2*e)=0
   ·have hyy:t=y2:=((unhide HUI) y2 hy0 hyt (unhide HY) (Int.dvd_of_emod_eq_zero hz)).symm
    subst hyy
    go_upto_region 7 with (go_at_call 53;refine (mod_a _ _ _ Vp Vp Vp).mono ?_;rintro e w' ⟨rfl,rfl⟩)
    go_cut [] (fun  wx=>Ri3 wx w.heap.size a b c∧Ri3 wx (w.heap.size+1) p q r∧wx.cell? ⟨w.heap.size+1+1,0,none⟩=some (.int .i64 0)∧wx.frozen? ⟨w.heap.size+1+1,0,none⟩=false∧wx.cell? ⟨w.heap.size+1+1,1,none⟩=some (.int .i64 0)∧wx.frozen? ⟨w.heap.size+1+1,1,none⟩=false∧wx.cell? ⟨w.heap.size+1+1,2,none⟩=some (.int .i64 0)∧wx.frozen? ⟨w.heap.size+1+1,2,none⟩=false∧wx.cell? ⟨w.heap.size+1+1,3,none⟩=some (.int .i64 0)∧wx.frozen? ⟨w.heap.size+1+1,3,none⟩=false∧wx.cell? ⟨w.heap.size+1+1,4,none⟩=some (.int .i64 0)∧wx.frozen? ⟨w.heap.size+1+1,4,none⟩=false∧wx.cell? ⟨w.heap.size+1+1,5,none⟩=some (.int .i64 0)∧wx.frozen? ⟨w.heap.size+1+1,5,none⟩=false∧wx.cell? ⟨w.heap.size+1+1,6,none⟩=some (.int .i64 0)∧wx.frozen? ⟨w.heap.size+1+1,6,none⟩=false∧wx.cell? ⟨w.heap.size+1+1,7,none⟩=some (.int .i64 0)∧wx.frozen? ⟨w.heap.size+1+1,7,none⟩=false∧wx.cell? ⟨w.heap.size+1+1,8,none⟩=some (.int .i64 0)∧wx.frozen? ⟨w.heap.size+1+1,8,none⟩=false∧wx.cell? ⟨w.heap.size+1+1,9,none⟩=some (.int .i64 0)∧wx.frozen? ⟨w.heap.size+1+1,9,none⟩=false∧wx.cell? ⟨w.heap.size+1+1,10,none⟩=some (.int .i64 0)∧wx.frozen? ⟨w.heap.size+1+1,10,none⟩=false∧wx.cell? ⟨w.heap.size+1+1,11,none⟩=some (.int .i64 0)∧wx.frozen? ⟨w.heap.size+1+1,11,none⟩=false∧Ri3 wx w2.heap.size e B C∧Ri4 wx (w2.heap.size+1) ((x:Int)) Q ((y:Int)) S∧wx.cell? ⟨g,0,none⟩=some (.int .i64 a)∧wx.frozen? ⟨g,0,none⟩=false∧wx.cell? ⟨g,1,none⟩=some (.int .i64 e)∧wx.frozen? ⟨g,1,none⟩=false∧wx.cell? ⟨g,2,none⟩=some (.int .i64 t)∧wx.frozen? ⟨g,2,none⟩=false∧wx.cell? ⟨g,3,none⟩=some (.int .i64 s)∧wx.frozen? ⟨g,3,none⟩=false∧wx.cell? ⟨g,4,none⟩=some (.int .i64 0)∧wx.frozen? ⟨g,4,none⟩=false∧wx.cell? ⟨g,5,none⟩=some (.int .i64 0)∧wx.frozen? ⟨g,5,none⟩=false∧wx.cell? ⟨g,6,none⟩=some (.int .i64 0)∧wx.frozen? ⟨g,6,none⟩=false∧wx.cell? ⟨g,7,none⟩=some (.int .i64 0)∧wx.frozen? ⟨g,7,none⟩=false∧wx.cell? ⟨g,8,none⟩=some (.int .i64 0)∧wx.frozen? ⟨g,8,none⟩=false∧wx.cell? ⟨g,9,none⟩=some (.int .i64 0)∧wx.frozen? ⟨g,9,none⟩=false∧wx.cell? ⟨g,10,none⟩=some (.int .i64 0)∧wx.frozen? ⟨g,10,none⟩=false∧wx.cell? ⟨g,11,none⟩=some (.int .i64 0)∧wx.frozen? ⟨g,11,none⟩=false∧Below w.heap.size w wx)
    case first=>
     have h1:=trivial
     rename_i K2 h2 h3
     refine region_n0 Vw (fun j=> #[62,63,64,65,66,67,68,69,70,71,72,73,74,75,76,77,77].getD j 0) (fun j=>Kd.ok ((fun j=>match j with|0=>Kd.val (.pointer (some ⟨g,2,none⟩))|1=>Kd.val (.int .i64 t)|2=>Kd.val (.pointer (some ⟨g,2,none⟩))|3=>Kd.val (.int .i64 t)|4=>Kd.val (.int .i64 (t*t))|5=>Kd.val (.agg #[.int .i64 a,.int .i64 b,.int .i64 c])|6=>Kd.val (.int .i64 (discI a b c))|7=>Kd.val (.int .i64 ((t*t)-(discI a b c)))|8=>Kd.val (.pointer (some ⟨g,0,none⟩))|9=>Kd.val (.int .i64 a)|10=>Kd.val (.int .i64 (4*a))|11=>Kd.val (.pointer (some ⟨g,1,none⟩))|12=>Kd.val (.int .i64 e)|13=>Kd.val (.int .i64 ((4*a)*e))|14=>Kd.val (.int .i64 s)|15=>Kd.val (.pointer (some ⟨g,3,none⟩))|16=>Kd.old (wl.heap.size) [(⟨g,3,none⟩,.int .i64 s)]|_=>Kd.any:Nat→Kd) j)) (Sy w (wl.heap.size) [(⟨w.heap.size,0,none⟩,.int .i64 a),(⟨w.heap.size,1,none⟩,.int .i64 b),(⟨w.heap.size,2,none⟩,.int .i64 c),(⟨w.heap.size+1,0,none⟩,.int .i64 p),(⟨w.heap.size+1,1,none⟩,.int .i64 q),(⟨w.heap.size+1,2,none⟩,.int .i64 r),(⟨w.heap.size+1+1,0,none⟩,.int .i64 0),(⟨w.heap.size+1+1,1,none⟩,.int .i64 0),(⟨w.heap.size+1+1,2,none⟩,.int .i64 0),(⟨w.heap.size+1+1,3,none⟩,.int .i64 0),(⟨w.heap.size+1+1,4,none⟩,.int .i64 0),(⟨w.heap.size+1+1,5,none⟩,.int .i64 0),(⟨w.heap.size+1+1,6,none⟩,.int .i64 0),(⟨w.heap.size+1+1,7,none⟩,.int .i64 0),(⟨w.heap.size+1+1,8,none⟩,.int .i64 0),(⟨w.heap.size+1+1,9,none⟩,.int .i64 0),(⟨w.heap.size+1+1,10,none⟩,.int .i64 0),(⟨w.heap.size+1+1,11,none⟩,.int .i64 0),(⟨w2.heap.size,0,none⟩,.int .i64 e),(⟨w2.heap.size,1,none⟩,.int .i64 B),(⟨w2.heap.size,2,none⟩,.int .i64 C),(⟨w2.heap.size+1,0,none⟩,.int .i64 ((x:Int))),(⟨w2.heap.size+1,1,none⟩,.int .i64 Q),(⟨w2.heap.size+1,2,none⟩,.int .i64 ((y:Int))),(⟨w2.heap.size+1,3,none⟩,.int .i64 S),(⟨g,0,none⟩,.int .i64 a),(⟨g,1,none⟩,.int .i64 e),(⟨g,2,none⟩,.int .i64 t),(⟨g,4,none⟩,.int .i64 0),(⟨g,5,none⟩,.int .i64 0),(⟨g,6,none⟩,.int .i64 0),(⟨g,7,none⟩,.int .i64 0),(⟨g,8,none⟩,.int .i64 0),(⟨g,9,none⟩,.int .i64 0),(⟨g,10,none⟩,.int .i64 0),(⟨g,11,none⟩,.int .i64 0)] [⟨w.heap.size+1+1,0,none⟩,⟨w.heap.size+1+1,1,none⟩,⟨w.heap.size+1+1,2,none⟩,⟨w.heap.size+1+1,3,none⟩,⟨w.heap.size+1+1,4,none⟩,⟨w.heap.size+1+1,5,none⟩,⟨w.heap.size+1+1,6,none⟩,⟨w.heap.size+1+1,7,none⟩,⟨w.heap.size+1+1,8,none⟩,⟨w.heap.size+1+1,9,none⟩,⟨w.heap.size+1+1,10,none⟩,⟨w.heap.size+1+1,11,none⟩,⟨g,0,none⟩,⟨g,1,none⟩,⟨g,2,none⟩,⟨g,3,none⟩,⟨g,4,none⟩,⟨g,5,none⟩,⟨g,6,none⟩,⟨g,7,none⟩,⟨g,8,none⟩,⟨g,9,none⟩,⟨g,10,none⟩,⟨g,11,none⟩]) Vw Vw ?_ ?_ ?_ ?_
     ·intro j hj
      have hj2:j<17:=hj
      have: ∀j,j<17→(#[62,63,64,65,66,67,68,69,70,71,72,73,74,75,76,77,77]:Array Nat).getD j 0<103:=by decide
      exact this j hj2
     ·refine Sy.drew (Sy.mk_of ?_ ?_ ?_ ?_)
      ·first|rfl|(simp;done)|(simp;omega)
      ·intro c hc
       simp only[List.mem_cons,List.not_mem_nil,or_false] at hc
       rcases hc with rfl|rfl|rfl|rfl|rfl|rfl|rfl|rfl|rfl|rfl|rfl|rfl|rfl|rfl|rfl|rfl|rfl|rfl|rfl|rfl|rfl|rfl|rfl|rfl|rfl|rfl|rfl|rfl|rfl|rfl|rfl|rfl|rfl|rfl|rfl|rfl<;>exact byCT
      ·intro p hp
       simp only[List.mem_cons,List.not_mem_nil,or_false] at hp
       rcases hp with rfl|rfl|rfl|rfl|rfl|rfl|rfl|rfl|rfl|rfl|rfl|rfl|rfl|rfl|rfl|rfl|rfl|rfl|rfl|rfl|rfl|rfl|rfl|rfl<;>exact ⟨by first|((repeat' with_reducible (first|refine ex_set _ ?_|refine ex_al _ ?_|exact ⟨_,VV⟩));done)|first|exact ⟨_,VV⟩|assumption|(go_simp;done)|(go_simp;exact ⟨_,rfl⟩),by first|((repeat' first|with_reducible (first|assumption|refine frz_al _ ?_ ?_|refine frz_set _ ?_)|omega|(simp;omega));done)|assumption|(go_simp;done)⟩
      ·(repeat' first|with_reducible (first|exact Below.refl _ _|assumption|refine gr_alloc ?_ _|refine below_drewN ?_ _|refine below_drew ?_|refine gr_call ?_ VV|refine Below.setCell ?_ ?_ _)|go_size|omega|(simp;omega))
     ·clear h1 h2 h3
      try clear c00
      try clear c01
      try clear c02
      try clear c10
      try clear c11
      try clear c12
      try clear c20
      try clear c21
      try clear c22
      try clear c23
      try clear c24
      try clear c25
      try clear c26
      try clear c27
      try clear c28
      try clear c29
      try clear c210
      try clear c211
      try clear c30
      try clear c31
      try clear c32
      try clear c40
      try clear c41
      try clear c42
      try clear c43
      try clear c50
      try clear c51
      try clear c52
      try clear c53
      try clear c54
      try clear c55
      try clear c56
      try clear c57
      try clear c58
      try clear c59
      try clear c510
      try clear c511
      try clear f20
      try clear f21
      try clear f22
      try clear f23
      try clear f24
      try clear f25
      try clear f26
      try clear f27
      try clear f28
      try clear f29
      try clear f210
      try clear f211
      try clear f50
      try clear f51
      try clear f52
      try clear f53
      try clear f54
      try clear f55
      try clear f56
      try clear f57
      try clear f58
      try clear f59
      try clear f510
      try clear f511
      refine ⟨?r15x0,?r15x1,?r15x2,?r15x3,?r15x4,?r15x5,?r15x6,?r15x7,?r15x8,?r15x9,?r15x10,?r15x11,?r15x12,?r15x13,?r15x14,?r15x15,?r15x16,trivial⟩
      all_goals intro _ aq wx Kq hf hS hdep ev1 ev2 hK
      case' r15x0=>
       have F9:aq.eval (.tmp 9)= .pointer (some ⟨g,0,none⟩):=hf 9
      case' r15x1=>
       have D0:aq.eval (.tmp 62)=_:=hdep 0
       have c0:=hS.cells (⟨g,2,none⟩,.int .i64 t) Vs
      case' r15x2=>
       have F9:aq.eval (.tmp 9)= .pointer (some ⟨g,0,none⟩):=hf 9
      case' r15x3=>
       have D2:aq.eval (.tmp 64)=_:=hdep 2
       have c0:=hS.cells (⟨g,2,none⟩,.int .i64 t) Vs
      case' r15x4=>
       have D1:aq.eval (.tmp 63)=_:=hdep 1
       have D3:aq.eval (.tmp 65)=_:=hdep 3
      case' r15x5=>
       have F2:aq.eval (.tmp 2)= .pointer (some ⟨w.heap.size,0,none⟩):=hf 2
       have c0:=hS.cells (⟨w.heap.size,0,none⟩,.int .i64 a) Vs
       have c1:=hS.cells (⟨w.heap.size,1,none⟩,.int .i64 b) Vs
       have c2:=hS.cells (⟨w.heap.size,2,none⟩,.int .i64 c) Vs
      case' r15x6=>
       have D5:aq.eval (.tmp 67)=_:=hdep 5
      case' r15x7=>
       have D4:aq.eval (.tmp 66)=_:=hdep 4
       have D6:aq.eval (.tmp 68)=_:=hdep 6
      case' r15x8=>
       have F9:aq.eval (.tmp 9)= .pointer (some ⟨g,0,none⟩):=hf 9
      case' r15x9=>
       have D8:aq.eval (.tmp 70)=_:=hdep 8
       have c0:=hS.cells (⟨g,0,none⟩,.int .i64 a) Vs
      case' r15x10=>
       have D9:aq.eval (.tmp 71)=_:=hdep 9
      case' r15x11=>
       have F9:aq.eval (.tmp 9)= .pointer (some ⟨g,0,none⟩):=hf 9
      case' r15x12=>
       have D11:aq.eval (.tmp 73)=_:=hdep 11
       have c0:=hS.cells (⟨g,1,none⟩,.int .i64 e) Vs
      case' r15x13=>
       have D10:aq.eval (.tmp 72)=_:=hdep 10
       have D12:aq.eval (.tmp 74)=_:=hdep 12
      case' r15x14=>
       have D7:aq.eval (.tmp 69)=_:=hdep 7
       have D13:aq.eval (.tmp 75)=_:=hdep 13
      case' r15x15=>
       have F9:aq.eval (.tmp 9)= .pointer (some ⟨g,0,none⟩):=hf 9
      case' r15x16=>
       have D14:aq.eval (.tmp 76)=_:=hdep 14
       have D15:aq.eval (.tmp 77)=_:=hdep 15
       obtain ⟨⟨vx0,cx0⟩,cf0⟩:=hS.free ⟨g,3,none⟩ Vs
      all_goals (clear hf hdep;unfold Oper.wp;generalize Act.eval _=ev at *;go_simp)
      case r15x6=>
       refine ((disc_a a b c _ hform)).mono ?_
       rintro e w2 ⟨rfl,hb⟩
       refine hK _ _ (hS.call hb) ?_ (fun j u _ h=>Kd.ok_below hb h)
       rw[if_pos VH]
       show (_:Value)=_
       first|rfl|(refine congrArg (Value.int .i64) ?_;first|rfl|exact int_in Vn|exact quo_in Vn Vn Vn|exact rem_in Vn Vn|omega|exact HX1)|(simp;done)|(simp [*];done)
      case' r15x14=>
       try rw[if_neg Vn,Oper.upon_value]
      case r15x16=>
       refine hK undef (setAll g 3 [.int .i64 s] wx) (Sy.setAll Vr (fa (far_blk Vm) (fa (far_blk Vm) (fa (far_blk Vm) (fa (far_blk Vm) (fa (far_blk Vm) (fa (far_blk Vm) (fa (far_blk Vm) (fa (far_blk Vm) (fa (far_blk Vm) (fa (far_blk Vm) (fa (far_blk Vm) (fa (far_blk Vm) (fa (far_blk Vm) (fa (far_blk Vm) (fa (far_blk Vm) (fa (far_blk Vm) (fa (far_blk Vm) (fa (far_blk Vm) (fa (far_blk Vm) (fa (far_blk Vm) (fa (far_blk Vm) (fa (far_blk Vm) (fa (far_blk Vm) (fa (far_blk Vm) (fa (far_blk Vm) (fa (far_off (show 0<3∨3+1≤0 by decide)) (fa (far_off (show 1<3∨3+1≤1 by decide)) (fa (far_off (show 2<3∨3+1≤2 by decide)) (fa (far_off (show 4<3∨3+1≤4 by decide)) (fa (far_off (show 5<3∨3+1≤5 by decide)) (fa (far_off (show 6<3∨3+1≤6 by decide)) (fa (far_off (show 7<3∨3+1≤7 by decide)) (fa (far_off (show 8<3∨3+1≤8 by decide)) (fa (far_off (show 9<3∨3+1≤9 by decide)) (fa (far_off (show 10<3∨3+1≤10 by decide)) (fa (far_off (show 11<3∨3+1≤11 by decide)) (fa0))))))))))))))))))))))))))))))))))))) hS) ?_ (fun j u hj h=> ?_)
       ·rw [if_neg VA]
        exact fa ⟨setAll_at g [.int .i64 s] 3 wx 0 (show 0<1 by decide) ⟨vx0,cx0⟩,Vr⟩ (fa0)
       ·match j,hj with
        |0,hj|1,hj|2,hj|3,hj|4,hj|5,hj|6,hj|7,hj|8,hj|9,hj|10,hj|11,hj|12,hj|13,hj|14,hj|15,hj=>exact (show (u:Value)=_ from h)
        |16,hj=>exact absurd rfl hj
        |j+17,_=>trivial
      all_goals (refine hK _ _ hS ?_ (fun j u _ h=>h);rw [if_pos VH];show (_:Value)=_;(first|rfl|(refine congrArg (Value.int .i64) ?_;first|rfl|exact int_in Vn|exact quo_in Vn Vn Vn|exact rem_in Vn Vn|omega|exact HX1)|(simp;done)|(simp [*];done)))
     ·intro aq wx hd hw hf hS hg
      have haq:aq=⟨#[tau aq 0,tau aq 1,tau aq 2,tau aq 3,tau aq 4,tau aq 5,tau aq 6,tau aq 7,tau aq 8,tau aq 9,tau aq 10,tau aq 11,tau aq 12,tau aq 13,tau aq 14,tau aq 15,tau aq 16,tau aq 17,tau aq 18,tau aq 19,tau aq 20,tau aq 21,tau aq 22,tau aq 23,tau aq 24,tau aq 25,tau aq 26,tau aq 27,tau aq 28,tau aq 29,tau aq 30,tau aq 31,tau aq 32,tau aq 33,tau aq 34,tau aq 35,tau aq 36,tau aq 37,tau aq 38,tau aq 39,tau aq 40,tau aq 41,tau aq 42,tau aq 43,tau aq 44,tau aq 45,tau aq 46,tau aq 47,tau aq 48,tau aq 49,tau aq 50,tau aq 51,tau aq 52,tau aq 53,tau aq 54,tau aq 55,tau aq 56,tau aq 57,tau aq 58,tau aq 59,tau aq 60,tau aq 61,tau aq 62,tau aq 63,tau aq 64,tau aq 65,tau aq 66,tau aq 67,tau aq 68,tau aq 69,tau aq 70,tau aq 71,tau aq 72,tau aq 73,tau aq 74,tau aq 75,tau aq 76,tau aq 77,tau aq 78,tau aq 79,tau aq 80,tau aq 81,tau aq 82,tau aq 83,tau aq 84,tau aq 85,tau aq 86,tau aq 87,tau aq 88,tau aq 89,tau aq 90,tau aq 91,tau aq 92,tau aq 93,tau aq 94,tau aq 95,tau aq 96,tau aq 97,tau aq 98,tau aq 99,tau aq 100,tau aq 101,tau aq 102],[]⟩:=by
       obtain ⟨tq,dq⟩:=aq
       have h5:=arr_eq (show tq.size=103 from hw)
       have h6:dq= []:=hd
       subst h6
       exact congrArg (fun z=>Act.mk z []) h5
      show K2 aq wx
      rw[haq,hf 0,hf 1,hf 2,hf 3,hf 4,hf 5,hf 6,hf 7,hf 8,hf 9,hf 10,hf 11,hf 12,hf 13,hf 14,hf 15,hf 16,hf 17,hf 18,hf 19,hf 20,hf 21,hf 22,hf 23,hf 24,hf 25,hf 26,hf 27,hf 28,hf 29,hf 30,hf 31,hf 32,hf 33,hf 34,hf 35,hf 36,hf 37,hf 38,hf 39,hf 40,hf 41,hf 42,hf 43,hf 44,hf 45,hf 46,hf 47,hf 48,hf 49,hf 50,hf 51,hf 52,hf 53,hf 54,hf 55,hf 56,hf 57,hf 58,hf 59,hf 60,hf 61,hf 78,hf 79,hf 80,hf 81,hf 82,hf 83,hf 84,hf 85,hf 86,hf 87,hf 88,hf 89,hf 90,hf 91,hf 92,hf 93,hf 94,hf 95,hf 96,hf 97,hf 98,hf 99,hf 100,hf 101,hf 102]
      clear haq hf hd hw
      try dsimp only
      refine h3 _ _ ?_
      go_meet
      refine ⟨Ri3.m ?_ ?_ ?_,Ri3.m ?_ ?_ ?_,?_,?_,?_,?_,?_,?_,?_,?_,?_,?_,?_,?_,?_,?_,?_,?_,?_,?_,?_,?_,?_,?_,?_,?_,Ri3.m ?_ ?_ ?_,Ri4.m ?_ ?_ ?_ ?_,?_,?_,?_,?_,?_,?_,(hg 16 VA (⟨g,3,none⟩,.int .i64 s) Vs).1,?_,?_,?_,?_,?_,?_,?_,?_,?_,?_,?_,?_,?_,?_,?_,?_,?_,hS.below⟩
      all_goals first|exact hS.cells (_,_) Vs|exact (hS.free _ Vs).2
    try clear c00
    try clear c01
    try clear c02
    try clear c10
    try clear c11
    try clear c12
    try clear c20
    try clear c21
    try clear c22
    try clear c23
    try clear c24
    try clear c25
    try clear c26
    try clear c27
    try clear c28
    try clear c29
    try clear c210
    try clear c211
    try clear c30
    try clear c31
    try clear c32
    try clear c40
    try clear c41
    try clear c42
    try clear c43
    try clear c50
    try clear c51
    try clear c52
    try clear c53
    try clear c54
    try clear c55
    try clear c56
    try clear c57
    try clear c58
    try clear c59
    try clear c510
    try clear c511
    try clear f20
    try clear f21
    try clear f22
    try clear f23
    try clear f24
    try clear f25
    try clear f26
    try clear f27
    try clear f28
    try clear f29
    try clear f210
    try clear f211
    try clear f50
    try clear f51
    try clear f52
    try clear f53
    try clear f54
    try clear f55
    try clear f56
    try clear f57
    try clear f58
    try clear f59
    try clear f510
    try clear f511
    obtain ⟨⟨c00,c01,c02,z0⟩,⟨c10,c11,c12,z1⟩,c20,f20,c21,f21,c22,f22,c23,f23,c24,f24,c25,f25,c26,f26,c27,f27,c28,f28,c29,f29,c210,f210,c211,f211,⟨c30,c31,c32,z3⟩,⟨c40,c41,c42,c43,z4⟩,c50,f50,c51,f51,c52,f52,c53,f53,c54,f54,c55,f55,c56,f56,c57,f57,c58,f58,c59,f59,c510,f510,c511,f511,hb0⟩:=hcut
    have z2:=World.block_lt_of_cell? _ _ c20
    change w.heap.size+1+1<wc.heap.size at z2
    have z5:=World.block_lt_of_cell? _ _ c50
    change g<wc.heap.size at z5
    obtain ⟨wl7,rfl⟩: ∃wl7:World,wl7=wc:=⟨_,rfl⟩
    go_upto_region 9 with fail
    go_cut [] (fun  wx=>Ri3 wx w.heap.size a b c∧Ri3 wx (w.heap.size+1) p q r∧wx.cell? ⟨w.heap.size+1+1,0,none⟩=some (.int .i64 0)∧wx.frozen? ⟨w.heap.size+1+1,0,none⟩=false∧wx.cell? ⟨w.heap.size+1+1,1,none⟩=some (.int .i64 0)∧wx.frozen? ⟨w.heap.size+1+1,1,none⟩=false∧wx.cell? ⟨w.heap.size+1+1,2,none⟩=some (.int .i64 0)∧wx.frozen? ⟨w.heap.size+1+1,2,none⟩=false∧wx.cell? ⟨w.heap.size+1+1,3,none⟩=some (.int .i64 0)∧wx.frozen? ⟨w.heap.size+1+1,3,none⟩=false∧wx.cell? ⟨w.heap.size+1+1,4,none⟩=some (.int .i64 0)∧wx.frozen? ⟨w.heap.size+1+1,4,none⟩=false∧wx.cell? ⟨w.heap.size+1+1,5,none⟩=some (.int .i64 0)∧wx.frozen? ⟨w.heap.size+1+1,5,none⟩=false∧wx.cell? ⟨w.heap.size+1+1,6,none⟩=some (.int .i64 0)∧wx.frozen? ⟨w.heap.size+1+1,6,none⟩=false∧wx.cell? ⟨w.heap.size+1+1,7,none⟩=some (.int .i64 0)∧wx.frozen? ⟨w.heap.size+1+1,7,none⟩=false∧wx.cell? ⟨w.heap.size+1+1,8,none⟩=some (.int .i64 0)∧wx.frozen? ⟨w.heap.size+1+1,8,none⟩=false∧wx.cell? ⟨w.heap.size+1+1,9,none⟩=some (.int .i64 0)∧wx.frozen? ⟨w.heap.size+1+1,9,none⟩=false∧wx.cell? ⟨w.heap.size+1+1,10,none⟩=some (.int .i64 0)∧wx.frozen? ⟨w.heap.size+1+1,10,none⟩=false∧wx.cell? ⟨w.heap.size+1+1,11,none⟩=some (.int .i64 0)∧wx.frozen? ⟨w.heap.size+1+1,11,none⟩=false∧Ri3 wx w2.heap.size e B C∧Ri4 wx (w2.heap.size+1) ((x:Int)) Q ((y:Int)) S∧wx.cell? ⟨g,0,none⟩=some (.int .i64 a)∧wx.frozen? ⟨g,0,none⟩=false∧wx.cell? ⟨g,1,none⟩=some (.int .i64 e)∧wx.frozen? ⟨g,1,none⟩=false∧wx.cell? ⟨g,2,none⟩=some (.int .i64 t)∧wx.frozen? ⟨g,2,none⟩=false∧wx.cell? ⟨g,3,none⟩=some (.int .i64 s)∧wx.frozen? ⟨g,3,none⟩=false∧wx.cell? ⟨g,4,none⟩=some (.int .i64 1)∧wx.frozen? ⟨g,4,none⟩=false∧wx.cell? ⟨g,5,none⟩=some (.int .i64 m1)∧wx.frozen? ⟨g,5,none⟩=false∧wx.cell? ⟨g,6,none⟩=some (.int .i64 0)∧wx.frozen? ⟨g,6,none⟩=false∧wx.cell? ⟨g,7,none⟩=some (.int .i64 1)∧wx.frozen? ⟨g,7,none⟩=false∧wx.cell? ⟨g,8,none⟩=some (.int .i64 (mmP (x:Int) Q (y:Int) S 1 m2 0 1))∧wx.frozen? ⟨g,8,none⟩=false∧wx.cell? ⟨g,9,none⟩=some (.int .i64 (mmQ (x:Int) Q (y:Int) S 1 m2 0 1))∧wx.frozen? ⟨g,9,none⟩=false∧wx.cell? ⟨g,10,none⟩=some (.int .i64 (mmR (x:Int) Q (y:Int) S 1 m2 0 1))∧wx.frozen? ⟨g,10,none⟩=false∧wx.cell? ⟨g,11,none⟩=some (.int .i64 (mmS (x:Int) Q (y:Int) S 1 m2 0 1))∧wx.frozen? ⟨g,11,none⟩=false∧Below w.heap.size w wx)
    case first=>
     have h1:=trivial
     rename_i K2 h2 h3
     refine region_n0 Vw (fun j=> #[89,90,91,92,93,94,95,96,97,98,99,100,101,101].getD j 0) (fun j=>Kd.ok ((fun j=>match j with|0=>Kd.val (.agg #[.int .i64 ((x:Int)),.int .i64 Q,.int .i64 ((y:Int)),.int .i64 S])|1=>Kd.val (.pointer (some ⟨g,2,none⟩))|2=>Kd.val (.int .i64 t)|3=>Kd.val (.pointer (some ⟨w2.heap.size,1,none⟩))|4=>Kd.val (.int .i64 B)|5=>Kd.val (.int .i64 (t-B))|6=>Kd.val (.pointer (some ⟨g,1,none⟩))|7=>Kd.val (.int .i64 e)|8=>Kd.val (.int .i64 (2*e))|9=>Kd.val (.int .i64 m2)|10=>Kd.val (.agg #[.int .i64 1,.int .i64 m2,.int .i64 0,.int .i64 1])|11=>Kd.val (.agg #[.int .i64 (mmP (x:Int) Q (y:Int) S 1 m2 0 1),.int .i64 (mmQ (x:Int) Q (y:Int) S 1 m2 0 1),.int .i64 (mmR (x:Int) Q (y:Int) S 1 m2 0 1),.int .i64 (mmS (x:Int) Q (y:Int) S 1 m2 0 1)])|12=>Kd.val (.pointer (some ⟨g,8,none⟩))|13=>Kd.old (wl7.heap.size) [(⟨g,8,none⟩,.int .i64 (mmP (x:Int) Q (y:Int) S 1 m2 0 1)),(⟨g,9,none⟩,.int .i64 (mmQ (x:Int) Q (y:Int) S 1 m2 0 1)),(⟨g,10,none⟩,.int .i64 (mmR (x:Int) Q (y:Int) S 1 m2 0 1)),(⟨g,11,none⟩,.int .i64 (mmS (x:Int) Q (y:Int) S 1 m2 0 1))]|_=>Kd.any:Nat→Kd) j)) (Sy w (wl7.heap.size) [(⟨w.heap.size,0,none⟩,.int .i64 a),(⟨w.heap.size,1,none⟩,.int .i64 b),(⟨w.heap.size,2,none⟩,.int .i64 c),(⟨w.heap.size+1,0,none⟩,.int .i64 p),(⟨w.heap.size+1,1,none⟩,.int .i64 q),(⟨w.heap.size+1,2,none⟩,.int .i64 r),(⟨w.heap.size+1+1,0,none⟩,.int .i64 0),(⟨w.heap.size+1+1,1,none⟩,.int .i64 0),(⟨w.heap.size+1+1,2,none⟩,.int .i64 0),(⟨w.heap.size+1+1,3,none⟩,.int .i64 0),(⟨w.heap.size+1+1,4,none⟩,.int .i64 0),(⟨w.heap.size+1+1,5,none⟩,.int .i64 0),(⟨w.heap.size+1+1,6,none⟩,.int .i64 0),(⟨w.heap.size+1+1,7,none⟩,.int .i64 0),(⟨w.heap.size+1+1,8,none⟩,.int .i64 0),(⟨w.heap.size+1+1,9,none⟩,.int .i64 0),(⟨w.heap.size+1+1,10,none⟩,.int .i64 0),(⟨w.heap.size+1+1,11,none⟩,.int .i64 0),(⟨w2.heap.size,0,none⟩,.int .i64 e),(⟨w2.heap.size,1,none⟩,.int .i64 B),(⟨w2.heap.size,2,none⟩,.int .i64 C),(⟨w2.heap.size+1,0,none⟩,.int .i64 ((x:Int))),(⟨w2.heap.size+1,1,none⟩,.int .i64 Q),(⟨w2.heap.size+1,2,none⟩,.int .i64 ((y:Int))),(⟨w2.heap.size+1,3,none⟩,.int .i64 S),(⟨g,0,none⟩,.int .i64 a),(⟨g,1,none⟩,.int .i64 e),(⟨g,2,none⟩,.int .i64 t),(⟨g,3,none⟩,.int .i64 s),(⟨g,4,none⟩,.int .i64 1),(⟨g,5,none⟩,.int .i64 m1),(⟨g,6,none⟩,.int .i64 0),(⟨g,7,none⟩,.int .i64 1)] [⟨w.heap.size+1+1,0,none⟩,⟨w.heap.size+1+1,1,none⟩,⟨w.heap.size+1+1,2,none⟩,⟨w.heap.size+1+1,3,none⟩,⟨w.heap.size+1+1,4,none⟩,⟨w.heap.size+1+1,5,none⟩,⟨w.heap.size+1+1,6,none⟩,⟨w.heap.size+1+1,7,none⟩,⟨w.heap.size+1+1,8,none⟩,⟨w.heap.size+1+1,9,none⟩,⟨w.heap.size+1+1,10,none⟩,⟨w.heap.size+1+1,11,none⟩,⟨g,0,none⟩,⟨g,1,none⟩,⟨g,2,none⟩,⟨g,3,none⟩,⟨g,4,none⟩,⟨g,5,none⟩,⟨g,6,none⟩,⟨g,7,none⟩,⟨g,8,none⟩,⟨g,9,none⟩,⟨g,10,none⟩,⟨g,11,none⟩]) Vw Vw ?_ ?_ ?_ ?_
     ·intro j hj
      have hj2:j<14:=hj
      have: ∀j,j<14→(#[89,90,91,92,93,94,95,96,97,98,99,100,101,101]:Array Nat).getD j 0<103:=by decide
      exact this j hj2
     ·refine Sy.drew (Sy.mk_of ?_ ?_ ?_ ?_)
      ·first|rfl|(simp;done)|(simp;omega)
      ·intro c hc
       simp only[List.mem_cons,List.not_mem_nil,or_false] at hc
       rcases hc with rfl|rfl|rfl|rfl|rfl|rfl|rfl|rfl|rfl|rfl|rfl|rfl|rfl|rfl|rfl|rfl|rfl|rfl|rfl|rfl|rfl|rfl|rfl|rfl|rfl|rfl|rfl|rfl|rfl|rfl|rfl|rfl|rfl<;>exact byCT
      ·intro p hp
       simp only[List.mem_cons,List.not_mem_nil,or_false] at hp
       rcases hp with rfl|rfl|rfl|rfl|rfl|rfl|rfl|rfl|rfl|rfl|rfl|rfl|rfl|rfl|rfl|rfl|rfl|rfl|rfl|rfl|rfl|rfl|rfl|rfl<;>exact ⟨by first|((repeat' with_reducible (first|refine ex_set _ ?_|refine ex_al _ ?_|exact ⟨_,VV⟩));done)|first|exact ⟨_,VV⟩|assumption|(go_simp;done)|(go_simp;exact ⟨_,rfl⟩),by first|((repeat' first|with_reducible (first|assumption|refine frz_al _ ?_ ?_|refine frz_set _ ?_)|omega|(simp;omega));done)|assumption|(go_simp;done)⟩
      ·(repeat' first|with_reducible (first|exact Below.refl _ _|assumption|refine gr_alloc ?_ _|refine below_drewN ?_ _|refine below_drew ?_|refine gr_call ?_ VV|refine Below.setCell ?_ ?_ _)|go_size|omega|(simp;omega))
     ·clear h1 h2 h3
      try clear c00
      try clear c01
      try clear c02
      try clear c10
      try clear c11
      try clear c12
      try clear c20
      try clear c21
      try clear c22
      try clear c23
      try clear c24
      try clear c25
      try clear c26
      try clear c27
      try clear c28
      try clear c29
      try clear c210
      try clear c211
      try clear c30
      try clear c31
      try clear c32
      try clear c40
      try clear c41
      try clear c42
      try clear c43
      try clear c50
      try clear c51
      try clear c52
      try clear c53
      try clear c54
      try clear c55
      try clear c56
      try clear c57
      try clear c58
      try clear c59
      try clear c510
      try clear c511
      try clear f20
      try clear f21
      try clear f22
      try clear f23
      try clear f24
      try clear f25
      try clear f26
      try clear f27
      try clear f28
      try clear f29
      try clear f210
      try clear f211
      try clear f50
      try clear f51
      try clear f52
      try clear f53
      try clear f54
      try clear f55
      try clear f56
      try clear f57
      try clear f58
      try clear f59
      try clear f510
      try clear f511
      refine ⟨?r16x0,?r16x1,?r16x2,?r16x3,?r16x4,?r16x5,?r16x6,?r16x7,?r16x8,?r16x9,?r16x10,?r16x11,?r16x12,?r16x13,trivial⟩
      all_goals intro _ aq wx Kq hf hS hdep ev1 ev2 hK
      case' r16x0=>
       have F8:aq.eval (.tmp 8)= .pointer (some ⟨w2.heap.size+1,0,none⟩):=hf 8
       have c0:=hS.cells (⟨w2.heap.size+1,0,none⟩,.int .i64 ((x:Int))) Vs
       have c1:=hS.cells (⟨w2.heap.size+1,1,none⟩,.int .i64 Q) Vs
       have c2:=hS.cells (⟨w2.heap.size+1,2,none⟩,.int .i64 ((y:Int))) Vs
       have c3:=hS.cells (⟨w2.heap.size+1,3,none⟩,.int .i64 S) Vs
      case' r16x1=>
       have F9:aq.eval (.tmp 9)= .pointer (some ⟨g,0,none⟩):=hf 9
      case' r16x2=>
       have D1:aq.eval (.tmp 90)=_:=hdep 1
       have c0:=hS.cells (⟨g,2,none⟩,.int .i64 t) Vs
      case' r16x3=>
       have F7:aq.eval (.tmp 7)= .pointer (some ⟨w2.heap.size,0,none⟩):=hf 7
      case' r16x4=>
       have D3:aq.eval (.tmp 92)=_:=hdep 3
       have c0:=hS.cells (⟨w2.heap.size,1,none⟩,.int .i64 B) Vs
      case' r16x5=>
       have D2:aq.eval (.tmp 91)=_:=hdep 2
       have D4:aq.eval (.tmp 93)=_:=hdep 4
      case' r16x6=>
       have F9:aq.eval (.tmp 9)= .pointer (some ⟨g,0,none⟩):=hf 9
      case' r16x7=>
       have D6:aq.eval (.tmp 95)=_:=hdep 6
       have c0:=hS.cells (⟨g,1,none⟩,.int .i64 e) Vs
      case' r16x8=>
       have D7:aq.eval (.tmp 96)=_:=hdep 7
      case' r16x9=>
       have D5:aq.eval (.tmp 94)=_:=hdep 5
       have D8:aq.eval (.tmp 97)=_:=hdep 8
      case' r16x10=>
       have D9:aq.eval (.tmp 98)=_:=hdep 9
      case' r16x11=>
       have D0:aq.eval (.tmp 89)=_:=hdep 0
       have D10:aq.eval (.tmp 99)=_:=hdep 10
      case' r16x12=>
       have F9:aq.eval (.tmp 9)= .pointer (some ⟨g,0,none⟩):=hf 9
      case' r16x13=>
       have D11:aq.eval (.tmp 100)=_:=hdep 11
       have D12:aq.eval (.tmp 101)=_:=hdep 12
       obtain ⟨⟨vx0,cx0⟩,cf0⟩:=hS.free ⟨g,8,none⟩ Vs
       obtain ⟨⟨vx1,cx1⟩,cf1⟩:=hS.free ⟨g,9,none⟩ Vs
       obtain ⟨⟨vx2,cx2⟩,cf2⟩:=hS.free ⟨g,10,none⟩ Vs
       obtain ⟨⟨vx3,cx3⟩,cf3⟩:=hS.free ⟨g,11,none⟩ Vs
      all_goals (clear hf hdep;unfold Oper.wp;generalize Act.eval _=ev at *;go_simp)
      case' r16x9=>
       try rw[if_neg Vn,Oper.upon_value]
      case r16x11=>
       refine ((times_a (x:Int) Q (y:Int) S 1 m2 0 1 _)).mono ?_
       rintro e w2 ⟨rfl,hb⟩
       refine hK _ _ (hS.call hb) ?_ (fun j u _ h=>Kd.ok_below hb h)
       rw[if_pos VH]
       show (_:Value)=_
       first|rfl|(refine congrArg (Value.int .i64) ?_;first|rfl|exact int_in Vn|exact quo_in Vn Vn Vn|exact rem_in Vn Vn|omega|exact HX2)|(simp;done)|(simp [*];done)
      case r16x13=>
       refine hK undef (setAll g 8 [.int .i64 (mmP (x:Int) Q (y:Int) S 1 m2 0 1),.int .i64 (mmQ (x:Int) Q (y:Int) S 1 m2 0 1),.int .i64 (mmR (x:Int) Q (y:Int) S 1 m2 0 1),.int .i64 (mmS (x:Int) Q (y:Int) S 1 m2 0 1)] wx) (Sy.setAll Vr (fa (far_blk Vm) (fa (far_blk Vm) (fa (far_blk Vm) (fa (far_blk Vm) (fa (far_blk Vm) (fa (far_blk Vm) (fa (far_blk Vm) (fa (far_blk Vm) (fa (far_blk Vm) (fa (far_blk Vm) (fa (far_blk Vm) (fa (far_blk Vm) (fa (far_blk Vm) (fa (far_blk Vm) (fa (far_blk Vm) (fa (far_blk Vm) (fa (far_blk Vm) (fa (far_blk Vm) (fa (far_blk Vm) (fa (far_blk Vm) (fa (far_blk Vm) (fa (far_blk Vm) (fa (far_blk Vm) (fa (far_blk Vm) (fa (far_blk Vm) (fa (far_off (show 0<8∨8+4≤0 by decide)) (fa (far_off (show 1<8∨8+4≤1 by decide)) (fa (far_off (show 2<8∨8+4≤2 by decide)) (fa (far_off (show 3<8∨8+4≤3 by decide)) (fa (far_off (show 4<8∨8+4≤4 by decide)) (fa (far_off (show 5<8∨8+4≤5 by decide)) (fa (far_off (show 6<8∨8+4≤6 by decide)) (fa (far_off (show 7<8∨8+4≤7 by decide)) (fa0)))))))))))))))))))))))))))))))))) hS) ?_ (fun j u hj h=> ?_)
       ·rw [if_neg VA]
        exact fa ⟨setAll_at g [.int .i64 (mmP (x:Int) Q (y:Int) S 1 m2 0 1),.int .i64 (mmQ (x:Int) Q (y:Int) S 1 m2 0 1),.int .i64 (mmR (x:Int) Q (y:Int) S 1 m2 0 1),.int .i64 (mmS (x:Int) Q (y:Int) S 1 m2 0 1)] 8 wx 0 (show 0<4 by decide) ⟨vx0,cx0⟩,Vr⟩ (fa ⟨setAll_at g [.int .i64 (mmP (x:Int) Q (y:Int) S 1 m2 0 1),.int .i64 (mmQ (x:Int) Q (y:Int) S 1 m2 0 1),.int .i64 (mmR (x:Int) Q (y:Int) S 1 m2 0 1),.int .i64 (mmS (x:Int) Q (y:Int) S 1 m2 0 1)] 8 wx 1 (show 1<4 by decide) ⟨vx1,cx1⟩,Vr⟩ (fa ⟨setAll_at g [.int .i64 (mmP (x:Int) Q (y:Int) S 1 m2 0 1),.int .i64 (mmQ (x:Int) Q (y:Int) S 1 m2 0 1),.int .i64 (mmR (x:Int) Q (y:Int) S 1 m2 0 1),.int .i64 (mmS (x:Int) Q (y:Int) S 1 m2 0 1)] 8 wx 2 (show 2<4 by decide) ⟨vx2,cx2⟩,Vr⟩ (fa ⟨setAll_at g [.int .i64 (mmP (x:Int) Q (y:Int) S 1 m2 0 1),.int .i64 (mmQ (x:Int) Q (y:Int) S 1 m2 0 1),.int .i64 (mmR (x:Int) Q (y:Int) S 1 m2 0 1),.int .i64 (mmS (x:Int) Q (y:Int) S 1 m2 0 1)] 8 wx 3 (show 3<4 by decide) ⟨vx3,cx3⟩,Vr⟩ (fa0))))
       ·match j,hj with
        |0,hj|1,hj|2,hj|3,hj|4,hj|5,hj|6,hj|7,hj|8,hj|9,hj|10,hj|11,hj|12,hj=>exact (show (u:Value)=_ from h)
        |13,hj=>exact absurd rfl hj
        |j+14,_=>trivial
      all_goals (refine hK _ _ hS ?_ (fun j u _ h=>h);rw [if_pos VH];show (_:Value)=_;(first|rfl|(refine congrArg (Value.int .i64) ?_;first|rfl|exact int_in Vn|exact quo_in Vn Vn Vn|exact rem_in Vn Vn|omega|exact HX2)|(simp;done)|(simp [*];done)))
     ·intro aq wx hd hw hf hS hg
      have haq:aq=⟨#[tau aq 0,tau aq 1,tau aq 2,tau aq 3,tau aq 4,tau aq 5,tau aq 6,tau aq 7,tau aq 8,tau aq 9,tau aq 10,tau aq 11,tau aq 12,tau aq 13,tau aq 14,tau aq 15,tau aq 16,tau aq 17,tau aq 18,tau aq 19,tau aq 20,tau aq 21,tau aq 22,tau aq 23,tau aq 24,tau aq 25,tau aq 26,tau aq 27,tau aq 28,tau aq 29,tau aq 30,tau aq 31,tau aq 32,tau aq 33,tau aq 34,tau aq 35,tau aq 36,tau aq 37,tau aq 38,tau aq 39,tau aq 40,tau aq 41,tau aq 42,tau aq 43,tau aq 44,tau aq 45,tau aq 46,tau aq 47,tau aq 48,tau aq 49,tau aq 50,tau aq 51,tau aq 52,tau aq 53,tau aq 54,tau aq 55,tau aq 56,tau aq 57,tau aq 58,tau aq 59,tau aq 60,tau aq 61,tau aq 62,tau aq 63,tau aq 64,tau aq 65,tau aq 66,tau aq 67,tau aq 68,tau aq 69,tau aq 70,tau aq 71,tau aq 72,tau aq 73,tau aq 74,tau aq 75,tau aq 76,tau aq 77,tau aq 78,tau aq 79,tau aq 80,tau aq 81,tau aq 82,tau aq 83,tau aq 84,tau aq 85,tau aq 86,tau aq 87,tau aq 88,tau aq 89,tau aq 90,tau aq 91,tau aq 92,tau aq 93,tau aq 94,tau aq 95,tau aq 96,tau aq 97,tau aq 98,tau aq 99,tau aq 100,tau aq 101,tau aq 102],[]⟩:=by
       obtain ⟨tq,dq⟩:=aq
       have h5:=arr_eq (show tq.size=103 from hw)
       have h6:dq= []:=hd
       subst h6
       exact congrArg (fun z=>Act.mk z []) h5
      show K2 aq wx
      rw[haq,hf 0,hf 1,hf 2,hf 3,hf 4,hf 5,hf 6,hf 7,hf 8,hf 9,hf 10,hf 11,hf 12,hf 13,hf 14,hf 15,hf 16,hf 17,hf 18,hf 19,hf 20,hf 21,hf 22,hf 23,hf 24,hf 25,hf 26,hf 27,hf 28,hf 29,hf 30,hf 31,hf 32,hf 33,hf 34,hf 35,hf 36,hf 37,hf 38,hf 39,hf 40,hf 41,hf 42,hf 43,hf 44,hf 45,hf 46,hf 47,hf 48,hf 49,hf 50,hf 51,hf 52,hf 53,hf 54,hf 55,hf 56,hf 57,hf 58,hf 59,hf 60,hf 61,hf 62,hf 63,hf 64,hf 65,hf 66,hf 67,hf 68,hf 69,hf 70,hf 71,hf 72,hf 73,hf 74,hf 75,hf 76,hf 77,hf 78,hf 79,hf 80,hf 81,hf 82,hf 83,hf 84,hf 85,hf 86,hf 87,hf 88,hf 102]
      clear haq hf hd hw
      try dsimp only
      refine h3 _ _ ?_
      go_meet
      refine ⟨Ri3.m ?_ ?_ ?_,Ri3.m ?_ ?_ ?_,?_,?_,?_,?_,?_,?_,?_,?_,?_,?_,?_,?_,?_,?_,?_,?_,?_,?_,?_,?_,?_,?_,?_,?_,Ri3.m ?_ ?_ ?_,Ri4.m ?_ ?_ ?_ ?_,?_,?_,?_,?_,?_,?_,?_,?_,?_,?_,?_,?_,?_,?_,?_,?_,(hg 13 VA (⟨g,8,none⟩,.int .i64 (mmP (x:Int) Q (y:Int) S 1 m2 0 1)) Vs).1,?_,(hg 13 VA (⟨g,9,none⟩,.int .i64 (mmQ (x:Int) Q (y:Int) S 1 m2 0 1)) Vs).1,?_,(hg 13 VA (⟨g,10,none⟩,.int .i64 (mmR (x:Int) Q (y:Int) S 1 m2 0 1)) Vs).1,?_,(hg 13 VA (⟨g,11,none⟩,.int .i64 (mmS (x:Int) Q (y:Int) S 1 m2 0 1)) Vs).1,?_,hS.below⟩
      all_goals first|exact hS.cells (_,_) Vs|exact (hS.free _ Vs).2
    obtain ⟨⟨c00,c01,c02,z0⟩,⟨c10,c11,c12,z1⟩,c20,f20,c21,f21,c22,f22,c23,f23,c24,f24,c25,f25,c26,f26,c27,f27,c28,f28,c29,f29,c210,f210,c211,f211,⟨c30,c31,c32,z3⟩,⟨c40,c41,c42,c43,z4⟩,c50,f50,c51,f51,c52,f52,c53,f53,c54,f54,c55,f55,c56,f56,c57,f57,c58,f58,c59,f59,c510,f510,c511,f511,hb0⟩:=hcut
    have z2:=World.block_lt_of_cell? _ _ c20
    change w.heap.size+1+1<wc.heap.size at z2
    have z5:=World.block_lt_of_cell? _ _ c50
    change g<wc.heap.size at z5
    obtain ⟨wl9,rfl⟩: ∃wl9:World,wl9=wc:=⟨_,rfl⟩
    try clear c00
    try clear c01
    try clear c02
    try clear c10
    try clear c11
    try clear c12
    try clear c30
    try clear c31
    try clear c32
    try clear c40
    try clear c41
    try clear c42
    try clear c43
    go_upto_region 10 with fail
    go_cut [] (fun wx=>wx.cell? ⟨w.heap.size+1+1,0,none⟩=some (.int .i64 a)∧wx.cell? ⟨w.heap.size+1+1,1,none⟩=some (.int .i64 e)∧wx.cell? ⟨w.heap.size+1+1,2,none⟩=some (.int .i64 t)∧wx.cell? ⟨w.heap.size+1+1,3,none⟩=some (.int .i64 s)∧wx.cell? ⟨w.heap.size+1+1,4,none⟩=some (.int .i64 1)∧wx.cell? ⟨w.heap.size+1+1,5,none⟩=some (.int .i64 m1)∧wx.cell? ⟨w.heap.size+1+1,6,none⟩=some (.int .i64 0)∧wx.cell? ⟨w.heap.size+1+1,7,none⟩=some (.int .i64 1)∧wx.cell? ⟨w.heap.size+1+1,8,none⟩=some (.int .i64 (mmP (x:Int) Q (y:Int) S 1 m2 0 1))∧wx.cell? ⟨w.heap.size+1+1,9,none⟩=some (.int .i64 (mmQ (x:Int) Q (y:Int) S 1 m2 0 1))∧wx.cell? ⟨w.heap.size+1+1,10,none⟩=some (.int .i64 (mmR (x:Int) Q (y:Int) S 1 m2 0 1))∧wx.cell? ⟨w.heap.size+1+1,11,none⟩=some (.int .i64 (mmS (x:Int) Q (y:Int) S 1 m2 0 1))∧Below w.heap.size w wx)
    case first=>
     go_wp2
     rename_i K2 h2 h3
     refine h3 _ _ ?_
     (repeat apply Exists.intro)
     exact ⟨⟨setAll_at (w.heap.size+1+1) [.int .i64 a,.int .i64 e,.int .i64 t,.int .i64 s,.int .i64 1,.int .i64 m1,.int .i64 0,.int .i64 1,.int .i64 (mmP (x:Int) Q (y:Int) S 1 m2 0 1),.int .i64 (mmQ (x:Int) Q (y:Int) S 1 m2 0 1),.int .i64 (mmR (x:Int) Q (y:Int) S 1 m2 0 1),.int .i64 (mmS (x:Int) Q (y:Int) S 1 m2 0 1)] 0 wl9 0 (show 0<12 by decide) ⟨_,c20⟩,setAll_at (w.heap.size+1+1) [.int .i64 a,.int .i64 e,.int .i64 t,.int .i64 s,.int .i64 1,.int .i64 m1,.int .i64 0,.int .i64 1,.int .i64 (mmP (x:Int) Q (y:Int) S 1 m2 0 1),.int .i64 (mmQ (x:Int) Q (y:Int) S 1 m2 0 1),.int .i64 (mmR (x:Int) Q (y:Int) S 1 m2 0 1),.int .i64 (mmS (x:Int) Q (y:Int) S 1 m2 0 1)] 0 wl9 1 (show 1<12 by decide) ⟨_,c21⟩,setAll_at (w.heap.size+1+1) [.int .i64 a,.int .i64 e,.int .i64 t,.int .i64 s,.int .i64 1,.int .i64 m1,.int .i64 0,.int .i64 1,.int .i64 (mmP (x:Int) Q (y:Int) S 1 m2 0 1),.int .i64 (mmQ (x:Int) Q (y:Int) S 1 m2 0 1),.int .i64 (mmR (x:Int) Q (y:Int) S 1 m2 0 1),.int .i64 (mmS (x:Int) Q (y:Int) S 1 m2 0 1)] 0 wl9 2 (show 2<12 by decide) ⟨_,c22⟩,setAll_at (w.heap.size+1+1) [.int .i64 a,.int .i64 e,.int .i64 t,.int .i64 s,.int .i64 1,.int .i64 m1,.int .i64 0,.int .i64 1,.int .i64 (mmP (x:Int) Q (y:Int) S 1 m2 0 1),.int .i64 (mmQ (x:Int) Q (y:Int) S 1 m2 0 1),.int .i64 (mmR (x:Int) Q (y:Int) S 1 m2 0 1),.int .i64 (mmS (x:Int) Q (y:Int) S 1 m2 0 1)] 0 wl9 3 (show 3<12 by decide) ⟨_,c23⟩,setAll_at (w.heap.size+1+1) [.int .i64 a,.int .i64 e,.int .i64 t,.int .i64 s,.int .i64 1,.int .i64 m1,.int .i64 0,.int .i64 1,.int .i64 (mmP (x:Int) Q (y:Int) S 1 m2 0 1),.int .i64 (mmQ (x:Int) Q (y:Int) S 1 m2 0 1),.int .i64 (mmR (x:Int) Q (y:Int) S 1 m2 0 1),.int .i64 (mmS (x:Int) Q (y:Int) S 1 m2 0 1)] 0 wl9 4 (show 4<12 by decide) ⟨_,c24⟩,setAll_at (w.heap.size+1+1) [.int .i64 a,.int .i64 e,.int .i64 t,.int .i64 s,.int .i64 1,.int .i64 m1,.int .i64 0,.int .i64 1,.int .i64 (mmP (x:Int) Q (y:Int) S 1 m2 0 1),.int .i64 (mmQ (x:Int) Q (y:Int) S 1 m2 0 1),.int .i64 (mmR (x:Int) Q (y:Int) S 1 m2 0 1),.int .i64 (mmS (x:Int) Q (y:Int) S 1 m2 0 1)] 0 wl9 5 (show 5<12 by decide) ⟨_,c25⟩,setAll_at (w.heap.size+1+1) [.int .i64 a,.int .i64 e,.int .i64 t,.int .i64 s,.int .i64 1,.int .i64 m1,.int .i64 0,.int .i64 1,.int .i64 (mmP (x:Int) Q (y:Int) S 1 m2 0 1),.int .i64 (mmQ (x:Int) Q (y:Int) S 1 m2 0 1),.int .i64 (mmR (x:Int) Q (y:Int) S 1 m2 0 1),.int .i64 (mmS (x:Int) Q (y:Int) S 1 m2 0 1)] 0 wl9 6 (show 6<12 by decide) ⟨_,c26⟩,setAll_at (w.heap.size+1+1) [.int .i64 a,.int .i64 e,.int .i64 t,.int .i64 s,.int .i64 1,.int .i64 m1,.int .i64 0,.int .i64 1,.int .i64 (mmP (x:Int) Q (y:Int) S 1 m2 0 1),.int .i64 (mmQ (x:Int) Q (y:Int) S 1 m2 0 1),.int .i64 (mmR (x:Int) Q (y:Int) S 1 m2 0 1),.int .i64 (mmS (x:Int) Q (y:Int) S 1 m2 0 1)] 0 wl9 7 (show 7<12 by decide) ⟨_,c27⟩,setAll_at (w.heap.size+1+1) [.int .i64 a,.int .i64 e,.int .i64 t,.int .i64 s,.int .i64 1,.int .i64 m1,.int .i64 0,.int .i64 1,.int .i64 (mmP (x:Int) Q (y:Int) S 1 m2 0 1),.int .i64 (mmQ (x:Int) Q (y:Int) S 1 m2 0 1),.int .i64 (mmR (x:Int) Q (y:Int) S 1 m2 0 1),.int .i64 (mmS (x:Int) Q (y:Int) S 1 m2 0 1)] 0 wl9 8 (show 8<12 by decide) ⟨_,c28⟩,setAll_at (w.heap.size+1+1) [.int .i64 a,.int .i64 e,.int .i64 t,.int .i64 s,.int .i64 1,.int .i64 m1,.int .i64 0,.int .i64 1,.int .i64 (mmP (x:Int) Q (y:Int) S 1 m2 0 1),.int .i64 (mmQ (x:Int) Q (y:Int) S 1 m2 0 1),.int .i64 (mmR (x:Int) Q (y:Int) S 1 m2 0 1),.int .i64 (mmS (x:Int) Q (y:Int) S 1 m2 0 1)] 0 wl9 9 (show 9<12 by decide) ⟨_,c29⟩,setAll_at (w.heap.size+1+1) [.int .i64 a,.int .i64 e,.int .i64 t,.int .i64 s,.int .i64 1,.int .i64 m1,.int .i64 0,.int .i64 1,.int .i64 (mmP (x:Int) Q (y:Int) S 1 m2 0 1),.int .i64 (mmQ (x:Int) Q (y:Int) S 1 m2 0 1),.int .i64 (mmR (x:Int) Q (y:Int) S 1 m2 0 1),.int .i64 (mmS (x:Int) Q (y:Int) S 1 m2 0 1)] 0 wl9 10 (show 10<12 by decide) ⟨_,c210⟩,setAll_at (w.heap.size+1+1) [.int .i64 a,.int .i64 e,.int .i64 t,.int .i64 s,.int .i64 1,.int .i64 m1,.int .i64 0,.int .i64 1,.int .i64 (mmP (x:Int) Q (y:Int) S 1 m2 0 1),.int .i64 (mmQ (x:Int) Q (y:Int) S 1 m2 0 1),.int .i64 (mmR (x:Int) Q (y:Int) S 1 m2 0 1),.int .i64 (mmS (x:Int) Q (y:Int) S 1 m2 0 1)] 0 wl9 11 (show 11<12 by decide) ⟨_,c211⟩,setAll_below (w.heap.size+1+1) Vn [.int .i64 a,.int .i64 e,.int .i64 t,.int .i64 s,.int .i64 1,.int .i64 m1,.int .i64 0,.int .i64 1,.int .i64 (mmP (x:Int) Q (y:Int) S 1 m2 0 1),.int .i64 (mmQ (x:Int) Q (y:Int) S 1 m2 0 1),.int .i64 (mmR (x:Int) Q (y:Int) S 1 m2 0 1),.int .i64 (mmS (x:Int) Q (y:Int) S 1 m2 0 1)] 0 wl9 hb0⟩,rfl⟩
    case rest=>
     clear c20 c21 c22 c23 c24 c25 c26 c27 c28 c29 c210 c211 c50 c51 c52 c53 c54 c55 c56 c57 c58 c59 c510 c511 f20 f21 f22 f23 f24 f25 f26 f27 f28 f29 f210 f211 f50 f51 f52 f53 f54 f55 f56 f57 f58 f59 f510 f511
     obtain ⟨c20,c21,c22,c23,c24,c25,c26,c27,c28,c29,c210,c211,hb10⟩:=hcut
     rename_i KK hKK
     refine hKK _ _ ?_
     refine wp_ret ?_
     refine bodyPost_ret (v:= .agg #[.int .i64 a,.int .i64 e,.int .i64 t,.int .i64 s,.int .i64 1,.int .i64 m1,.int .i64 0,.int .i64 1,.int .i64 (mmP (x:Int) Q (y:Int) S 1 m2 0 1),.int .i64 (mmQ (x:Int) Q (y:Int) S 1 m2 0 1),.int .i64 (mmR (x:Int) Q (y:Int) S 1 m2 0 1),.int .i64 (mmS (x:Int) Q (y:Int) S 1 m2 0 1)]) (by simp [results,Tryz.results140,go_sem,c20,c21,c22,c23,c24,c25,c26,c27,c28,c29,c210,c211]) rfl ?_
     exact ⟨by rw[unhide HV],hb10⟩
   ·have hlt:=(unhide HST) y2 hyt (unhide HY) hz
    have HY2:Hid (2*a∣(y2+2*a)-b):=hide (by obtain ⟨z,hz⟩:=unhide HY;exact ⟨z+1,by rw[Int.mul_add];omega⟩)
    go_wp2_with (go_at_call 53;refine (mod_a _ _ _ Vp Vp Vp).mono ?_;rintro e w' ⟨rfl,rfl⟩)
    go_roundg ((t-(y2+2*a)).toNat)
    case rel=>
     refine ⟨y2+2*a,rfl,Vn,hlt,HY2,?_,?_,?_,?_,?_,?_,?_,?_,?_,?_,?_,?_,?_,?_,?_,?_,?_,?_,?_,?_,?_,?_,?_,?_,?_,?_,?_,?_,?_,?_,?_,?_,?_,?_,?_,?_,?_,?_,?_,?_,?_,?_,?_,?_,?_,?_,?_,?_,?_,?_,?_,?_,?_,?_,?_,?_,?_,?_,?_,?_,?_,?_⟩
     all_goals (first|(with_reducible assumption)|((first|with_reducible assumption|((repeat' first|with_reducible (first|assumption|refine cell_al _ ?_|refine cell_eq _ ?_|refine cell_ne _ ?_ ?_|refine ex_set _ ?_|refine ex_al _ ?_|exact ⟨_,VV⟩)|(intro hh;injection hh with hh1 hh2;omega));done)|go_simp);done)|((first|with_reducible assumption|((repeat' first|with_reducible (first|assumption|refine frz_al _ ?_ ?_|refine frz_set _ ?_)|omega|(simp;omega));done)|go_simp);done)|(repeat' first|with_reducible (first|exact Below.refl _ _|assumption|refine gr_alloc ?_ _|refine below_drewN ?_ _|refine below_drew ?_|refine gr_call ?_ VV|refine Below.setCell ?_ ?_ _)|go_size|omega|(simp;omega)))
    case measure=>omega

end Go.Proofs.YtobkcnmlmmhpoaaGreatDoor
