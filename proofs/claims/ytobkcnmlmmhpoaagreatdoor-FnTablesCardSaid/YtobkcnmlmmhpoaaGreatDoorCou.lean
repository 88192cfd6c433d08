/- United forms (spec). -/
import Derived.Test.YtobkcnmlmmhpoaaGreatDoorCmpI
import Derived.Test.YtobkcnmlmmhpoaaGreatDoorOwn
namespace Go.Proofs.YtobkcnmlmmhpoaaGreatDoor
set_option maxRecDepth 100000
set_option maxHeartbeats 80000000
open Go.RowKit
set_option linter.unusedVariables false
set_option linter.unusedSimpArgs false
attribute [local go_sem] q2 q3 q4 q5 q6 q7 q8 q9 q10 q11 q12

theorem reReduce_rw (a b c x y z m0 m1 m2 m3:Int) (h:OkF a b c) (hE:rfA a b c=x∧rfB a b c=y∧rfC a b c=z∧rmP a b c=m0∧rmQ a b c=m1∧rmR a b c=m2∧rmS a b c=m3) (w:World):
  Calls Tryz.prog 139 #[.agg #[.int .i64 a,.int .i64 b,.int .i64 c]] w fun e w'=>e= .returned (.tuple #[.agg #[.int .i64 x,.int .i64 y,.int .i64 z],.agg #[.int .i64 m0,.int .i64 m1,.int .i64 m2,.int .i64 m3]])∧Below w.heap.size w w':=by
 obtain ⟨rfl,rfl,rfl,rfl,rfl,rfl,rfl⟩:=hE
 exact reReduce_a a b c w h
theorem coShift_a (t:Int) (w:World):
  Calls Tryz.prog 166 #[.int .i64 t] w fun e w'=>e= .returned (.agg #[.int .i64 1,.int .i64 t,.int .i64 0,.int .i64 1])∧Below w.heap.size w w':=by
 go_enter Tryz.func166,Tryz.ntmps166
 go_wp2
 refine bodyPost_ret (v:= .agg #[.int .i64 1,.int .i64 t,.int .i64 0,.int .i64 1]) (by simp [results,Tryz.results166,go_sem, *]) rfl ?_
 exact ⟨rfl,byGG⟩
def RetU (a b c p q r:Int) (w:World) (en:Ending) (w':World):Prop:=
 ∃x1 y1 zz1 x2 y2 zz2 e t s g0 gg1 g2 g3 l0 l1 l2 l3:Int,en= .returned (.tuple #[.agg #[.int .i64 x1,.int .i64 t,.int .i64 (e*s)],.agg #[.int .i64 e,.int .i64 t,.int .i64 (x1*s)],.agg #[.int .i64 g0,.int .i64 gg1,.int .i64 g2,.int .i64 g3],.agg #[.int .i64 l0,.int .i64 l1,.int .i64 l2,.int .i64 l3]])∧RdR a b c x1 y1 zz1∧RdR p q r x2 y2 zz2∧IsU x1 y1 zz1 x2 y2 zz2 e t s∧Below w.heap.size w w'
theorem coUnite_r (a b c p q r:Int) (w:World) (hc1:Cls a b c) (hc2:Cls p q r) (hdd:discI p q r=discI a b c):
  Calls Tryz.prog 133 #[.agg #[.int .i64 a,.int .i64 b,.int .i64 c],.agg #[.int .i64 p,.int .i64 q,.int .i64 r]] w (RetU a b c p q r w):=by
 have r1:=rdr_of hc1
 have r2:=rdr_of hc2
 obtain ⟨x1,hx1⟩: ∃x1,rfA a b c=x1:=⟨_,rfl⟩
 obtain ⟨y1,hy1⟩: ∃y1,rfB a b c=y1:=⟨_,rfl⟩
 obtain ⟨zz1,hz1⟩: ∃zz1,rfC a b c=zz1:=⟨_,rfl⟩
 obtain ⟨x2,hx2⟩: ∃x2,rfA p q r=x2:=⟨_,rfl⟩
 obtain ⟨y2,hy2⟩: ∃y2,rfB p q r=y2:=⟨_,rfl⟩
 obtain ⟨zz2,hz2⟩: ∃zz2,rfC p q r=zz2:=⟨_,rfl⟩
 change RdR a b c (rfA a b c) (rfB a b c) (rfC a b c) at r1
 change RdR p q r (rfA p q r) (rfB p q r) (rfC p q r) at r2
 rw[hx1,hy1,hz1] at r1
 rw[hx2,hy2,hz2] at r2
 have h1:RedC x1 y1 zz1:=r1.rc
 have h2:RedC x2 y2 zz2:=r2.rc
 have hD:discI x2 y2 zz2=discI x1 y1 zz1:=by rw[r2.dd,hdd,r1.dd]
 have HR1:=hide r1
 have HR2:=hide r2
 have hk1:=hc1.ok
 have hk2:=hc2.ok
 obtain ⟨m0,m1,m2,m3,E1⟩: ∃m0 m1 m2 m3,rfA a b c=x1∧rfB a b c=y1∧rfC a b c=zz1∧rmP a b c=m0∧rmQ a b c=m1∧rmR a b c=m2∧rmS a b c=m3:=⟨_,_,_,_,hx1,hy1,hz1,rfl,rfl,rfl,rfl⟩
 obtain ⟨n0,n1,n2,n3,E2⟩: ∃m0 m1 m2 m3,rfA p q r=x2∧rfB p q r=y2∧rfC p q r=zz2∧rmP p q r=m0∧rmQ p q r=m1∧rmR p q r=m2∧rmS p q r=m3:=⟨_,_,_,_,hx2,hy2,hz2,rfl,rfl,rfl,rfl⟩
 have hform:=red_form h1
 have hsm:=red_small h1.cls.ok h1.red
 have ha0:=h1.cls.ok.a0
 have hd0:=h1.cls.ok.d0
 have hd1:=h1.cls.ok.d1
 clear hx1 hy1 hz1 hx2 hy2 hz2 r1 r2 hc1 hc2 hdd
 go_enter Tryz.func133,Tryz.ntmps133
 go_wp2_with fail
 refine (reReduce_rw a b c x1 y1 zz1 m0 m1 m2 m3 hk1 E1 _).mono ?_
 rintro en w1 ⟨rfl,hb1⟩
 have tq0:=Ri3.c hb1 w.heap.size a b c
 have tq1:=Ri3.c hb1 (w.heap.size+1) p q r
 have tq2:=Wi3.c hb1 (w.heap.size+1+1) 0 0 0
 have tq3:=Wi3.c hb1 (w.heap.size+1+1+1) 0 0 0
 have tq4:=Wi4.c hb1 (w.heap.size+1+1+1+1) 0 0 0 0
 have tq5:=Wi4.c hb1 (w.heap.size+1+1+1+1+1) 0 0 0 0
 try clear c00 c01 c02
 try clear c10 c11 c12
 try clear c20 c21 c22 f20 f21 f22
 try clear c30 c31 c32 f30 f31 f32
 try clear c40 c41 c42 c43 f40 f41 f42 f43
 try clear c50 c51 c52 c53 f50 f51 f52 f53
 obtain ⟨c00,c01,c02,z0⟩:=tq0
 obtain ⟨c10,c11,c12,z1⟩:=tq1
 obtain ⟨c20,c21,c22,f20,f21,f22,z2⟩:=tq2
 obtain ⟨c30,c31,c32,f30,f31,f32,z3⟩:=tq3
 obtain ⟨c40,c41,c42,c43,f40,f41,f42,f43,z4⟩:=tq4
 obtain ⟨c50,c51,c52,c53,f50,f51,f52,f53,z5⟩:=tq5
 have hs1:=hb1.size
 try clear E1
 have o1:=z5
 go_wp2_with fail
 refine (reReduce_rw p q r x2 y2 zz2 n0 n1 n2 n3 hk2 E2 _).mono ?_
 rintro en w2 ⟨rfl,hb2⟩
 have tq0:=lt_c hb2 w.heap.size
 have tq1:=Ri3.c hb2 (w.heap.size+1) p q r
 have tq2:=Wi3.c hb2 (w.heap.size+1+1) 0 0 0
 have tq3:=Wi3.c hb2 (w.heap.size+1+1+1) 0 0 0
 have tq4:=Wi4.c hb2 (w.heap.size+1+1+1+1) 0 0 0 0
 have tq5:=Wi4.c hb2 (w.heap.size+1+1+1+1+1) 0 0 0 0
 have tq6:=Ri3.c hb2 w1.heap.size x1 y1 zz1
 have tq7:=Wi4.c hb2 (w1.heap.size+1) m0 m1 m2 m3
 try clear c10 c11 c12
 try clear c20 c21 c22 f20 f21 f22
 try clear c30 c31 c32 f30 f31 f32
 try clear c40 c41 c42 c43 f40 f41 f42 f43
 try clear c50 c51 c52 c53 f50 f51 f52 f53
 try clear c60 c61 c62
 try clear c70 c71 c72 c73 f70 f71 f72 f73
 have z0:=tq0
 clear tq0
 obtain ⟨c10,c11,c12,z1⟩:=tq1
 obtain ⟨c20,c21,c22,f20,f21,f22,z2⟩:=tq2
 obtain ⟨c30,c31,c32,f30,f31,f32,z3⟩:=tq3
 obtain ⟨c40,c41,c42,c43,f40,f41,f42,f43,z4⟩:=tq4
 obtain ⟨c50,c51,c52,c53,f50,f51,f52,f53,z5⟩:=tq5
 obtain ⟨c60,c61,c62,z6⟩:=tq6
 obtain ⟨c70,c71,c72,c73,f70,f71,f72,f73,z7⟩:=tq7
 have hs2:=hb2.size
 try clear E2
 have o2:=z7
 go_wp2_with fail
 refine (coPoint_r x2 y2 zz2 x1 _ h2 Vn Vn).mono ?_
 rintro en w3 ⟨k,x,y,rfl,hfp,hb3⟩
 have tq0:=lt_c hb3 w.heap.size
 have tq1:=lt_c hb3 (w.heap.size+1)
 have tq2:=Wi3.c hb3 (w.heap.size+1+1) 0 0 0
 have tq3:=Wi3.c hb3 (w.heap.size+1+1+1) 0 0 0
 have tq4:=Wi4.c hb3 (w.heap.size+1+1+1+1) 0 0 0 0
 have tq5:=Wi4.c hb3 (w.heap.size+1+1+1+1+1) 0 0 0 0
 have tq6:=Ri3.c hb3 w1.heap.size x1 y1 zz1
 have tq7:=Wi4.c hb3 (w1.heap.size+1) m0 m1 m2 m3
 have tq8:=Wi3.c hb3 w2.heap.size x2 y2 zz2
 have tq9:=Wi4.c hb3 (w2.heap.size+1) n0 n1 n2 n3
 try clear c20 c21 c22 f20 f21 f22
 try clear c30 c31 c32 f30 f31 f32
 try clear c40 c41 c42 c43 f40 f41 f42 f43
 try clear c50 c51 c52 c53 f50 f51 f52 f53
 try clear c60 c61 c62
 try clear c70 c71 c72 c73 f70 f71 f72 f73
 try clear c80 c81 c82 f80 f81 f82
 try clear c90 c91 c92 c93 f90 f91 f92 f93
 have z0:=tq0
 clear tq0
 have z1:=tq1
 clear tq1
 obtain ⟨c20,c21,c22,f20,f21,f22,z2⟩:=tq2
 obtain ⟨c30,c31,c32,f30,f31,f32,z3⟩:=tq3
 obtain ⟨c40,c41,c42,c43,f40,f41,f42,f43,z4⟩:=tq4
 obtain ⟨c50,c51,c52,c53,f50,f51,f52,f53,z5⟩:=tq5
 obtain ⟨c60,c61,c62,z6⟩:=tq6
 obtain ⟨c70,c71,c72,c73,f70,f71,f72,f73,z7⟩:=tq7
 obtain ⟨c80,c81,c82,f80,f81,f82,z8⟩:=tq8
 obtain ⟨c90,c91,c92,c93,f90,f91,f92,f93,z9⟩:=tq9
 have hs3:=hb3.size
 obtain ⟨⟨hx,hy,hg⟩,hU⟩:=uni_facts h1 h2 hD hfp
 try clear hfp
 clear hk1 hk2
 go_wp2_with fail
 refine (vaComplete_c x2 y2 zz2 x y _ h2 hx hy hg).mono ?_
 rintro en w4 ⟨P,Q,R,S,rfl,hpm,hb4⟩
 have tq0:=lt_c hb4 w.heap.size
 have tq1:=lt_c hb4 (w.heap.size+1)
 have tq2:=Wi3.c hb4 (w.heap.size+1+1) 0 0 0
 have tq3:=Wi3.c hb4 (w.heap.size+1+1+1) 0 0 0
 have tq4:=Wi4.c hb4 (w.heap.size+1+1+1+1) 0 0 0 0
 have tq5:=Wi4.c hb4 (w.heap.size+1+1+1+1+1) 0 0 0 0
 have tq6:=Ri3.c hb4 w1.heap.size x1 y1 zz1
 have tq7:=Wi4.c hb4 (w1.heap.size+1) m0 m1 m2 m3
 have tq8:=Wi3.c hb4 w2.heap.size x2 y2 zz2
 have tq9:=Wi4.c hb4 (w2.heap.size+1) n0 n1 n2 n3
 try clear c20 c21 c22 f20 f21 f22
 try clear c30 c31 c32 f30 f31 f32
 try clear c40 c41 c42 c43 f40 f41 f42 f43
 try clear c50 c51 c52 c53 f50 f51 f52 f53
 try clear c60 c61 c62
 try clear c70 c71 c72 c73 f70 f71 f72 f73
 try clear c80 c81 c82 f80 f81 f82
 try clear c90 c91 c92 c93 f90 f91 f92 f93
 have z0:=tq0
 clear tq0
 have z1:=tq1
 clear tq1
 obtain ⟨c20,c21,c22,f20,f21,f22,z2⟩:=tq2
 obtain ⟨c30,c31,c32,f30,f31,f32,z3⟩:=tq3
 obtain ⟨c40,c41,c42,c43,f40,f41,f42,f43,z4⟩:=tq4
 obtain ⟨c50,c51,c52,c53,f50,f51,f52,f53,z5⟩:=tq5
 obtain ⟨c60,c61,c62,z6⟩:=tq6
 obtain ⟨c70,c71,c72,c73,f70,f71,f72,f73,z7⟩:=tq7
 obtain ⟨c80,c81,c82,f80,f81,f82,z8⟩:=tq8
 obtain ⟨c90,c91,c92,c93,f90,f91,f92,f93,z9⟩:=tq9
 have hs4:=hb4.size
 have o4:=z9
 obtain ⟨rfl,eQ,rfl,eS⟩:=hpm
 clear eQ eS
 have HT:cmT (y1%(2*x1)) x1 (cpB x2 y2 zz2 x y) (cpE x2 y2 zz2 x y)=uT x1 y1 (cpE x2 y2 zz2 x y) (cpB x2 y2 zz2 x y):=rfl
 generalize uS x1 y1 zz1 (cpE x2 y2 zz2 x y) (cpB x2 y2 zz2 x y)=s at*
 generalize uT x1 y1 (cpE x2 y2 zz2 x y) (cpB x2 y2 zz2 x y)=t at*
 generalize cpE x2 y2 zz2 x y=e at*
 generalize cpB x2 y2 zz2 x y=B at*
 generalize cpC x2 y2 zz2 x y=C at*
 replace HT:=hide HT
 obtain ⟨u0,u1,⟨u2,u3⟩,e0,e1,v0,v1,g1,par,t0,t1,⟨ae0,ae1⟩,ta,te,uni,⟨tt0,tt1⟩,ss,ss0,ss1,isu⟩:=hU
 have HU:=hide isu
 have E2':2*x1*e=2*(x1*e):=Int.mul_assoc _ _ _
 have E4:4*x1*e=4*(x1*e):=Int.mul_assoc _ _ _
 obtain ⟨d1,hd1'⟩:=ta
 obtain ⟨d2,hd2'⟩:=te
 have mb1: -1100000≤d1∧d1≤1100000:=quot_bd (a:=2*x1) (t:=t-y1) Vn hd1' Vn
 have mb2: -1100000≤d2∧d2≤1100000:=quot_bd (a:=2*e) (t:=t-B) Vn hd2' Vn
 have Q1:(t-y1).tdiv (2*x1)=d1:=by rw[hd1',Int.mul_tdiv_cancel_left _ Vn]
 have Q2:(t-B).tdiv (2*e)=d2:=by rw[hd2',Int.mul_tdiv_cancel_left _ Vn]
 have HX1:IntKind.i64.wrap ((t-y1).tdiv (2*x1))=d1:=by rw[Q1];exact int_in Vn
 have HX2:IntKind.i64.wrap ((t-B).tdiv (2*e))=d2:=by rw[Q2];exact int_in Vn
 have HX3:IntKind.i64.wrap ((t*t-discI x1 y1 zz1).tdiv (4*x1*e))=s:=by rw[ss];exact int_in Vn
 have EB4:0<4*x1*e∧4*x1*e≤2080000:=by omega
 have bt:0≤t∧t≤1040000:=by omega
 have es: -10000000000000≤e*s∧e*s≤10000000000000:=mul_bd (A:=20000) (B:=500000000) Vn Vn Vn
 have xs: -10000000000000≤x1*s∧x1*s≤10000000000000:=mul_bd (A:=20000) (B:=500000000) Vn Vn Vn
 have ym0:=Int.emod_nonneg y1 (show 2*x1≠0 by omega)
 have ym1:=Int.emod_lt_of_pos y1 (show 0<2*x1 by omega)
 replace par:=hide par
 clear E2' E4 uni ss isu hd1' hd2' Q1 Q2 h1 h2 hD hx hy hg
 go_wp2_with fail
 refine (foMul_a n0 n1 n2 n3 (x:Int) Q (y:Int) S _).mono ?_
 rintro en w5 ⟨rfl,hb5⟩
 have tq0:=lt_c hb5 w.heap.size
 have tq1:=lt_c hb5 (w.heap.size+1)
 have tq2:=Wi3.c hb5 (w.heap.size+1+1) 0 0 0
 have tq3:=Wi3.c hb5 (w.heap.size+1+1+1) 0 0 0
 have tq4:=Wi4.c hb5 (w.heap.size+1+1+1+1) 0 0 0 0
 have tq5:=Wi4.c hb5 (w.heap.size+1+1+1+1+1) 0 0 0 0
 have tq6:=Ri3.c hb5 w1.heap.size x1 y1 zz1
 have tq7:=Wi4.c hb5 (w1.heap.size+1) m0 m1 m2 m3
 have tq8:=Wi3.c hb5 w2.heap.size e B C
 have tq9:=Wi4.c hb5 (w2.heap.size+1) n0 n1 n2 n3
 try clear c20 c21 c22 f20 f21 f22
 try clear c30 c31 c32 f30 f31 f32
 try clear c40 c41 c42 c43 f40 f41 f42 f43
 try clear c50 c51 c52 c53 f50 f51 f52 f53
 try clear c60 c61 c62
 try clear c70 c71 c72 c73 f70 f71 f72 f73
 try clear c80 c81 c82 f80 f81 f82
 try clear c90 c91 c92 c93 f90 f91 f92 f93
 have z0:=tq0
 clear tq0
 have z1:=tq1
 clear tq1
 obtain ⟨c20,c21,c22,f20,f21,f22,z2⟩:=tq2
 obtain ⟨c30,c31,c32,f30,f31,f32,z3⟩:=tq3
 obtain ⟨c40,c41,c42,c43,f40,f41,f42,f43,z4⟩:=tq4
 obtain ⟨c50,c51,c52,c53,f50,f51,f52,f53,z5⟩:=tq5
 obtain ⟨c60,c61,c62,z6⟩:=tq6
 obtain ⟨c70,c71,c72,c73,f70,f71,f72,f73,z7⟩:=tq7
 obtain ⟨c80,c81,c82,f80,f81,f82,z8⟩:=tq8
 obtain ⟨c90,c91,c92,c93,f90,f91,f92,f93,z9⟩:=tq9
 have hs5:=hb5.size
 have HXC:True:=trivial
 generalize mmP n0 n1 n2 n3 (x:Int) Q (y:Int) S=k0 at*
 generalize mmQ n0 n1 n2 n3 (x:Int) Q (y:Int) S=k1 at*
 generalize mmR n0 n1 n2 n3 (x:Int) Q (y:Int) S=k2 at*
 generalize mmS n0 n1 n2 n3 (x:Int) Q (y:Int) S=k3 at*

 go_upto_region 6 with fail
 go_cut [15] (fun s15 wx=>s15= .int .i64 t∧Wi3 wx (w.heap.size+1+1) 0 0 0∧Wi3 wx (w.heap.size+1+1+1) 0 0 0∧Wi4 wx (w.heap.size+1+1+1+1) 0 0 0 0∧Wi4 wx (w.heap.size+1+1+1+1+1) 0 0 0 0∧Ri3 wx w1.heap.size x1 y1 zz1∧Wi4 wx (w1.heap.size+1) m0 m1 m2 m3∧Ri3 wx w2.heap.size e B C∧Wi4 wx (w2.heap.size+1) k0 k1 k2 k3∧Below w.heap.size w wx)
 case first=>
  have h1:=trivial
  rename_i K2 h2 h3
  refine region_n0 Vw (fun j=> #[47,48,49,50,51,52,53,54,55,56,57,58,59,60,61,46,62,63,64,15,16,17].getD j 0) (fun j=>Kd.ok ((fun j=>match j with|0=>Kd.val (.pointer (some ⟨w1.heap.size,1,none⟩))|1=>Kd.val (.int .i64 y1)|2=>Kd.val (.pointer (some ⟨w1.heap.size,0,none⟩))|3=>Kd.val (.int .i64 x1)|4=>Kd.val (.int .i64 (2*x1))|5=>Kd.val (.int .i64 (y1%(2*x1)))|6=>Kd.val (.pointer (some ⟨w1.heap.size,0,none⟩))|7=>Kd.val (.int .i64 x1)|8=>Kd.val (.int .i64 (2*x1))|9=>Kd.val (.pointer (some ⟨w2.heap.size,1,none⟩))|10=>Kd.val (.int .i64 B)|11=>Kd.val (.pointer (some ⟨w2.heap.size,0,none⟩))|12=>Kd.val (.int .i64 e)|13=>Kd.val (.int .i64 (2*e))|14=>Kd.val (.tuple #[.int .i64 t,.int .i64 (x1*(2*e)),.bool true])|15=>Kd.val (.tuple #[.int .i64 t,.int .i64 (x1*(2*e)),.bool true])|16=>Kd.val (.int .i64 t)|17=>Kd.val (.int .i64 (x1*(2*e)))|18=>Kd.val (.bool true)|19=>Kd.val (.int .i64 t)|20=>Kd.val (.int .i64 (x1*(2*e)))|21=>Kd.val (.bool true)|_=>Kd.any:Nat→Kd) j)) (Sy w (w5.heap.size) [(⟨w.heap.size+1+1,0,none⟩,.int .i64 0),(⟨w.heap.size+1+1,1,none⟩,.int .i64 0),(⟨w.heap.size+1+1,2,none⟩,.int .i64 0),(⟨w.heap.size+1+1+1,0,none⟩,.int .i64 0),(⟨w.heap.size+1+1+1,1,none⟩,.int .i64 0),(⟨w.heap.size+1+1+1,2,none⟩,.int .i64 0),(⟨w.heap.size+1+1+1+1,0,none⟩,.int .i64 0),(⟨w.heap.size+1+1+1+1,1,none⟩,.int .i64 0),(⟨w.heap.size+1+1+1+1,2,none⟩,.int .i64 0),(⟨w.heap.size+1+1+1+1,3,none⟩,.int .i64 0),(⟨w.heap.size+1+1+1+1+1,0,none⟩,.int .i64 0),(⟨w.heap.size+1+1+1+1+1,1,none⟩,.int .i64 0),(⟨w.heap.size+1+1+1+1+1,2,none⟩,.int .i64 0),(⟨w.heap.size+1+1+1+1+1,3,none⟩,.int .i64 0),(⟨w1.heap.size,0,none⟩,.int .i64 x1),(⟨w1.heap.size,1,none⟩,.int .i64 y1),(⟨w1.heap.size,2,none⟩,.int .i64 zz1),(⟨w1.heap.size+1,0,none⟩,.int .i64 m0),(⟨w1.heap.size+1,1,none⟩,.int .i64 m1),(⟨w1.heap.size+1,2,none⟩,.int .i64 m2),(⟨w1.heap.size+1,3,none⟩,.int .i64 m3),(⟨w2.heap.size,0,none⟩,.int .i64 e),(⟨w2.heap.size,1,none⟩,.int .i64 B),(⟨w2.heap.size,2,none⟩,.int .i64 C),(⟨w2.heap.size+1,0,none⟩,.int .i64 k0),(⟨w2.heap.size+1,1,none⟩,.int .i64 k1),(⟨w2.heap.size+1,2,none⟩,.int .i64 k2),(⟨w2.heap.size+1,3,none⟩,.int .i64 k3)] [⟨w.heap.size+1+1,0,none⟩,⟨w.heap.size+1+1,1,none⟩,⟨w.heap.size+1+1,2,none⟩,⟨w.heap.size+1+1+1,0,none⟩,⟨w.heap.size+1+1+1,1,none⟩,⟨w.heap.size+1+1+1,2,none⟩,⟨w.heap.size+1+1+1+1,0,none⟩,⟨w.heap.size+1+1+1+1,1,none⟩,⟨w.heap.size+1+1+1+1,2,none⟩,⟨w.heap.size+1+1+1+1,3,none⟩,⟨w.heap.size+1+1+1+1+1,0,none⟩,⟨w.heap.size+1+1+1+1+1,1,none⟩,⟨w.heap.size+1+1+1+1+1,2,none⟩,⟨w.heap.size+1+1+1+1+1,3,none⟩,⟨w1.heap.size+1,0,none⟩,⟨w1.heap.size+1,1,none⟩,⟨w1.heap.size+1,2,none⟩,⟨w1.heap.size+1,3,none⟩,⟨w2.heap.size+1,0,none⟩,⟨w2.heap.size+1,1,none⟩,⟨w2.heap.size+1,2,none⟩,⟨w2.heap.size+1,3,none⟩]) Vw Vw ?_ ?_ ?_ ?_
  ·intro j hj
   have hj2:j<22:=hj
   have: ∀j,j<22→(#[47,48,49,50,51,52,53,54,55,56,57,58,59,60,61,46,62,63,64,15,16,17]:Array Nat).getD j 0<118:=by decide
   exact this j hj2
  ·refine Sy.drew (Sy.mk_of ?_ ?_ ?_ ?_)
   ·first|rfl|(simp;done)|(simp;omega)
   ·intro c hc
    simp only[List.mem_cons,List.not_mem_nil,or_false] at hc
    rcases hc with rfl|rfl|rfl|rfl|rfl|rfl|rfl|rfl|rfl|rfl|rfl|rfl|rfl|rfl|rfl|rfl|rfl|rfl|rfl|rfl|rfl|rfl|rfl|rfl|rfl|rfl|rfl|rfl<;>exact byCT
   ·intro p hp
    simp only[List.mem_cons,List.not_mem_nil,or_false] at hp
    rcases hp with rfl|rfl|rfl|rfl|rfl|rfl|rfl|rfl|rfl|rfl|rfl|rfl|rfl|rfl|rfl|rfl|rfl|rfl|rfl|rfl|rfl|rfl<;>exact ⟨by first|((repeat' with_reducible (first|refine ex_set _ ?_|refine ex_al _ ?_|exact ⟨_,VV⟩));done)|first|exact ⟨_,VV⟩|assumption|(go_simp;done)|(go_simp;exact ⟨_,rfl⟩),by first|((repeat' first|with_reducible (first|assumption|refine frz_al _ ?_ ?_|refine frz_set _ ?_)|omega|(simp;omega));done)|assumption|(go_simp;done)⟩
   ·(repeat' first|with_reducible (first|exact Below.refl _ _|assumption|refine gr_alloc ?_ _|refine below_drewN ?_ _|refine below_drew ?_|refine gr_call ?_ VV|refine Below.setCell ?_ ?_ _)|go_size|omega|(simp;omega))
  ·clear h1 h2 h3
   refine ⟨?r17x0,?r17x1,?r17x2,?r17x3,?r17x4,?r17x5,?r17x6,?r17x7,?r17x8,?r17x9,?r17x10,?r17x11,?r17x12,?r17x13,?r17x14,?r17x15,?r17x16,?r17x17,?r17x18,?r17x19,?r17x20,?r17x21,trivial⟩
   all_goals intro _ aq wx Kq hf hS hdep ev1 ev2 hK
   case' r17x0=>
    have F8:aq.eval (.tmp 8)= .pointer (some ⟨w1.heap.size,0,none⟩):=hf 8
   case' r17x1=>
    have D0:aq.eval (.tmp 47)=_:=hdep 0
    have c0:=hS.cells (⟨w1.heap.size,1,none⟩,.int .i64 y1) Vs
   case' r17x2=>
    have F8:aq.eval (.tmp 8)= .pointer (some ⟨w1.heap.size,0,none⟩):=hf 8
   case' r17x3=>
    have D2:aq.eval (.tmp 49)=_:=hdep 2
    have c0:=hS.cells (⟨w1.heap.size,0,none⟩,.int .i64 x1) Vs
   case' r17x4=>
    have D3:aq.eval (.tmp 50)=_:=hdep 3
   case' r17x5=>
    have D1:aq.eval (.tmp 48)=_:=hdep 1
    have D4:aq.eval (.tmp 51)=_:=hdep 4
   case' r17x6=>
    have F8:aq.eval (.tmp 8)= .pointer (some ⟨w1.heap.size,0,none⟩):=hf 8
   case' r17x7=>
    have D6:aq.eval (.tmp 53)=_:=hdep 6
    have c0:=hS.cells (⟨w1.heap.size,0,none⟩,.int .i64 x1) Vs
   case' r17x8=>
    have D7:aq.eval (.tmp 54)=_:=hdep 7
   case' r17x9=>
    have F10:aq.eval (.tmp 10)= .pointer (some ⟨w2.heap.size,0,none⟩):=hf 10
   case' r17x10=>
    have D9:aq.eval (.tmp 56)=_:=hdep 9
    have c0:=hS.cells (⟨w2.heap.size,1,none⟩,.int .i64 B) Vs
   case' r17x11=>
    have F10:aq.eval (.tmp 10)= .pointer (some ⟨w2.heap.size,0,none⟩):=hf 10
   case' r17x12=>
    have D11:aq.eval (.tmp 58)=_:=hdep 11
    have c0:=hS.cells (⟨w2.heap.size,0,none⟩,.int .i64 e) Vs
   case' r17x13=>
    have D12:aq.eval (.tmp 59)=_:=hdep 12
   case' r17x14=>
    have D5:aq.eval (.tmp 52)=_:=hdep 5
    have D8:aq.eval (.tmp 55)=_:=hdep 8
    have D10:aq.eval (.tmp 57)=_:=hdep 10
    have D13:aq.eval (.tmp 60)=_:=hdep 13
   case' r17x15=>
    have D14:aq.eval (.tmp 61)=_:=hdep 14
   case' r17x16=>
    have D15:aq.eval (.tmp 46)=_:=hdep 15
   case' r17x17=>
    have D15:aq.eval (.tmp 46)=_:=hdep 15
   case' r17x18=>
    have D15:aq.eval (.tmp 46)=_:=hdep 15
   case' r17x19=>
    have D16:aq.eval (.tmp 62)=_:=hdep 16
   case' r17x20=>
    have D17:aq.eval (.tmp 63)=_:=hdep 17
   case' r17x21=>
    have D18:aq.eval (.tmp 64)=_:=hdep 18
   all_goals (clear hf hdep;unfold Oper.wp;generalize Act.eval _=ev at *;go_simp)
   case r17x5=>
    refine ((nuMod_a y1 (2*x1) _ Vn Vn Vn)).mono ?_
    rintro e w2 ⟨rfl,rfl⟩
    refine hK _ _ (hS.call (below_refl_self _)) ?_ (fun j u _ h=>Kd.ok_below (below_refl_self _) h)
    rw[if_pos VH]
    show (_:Value)=_
    first|rfl|(refine congrArg (Value.int .i64) ?_;first|rfl|exact int_in Vn|exact quo_in Vn Vn Vn|exact rem_in Vn Vn|omega)|(simp;done)|(simp [*];done)
   case r17x14=>
    refine ((nuCommon_rw _ _ _ _ t _ Vn Vn Vn Vn Vn Vn g1 (unhide par) (unhide HT))).mono ?_
    rintro e w2 ⟨rfl,hb⟩
    refine hK _ _ (hS.call hb) ?_ (fun j u _ h=>Kd.ok_below hb h)
    rw[if_pos VH]
    show (_:Value)=_
    first|rfl|(refine congrArg (Value.int .i64) ?_;first|rfl|exact int_in Vn|exact quo_in Vn Vn Vn|exact rem_in Vn Vn|omega)|(simp;done)|(simp [*];done)
   all_goals (refine hK _ _ hS ?_ (fun j u _ h=>h);rw [if_pos VH];show (_:Value)=_;(first|rfl|(refine congrArg (Value.int .i64) ?_;first|rfl|exact int_in Vn|exact quo_in Vn Vn Vn|exact rem_in Vn Vn|omega)|(simp;done)|(simp [*];done)))
  ·intro aq wx hd hw hf hS hg
   have G15:tau aq 15= .int .i64 t:=hg 19 VA
   have haq:aq=⟨#[tau aq 0,tau aq 1,tau aq 2,tau aq 3,tau aq 4,tau aq 5,tau aq 6,tau aq 7,tau aq 8,tau aq 9,tau aq 10,tau aq 11,tau aq 12,tau aq 13,tau aq 14,tau aq 15,tau aq 16,tau aq 17,tau aq 18,tau aq 19,tau aq 20,tau aq 21,tau aq 22,tau aq 23,tau aq 24,tau aq 25,tau aq 26,tau aq 27,tau aq 28,tau aq 29,tau aq 30,tau aq 31,tau aq 32,tau aq 33,tau aq 34,tau aq 35,tau aq 36,tau aq 37,tau aq 38,tau aq 39,tau aq 40,tau aq 41,tau aq 42,tau aq 43,tau aq 44,tau aq 45,tau aq 46,tau aq 47,tau aq 48,tau aq 49,tau aq 50,tau aq 51,tau aq 52,tau aq 53,tau aq 54,tau aq 55,tau aq 56,tau aq 57,tau aq 58,tau aq 59,tau aq 60,tau aq 61,tau aq 62,tau aq 63,tau aq 64,tau aq 65,tau aq 66,tau aq 67,tau aq 68,tau aq 69,tau aq 70,tau aq 71,tau aq 72,tau aq 73,tau aq 74,tau aq 75,tau aq 76,tau aq 77,tau aq 78,tau aq 79,tau aq 80,tau aq 81,tau aq 82,tau aq 83,tau aq 84,tau aq 85,tau aq 86,tau aq 87,tau aq 88,tau aq 89,tau aq 90,tau aq 91,tau aq 92,tau aq 93,tau aq 94,tau aq 95,tau aq 96,tau aq 97,tau aq 98,tau aq 99,tau aq 100,tau aq 101,tau aq 102,tau aq 103,tau aq 104,tau aq 105,tau aq 106,tau aq 107,tau aq 108,tau aq 109,tau aq 110,tau aq 111,tau aq 112,tau aq 113,tau aq 114,tau aq 115,tau aq 116,tau aq 117],[]⟩:=by
    obtain ⟨tq,dq⟩:=aq
    have h5:=arr_eq (show tq.size=118 from hw)
    have h6:dq= []:=hd
    subst h6
    exact congrArg (fun z=>Act.mk z []) h5
   show K2 aq wx
   rw[haq,hf 0,hf 1,hf 2,hf 3,hf 4,hf 5,hf 6,hf 7,hf 8,hf 9,hf 10,hf 11,hf 12,hf 13,hf 14,hf 18,hf 19,hf 20,hf 21,hf 22,hf 23,hf 24,hf 25,hf 26,hf 27,hf 28,hf 29,hf 30,hf 31,hf 32,hf 33,hf 34,hf 35,hf 36,hf 37,hf 38,hf 39,hf 40,hf 41,hf 42,hf 43,hf 44,hf 45,hf 65,hf 66,hf 67,hf 68,hf 69,hf 70,hf 71,hf 72,hf 73,hf 74,hf 75,hf 76,hf 77,hf 78,hf 79,hf 80,hf 81,hf 82,hf 83,hf 84,hf 85,hf 86,hf 87,hf 88,hf 89,hf 90,hf 91,hf 92,hf 93,hf 94,hf 95,hf 96,hf 97,hf 98,hf 99,hf 100,hf 101,hf 102,hf 103,hf 104,hf 105,hf 106,hf 107,hf 108,hf 109,hf 110,hf 111,hf 112,hf 113,hf 114,hf 115,hf 116,hf 117,G15]
   clear haq hf hd hw
   try dsimp only
   refine h3 _ _ ?_
   go_meet
   refine ⟨rfl,Wi3.m ?_ ?_ ?_ ?_ ?_ ?_,Wi3.m ?_ ?_ ?_ ?_ ?_ ?_,Wi4.m ?_ ?_ ?_ ?_ ?_ ?_ ?_ ?_,Wi4.m ?_ ?_ ?_ ?_ ?_ ?_ ?_ ?_,Ri3.m ?_ ?_ ?_,Wi4.m ?_ ?_ ?_ ?_ ?_ ?_ ?_ ?_,Ri3.m ?_ ?_ ?_,Wi4.m ?_ ?_ ?_ ?_ ?_ ?_ ?_ ?_,hS.below⟩
   all_goals first|exact hS.cells (_,_) Vs|exact (hS.free _ Vs).2
 try clear c20
 try clear c21
 try clear c22
 try clear c30
 try clear c31
 try clear c32
 try clear c40
 try clear c41
 try clear c42
 try clear c43
 try clear c50
 try clear c51
 try clear c52
 try clear c53
 try clear c60
 try clear c61
 try clear c62
 try clear c70
 try clear c71
 try clear c72
 try clear c73
 try clear c80
 try clear c81
 try clear c82
 try clear c90
 try clear c91
 try clear c92
 try clear c93
 try clear c100
 try clear c101
 try clear c102
 try clear c103
 try clear f20
 try clear f21
 try clear f22
 try clear f30
 try clear f31
 try clear f32
 try clear f40
 try clear f41
 try clear f42
 try clear f43
 try clear f50
 try clear f51
 try clear f52
 try clear f53
 try clear f70
 try clear f71
 try clear f72
 try clear f73
 try clear f80
 try clear f81
 try clear f82
 try clear f90
 try clear f91
 try clear f92
 try clear f93
 try clear c00
 try clear c01
 try clear c02
 try clear c10
 try clear c11
 try clear c12
 try clear c03
 try clear c13
 try clear c23
 try clear c33
 try clear c63
 try clear c83
 try clear f00
 try clear f01
 try clear f02
 try clear f03
 try clear f10
 try clear f11
 try clear f12
 try clear f13
 try clear f23
 try clear f33
 try clear f60
 try clear f61
 try clear f62
 try clear f63
 try clear f83
 try clear f100
 try clear f101
 try clear f102
 try clear f103
 obtain ⟨rfl,⟨c00,c01,c02,f00,f01,f02,z0⟩,⟨c10,c11,c12,f10,f11,f12,z1⟩,⟨c20,c21,c22,c23,f20,f21,f22,f23,z2⟩,⟨c30,c31,c32,c33,f30,f31,f32,f33,z3⟩,⟨c40,c41,c42,z4⟩,⟨c50,c51,c52,c53,f50,f51,f52,f53,z5⟩,⟨c60,c61,c62,z6⟩,⟨c70,c71,c72,c73,f70,f71,f72,f73,z7⟩,hb0⟩:=hcut
 obtain ⟨wd6,rfl⟩: ∃wd6:World,wd6=wc:=⟨_,rfl⟩
 go_upto_region 7 with fail
 go_cut [] (fun  wx=>Wi3 wx (w.heap.size+1+1) 0 0 0∧Wi3 wx (w.heap.size+1+1+1) 0 0 0∧Wi4 wx (w.heap.size+1+1+1+1) 0 0 0 0∧Wi4 wx (w.heap.size+1+1+1+1+1) 0 0 0 0∧Ri3 wx w1.heap.size x1 y1 zz1∧Wi4 wx (w1.heap.size+1) (mmP m0 m1 m2 m3 1 d1 0 1) (mmQ m0 m1 m2 m3 1 d1 0 1) (mmR m0 m1 m2 m3 1 d1 0 1) (mmS m0 m1 m2 m3 1 d1 0 1)∧Ri3 wx w2.heap.size e B C∧Wi4 wx (w2.heap.size+1) k0 k1 k2 k3∧Below w.heap.size w wx)
 case first=>
  have h1:=trivial
  rename_i K2 h2 h3
  refine region_n3 Vw (fun j=> #[65,66,67,68,69,70,71,72,73,74,75,9].getD j 0) (fun j=>Kd.ok ((fun j=>match j with|0=>Kd.val (.agg #[.int .i64 m0,.int .i64 m1,.int .i64 m2,.int .i64 m3])|1=>Kd.val (.int .i64 t)|2=>Kd.val (.pointer (some ⟨w1.heap.size,1,none⟩))|3=>Kd.val (.int .i64 y1)|4=>Kd.val (.int .i64 (t-y1))|5=>Kd.val (.pointer (some ⟨w1.heap.size,0,none⟩))|6=>Kd.val (.int .i64 x1)|7=>Kd.val (.int .i64 (2*x1))|8=>Kd.val (.int .i64 d1)|9=>Kd.val (.agg #[.int .i64 1,.int .i64 d1,.int .i64 0,.int .i64 1])|10=>Kd.val (.agg #[.int .i64 (mmP m0 m1 m2 m3 1 d1 0 1),.int .i64 (mmQ m0 m1 m2 m3 1 d1 0 1),.int .i64 (mmR m0 m1 m2 m3 1 d1 0 1),.int .i64 (mmS m0 m1 m2 m3 1 d1 0 1)])|11=>Kd.old (wd6.heap.size) [(⟨w1.heap.size+1,0,none⟩,.int .i64 (mmP m0 m1 m2 m3 1 d1 0 1)),(⟨w1.heap.size+1,1,none⟩,.int .i64 (mmQ m0 m1 m2 m3 1 d1 0 1)),(⟨w1.heap.size+1,2,none⟩,.int .i64 (mmR m0 m1 m2 m3 1 d1 0 1)),(⟨w1.heap.size+1,3,none⟩,.int .i64 (mmS m0 m1 m2 m3 1 d1 0 1))]|_=>Kd.any:Nat→Kd) j)) (Sy w (wd6.heap.size) [(⟨w.heap.size+1+1,0,none⟩,.int .i64 0),(⟨w.heap.size+1+1,1,none⟩,.int .i64 0),(⟨w.heap.size+1+1,2,none⟩,.int .i64 0),(⟨w.heap.size+1+1+1,0,none⟩,.int .i64 0),(⟨w.heap.size+1+1+1,1,none⟩,.int .i64 0),(⟨w.heap.size+1+1+1,2,none⟩,.int .i64 0),(⟨w.heap.size+1+1+1+1,0,none⟩,.int .i64 0),(⟨w.heap.size+1+1+1+1,1,none⟩,.int .i64 0),(⟨w.heap.size+1+1+1+1,2,none⟩,.int .i64 0),(⟨w.heap.size+1+1+1+1,3,none⟩,.int .i64 0),(⟨w.heap.size+1+1+1+1+1,0,none⟩,.int .i64 0),(⟨w.heap.size+1+1+1+1+1,1,none⟩,.int .i64 0),(⟨w.heap.size+1+1+1+1+1,2,none⟩,.int .i64 0),(⟨w.heap.size+1+1+1+1+1,3,none⟩,.int .i64 0),(⟨w1.heap.size,0,none⟩,.int .i64 x1),(⟨w1.heap.size,1,none⟩,.int .i64 y1),(⟨w1.heap.size,2,none⟩,.int .i64 zz1),(⟨w2.heap.size,0,none⟩,.int .i64 e),(⟨w2.heap.size,1,none⟩,.int .i64 B),(⟨w2.heap.size,2,none⟩,.int .i64 C),(⟨w2.heap.size+1,0,none⟩,.int .i64 k0),(⟨w2.heap.size+1,1,none⟩,.int .i64 k1),(⟨w2.heap.size+1,2,none⟩,.int .i64 k2),(⟨w2.heap.size+1,3,none⟩,.int .i64 k3)] [⟨w.heap.size+1+1,0,none⟩,⟨w.heap.size+1+1,1,none⟩,⟨w.heap.size+1+1,2,none⟩,⟨w.heap.size+1+1+1,0,none⟩,⟨w.heap.size+1+1+1,1,none⟩,⟨w.heap.size+1+1+1,2,none⟩,⟨w.heap.size+1+1+1+1,0,none⟩,⟨w.heap.size+1+1+1+1,1,none⟩,⟨w.heap.size+1+1+1+1,2,none⟩,⟨w.heap.size+1+1+1+1,3,none⟩,⟨w.heap.size+1+1+1+1+1,0,none⟩,⟨w.heap.size+1+1+1+1+1,1,none⟩,⟨w.heap.size+1+1+1+1+1,2,none⟩,⟨w.heap.size+1+1+1+1+1,3,none⟩,⟨w1.heap.size+1,0,none⟩,⟨w1.heap.size+1,1,none⟩,⟨w1.heap.size+1,2,none⟩,⟨w1.heap.size+1,3,none⟩,⟨w2.heap.size+1,0,none⟩,⟨w2.heap.size+1,1,none⟩,⟨w2.heap.size+1,2,none⟩,⟨w2.heap.size+1,3,none⟩]) (fun j wq9=>Kd.ok ((fun j=>match j with|0=>Kd.any|1=>Kd.any|2=>Kd.any|3=>Kd.any|4=>Kd.any|5=>Kd.any|6=>Kd.any|7=>Kd.any|8=>Kd.any|9=>Kd.any|10=>Kd.any|11=>Kd.old (wd6.heap.size) [(⟨w1.heap.size+1,0,none⟩,.int .i64 m0),(⟨w1.heap.size+1,1,none⟩,.int .i64 m1),(⟨w1.heap.size+1,2,none⟩,.int .i64 m2),(⟨w1.heap.size+1,3,none⟩,.int .i64 m3)]|_=>Kd.any:Nat→Kd) j) wq9 undef) (fun _=>true) Vw ?_ (hrun_none Vw) (fun i o ho h=>by cases h) ?_ ?_ ?_ ?_
  ·intro j hj
   have hj2:j<12:=hj
   have: ∀j,j<12→(#[65,66,67,68,69,70,71,72,73,74,75,9]:Array Nat).getD j 0<118:=by decide
   exact this j hj2
  ·refine Sy.drew (Sy.mk_of ?_ ?_ ?_ ?_)
   ·first|rfl|(simp;done)|(simp;omega)
   ·intro c hc
    simp only[List.mem_cons,List.not_mem_nil,or_false] at hc
    rcases hc with rfl|rfl|rfl|rfl|rfl|rfl|rfl|rfl|rfl|rfl|rfl|rfl|rfl|rfl|rfl|rfl|rfl|rfl|rfl|rfl|rfl|rfl|rfl|rfl<;>exact byCT
   ·intro p hp
    simp only[List.mem_cons,List.not_mem_nil,or_false] at hp
    rcases hp with rfl|rfl|rfl|rfl|rfl|rfl|rfl|rfl|rfl|rfl|rfl|rfl|rfl|rfl|rfl|rfl|rfl|rfl|rfl|rfl|rfl|rfl<;>exact ⟨by first|((repeat' with_reducible (first|refine ex_set _ ?_|refine ex_al _ ?_|exact ⟨_,VV⟩));done)|first|exact ⟨_,VV⟩|assumption|(go_simp;done)|(go_simp;exact ⟨_,rfl⟩),by first|((repeat' first|with_reducible (first|assumption|refine frz_al _ ?_ ?_|refine frz_set _ ?_)|omega|(simp;omega));done)|assumption|(go_simp;done)⟩
   ·(repeat' first|with_reducible (first|exact Below.refl _ _|assumption|refine gr_alloc ?_ _|refine below_drewN ?_ _|refine below_drew ?_|refine gr_call ?_ VV|refine Below.setCell ?_ ?_ _)|go_size|omega|(simp;omega))
  ·intro j hj
   match j,hj with
   |0,_=>trivial
   |1,_=>trivial
   |2,_=>trivial
   |3,_=>trivial
   |4,_=>trivial
   |5,_=>trivial
   |6,_=>trivial
   |7,_=>trivial
   |8,_=>trivial
   |9,_=>trivial
   |10,_=>trivial
   |11,_=>
    intro c hc
    simp only[List.mem_cons,List.not_mem_nil,or_false] at hc
    rcases hc with rfl|rfl|rfl|rfl<;>exact ⟨byCT,Vr⟩
   |j+12,hj=>exact absurd (show j+12<12 from hj) Vn
  ·clear h1 h2 h3
   try clear c00
   try clear c01
   try clear c02
   try clear c10
   try clear c11
   try clear c12
   try clear c20
   try clear c21
   try clear c22
   try clear c23
   try clear c30
   try clear c31
   try clear c32
   try clear c33
   try clear c40
   try clear c41
   try clear c42
   try clear c50
   try clear c51
   try clear c52
   try clear c53
   try clear c60
   try clear c61
   try clear c62
   try clear c70
   try clear c71
   try clear c72
   try clear c73
   try clear f00
   try clear f01
   try clear f02
   try clear f10
   try clear f11
   try clear f12
   try clear f20
   try clear f21
   try clear f22
   try clear f23
   try clear f30
   try clear f31
   try clear f32
   try clear f33
   try clear f50
   try clear f51
   try clear f52
   try clear f53
   try clear f70
   try clear f71
   try clear f72
   try clear f73
   refine ⟨?r18x0,?r18x1,?r18x2,?r18x3,?r18x4,?r18x5,?r18x6,?r18x7,?r18x8,?r18x9,?r18x10,?r18x11,trivial⟩
   all_goals intro _ aq wx Kq hf hS hdep ev1 ev2 _ hpr hK
   case' r18x0=>
    have F9:aq.eval (.tmp 9)= .pointer (some ⟨w1.heap.size+1,0,none⟩):=hf 9
    have c0:=(hpr 11 VZ (⟨w1.heap.size+1,0,none⟩,.int .i64 m0) Vs).1
    have c1:=(hpr 11 VZ (⟨w1.heap.size+1,1,none⟩,.int .i64 m1) Vs).1
    have c2:=(hpr 11 VZ (⟨w1.heap.size+1,2,none⟩,.int .i64 m2) Vs).1
    have c3:=(hpr 11 VZ (⟨w1.heap.size+1,3,none⟩,.int .i64 m3) Vs).1
   case' r18x1=>
    have F15:aq.eval (.tmp 15)= .int .i64 t:=hf 15
   case' r18x2=>
    have F8:aq.eval (.tmp 8)= .pointer (some ⟨w1.heap.size,0,none⟩):=hf 8
   case' r18x3=>
    have D2:aq.eval (.tmp 67)=_:=hdep 2
    have c0:=hS.cells (⟨w1.heap.size,1,none⟩,.int .i64 y1) Vs
   case' r18x4=>
    have D1:aq.eval (.tmp 66)=_:=hdep 1
    have D3:aq.eval (.tmp 68)=_:=hdep 3
   case' r18x5=>
    have F8:aq.eval (.tmp 8)= .pointer (some ⟨w1.heap.size,0,none⟩):=hf 8
   case' r18x6=>
    have D5:aq.eval (.tmp 70)=_:=hdep 5
    have c0:=hS.cells (⟨w1.heap.size,0,none⟩,.int .i64 x1) Vs
   case' r18x7=>
    have D6:aq.eval (.tmp 71)=_:=hdep 6
   case' r18x8=>
    have D4:aq.eval (.tmp 69)=_:=hdep 4
    have D7:aq.eval (.tmp 72)=_:=hdep 7
   case' r18x9=>
    have D8:aq.eval (.tmp 73)=_:=hdep 8
   case' r18x10=>
    have D0:aq.eval (.tmp 65)=_:=hdep 0
    have D9:aq.eval (.tmp 74)=_:=hdep 9
   case' r18x11=>
    have D10:aq.eval (.tmp 75)=_:=hdep 10
    have F9:aq.eval (.tmp 9)= .pointer (some ⟨w1.heap.size+1,0,none⟩):=hf 9
    obtain ⟨⟨vx0,cx0⟩,cf0⟩:=hS.free ⟨w1.heap.size+1,0,none⟩ Vs
    obtain ⟨⟨vx1,cx1⟩,cf1⟩:=hS.free ⟨w1.heap.size+1,1,none⟩ Vs
    obtain ⟨⟨vx2,cx2⟩,cf2⟩:=hS.free ⟨w1.heap.size+1,2,none⟩ Vs
    obtain ⟨⟨vx3,cx3⟩,cf3⟩:=hS.free ⟨w1.heap.size+1,3,none⟩ Vs
   all_goals (clear hf hdep hpr;unfold Oper.wp;generalize Act.eval _=ev at *;go_simp)
   case' r18x8=>
    try rw[if_neg Vn,Oper.upon_value]
   case r18x9=>
    refine ((coShift_a d1 _)).mono ?_
    rintro e w2 ⟨rfl,hb⟩
    refine hK _ _ (hS.call hb) ?_ (fun j u _ h=>Kd.ok_below hb h) (fun j _ h=>Kd.ok_below hb h)
    rw[if_pos VH]
    show (_:Value)=_
    first|rfl|(refine congrArg (Value.int .i64) ?_;first|rfl|exact int_in Vn|exact quo_in Vn Vn Vn|exact rem_in Vn Vn|omega|exact HX1)|(simp;done)|(simp [*];done)
   case r18x10=>
    refine ((foMul_a m0 m1 m2 m3 1 d1 0 1 _)).mono ?_
    rintro e w2 ⟨rfl,hb⟩
    refine hK _ _ (hS.call hb) ?_ (fun j u _ h=>Kd.ok_below hb h) (fun j _ h=>Kd.ok_below hb h)
    rw[if_pos VH]
    show (_:Value)=_
    first|rfl|(refine congrArg (Value.int .i64) ?_;first|rfl|exact int_in Vn|exact quo_in Vn Vn Vn|exact rem_in Vn Vn|omega|exact HX1)|(simp;done)|(simp [*];done)
   case r18x11=>
    refine hK undef (setAll (w1.heap.size+1) 0 [.int .i64 (mmP m0 m1 m2 m3 1 d1 0 1),.int .i64 (mmQ m0 m1 m2 m3 1 d1 0 1),.int .i64 (mmR m0 m1 m2 m3 1 d1 0 1),.int .i64 (mmS m0 m1 m2 m3 1 d1 0 1)] wx) (Sy.setAll Vr (fa (far_blk Vm) (fa (far_blk Vm) (fa (far_blk Vm) (fa (far_blk Vm) (fa (far_blk Vm) (fa (far_blk Vm) (fa (far_blk Vm) (fa (far_blk Vm) (fa (far_blk Vm) (fa (far_blk Vm) (fa (far_blk Vm) (fa (far_blk Vm) (fa (far_blk Vm) (fa (far_blk Vm) (fa (far_blk Vm) (fa (far_blk Vm) (fa (far_blk Vm) (fa (far_blk Vm) (fa (far_blk Vm) (fa (far_blk Vm) (fa (far_blk Vm) (fa (far_blk Vm) (fa (far_blk Vm) (fa (far_blk Vm) (fa0))))))))))))))))))))))))) hS) ?_ (fun j u hj h=> ?_) (fun j hj h=> ?_)
    ·rw [if_neg VA]
     exact fa ⟨setAll_at (w1.heap.size+1) [.int .i64 (mmP m0 m1 m2 m3 1 d1 0 1),.int .i64 (mmQ m0 m1 m2 m3 1 d1 0 1),.int .i64 (mmR m0 m1 m2 m3 1 d1 0 1),.int .i64 (mmS m0 m1 m2 m3 1 d1 0 1)] 0 wx 0 (show 0<4 by decide) ⟨vx0,cx0⟩,Vr⟩ (fa ⟨setAll_at (w1.heap.size+1) [.int .i64 (mmP m0 m1 m2 m3 1 d1 0 1),.int .i64 (mmQ m0 m1 m2 m3 1 d1 0 1),.int .i64 (mmR m0 m1 m2 m3 1 d1 0 1),.int .i64 (mmS m0 m1 m2 m3 1 d1 0 1)] 0 wx 1 (show 1<4 by decide) ⟨vx1,cx1⟩,Vr⟩ (fa ⟨setAll_at (w1.heap.size+1) [.int .i64 (mmP m0 m1 m2 m3 1 d1 0 1),.int .i64 (mmQ m0 m1 m2 m3 1 d1 0 1),.int .i64 (mmR m0 m1 m2 m3 1 d1 0 1),.int .i64 (mmS m0 m1 m2 m3 1 d1 0 1)] 0 wx 2 (show 2<4 by decide) ⟨vx2,cx2⟩,Vr⟩ (fa ⟨setAll_at (w1.heap.size+1) [.int .i64 (mmP m0 m1 m2 m3 1 d1 0 1),.int .i64 (mmQ m0 m1 m2 m3 1 d1 0 1),.int .i64 (mmR m0 m1 m2 m3 1 d1 0 1),.int .i64 (mmS m0 m1 m2 m3 1 d1 0 1)] 0 wx 3 (show 3<4 by decide) ⟨vx3,cx3⟩,Vr⟩ (fa0))))
    ·match j,hj with
     |0,hj|1,hj|2,hj|3,hj|4,hj|5,hj|6,hj|7,hj|8,hj|9,hj|10,hj=>exact (show (u:Value)=_ from h)
     |11,hj=>exact absurd rfl hj
     |j+12,_=>trivial
    ·match j,hj with
     |0,hj|1,hj|2,hj|3,hj|4,hj|5,hj|6,hj|7,hj|8,hj|9,hj|10,hj=>trivial
     |11,hj=>exact absurd rfl hj
     |j+12,_=>exact h
   all_goals (refine hK _ _ hS ?_ (fun j u _ h=>h) (fun j _ h=>h);rw [if_pos VH];show (_:Value)=_;(first|rfl|(refine congrArg (Value.int .i64) ?_;first|rfl|exact int_in Vn|exact quo_in Vn Vn Vn|exact rem_in Vn Vn|omega|exact HX1)|(simp;done)|(simp [*];done)))
  ·intro aq wx hd hw hf hS hg
   have haq:aq=⟨#[tau aq 0,tau aq 1,tau aq 2,tau aq 3,tau aq 4,tau aq 5,tau aq 6,tau aq 7,tau aq 8,tau aq 9,tau aq 10,tau aq 11,tau aq 12,tau aq 13,tau aq 14,tau aq 15,tau aq 16,tau aq 17,tau aq 18,tau aq 19,tau aq 20,tau aq 21,tau aq 22,tau aq 23,tau aq 24,tau aq 25,tau aq 26,tau aq 27,tau aq 28,tau aq 29,tau aq 30,tau aq 31,tau aq 32,tau aq 33,tau aq 34,tau aq 35,tau aq 36,tau aq 37,tau aq 38,tau aq 39,tau aq 40,tau aq 41,tau aq 42,tau aq 43,tau aq 44,tau aq 45,tau aq 46,tau aq 47,tau aq 48,tau aq 49,tau aq 50,tau aq 51,tau aq 52,tau aq 53,tau aq 54,tau aq 55,tau aq 56,tau aq 57,tau aq 58,tau aq 59,tau aq 60,tau aq 61,tau aq 62,tau aq 63,tau aq 64,tau aq 65,tau aq 66,tau aq 67,tau aq 68,tau aq 69,tau aq 70,tau aq 71,tau aq 72,tau aq 73,tau aq 74,tau aq 75,tau aq 76,tau aq 77,tau aq 78,tau aq 79,tau aq 80,tau aq 81,tau aq 82,tau aq 83,tau aq 84,tau aq 85,tau aq 86,tau aq 87,tau aq 88,tau aq 89,tau aq 90,tau aq 91,tau aq 92,tau aq 93,tau aq 94,tau aq 95,tau aq 96,tau aq 97,tau aq 98,tau aq 99,tau aq 100,tau aq 101,tau aq 102,tau aq 103,tau aq 104,tau aq 105,tau aq 106,tau aq 107,tau aq 108,tau aq 109,tau aq 110,tau aq 111,tau aq 112,tau aq 113,tau aq 114,tau aq 115,tau aq 116,tau aq 117],[]⟩:=by
    obtain ⟨tq,dq⟩:=aq
    have h5:=arr_eq (show tq.size=118 from hw)
    have h6:dq= []:=hd
    subst h6
    exact congrArg (fun z=>Act.mk z []) h5
   show K2 aq wx
   rw[haq,hf 0,hf 1,hf 2,hf 3,hf 4,hf 5,hf 6,hf 7,hf 8,hf 9,hf 10,hf 11,hf 12,hf 13,hf 14,hf 15,hf 16,hf 17,hf 18,hf 19,hf 20,hf 21,hf 22,hf 23,hf 24,hf 25,hf 26,hf 27,hf 28,hf 29,hf 30,hf 31,hf 32,hf 33,hf 34,hf 35,hf 36,hf 37,hf 38,hf 39,hf 40,hf 41,hf 42,hf 43,hf 44,hf 45,hf 46,hf 47,hf 48,hf 49,hf 50,hf 51,hf 52,hf 53,hf 54,hf 55,hf 56,hf 57,hf 58,hf 59,hf 60,hf 61,hf 62,hf 63,hf 64,hf 76,hf 77,hf 78,hf 79,hf 80,hf 81,hf 82,hf 83,hf 84,hf 85,hf 86,hf 87,hf 88,hf 89,hf 90,hf 91,hf 92,hf 93,hf 94,hf 95,hf 96,hf 97,hf 98,hf 99,hf 100,hf 101,hf 102,hf 103,hf 104,hf 105,hf 106,hf 107,hf 108,hf 109,hf 110,hf 111,hf 112,hf 113,hf 114,hf 115,hf 116,hf 117]
   clear haq hf hd hw
   try dsimp only
   refine h3 _ _ ?_
   go_meet
   refine ⟨Wi3.m ?_ ?_ ?_ ?_ ?_ ?_,Wi3.m ?_ ?_ ?_ ?_ ?_ ?_,Wi4.m ?_ ?_ ?_ ?_ ?_ ?_ ?_ ?_,Wi4.m ?_ ?_ ?_ ?_ ?_ ?_ ?_ ?_,Ri3.m ?_ ?_ ?_,Wi4.m (hg 11 VA (_,_) Vs).1 (hg 11 VA (_,_) Vs).1 (hg 11 VA (_,_) Vs).1 (hg 11 VA (_,_) Vs).1 ?_ ?_ ?_ ?_,Ri3.m ?_ ?_ ?_,Wi4.m ?_ ?_ ?_ ?_ ?_ ?_ ?_ ?_,hS.below⟩
   all_goals first|exact hS.cells (_,_) Vs|exact (hS.free _ Vs).2
 try clear c00
 try clear c01
 try clear c02
 try clear c10
 try clear c11
 try clear c12
 try clear c20
 try clear c21
 try clear c22
 try clear c23
 try clear c30
 try clear c31
 try clear c32
 try clear c33
 try clear c40
 try clear c41
 try clear c42
 try clear c50
 try clear c51
 try clear c52
 try clear c53
 try clear c60
 try clear c61
 try clear c62
 try clear c70
 try clear c71
 try clear c72
 try clear c73
 try clear f00
 try clear f01
 try clear f02
 try clear f10
 try clear f11
 try clear f12
 try clear f20
 try clear f21
 try clear f22
 try clear f23
 try clear f30
 try clear f31
 try clear f32
 try clear f33
 try clear f50
 try clear f51
 try clear f52
 try clear f53
 try clear f70
 try clear f71
 try clear f72
 try clear f73
 obtain ⟨⟨c00,c01,c02,f00,f01,f02,z0⟩,⟨c10,c11,c12,f10,f11,f12,z1⟩,⟨c20,c21,c22,c23,f20,f21,f22,f23,z2⟩,⟨c30,c31,c32,c33,f30,f31,f32,f33,z3⟩,⟨c40,c41,c42,z4⟩,⟨c50,c51,c52,c53,f50,f51,f52,f53,z5⟩,⟨c60,c61,c62,z6⟩,⟨c70,c71,c72,c73,f70,f71,f72,f73,z7⟩,hb0⟩:=hcut
 obtain ⟨wd7,rfl⟩: ∃wd7:World,wd7=wc:=⟨_,rfl⟩
 generalize mmP m0 m1 m2 m3 1 d1 0 1=g0 at*
 generalize mmQ m0 m1 m2 m3 1 d1 0 1=gg1 at*
 generalize mmR m0 m1 m2 m3 1 d1 0 1=g2 at*
 generalize mmS m0 m1 m2 m3 1 d1 0 1=g3 at*
 go_upto_region 8 with fail
 go_cut [] (fun  wx=>Wi3 wx (w.heap.size+1+1) 0 0 0∧Wi3 wx (w.heap.size+1+1+1) 0 0 0∧Wi4 wx (w.heap.size+1+1+1+1) 0 0 0 0∧Wi4 wx (w.heap.size+1+1+1+1+1) 0 0 0 0∧Ri3 wx w1.heap.size x1 y1 zz1∧Wi4 wx (w1.heap.size+1) g0 gg1 g2 g3∧Ri3 wx w2.heap.size e B C∧Wi4 wx (w2.heap.size+1) (mmP k0 k1 k2 k3 1 d2 0 1) (mmQ k0 k1 k2 k3 1 d2 0 1) (mmR k0 k1 k2 k3 1 d2 0 1) (mmS k0 k1 k2 k3 1 d2 0 1)∧Below w.heap.size w wx)
 case first=>
  have h1:=trivial
  rename_i K2 h2 h3
  refine region_n3 Vw (fun j=> #[76,77,78,79,80,81,82,83,84,85,86,11].getD j 0) (fun j=>Kd.ok ((fun j=>match j with|0=>Kd.val (.agg #[.int .i64 k0,.int .i64 k1,.int .i64 k2,.int .i64 k3])|1=>Kd.val (.int .i64 t)|2=>Kd.val (.pointer (some ⟨w2.heap.size,1,none⟩))|3=>Kd.val (.int .i64 B)|4=>Kd.val (.int .i64 (t-B))|5=>Kd.val (.pointer (some ⟨w2.heap.size,0,none⟩))|6=>Kd.val (.int .i64 e)|7=>Kd.val (.int .i64 (2*e))|8=>Kd.val (.int .i64 d2)|9=>Kd.val (.agg #[.int .i64 1,.int .i64 d2,.int .i64 0,.int .i64 1])|10=>Kd.val (.agg #[.int .i64 (mmP k0 k1 k2 k3 1 d2 0 1),.int .i64 (mmQ k0 k1 k2 k3 1 d2 0 1),.int .i64 (mmR k0 k1 k2 k3 1 d2 0 1),.int .i64 (mmS k0 k1 k2 k3 1 d2 0 1)])|11=>Kd.old (wd7.heap.size) [(⟨w2.heap.size+1,0,none⟩,.int .i64 (mmP k0 k1 k2 k3 1 d2 0 1)),(⟨w2.heap.size+1,1,none⟩,.int .i64 (mmQ k0 k1 k2 k3 1 d2 0 1)),(⟨w2.heap.size+1,2,none⟩,.int .i64 (mmR k0 k1 k2 k3 1 d2 0 1)),(⟨w2.heap.size+1,3,none⟩,.int .i64 (mmS k0 k1 k2 k3 1 d2 0 1))]|_=>Kd.any:Nat→Kd) j)) (Sy w (wd7.heap.size) [(⟨w.heap.size+1+1,0,none⟩,.int .i64 0),(⟨w.heap.size+1+1,1,none⟩,.int .i64 0),(⟨w.heap.size+1+1,2,none⟩,.int .i64 0),(⟨w.heap.size+1+1+1,0,none⟩,.int .i64 0),(⟨w.heap.size+1+1+1,1,none⟩,.int .i64 0),(⟨w.heap.size+1+1+1,2,none⟩,.int .i64 0),(⟨w.heap.size+1+1+1+1,0,none⟩,.int .i64 0),(⟨w.heap.size+1+1+1+1,1,none⟩,.int .i64 0),(⟨w.heap.size+1+1+1+1,2,none⟩,.int .i64 0),(⟨w.heap.size+1+1+1+1,3,none⟩,.int .i64 0),(⟨w.heap.size+1+1+1+1+1,0,none⟩,.int .i64 0),(⟨w.heap.size+1+1+1+1+1,1,none⟩,.int .i64 0),(⟨w.heap.size+1+1+1+1+1,2,none⟩,.int .i64 0),(⟨w.heap.size+1+1+1+1+1,3,none⟩,.int .i64 0),(⟨w1.heap.size,0,none⟩,.int .i64 x1),(⟨w1.heap.size,1,none⟩,.int .i64 y1),(⟨w1.heap.size,2,none⟩,.int .i64 zz1),(⟨w1.heap.size+1,0,none⟩,.int .i64 g0),(⟨w1.heap.size+1,1,none⟩,.int .i64 gg1),(⟨w1.heap.size+1,2,none⟩,.int .i64 g2),(⟨w1.heap.size+1,3,none⟩,.int .i64 g3),(⟨w2.heap.size,0,none⟩,.int .i64 e),(⟨w2.heap.size,1,none⟩,.int .i64 B),(⟨w2.heap.size,2,none⟩,.int .i64 C)] [⟨w.heap.size+1+1,0,none⟩,⟨w.heap.size+1+1,1,none⟩,⟨w.heap.size+1+1,2,none⟩,⟨w.heap.size+1+1+1,0,none⟩,⟨w.heap.size+1+1+1,1,none⟩,⟨w.heap.size+1+1+1,2,none⟩,⟨w.heap.size+1+1+1+1,0,none⟩,⟨w.heap.size+1+1+1+1,1,none⟩,⟨w.heap.size+1+1+1+1,2,none⟩,⟨w.heap.size+1+1+1+1,3,none⟩,⟨w.heap.size+1+1+1+1+1,0,none⟩,⟨w.heap.size+1+1+1+1+1,1,none⟩,⟨w.heap.size+1+1+1+1+1,2,none⟩,⟨w.heap.size+1+1+1+1+1,3,none⟩,⟨w1.heap.size+1,0,none⟩,⟨w1.heap.size+1,1,none⟩,⟨w1.heap.size+1,2,none⟩,⟨w1.heap.size+1,3,none⟩,⟨w2.heap.size+1,0,none⟩,⟨w2.heap.size+1,1,none⟩,⟨w2.heap.size+1,2,none⟩,⟨w2.heap.size+1,3,none⟩]) (fun j wq9=>Kd.ok ((fun j=>match j with|0=>Kd.any|1=>Kd.any|2=>Kd.any|3=>Kd.any|4=>Kd.any|5=>Kd.any|6=>Kd.any|7=>Kd.any|8=>Kd.any|9=>Kd.any|10=>Kd.any|11=>Kd.old (wd7.heap.size) [(⟨w2.heap.size+1,0,none⟩,.int .i64 k0),(⟨w2.heap.size+1,1,none⟩,.int .i64 k1),(⟨w2.heap.size+1,2,none⟩,.int .i64 k2),(⟨w2.heap.size+1,3,none⟩,.int .i64 k3)]|_=>Kd.any:Nat→Kd) j) wq9 undef) (fun _=>true) Vw ?_ (hrun_none Vw) (fun i o ho h=>by cases h) ?_ ?_ ?_ ?_
  ·intro j hj
   have hj2:j<12:=hj
   have: ∀j,j<12→(#[76,77,78,79,80,81,82,83,84,85,86,11]:Array Nat).getD j 0<118:=by decide
   exact this j hj2
  ·refine Sy.drew (Sy.mk_of ?_ ?_ ?_ ?_)
   ·first|rfl|(simp;done)|(simp;omega)
   ·intro c hc
    simp only[List.mem_cons,List.not_mem_nil,or_false] at hc
    rcases hc with rfl|rfl|rfl|rfl|rfl|rfl|rfl|rfl|rfl|rfl|rfl|rfl|rfl|rfl|rfl|rfl|rfl|rfl|rfl|rfl|rfl|rfl|rfl|rfl<;>exact byCT
   ·intro p hp
    simp only[List.mem_cons,List.not_mem_nil,or_false] at hp
    rcases hp with rfl|rfl|rfl|rfl|rfl|rfl|rfl|rfl|rfl|rfl|rfl|rfl|rfl|rfl|rfl|rfl|rfl|rfl|rfl|rfl|rfl|rfl<;>exact ⟨by first|((repeat' with_reducible (first|refine ex_set _ ?_|refine ex_al _ ?_|exact ⟨_,VV⟩));done)|first|exact ⟨_,VV⟩|assumption|(go_simp;done)|(go_simp;exact ⟨_,rfl⟩),by first|((repeat' first|with_reducible (first|assumption|refine frz_al _ ?_ ?_|refine frz_set _ ?_)|omega|(simp;omega));done)|assumption|(go_simp;done)⟩
   ·(repeat' first|with_reducible (first|exact Below.refl _ _|assumption|refine gr_alloc ?_ _|refine below_drewN ?_ _|refine below_drew ?_|refine gr_call ?_ VV|refine Below.setCell ?_ ?_ _)|go_size|omega|(simp;omega))
  ·intro j hj
   match j,hj with
   |0,_=>trivial
   |1,_=>trivial
   |2,_=>trivial
   |3,_=>trivial
   |4,_=>trivial
   |5,_=>trivial
   |6,_=>trivial
   |7,_=>trivial
   |8,_=>trivial
   |9,_=>trivial
   |10,_=>trivial
   |11,_=>
    intro c hc
    simp only[List.mem_cons,List.not_mem_nil,or_false] at hc
    rcases hc with rfl|rfl|rfl|rfl<;>exact ⟨byCT,Vr⟩
   |j+12,hj=>exact absurd (show j+12<12 from hj) Vn
  ·clear h1 h2 h3
   try clear c00
   try clear c01
   try clear c02
   try clear c10
   try clear c11
   try clear c12
   try clear c20
   try clear c21
   try clear c22
   try clear c23
   try clear c30
   try clear c31
   try clear c32
   try clear c33
   try clear c40
   try clear c41
   try clear c42
   try clear c50
   try clear c51
   try clear c52
   try clear c53
   try clear c60
   try clear c61
   try clear c62
   try clear c70
   try clear c71
   try clear c72
   try clear c73
   try clear f00
   try clear f01
   try clear f02
   try clear f10
   try clear f11
   try clear f12
   try clear f20
   try clear f21
   try clear f22
   try clear f23
   try clear f30
   try clear f31
   try clear f32
   try clear f33
   try clear f50
   try clear f51
   try clear f52
   try clear f53
   try clear f70
   try clear f71
   try clear f72
   try clear f73
   refine ⟨?r19x0,?r19x1,?r19x2,?r19x3,?r19x4,?r19x5,?r19x6,?r19x7,?r19x8,?r19x9,?r19x10,?r19x11,trivial⟩
   all_goals intro _ aq wx Kq hf hS hdep ev1 ev2 _ hpr hK
   case' r19x0=>
    have F11:aq.eval (.tmp 11)= .pointer (some ⟨w2.heap.size+1,0,none⟩):=hf 11
    have c0:=(hpr 11 VZ (⟨w2.heap.size+1,0,none⟩,.int .i64 k0) Vs).1
    have c1:=(hpr 11 VZ (⟨w2.heap.size+1,1,none⟩,.int .i64 k1) Vs).1
    have c2:=(hpr 11 VZ (⟨w2.heap.size+1,2,none⟩,.int .i64 k2) Vs).1
    have c3:=(hpr 11 VZ (⟨w2.heap.size+1,3,none⟩,.int .i64 k3) Vs).1
   case' r19x1=>
    have F15:aq.eval (.tmp 15)= .int .i64 t:=hf 15
   case' r19x2=>
    have F10:aq.eval (.tmp 10)= .pointer (some ⟨w2.heap.size,0,none⟩):=hf 10
   case' r19x3=>
    have D2:aq.eval (.tmp 78)=_:=hdep 2
    have c0:=hS.cells (⟨w2.heap.size,1,none⟩,.int .i64 B) Vs
   case' r19x4=>
    have D1:aq.eval (.tmp 77)=_:=hdep 1
    have D3:aq.eval (.tmp 79)=_:=hdep 3
   case' r19x5=>
    have F10:aq.eval (.tmp 10)= .pointer (some ⟨w2.heap.size,0,none⟩):=hf 10
   case' r19x6=>
    have D5:aq.eval (.tmp 81)=_:=hdep 5
    have c0:=hS.cells (⟨w2.heap.size,0,none⟩,.int .i64 e) Vs
   case' r19x7=>
    have D6:aq.eval (.tmp 82)=_:=hdep 6
   case' r19x8=>
    have D4:aq.eval (.tmp 80)=_:=hdep 4
    have D7:aq.eval (.tmp 83)=_:=hdep 7
   case' r19x9=>
    have D8:aq.eval (.tmp 84)=_:=hdep 8
   case' r19x10=>
    have D0:aq.eval (.tmp 76)=_:=hdep 0
    have D9:aq.eval (.tmp 85)=_:=hdep 9
   case' r19x11=>
    have D10:aq.eval (.tmp 86)=_:=hdep 10
    have F11:aq.eval (.tmp 11)= .pointer (some ⟨w2.heap.size+1,0,none⟩):=hf 11
    obtain ⟨⟨vx0,cx0⟩,cf0⟩:=hS.free ⟨w2.heap.size+1,0,none⟩ Vs
    obtain ⟨⟨vx1,cx1⟩,cf1⟩:=hS.free ⟨w2.heap.size+1,1,none⟩ Vs
    obtain ⟨⟨vx2,cx2⟩,cf2⟩:=hS.free ⟨w2.heap.size+1,2,none⟩ Vs
    obtain ⟨⟨vx3,cx3⟩,cf3⟩:=hS.free ⟨w2.heap.size+1,3,none⟩ Vs
   all_goals (clear hf hdep hpr;unfold Oper.wp;generalize Act.eval _=ev at *;go_simp)
   case' r19x8=>
    try rw[if_neg Vn,Oper.upon_value]
   case r19x9=>
    refine ((coShift_a d2 _)).mono ?_
    rintro e w2 ⟨rfl,hb⟩
    refine hK _ _ (hS.call hb) ?_ (fun j u _ h=>Kd.ok_below hb h) (fun j _ h=>Kd.ok_below hb h)
    rw[if_pos VH]
    show (_:Value)=_
    first|rfl|(refine congrArg (Value.int .i64) ?_;first|rfl|exact int_in Vn|exact quo_in Vn Vn Vn|exact rem_in Vn Vn|omega|exact HX2)|(simp;done)|(simp [*];done)
   case r19x10=>
    refine ((foMul_a k0 k1 k2 k3 1 d2 0 1 _)).mono ?_
    rintro e w2 ⟨rfl,hb⟩
    refine hK _ _ (hS.call hb) ?_ (fun j u _ h=>Kd.ok_below hb h) (fun j _ h=>Kd.ok_below hb h)
    rw[if_pos VH]
    show (_:Value)=_
    first|rfl|(refine congrArg (Value.int .i64) ?_;first|rfl|exact int_in Vn|exact quo_in Vn Vn Vn|exact rem_in Vn Vn|omega|exact HX2)|(simp;done)|(simp [*];done)
   case r19x11=>
    refine hK undef (setAll (w2.heap.size+1) 0 [.int .i64 (mmP k0 k1 k2 k3 1 d2 0 1),.int .i64 (mmQ k0 k1 k2 k3 1 d2 0 1),.int .i64 (mmR k0 k1 k2 k3 1 d2 0 1),.int .i64 (mmS k0 k1 k2 k3 1 d2 0 1)] wx) (Sy.setAll Vr (fa (far_blk Vm) (fa (far_blk Vm) (fa (far_blk Vm) (fa (far_blk Vm) (fa (far_blk Vm) (fa (far_blk Vm) (fa (far_blk Vm) (fa (far_blk Vm) (fa (far_blk Vm) (fa (far_blk Vm) (fa (far_blk Vm) (fa (far_blk Vm) (fa (far_blk Vm) (fa (far_blk Vm) (fa (far_blk Vm) (fa (far_blk Vm) (fa (far_blk Vm) (fa (far_blk Vm) (fa (far_blk Vm) (fa (far_blk Vm) (fa (far_blk Vm) (fa (far_blk Vm) (fa (far_blk Vm) (fa (far_blk Vm) (fa0))))))))))))))))))))))))) hS) ?_ (fun j u hj h=> ?_) (fun j hj h=> ?_)
    ·rw [if_neg VA]
     exact fa ⟨setAll_at (w2.heap.size+1) [.int .i64 (mmP k0 k1 k2 k3 1 d2 0 1),.int .i64 (mmQ k0 k1 k2 k3 1 d2 0 1),.int .i64 (mmR k0 k1 k2 k3 1 d2 0 1),.int .i64 (mmS k0 k1 k2 k3 1 d2 0 1)] 0 wx 0 (show 0<4 by decide) ⟨vx0,cx0⟩,Vr⟩ (fa ⟨setAll_at (w2.heap.size+1) [.int .i64 (mmP k0 k1 k2 k3 1 d2 0 1),.int .i64 (mmQ k0 k1 k2 k3 1 d2 0 1),.int .i64 (mmR k0 k1 k2 k3 1 d2 0 1),.int .i64 (mmS k0 k1 k2 k3 1 d2 0 1)] 0 wx 1 (show 1<4 by decide) ⟨vx1,cx1⟩,Vr⟩ (fa ⟨setAll_at (w2.heap.size+1) [.int .i64 (mmP k0 k1 k2 k3 1 d2 0 1),.int .i64 (mmQ k0 k1 k2 k3 1 d2 0 1),.int .i64 (mmR k0 k1 k2 k3 1 d2 0 1),.int .i64 (mmS k0 k1 k2 k3 1 d2 0 1)] 0 wx 2 (show 2<4 by decide) ⟨vx2,cx2⟩,Vr⟩ (fa ⟨setAll_at (w2.heap.size+1) [.int .i64 (mmP k0 k1 k2 k3 1 d2 0 1),.int .i64 (mmQ k0 k1 k2 k3 1 d2 0 1),.int .i64 (mmR k0 k1 k2 k3 1 d2 0 1),.int .i64 (mmS k0 k1 k2 k3 1 d2 0 1)] 0 wx 3 (show 3<4 by decide) ⟨vx3,cx3⟩,Vr⟩ (fa0))))
    ·match j,hj with
     |0,hj|1,hj|2,hj|3,hj|4,hj|5,hj|6,hj|7,hj|8,hj|9,hj|10,hj=>exact (show (u:Value)=_ from h)
     |11,hj=>exact absurd rfl hj
     |j+12,_=>trivial
    ·match j,hj with
     |0,hj|1,hj|2,hj|3,hj|4,hj|5,hj|6,hj|7,hj|8,hj|9,hj|10,hj=>trivial
     |11,hj=>exact absurd rfl hj
     |j+12,_=>exact h
   all_goals (refine hK _ _ hS ?_ (fun j u _ h=>h) (fun j _ h=>h);rw [if_pos VH];show (_:Value)=_;(first|rfl|(refine congrArg (Value.int .i64) ?_;first|rfl|exact int_in Vn|exact quo_in Vn Vn Vn|exact rem_in Vn Vn|omega|exact HX2)|(simp;done)|(simp [*];done)))
  ·intro aq wx hd hw hf hS hg
   have haq:aq=⟨#[tau aq 0,tau aq 1,tau aq 2,tau aq 3,tau aq 4,tau aq 5,tau aq 6,tau aq 7,tau aq 8,tau aq 9,tau aq 10,tau aq 11,tau aq 12,tau aq 13,tau aq 14,tau aq 15,tau aq 16,tau aq 17,tau aq 18,tau aq 19,tau aq 20,tau aq 21,tau aq 22,tau aq 23,tau aq 24,tau aq 25,tau aq 26,tau aq 27,tau aq 28,tau aq 29,tau aq 30,tau aq 31,tau aq 32,tau aq 33,tau aq 34,tau aq 35,tau aq 36,tau aq 37,tau aq 38,tau aq 39,tau aq 40,tau aq 41,tau aq 42,tau aq 43,tau aq 44,tau aq 45,tau aq 46,tau aq 47,tau aq 48,tau aq 49,tau aq 50,tau aq 51,tau aq 52,tau aq 53,tau aq 54,tau aq 55,tau aq 56,tau aq 57,tau aq 58,tau aq 59,tau aq 60,tau aq 61,tau aq 62,tau aq 63,tau aq 64,tau aq 65,tau aq 66,tau aq 67,tau aq 68,tau aq 69,tau aq 70,tau aq 71,tau aq 72,tau aq 73,tau aq 74,tau aq 75,tau aq 76,tau aq 77,tau aq 78,tau aq 79,tau aq 80,tau aq 81,tau aq 82,tau aq 83,tau aq 84,tau aq 85,tau aq 86,tau aq 87,tau aq 88,tau aq 89,tau aq 90,tau aq 91,tau aq 92,tau aq 93,tau aq 94,tau aq 95,tau aq 96,tau aq 97,tau aq 98,tau aq 99,tau aq 100,tau aq 101,tau aq 102,tau aq 103,tau aq 104,tau aq 105,tau aq 106,tau aq 107,tau aq 108,tau aq 109,tau aq 110,tau aq 111,tau aq 112,tau aq 113,tau aq 114,tau aq 115,tau aq 116,tau aq 117],[]⟩:=by
    obtain ⟨tq,dq⟩:=aq
    have h5:=arr_eq (show tq.size=118 from hw)
    have h6:dq= []:=hd
    subst h6
    exact congrArg (fun z=>Act.mk z []) h5
   show K2 aq wx
   rw[haq,hf 0,hf 1,hf 2,hf 3,hf 4,hf 5,hf 6,hf 7,hf 8,hf 9,hf 10,hf 11,hf 12,hf 13,hf 14,hf 15,hf 16,hf 17,hf 18,hf 19,hf 20,hf 21,hf 22,hf 23,hf 24,hf 25,hf 26,hf 27,hf 28,hf 29,hf 30,hf 31,hf 32,hf 33,hf 34,hf 35,hf 36,hf 37,hf 38,hf 39,hf 40,hf 41,hf 42,hf 43,hf 44,hf 45,hf 46,hf 47,hf 48,hf 49,hf 50,hf 51,hf 52,hf 53,hf 54,hf 55,hf 56,hf 57,hf 58,hf 59,hf 60,hf 61,hf 62,hf 63,hf 64,hf 65,hf 66,hf 67,hf 68,hf 69,hf 70,hf 71,hf 72,hf 73,hf 74,hf 75,hf 87,hf 88,hf 89,hf 90,hf 91,hf 92,hf 93,hf 94,hf 95,hf 96,hf 97,hf 98,hf 99,hf 100,hf 101,hf 102,hf 103,hf 104,hf 105,hf 106,hf 107,hf 108,hf 109,hf 110,hf 111,hf 112,hf 113,hf 114,hf 115,hf 116,hf 117]
   clear haq hf hd hw
   try dsimp only
   refine h3 _ _ ?_
   go_meet
   refine ⟨Wi3.m ?_ ?_ ?_ ?_ ?_ ?_,Wi3.m ?_ ?_ ?_ ?_ ?_ ?_,Wi4.m ?_ ?_ ?_ ?_ ?_ ?_ ?_ ?_,Wi4.m ?_ ?_ ?_ ?_ ?_ ?_ ?_ ?_,Ri3.m ?_ ?_ ?_,Wi4.m ?_ ?_ ?_ ?_ ?_ ?_ ?_ ?_,Ri3.m ?_ ?_ ?_,Wi4.m (hg 11 VA (_,_) Vs).1 (hg 11 VA (_,_) Vs).1 (hg 11 VA (_,_) Vs).1 (hg 11 VA (_,_) Vs).1 ?_ ?_ ?_ ?_,hS.below⟩
   all_goals first|exact hS.cells (_,_) Vs|exact (hS.free _ Vs).2
 try clear c00
 try clear c01
 try clear c02
 try clear c10
 try clear c11
 try clear c12
 try clear c20
 try clear c21
 try clear c22
 try clear c23
 try clear c30
 try clear c31
 try clear c32
 try clear c33
 try clear c40
 try clear c41
 try clear c42
 try clear c50
 try clear c51
 try clear c52
 try clear c53
 try clear c60
 try clear c61
 try clear c62
 try clear c70
 try clear c71
 try clear c72
 try clear c73
 try clear f00
 try clear f01
 try clear f02
 try clear f10
 try clear f11
 try clear f12
 try clear f20
 try clear f21
 try clear f22
 try clear f23
 try clear f30
 try clear f31
 try clear f32
 try clear f33
 try clear f50
 try clear f51
 try clear f52
 try clear f53
 try clear f70
 try clear f71
 try clear f72
 try clear f73
 obtain ⟨⟨c00,c01,c02,f00,f01,f02,z0⟩,⟨c10,c11,c12,f10,f11,f12,z1⟩,⟨c20,c21,c22,c23,f20,f21,f22,f23,z2⟩,⟨c30,c31,c32,c33,f30,f31,f32,f33,z3⟩,⟨c40,c41,c42,z4⟩,⟨c50,c51,c52,c53,f50,f51,f52,f53,z5⟩,⟨c60,c61,c62,z6⟩,⟨c70,c71,c72,c73,f70,f71,f72,f73,z7⟩,hb0⟩:=hcut
 obtain ⟨wd8,rfl⟩: ∃wd8:World,wd8=wc:=⟨_,rfl⟩
 generalize mmP k0 k1 k2 k3 1 d2 0 1=l0 at*
 generalize mmQ k0 k1 k2 k3 1 d2 0 1=l1 at*
 generalize mmR k0 k1 k2 k3 1 d2 0 1=l2 at*
 generalize mmS k0 k1 k2 k3 1 d2 0 1=l3 at*
 go_upto_region 9 with fail
 go_cut [18] (fun s18 wx=>s18= .int .i64 s∧Wi3 wx (w.heap.size+1+1) 0 0 0∧Wi3 wx (w.heap.size+1+1+1) 0 0 0∧Wi4 wx (w.heap.size+1+1+1+1) 0 0 0 0∧Wi4 wx (w.heap.size+1+1+1+1+1) 0 0 0 0∧Ri3 wx w1.heap.size x1 y1 zz1∧Wi4 wx (w1.heap.size+1) g0 gg1 g2 g3∧Ri3 wx w2.heap.size e B C∧Wi4 wx (w2.heap.size+1) l0 l1 l2 l3∧Below w.heap.size w wx)
 case first=>
  have h1:=trivial
  rename_i K2 h2 h3
  refine region_n0 Vw (fun j=> #[87,88,89,90,91,92,93,94,95,96,97,98,99,18].getD j 0) (fun j=>Kd.ok ((fun j=>match j with|0=>Kd.val (.int .i64 t)|1=>Kd.val (.int .i64 t)|2=>Kd.val (.int .i64 (t*t))|3=>Kd.val (.agg #[.int .i64 x1,.int .i64 y1,.int .i64 zz1])|4=>Kd.val (.int .i64 (discI x1 y1 zz1))|5=>Kd.val (.int .i64 ((t*t)-(discI x1 y1 zz1)))|6=>Kd.val (.pointer (some ⟨w1.heap.size,0,none⟩))|7=>Kd.val (.int .i64 x1)|8=>Kd.val (.int .i64 (4*x1))|9=>Kd.val (.pointer (some ⟨w2.heap.size,0,none⟩))|10=>Kd.val (.int .i64 e)|11=>Kd.val (.int .i64 ((4*x1)*e))|12=>Kd.val (.int .i64 s)|13=>Kd.val (.int .i64 s)|_=>Kd.any:Nat→Kd) j)) (Sy w (wd8.heap.size) [(⟨w.heap.size+1+1,0,none⟩,.int .i64 0),(⟨w.heap.size+1+1,1,none⟩,.int .i64 0),(⟨w.heap.size+1+1,2,none⟩,.int .i64 0),(⟨w.heap.size+1+1+1,0,none⟩,.int .i64 0),(⟨w.heap.size+1+1+1,1,none⟩,.int .i64 0),(⟨w.heap.size+1+1+1,2,none⟩,.int .i64 0),(⟨w.heap.size+1+1+1+1,0,none⟩,.int .i64 0),(⟨w.heap.size+1+1+1+1,1,none⟩,.int .i64 0),(⟨w.heap.size+1+1+1+1,2,none⟩,.int .i64 0),(⟨w.heap.size+1+1+1+1,3,none⟩,.int .i64 0),(⟨w.heap.size+1+1+1+1+1,0,none⟩,.int .i64 0),(⟨w.heap.size+1+1+1+1+1,1,none⟩,.int .i64 0),(⟨w.heap.size+1+1+1+1+1,2,none⟩,.int .i64 0),(⟨w.heap.size+1+1+1+1+1,3,none⟩,.int .i64 0),(⟨w1.heap.size,0,none⟩,.int .i64 x1),(⟨w1.heap.size,1,none⟩,.int .i64 y1),(⟨w1.heap.size,2,none⟩,.int .i64 zz1),(⟨w1.heap.size+1,0,none⟩,.int .i64 g0),(⟨w1.heap.size+1,1,none⟩,.int .i64 gg1),(⟨w1.heap.size+1,2,none⟩,.int .i64 g2),(⟨w1.heap.size+1,3,none⟩,.int .i64 g3),(⟨w2.heap.size,0,none⟩,.int .i64 e),(⟨w2.heap.size,1,none⟩,.int .i64 B),(⟨w2.heap.size,2,none⟩,.int .i64 C),(⟨w2.heap.size+1,0,none⟩,.int .i64 l0),(⟨w2.heap.size+1,1,none⟩,.int .i64 l1),(⟨w2.heap.size+1,2,none⟩,.int .i64 l2),(⟨w2.heap.size+1,3,none⟩,.int .i64 l3)] [⟨w.heap.size+1+1,0,none⟩,⟨w.heap.size+1+1,1,none⟩,⟨w.heap.size+1+1,2,none⟩,⟨w.heap.size+1+1+1,0,none⟩,⟨w.heap.size+1+1+1,1,none⟩,⟨w.heap.size+1+1+1,2,none⟩,⟨w.heap.size+1+1+1+1,0,none⟩,⟨w.heap.size+1+1+1+1,1,none⟩,⟨w.heap.size+1+1+1+1,2,none⟩,⟨w.heap.size+1+1+1+1,3,none⟩,⟨w.heap.size+1+1+1+1+1,0,none⟩,⟨w.heap.size+1+1+1+1+1,1,none⟩,⟨w.heap.size+1+1+1+1+1,2,none⟩,⟨w.heap.size+1+1+1+1+1,3,none⟩,⟨w1.heap.size+1,0,none⟩,⟨w1.heap.size+1,1,none⟩,⟨w1.heap.size+1,2,none⟩,⟨w1.heap.size+1,3,none⟩,⟨w2.heap.size+1,0,none⟩,⟨w2.heap.size+1,1,none⟩,⟨w2.heap.size+1,2,none⟩,⟨w2.heap.size+1,3,none⟩]) Vw Vw ?_ ?_ ?_ ?_
  ·intro j hj
   have hj2:j<14:=hj
   have: ∀j,j<14→(#[87,88,89,90,91,92,93,94,95,96,97,98,99,18]:Array Nat).getD j 0<118:=by decide
   exact this j hj2
  ·refine Sy.drew (Sy.mk_of ?_ ?_ ?_ ?_)
   ·first|rfl|(simp;done)|(simp;omega)
   ·intro c hc
    simp only[List.mem_cons,List.not_mem_nil,or_false] at hc
    rcases hc with rfl|rfl|rfl|rfl|rfl|rfl|rfl|rfl|rfl|rfl|rfl|rfl|rfl|rfl|rfl|rfl|rfl|rfl|rfl|rfl|rfl|rfl|rfl|rfl|rfl|rfl|rfl|rfl<;>exact byCT
   ·intro p hp
    simp only[List.mem_cons,List.not_mem_nil,or_false] at hp
    rcases hp with rfl|rfl|rfl|rfl|rfl|rfl|rfl|rfl|rfl|rfl|rfl|rfl|rfl|rfl|rfl|rfl|rfl|rfl|rfl|rfl|rfl|rfl<;>exact ⟨by first|((repeat' with_reducible (first|refine ex_set _ ?_|refine ex_al _ ?_|exact ⟨_,VV⟩));done)|first|exact ⟨_,VV⟩|assumption|(go_simp;done)|(go_simp;exact ⟨_,rfl⟩),by first|((repeat' first|with_reducible (first|assumption|refine frz_al _ ?_ ?_|refine frz_set _ ?_)|omega|(simp;omega));done)|assumption|(go_simp;done)⟩
   ·(repeat' first|with_reducible (first|exact Below.refl _ _|assumption|refine gr_alloc ?_ _|refine below_drewN ?_ _|refine below_drew ?_|refine gr_call ?_ VV|refine Below.setCell ?_ ?_ _)|go_size|omega|(simp;omega))
  ·clear h1 h2 h3
   try clear c00
   try clear c01
   try clear c02
   try clear c10
   try clear c11
   try clear c12
   try clear c20
   try clear c21
   try clear c22
   try clear c23
   try clear c30
   try clear c31
   try clear c32
   try clear c33
   try clear c40
   try clear c41
   try clear c42
   try clear c50
   try clear c51
   try clear c52
   try clear c53
   try clear c60
   try clear c61
   try clear c62
   try clear c70
   try clear c71
   try clear c72
   try clear c73
   try clear f00
   try clear f01
   try clear f02
   try clear f10
   try clear f11
   try clear f12
   try clear f20
   try clear f21
   try clear f22
   try clear f23
   try clear f30
   try clear f31
   try clear f32
   try clear f33
   try clear f50
   try clear f51
   try clear f52
   try clear f53
   try clear f70
   try clear f71
   try clear f72
   try clear f73
   refine ⟨?r20x0,?r20x1,?r20x2,?r20x3,?r20x4,?r20x5,?r20x6,?r20x7,?r20x8,?r20x9,?r20x10,?r20x11,?r20x12,?r20x13,trivial⟩
   all_goals intro _ aq wx Kq hf hS hdep ev1 ev2 hK
   case' r20x0=>
    have F15:aq.eval (.tmp 15)= .int .i64 t:=hf 15
   case' r20x1=>
    have F15:aq.eval (.tmp 15)= .int .i64 t:=hf 15
   case' r20x2=>
    have D0:aq.eval (.tmp 87)=_:=hdep 0
    have D1:aq.eval (.tmp 88)=_:=hdep 1
   case' r20x3=>
    have F8:aq.eval (.tmp 8)= .pointer (some ⟨w1.heap.size,0,none⟩):=hf 8
    have c0:=hS.cells (⟨w1.heap.size,0,none⟩,.int .i64 x1) Vs
    have c1:=hS.cells (⟨w1.heap.size,1,none⟩,.int .i64 y1) Vs
    have c2:=hS.cells (⟨w1.heap.size,2,none⟩,.int .i64 zz1) Vs
   case' r20x4=>
    have D3:aq.eval (.tmp 90)=_:=hdep 3
   case' r20x5=>
    have D2:aq.eval (.tmp 89)=_:=hdep 2
    have D4:aq.eval (.tmp 91)=_:=hdep 4
   case' r20x6=>
    have F8:aq.eval (.tmp 8)= .pointer (some ⟨w1.heap.size,0,none⟩):=hf 8
   case' r20x7=>
    have D6:aq.eval (.tmp 93)=_:=hdep 6
    have c0:=hS.cells (⟨w1.heap.size,0,none⟩,.int .i64 x1) Vs
   case' r20x8=>
    have D7:aq.eval (.tmp 94)=_:=hdep 7
   case' r20x9=>
    have F10:aq.eval (.tmp 10)= .pointer (some ⟨w2.heap.size,0,none⟩):=hf 10
   case' r20x10=>
    have D9:aq.eval (.tmp 96)=_:=hdep 9
    have c0:=hS.cells (⟨w2.heap.size,0,none⟩,.int .i64 e) Vs
   case' r20x11=>
    have D8:aq.eval (.tmp 95)=_:=hdep 8
    have D10:aq.eval (.tmp 97)=_:=hdep 10
   case' r20x12=>
    have D5:aq.eval (.tmp 92)=_:=hdep 5
    have D11:aq.eval (.tmp 98)=_:=hdep 11
   case' r20x13=>
    have D12:aq.eval (.tmp 99)=_:=hdep 12
   all_goals (clear hf hdep;unfold Oper.wp;generalize Act.eval _=ev at *;go_simp)
   case r20x4=>
    refine ((foDisc_a x1 y1 zz1 _ hform)).mono ?_
    rintro e w2 ⟨rfl,hb⟩
    refine hK _ _ (hS.call hb) ?_ (fun j u _ h=>Kd.ok_below hb h)
    rw[if_pos VH]
    show (_:Value)=_
    first|rfl|(refine congrArg (Value.int .i64) ?_;first|rfl|exact int_in Vn|exact quo_in Vn Vn Vn|exact rem_in Vn Vn|omega|exact HX3)|(simp;done)|(simp [*];done)
   case' r20x12=>
    try rw[if_neg Vn,Oper.upon_value]
   all_goals (refine hK _ _ hS ?_ (fun j u _ h=>h);rw [if_pos VH];show (_:Value)=_;(first|rfl|(refine congrArg (Value.int .i64) ?_;first|rfl|exact int_in Vn|exact quo_in Vn Vn Vn|exact rem_in Vn Vn|omega|exact HX3)|(simp;done)|(simp [*];done)))
  ·intro aq wx hd hw hf hS hg
   have G18:tau aq 18= .int .i64 s:=hg 13 VA
   have haq:aq=⟨#[tau aq 0,tau aq 1,tau aq 2,tau aq 3,tau aq 4,tau aq 5,tau aq 6,tau aq 7,tau aq 8,tau aq 9,tau aq 10,tau aq 11,tau aq 12,tau aq 13,tau aq 14,tau aq 15,tau aq 16,tau aq 17,tau aq 18,tau aq 19,tau aq 20,tau aq 21,tau aq 22,tau aq 23,tau aq 24,tau aq 25,tau aq 26,tau aq 27,tau aq 28,tau aq 29,tau aq 30,tau aq 31,tau aq 32,tau aq 33,tau aq 34,tau aq 35,tau aq 36,tau aq 37,tau aq 38,tau aq 39,tau aq 40,tau aq 41,tau aq 42,tau aq 43,tau aq 44,tau aq 45,tau aq 46,tau aq 47,tau aq 48,tau aq 49,tau aq 50,tau aq 51,tau aq 52,tau aq 53,tau aq 54,tau aq 55,tau aq 56,tau aq 57,tau aq 58,tau aq 59,tau aq 60,tau aq 61,tau aq 62,tau aq 63,tau aq 64,tau aq 65,tau aq 66,tau aq 67,tau aq 68,tau aq 69,tau aq 70,tau aq 71,tau aq 72,tau aq 73,tau aq 74,tau aq 75,tau aq 76,tau aq 77,tau aq 78,tau aq 79,tau aq 80,tau aq 81,tau aq 82,tau aq 83,tau aq 84,tau aq 85,tau aq 86,tau aq 87,tau aq 88,tau aq 89,tau aq 90,tau aq 91,tau aq 92,tau aq 93,tau aq 94,tau aq 95,tau aq 96,tau aq 97,tau aq 98,tau aq 99,tau aq 100,tau aq 101,tau aq 102,tau aq 103,tau aq 104,tau aq 105,tau aq 106,tau aq 107,tau aq 108,tau aq 109,tau aq 110,tau aq 111,tau aq 112,tau aq 113,tau aq 114,tau aq 115,tau aq 116,tau aq 117],[]⟩:=by
    obtain ⟨tq,dq⟩:=aq
    have h5:=arr_eq (show tq.size=118 from hw)
    have h6:dq= []:=hd
    subst h6
    exact congrArg (fun z=>Act.mk z []) h5
   show K2 aq wx
   rw[haq,hf 0,hf 1,hf 2,hf 3,hf 4,hf 5,hf 6,hf 7,hf 8,hf 9,hf 10,hf 11,hf 12,hf 13,hf 14,hf 15,hf 16,hf 17,hf 19,hf 20,hf 21,hf 22,hf 23,hf 24,hf 25,hf 26,hf 27,hf 28,hf 29,hf 30,hf 31,hf 32,hf 33,hf 34,hf 35,hf 36,hf 37,hf 38,hf 39,hf 40,hf 41,hf 42,hf 43,hf 44,hf 45,hf 46,hf 47,hf 48,hf 49,hf 50,hf 51,hf 52,hf 53,hf 54,hf 55,hf 56,hf 57,hf 58,hf 59,hf 60,hf 61,hf 62,hf 63,hf 64,hf 65,hf 66,hf 67,hf 68,hf 69,hf 70,hf 71,hf 72,hf 73,hf 74,hf 75,hf 76,hf 77,hf 78,hf 79,hf 80,hf 81,hf 82,hf 83,hf 84,hf 85,hf 86,hf 100,hf 101,hf 102,hf 103,hf 104,hf 105,hf 106,hf 107,hf 108,hf 109,hf 110,hf 111,hf 112,hf 113,hf 114,hf 115,hf 116,hf 117,G18]
   clear haq hf hd hw
   try dsimp only
   refine h3 _ _ ?_
   go_meet
   refine ⟨rfl,Wi3.m ?_ ?_ ?_ ?_ ?_ ?_,Wi3.m ?_ ?_ ?_ ?_ ?_ ?_,Wi4.m ?_ ?_ ?_ ?_ ?_ ?_ ?_ ?_,Wi4.m ?_ ?_ ?_ ?_ ?_ ?_ ?_ ?_,Ri3.m ?_ ?_ ?_,Wi4.m ?_ ?_ ?_ ?_ ?_ ?_ ?_ ?_,Ri3.m ?_ ?_ ?_,Wi4.m ?_ ?_ ?_ ?_ ?_ ?_ ?_ ?_,hS.below⟩
   all_goals first|exact hS.cells (_,_) Vs|exact (hS.free _ Vs).2
 try clear c00
 try clear c01
 try clear c02
 try clear c10
 try clear c11
 try clear c12
 try clear c20
 try clear c21
 try clear c22
 try clear c23
 try clear c30
 try clear c31
 try clear c32
 try clear c33
 try clear c40
 try clear c41
 try clear c42
 try clear c50
 try clear c51
 try clear c52
 try clear c53
 try clear c60
 try clear c61
 try clear c62
 try clear c70
 try clear c71
 try clear c72
 try clear c73
 try clear f00
 try clear f01
 try clear f02
 try clear f10
 try clear f11
 try clear f12
 try clear f20
 try clear f21
 try clear f22
 try clear f23
 try clear f30
 try clear f31
 try clear f32
 try clear f33
 try clear f50
 try clear f51
 try clear f52
 try clear f53
 try clear f70
 try clear f71
 try clear f72
 try clear f73
 obtain ⟨rfl,⟨c00,c01,c02,f00,f01,f02,z0⟩,⟨c10,c11,c12,f10,f11,f12,z1⟩,⟨c20,c21,c22,c23,f20,f21,f22,f23,z2⟩,⟨c30,c31,c32,c33,f30,f31,f32,f33,z3⟩,⟨c40,c41,c42,z4⟩,⟨c50,c51,c52,c53,f50,f51,f52,f53,z5⟩,⟨c60,c61,c62,z6⟩,⟨c70,c71,c72,c73,f70,f71,f72,f73,z7⟩,hb0⟩:=hcut
 obtain ⟨wd9,rfl⟩: ∃wd9:World,wd9=wc:=⟨_,rfl⟩
 go_upto_region 10 with fail
 go_cut [] (fun  wx=>Wi3 wx (w.heap.size+1+1) x1 t (e*s)∧Wi3 wx (w.heap.size+1+1+1) e t (x1*s)∧Wi4 wx (w.heap.size+1+1+1+1) g0 gg1 g2 g3∧Wi4 wx (w.heap.size+1+1+1+1+1) l0 l1 l2 l3∧Ri3 wx w1.heap.size x1 y1 zz1∧Wi4 wx (w1.heap.size+1) g0 gg1 g2 g3∧Ri3 wx w2.heap.size e B C∧Wi4 wx (w2.heap.size+1) l0 l1 l2 l3∧Below w.heap.size w wx)
 case first=>
  have h1:=trivial
  rename_i K2 h2 h3
  refine region_n0 Vw (fun j=> #[100,101,102,103,104,105,106,107,108,109,110,111,112,113,114,115,116,117,4,5,6,7].getD j 0) (fun j=>Kd.ok ((fun j=>match j with|0=>Kd.val (.pointer (some ⟨w1.heap.size,0,none⟩))|1=>Kd.val (.int .i64 x1)|2=>Kd.val (.int .i64 t)|3=>Kd.val (.pointer (some ⟨w2.heap.size,0,none⟩))|4=>Kd.val (.int .i64 e)|5=>Kd.val (.int .i64 s)|6=>Kd.val (.int .i64 (e*s))|7=>Kd.val (.agg #[.int .i64 x1,.int .i64 t,.int .i64 (e*s)])|8=>Kd.val (.pointer (some ⟨w2.heap.size,0,none⟩))|9=>Kd.val (.int .i64 e)|10=>Kd.val (.int .i64 t)|11=>Kd.val (.pointer (some ⟨w1.heap.size,0,none⟩))|12=>Kd.val (.int .i64 x1)|13=>Kd.val (.int .i64 s)|14=>Kd.val (.int .i64 (x1*s))|15=>Kd.val (.agg #[.int .i64 e,.int .i64 t,.int .i64 (x1*s)])|16=>Kd.val (.agg #[.int .i64 g0,.int .i64 gg1,.int .i64 g2,.int .i64 g3])|17=>Kd.val (.agg #[.int .i64 l0,.int .i64 l1,.int .i64 l2,.int .i64 l3])|18=>Kd.old (wd9.heap.size) [(⟨w.heap.size+1+1,0,none⟩,.int .i64 x1),(⟨w.heap.size+1+1,1,none⟩,.int .i64 t),(⟨w.heap.size+1+1,2,none⟩,.int .i64 (e*s))]|19=>Kd.old (wd9.heap.size) [(⟨w.heap.size+1+1+1,0,none⟩,.int .i64 e),(⟨w.heap.size+1+1+1,1,none⟩,.int .i64 t),(⟨w.heap.size+1+1+1,2,none⟩,.int .i64 (x1*s))]|20=>Kd.old (wd9.heap.size) [(⟨w.heap.size+1+1+1+1,0,none⟩,.int .i64 g0),(⟨w.heap.size+1+1+1+1,1,none⟩,.int .i64 gg1),(⟨w.heap.size+1+1+1+1,2,none⟩,.int .i64 g2),(⟨w.heap.size+1+1+1+1,3,none⟩,.int .i64 g3)]|21=>Kd.old (wd9.heap.size) [(⟨w.heap.size+1+1+1+1+1,0,none⟩,.int .i64 l0),(⟨w.heap.size+1+1+1+1+1,1,none⟩,.int .i64 l1),(⟨w.heap.size+1+1+1+1+1,2,none⟩,.int .i64 l2),(⟨w.heap.size+1+1+1+1+1,3,none⟩,.int .i64 l3)]|_=>Kd.any:Nat→Kd) j)) (Sy w (wd9.heap.size) [(⟨w1.heap.size,0,none⟩,.int .i64 x1),(⟨w1.heap.size,1,none⟩,.int .i64 y1),(⟨w1.heap.size,2,none⟩,.int .i64 zz1),(⟨w1.heap.size+1,0,none⟩,.int .i64 g0),(⟨w1.heap.size+1,1,none⟩,.int .i64 gg1),(⟨w1.heap.size+1,2,none⟩,.int .i64 g2),(⟨w1.heap.size+1,3,none⟩,.int .i64 g3),(⟨w2.heap.size,0,none⟩,.int .i64 e),(⟨w2.heap.size,1,none⟩,.int .i64 B),(⟨w2.heap.size,2,none⟩,.int .i64 C),(⟨w2.heap.size+1,0,none⟩,.int .i64 l0),(⟨w2.heap.size+1,1,none⟩,.int .i64 l1),(⟨w2.heap.size+1,2,none⟩,.int .i64 l2),(⟨w2.heap.size+1,3,none⟩,.int .i64 l3)] [⟨w.heap.size+1+1,0,none⟩,⟨w.heap.size+1+1,1,none⟩,⟨w.heap.size+1+1,2,none⟩,⟨w.heap.size+1+1+1,0,none⟩,⟨w.heap.size+1+1+1,1,none⟩,⟨w.heap.size+1+1+1,2,none⟩,⟨w.heap.size+1+1+1+1,0,none⟩,⟨w.heap.size+1+1+1+1,1,none⟩,⟨w.heap.size+1+1+1+1,2,none⟩,⟨w.heap.size+1+1+1+1,3,none⟩,⟨w.heap.size+1+1+1+1+1,0,none⟩,⟨w.heap.size+1+1+1+1+1,1,none⟩,⟨w.heap.size+1+1+1+1+1,2,none⟩,⟨w.heap.size+1+1+1+1+1,3,none⟩,⟨w1.heap.size+1,0,none⟩,⟨w1.heap.size+1,1,none⟩,⟨w1.heap.size+1,2,none⟩,⟨w1.heap.size+1,3,none⟩,⟨w2.heap.size+1,0,none⟩,⟨w2.heap.size+1,1,none⟩,⟨w2.heap.size+1,2,none⟩,⟨w2.heap.size+1,3,none⟩]) Vw Vw ?_ ?_ ?_ ?_
  ·intro j hj
   have hj2:j<22:=hj
   have: ∀j,j<22→(#[100,101,102,103,104,105,106,107,108,109,110,111,112,113,114,115,116,117,4,5,6,7]:Array Nat).getD j 0<118:=by decide
   exact this j hj2
  ·refine Sy.drew (Sy.mk_of ?_ ?_ ?_ ?_)
   ·first|rfl|(simp;done)|(simp;omega)
   ·intro c hc
    simp only[List.mem_cons,List.not_mem_nil,or_false] at hc
    rcases hc with rfl|rfl|rfl|rfl|rfl|rfl|rfl|rfl|rfl|rfl|rfl|rfl|rfl|rfl<;>exact byCT
   ·intro p hp
    simp only[List.mem_cons,List.not_mem_nil,or_false] at hp
    rcases hp with rfl|rfl|rfl|rfl|rfl|rfl|rfl|rfl|rfl|rfl|rfl|rfl|rfl|rfl|rfl|rfl|rfl|rfl|rfl|rfl|rfl|rfl<;>exact ⟨by first|((repeat' with_reducible (first|refine ex_set _ ?_|refine ex_al _ ?_|exact ⟨_,VV⟩));done)|first|exact ⟨_,VV⟩|assumption|(go_simp;done)|(go_simp;exact ⟨_,rfl⟩),by first|((repeat' first|with_reducible (first|assumption|refine frz_al _ ?_ ?_|refine frz_set _ ?_)|omega|(simp;omega));done)|assumption|(go_simp;done)⟩
   ·(repeat' first|with_reducible (first|exact Below.refl _ _|assumption|refine gr_alloc ?_ _|refine below_drewN ?_ _|refine below_drew ?_|refine gr_call ?_ VV|refine Below.setCell ?_ ?_ _)|go_size|omega|(simp;omega))
  ·clear h1 h2 h3
   try clear c00
   try clear c01
   try clear c02
   try clear c10
   try clear c11
   try clear c12
   try clear c20
   try clear c21
   try clear c22
   try clear c23
   try clear c30
   try clear c31
   try clear c32
   try clear c33
   try clear c40
   try clear c41
   try clear c42
   try clear c50
   try clear c51
   try clear c52
   try clear c53
   try clear c60
   try clear c61
   try clear c62
   try clear c70
   try clear c71
   try clear c72
   try clear c73
   try clear f00
   try clear f01
   try clear f02
   try clear f10
   try clear f11
   try clear f12
   try clear f20
   try clear f21
   try clear f22
   try clear f23
   try clear f30
   try clear f31
   try clear f32
   try clear f33
   try clear f50
   try clear f51
   try clear f52
   try clear f53
   try clear f70
   try clear f71
   try clear f72
   try clear f73
   refine ⟨?r21x0,?r21x1,?r21x2,?r21x3,?r21x4,?r21x5,?r21x6,?r21x7,?r21x8,?r21x9,?r21x10,?r21x11,?r21x12,?r21x13,?r21x14,?r21x15,?r21x16,?r21x17,?r21x18,?r21x19,?r21x20,?r21x21,trivial⟩
   all_goals intro _ aq wx Kq hf hS hdep ev1 ev2 hK
   case' r21x0=>
    have F8:aq.eval (.tmp 8)= .pointer (some ⟨w1.heap.size,0,none⟩):=hf 8
   case' r21x1=>
    have D0:aq.eval (.tmp 100)=_:=hdep 0
    have c0:=hS.cells (⟨w1.heap.size,0,none⟩,.int .i64 x1) Vs
   case' r21x2=>
    have F15:aq.eval (.tmp 15)= .int .i64 t:=hf 15
   case' r21x3=>
    have F10:aq.eval (.tmp 10)= .pointer (some ⟨w2.heap.size,0,none⟩):=hf 10
   case' r21x4=>
    have D3:aq.eval (.tmp 103)=_:=hdep 3
    have c0:=hS.cells (⟨w2.heap.size,0,none⟩,.int .i64 e) Vs
   case' r21x5=>
    have F18:aq.eval (.tmp 18)= .int .i64 s:=hf 18
   case' r21x6=>
    have D4:aq.eval (.tmp 104)=_:=hdep 4
    have D5:aq.eval (.tmp 105)=_:=hdep 5
   case' r21x7=>
    have D1:aq.eval (.tmp 101)=_:=hdep 1
    have D2:aq.eval (.tmp 102)=_:=hdep 2
    have D6:aq.eval (.tmp 106)=_:=hdep 6
   case' r21x8=>
    have F10:aq.eval (.tmp 10)= .pointer (some ⟨w2.heap.size,0,none⟩):=hf 10
   case' r21x9=>
    have D8:aq.eval (.tmp 108)=_:=hdep 8
    have c0:=hS.cells (⟨w2.heap.size,0,none⟩,.int .i64 e) Vs
   case' r21x10=>
    have F15:aq.eval (.tmp 15)= .int .i64 t:=hf 15
   case' r21x11=>
    have F8:aq.eval (.tmp 8)= .pointer (some ⟨w1.heap.size,0,none⟩):=hf 8
   case' r21x12=>
    have D11:aq.eval (.tmp 111)=_:=hdep 11
    have c0:=hS.cells (⟨w1.heap.size,0,none⟩,.int .i64 x1) Vs
   case' r21x13=>
    have F18:aq.eval (.tmp 18)= .int .i64 s:=hf 18
   case' r21x14=>
    have D12:aq.eval (.tmp 112)=_:=hdep 12
    have D13:aq.eval (.tmp 113)=_:=hdep 13
   case' r21x15=>
    have D9:aq.eval (.tmp 109)=_:=hdep 9
    have D10:aq.eval (.tmp 110)=_:=hdep 10
    have D14:aq.eval (.tmp 114)=_:=hdep 14
   case' r21x16=>
    have F9:aq.eval (.tmp 9)= .pointer (some ⟨w1.heap.size+1,0,none⟩):=hf 9
    have c0:=hS.cells (⟨w1.heap.size+1,0,none⟩,.int .i64 g0) Vs
    have c1:=hS.cells (⟨w1.heap.size+1,1,none⟩,.int .i64 gg1) Vs
    have c2:=hS.cells (⟨w1.heap.size+1,2,none⟩,.int .i64 g2) Vs
    have c3:=hS.cells (⟨w1.heap.size+1,3,none⟩,.int .i64 g3) Vs
   case' r21x17=>
    have F11:aq.eval (.tmp 11)= .pointer (some ⟨w2.heap.size+1,0,none⟩):=hf 11
    have c0:=hS.cells (⟨w2.heap.size+1,0,none⟩,.int .i64 l0) Vs
    have c1:=hS.cells (⟨w2.heap.size+1,1,none⟩,.int .i64 l1) Vs
    have c2:=hS.cells (⟨w2.heap.size+1,2,none⟩,.int .i64 l2) Vs
    have c3:=hS.cells (⟨w2.heap.size+1,3,none⟩,.int .i64 l3) Vs
   case' r21x18=>
    have D7:aq.eval (.tmp 107)=_:=hdep 7
    have F4:aq.eval (.tmp 4)= .pointer (some ⟨w.heap.size+1+1,0,none⟩):=hf 4
    obtain ⟨⟨vx0,cx0⟩,cf0⟩:=hS.free ⟨w.heap.size+1+1,0,none⟩ Vs
    obtain ⟨⟨vx1,cx1⟩,cf1⟩:=hS.free ⟨w.heap.size+1+1,1,none⟩ Vs
    obtain ⟨⟨vx2,cx2⟩,cf2⟩:=hS.free ⟨w.heap.size+1+1,2,none⟩ Vs
   case' r21x19=>
    have D15:aq.eval (.tmp 115)=_:=hdep 15
    have F5:aq.eval (.tmp 5)= .pointer (some ⟨w.heap.size+1+1+1,0,none⟩):=hf 5
    obtain ⟨⟨vx0,cx0⟩,cf0⟩:=hS.free ⟨w.heap.size+1+1+1,0,none⟩ Vs
    obtain ⟨⟨vx1,cx1⟩,cf1⟩:=hS.free ⟨w.heap.size+1+1+1,1,none⟩ Vs
    obtain ⟨⟨vx2,cx2⟩,cf2⟩:=hS.free ⟨w.heap.size+1+1+1,2,none⟩ Vs
   case' r21x20=>
    have D16:aq.eval (.tmp 116)=_:=hdep 16
    have F6:aq.eval (.tmp 6)= .pointer (some ⟨w.heap.size+1+1+1+1,0,none⟩):=hf 6
    obtain ⟨⟨vx0,cx0⟩,cf0⟩:=hS.free ⟨w.heap.size+1+1+1+1,0,none⟩ Vs
    obtain ⟨⟨vx1,cx1⟩,cf1⟩:=hS.free ⟨w.heap.size+1+1+1+1,1,none⟩ Vs
    obtain ⟨⟨vx2,cx2⟩,cf2⟩:=hS.free ⟨w.heap.size+1+1+1+1,2,none⟩ Vs
    obtain ⟨⟨vx3,cx3⟩,cf3⟩:=hS.free ⟨w.heap.size+1+1+1+1,3,none⟩ Vs
   case' r21x21=>
    have D17:aq.eval (.tmp 117)=_:=hdep 17
    have F7:aq.eval (.tmp 7)= .pointer (some ⟨w.heap.size+1+1+1+1+1,0,none⟩):=hf 7
    obtain ⟨⟨vx0,cx0⟩,cf0⟩:=hS.free ⟨w.heap.size+1+1+1+1+1,0,none⟩ Vs
    obtain ⟨⟨vx1,cx1⟩,cf1⟩:=hS.free ⟨w.heap.size+1+1+1+1+1,1,none⟩ Vs
    obtain ⟨⟨vx2,cx2⟩,cf2⟩:=hS.free ⟨w.heap.size+1+1+1+1+1,2,none⟩ Vs
    obtain ⟨⟨vx3,cx3⟩,cf3⟩:=hS.free ⟨w.heap.size+1+1+1+1+1,3,none⟩ Vs
   all_goals (clear hf hdep;unfold Oper.wp;generalize Act.eval _=ev at *;go_simp)
   case r21x18=>
    refine hK undef (setAll (w.heap.size+1+1) 0 [.int .i64 x1,.int .i64 t,.int .i64 (e*s)] wx) (Sy.setAll Vr (fa (far_blk Vm) (fa (far_blk Vm) (fa (far_blk Vm) (fa (far_blk Vm) (fa (far_blk Vm) (fa (far_blk Vm) (fa (far_blk Vm) (fa (far_blk Vm) (fa (far_blk Vm) (fa (far_blk Vm) (fa (far_blk Vm) (fa (far_blk Vm) (fa (far_blk Vm) (fa (far_blk Vm) (fa0))))))))))))))) hS) ?_ (fun j u hj h=> ?_)
    ·rw [if_neg VA]
     exact fa ⟨setAll_at (w.heap.size+1+1) [.int .i64 x1,.int .i64 t,.int .i64 (e*s)] 0 wx 0 (show 0<3 by decide) ⟨vx0,cx0⟩,Vr⟩ (fa ⟨setAll_at (w.heap.size+1+1) [.int .i64 x1,.int .i64 t,.int .i64 (e*s)] 0 wx 1 (show 1<3 by decide) ⟨vx1,cx1⟩,Vr⟩ (fa ⟨setAll_at (w.heap.size+1+1) [.int .i64 x1,.int .i64 t,.int .i64 (e*s)] 0 wx 2 (show 2<3 by decide) ⟨vx2,cx2⟩,Vr⟩ (fa0)))
    ·match j,hj with
     |0,hj|1,hj|2,hj|3,hj|4,hj|5,hj|6,hj|7,hj|8,hj|9,hj|10,hj|11,hj|12,hj|13,hj|14,hj|15,hj|16,hj|17,hj=>exact (show (u:Value)=_ from h)
     |18,hj=>exact absurd rfl hj
     |19,hj=>exact Kd.ok_setAll_old (k:=Kd.old (wd9.heap.size) [(⟨w.heap.size+1+1+1,0,none⟩,.int .i64 e),(⟨w.heap.size+1+1+1,1,none⟩,.int .i64 t),(⟨w.heap.size+1+1+1,2,none⟩,.int .i64 (x1*s))]) trivial (fa (far_blk Vm) (fa (far_blk Vm) (fa (far_blk Vm) (fa0)))) h
     |20,hj=>exact Kd.ok_setAll_old (k:=Kd.old (wd9.heap.size) [(⟨w.heap.size+1+1+1+1,0,none⟩,.int .i64 g0),(⟨w.heap.size+1+1+1+1,1,none⟩,.int .i64 gg1),(⟨w.heap.size+1+1+1+1,2,none⟩,.int .i64 g2),(⟨w.heap.size+1+1+1+1,3,none⟩,.int .i64 g3)]) trivial (fa (far_blk Vm) (fa (far_blk Vm) (fa (far_blk Vm) (fa (far_blk Vm) (fa0))))) h
     |21,hj=>exact Kd.ok_setAll_old (k:=Kd.old (wd9.heap.size) [(⟨w.heap.size+1+1+1+1+1,0,none⟩,.int .i64 l0),(⟨w.heap.size+1+1+1+1+1,1,none⟩,.int .i64 l1),(⟨w.heap.size+1+1+1+1+1,2,none⟩,.int .i64 l2),(⟨w.heap.size+1+1+1+1+1,3,none⟩,.int .i64 l3)]) trivial (fa (far_blk Vm) (fa (far_blk Vm) (fa (far_blk Vm) (fa (far_blk Vm) (fa0))))) h
     |j+22,_=>trivial
   case r21x19=>
    refine hK undef (setAll (w.heap.size+1+1+1) 0 [.int .i64 e,.int .i64 t,.int .i64 (x1*s)] wx) (Sy.setAll Vr (fa (far_blk Vm) (fa (far_blk Vm) (fa (far_blk Vm) (fa (far_blk Vm) (fa (far_blk Vm) (fa (far_blk Vm) (fa (far_blk Vm) (fa (far_blk Vm) (fa (far_blk Vm) (fa (far_blk Vm) (fa (far_blk Vm) (fa (far_blk Vm) (fa (far_blk Vm) (fa (far_blk Vm) (fa0))))))))))))))) hS) ?_ (fun j u hj h=> ?_)
    ·rw [if_neg VA]
     exact fa ⟨setAll_at (w.heap.size+1+1+1) [.int .i64 e,.int .i64 t,.int .i64 (x1*s)] 0 wx 0 (show 0<3 by decide) ⟨vx0,cx0⟩,Vr⟩ (fa ⟨setAll_at (w.heap.size+1+1+1) [.int .i64 e,.int .i64 t,.int .i64 (x1*s)] 0 wx 1 (show 1<3 by decide) ⟨vx1,cx1⟩,Vr⟩ (fa ⟨setAll_at (w.heap.size+1+1+1) [.int .i64 e,.int .i64 t,.int .i64 (x1*s)] 0 wx 2 (show 2<3 by decide) ⟨vx2,cx2⟩,Vr⟩ (fa0)))
    ·match j,hj with
     |0,hj|1,hj|2,hj|3,hj|4,hj|5,hj|6,hj|7,hj|8,hj|9,hj|10,hj|11,hj|12,hj|13,hj|14,hj|15,hj|16,hj|17,hj=>exact (show (u:Value)=_ from h)
     |18,hj=>exact Kd.ok_setAll_old (k:=Kd.old (wd9.heap.size) [(⟨w.heap.size+1+1,0,none⟩,.int .i64 x1),(⟨w.heap.size+1+1,1,none⟩,.int .i64 t),(⟨w.heap.size+1+1,2,none⟩,.int .i64 (e*s))]) trivial (fa (far_blk Vm) (fa (far_blk Vm) (fa (far_blk Vm) (fa0)))) h
     |19,hj=>exact absurd rfl hj
     |20,hj=>exact Kd.ok_setAll_old (k:=Kd.old (wd9.heap.size) [(⟨w.heap.size+1+1+1+1,0,none⟩,.int .i64 g0),(⟨w.heap.size+1+1+1+1,1,none⟩,.int .i64 gg1),(⟨w.heap.size+1+1+1+1,2,none⟩,.int .i64 g2),(⟨w.heap.size+1+1+1+1,3,none⟩,.int .i64 g3)]) trivial (fa (far_blk Vm) (fa (far_blk Vm) (fa (far_blk Vm) (fa (far_blk Vm) (fa0))))) h
     |21,hj=>exact Kd.ok_setAll_old (k:=Kd.old (wd9.heap.size) [(⟨w.heap.size+1+1+1+1+1,0,none⟩,.int .i64 l0),(⟨w.heap.size+1+1+1+1+1,1,none⟩,.int .i64 l1),(⟨w.heap.size+1+1+1+1+1,2,none⟩,.int .i64 l2),(⟨w.heap.size+1+1+1+1+1,3,none⟩,.int .i64 l3)]) trivial (fa (far_blk Vm) (fa (far_blk Vm) (fa (far_blk Vm) (fa (far_blk Vm) (fa0))))) h
     |j+22,_=>trivial
   case r21x20=>
    refine hK undef (setAll (w.heap.size+1+1+1+1) 0 [.int .i64 g0,.int .i64 gg1,.int .i64 g2,.int .i64 g3] wx) (Sy.setAll Vr (fa (far_blk Vm) (fa (far_blk Vm) (fa (far_blk Vm) (fa (far_blk Vm) (fa (far_blk Vm) (fa (far_blk Vm) (fa (far_blk Vm) (fa (far_blk Vm) (fa (far_blk Vm) (fa (far_blk Vm) (fa (far_blk Vm) (fa (far_blk Vm) (fa (far_blk Vm) (fa (far_blk Vm) (fa0))))))))))))))) hS) ?_ (fun j u hj h=> ?_)
    ·rw [if_neg VA]
     exact fa ⟨setAll_at (w.heap.size+1+1+1+1) [.int .i64 g0,.int .i64 gg1,.int .i64 g2,.int .i64 g3] 0 wx 0 (show 0<4 by decide) ⟨vx0,cx0⟩,Vr⟩ (fa ⟨setAll_at (w.heap.size+1+1+1+1) [.int .i64 g0,.int .i64 gg1,.int .i64 g2,.int .i64 g3] 0 wx 1 (show 1<4 by decide) ⟨vx1,cx1⟩,Vr⟩ (fa ⟨setAll_at (w.heap.size+1+1+1+1) [.int .i64 g0,.int .i64 gg1,.int .i64 g2,.int .i64 g3] 0 wx 2 (show 2<4 by decide) ⟨vx2,cx2⟩,Vr⟩ (fa ⟨setAll_at (w.heap.size+1+1+1+1) [.int .i64 g0,.int .i64 gg1,.int .i64 g2,.int .i64 g3] 0 wx 3 (show 3<4 by decide) ⟨vx3,cx3⟩,Vr⟩ (fa0))))
    ·match j,hj with
     |0,hj|1,hj|2,hj|3,hj|4,hj|5,hj|6,hj|7,hj|8,hj|9,hj|10,hj|11,hj|12,hj|13,hj|14,hj|15,hj|16,hj|17,hj=>exact (show (u:Value)=_ from h)
     |18,hj=>exact Kd.ok_setAll_old (k:=Kd.old (wd9.heap.size) [(⟨w.heap.size+1+1,0,none⟩,.int .i64 x1),(⟨w.heap.size+1+1,1,none⟩,.int .i64 t),(⟨w.heap.size+1+1,2,none⟩,.int .i64 (e*s))]) trivial (fa (far_blk Vm) (fa (far_blk Vm) (fa (far_blk Vm) (fa0)))) h
     |19,hj=>exact Kd.ok_setAll_old (k:=Kd.old (wd9.heap.size) [(⟨w.heap.size+1+1+1,0,none⟩,.int .i64 e),(⟨w.heap.size+1+1+1,1,none⟩,.int .i64 t),(⟨w.heap.size+1+1+1,2,none⟩,.int .i64 (x1*s))]) trivial (fa (far_blk Vm) (fa (far_blk Vm) (fa (far_blk Vm) (fa0)))) h
     |20,hj=>exact absurd rfl hj
     |21,hj=>exact Kd.ok_setAll_old (k:=Kd.old (wd9.heap.size) [(⟨w.heap.size+1+1+1+1+1,0,none⟩,.int .i64 l0),(⟨w.heap.size+1+1+1+1+1,1,none⟩,.int .i64 l1),(⟨w.heap.size+1+1+1+1+1,2,none⟩,.int .i64 l2),(⟨w.heap.size+1+1+1+1+1,3,none⟩,.int .i64 l3)]) trivial (fa (far_blk Vm) (fa (far_blk Vm) (fa (far_blk Vm) (fa (far_blk Vm) (fa0))))) h
     |j+22,_=>trivial
   case r21x21=>
    refine hK undef (setAll (w.heap.size+1+1+1+1+1) 0 [.int .i64 l0,.int .i64 l1,.int .i64 l2,.int .i64 l3] wx) (Sy.setAll Vr (fa (far_blk Vm) (fa (far_blk Vm) (fa (far_blk Vm) (fa (far_blk Vm) (fa (far_blk Vm) (fa (far_blk Vm) (fa (far_blk Vm) (fa (far_blk Vm) (fa (far_blk Vm) (fa (far_blk Vm) (fa (far_blk Vm) (fa (far_blk Vm) (fa (far_blk Vm) (fa (far_blk Vm) (fa0))))))))))))))) hS) ?_ (fun j u hj h=> ?_)
    ·rw [if_neg VA]
     exact fa ⟨setAll_at (w.heap.size+1+1+1+1+1) [.int .i64 l0,.int .i64 l1,.int .i64 l2,.int .i64 l3] 0 wx 0 (show 0<4 by decide) ⟨vx0,cx0⟩,Vr⟩ (fa ⟨setAll_at (w.heap.size+1+1+1+1+1) [.int .i64 l0,.int .i64 l1,.int .i64 l2,.int .i64 l3] 0 wx 1 (show 1<4 by decide) ⟨vx1,cx1⟩,Vr⟩ (fa ⟨setAll_at (w.heap.size+1+1+1+1+1) [.int .i64 l0,.int .i64 l1,.int .i64 l2,.int .i64 l3] 0 wx 2 (show 2<4 by decide) ⟨vx2,cx2⟩,Vr⟩ (fa ⟨setAll_at (w.heap.size+1+1+1+1+1) [.int .i64 l0,.int .i64 l1,.int .i64 l2,.int .i64 l3] 0 wx 3 (show 3<4 by decide) ⟨vx3,cx3⟩,Vr⟩ (fa0))))
    ·match j,hj with
     |0,hj|1,hj|2,hj|3,hj|4,hj|5,hj|6,hj|7,hj|8,hj|9,hj|10,hj|11,hj|12,hj|13,hj|14,hj|15,hj|16,hj|17,hj=>exact (show (u:Value)=_ from h)
     |18,hj=>exact Kd.ok_setAll_old (k:=Kd.old (wd9.heap.size) [(⟨w.heap.size+1+1,0,none⟩,.int .i64 x1),(⟨w.heap.size+1+1,1,none⟩,.int .i64 t),(⟨w.heap.size+1+1,2,none⟩,.int .i64 (e*s))]) trivial (fa (far_blk Vm) (fa (far_blk Vm) (fa (far_blk Vm) (fa0)))) h
     |19,hj=>exact Kd.ok_setAll_old (k:=Kd.old (wd9.heap.size) [(⟨w.heap.size+1+1+1,0,none⟩,.int .i64 e),(⟨w.heap.size+1+1+1,1,none⟩,.int .i64 t),(⟨w.heap.size+1+1+1,2,none⟩,.int .i64 (x1*s))]) trivial (fa (far_blk Vm) (fa (far_blk Vm) (fa (far_blk Vm) (fa0)))) h
     |20,hj=>exact Kd.ok_setAll_old (k:=Kd.old (wd9.heap.size) [(⟨w.heap.size+1+1+1+1,0,none⟩,.int .i64 g0),(⟨w.heap.size+1+1+1+1,1,none⟩,.int .i64 gg1),(⟨w.heap.size+1+1+1+1,2,none⟩,.int .i64 g2),(⟨w.heap.size+1+1+1+1,3,none⟩,.int .i64 g3)]) trivial (fa (far_blk Vm) (fa (far_blk Vm) (fa (far_blk Vm) (fa (far_blk Vm) (fa0))))) h
     |21,hj=>exact absurd rfl hj
     |j+22,_=>trivial
   all_goals (refine hK _ _ hS ?_ (fun j u _ h=>h);rw [if_pos VH];show (_:Value)=_;(first|rfl|(refine congrArg (Value.int .i64) ?_;first|rfl|exact int_in Vn|exact quo_in Vn Vn Vn|exact rem_in Vn Vn|omega)|(simp;done)|(simp [*];done)))
  ·intro aq wx hd hw hf hS hg
   have haq:aq=⟨#[tau aq 0,tau aq 1,tau aq 2,tau aq 3,tau aq 4,tau aq 5,tau aq 6,tau aq 7,tau aq 8,tau aq 9,tau aq 10,tau aq 11,tau aq 12,tau aq 13,tau aq 14,tau aq 15,tau aq 16,tau aq 17,tau aq 18,tau aq 19,tau aq 20,tau aq 21,tau aq 22,tau aq 23,tau aq 24,tau aq 25,tau aq 26,tau aq 27,tau aq 28,tau aq 29,tau aq 30,tau aq 31,tau aq 32,tau aq 33,tau aq 34,tau aq 35,tau aq 36,tau aq 37,tau aq 38,tau aq 39,tau aq 40,tau aq 41,tau aq 42,tau aq 43,tau aq 44,tau aq 45,tau aq 46,tau aq 47,tau aq 48,tau aq 49,tau aq 50,tau aq 51,tau aq 52,tau aq 53,tau aq 54,tau aq 55,tau aq 56,tau aq 57,tau aq 58,tau aq 59,tau aq 60,tau aq 61,tau aq 62,tau aq 63,tau aq 64,tau aq 65,tau aq 66,tau aq 67,tau aq 68,tau aq 69,tau aq 70,tau aq 71,tau aq 72,tau aq 73,tau aq 74,tau aq 75,tau aq 76,tau aq 77,tau aq 78,tau aq 79,tau aq 80,tau aq 81,tau aq 82,tau aq 83,tau aq 84,tau aq 85,tau aq 86,tau aq 87,tau aq 88,tau aq 89,tau aq 90,tau aq 91,tau aq 92,tau aq 93,tau aq 94,tau aq 95,tau aq 96,tau aq 97,tau aq 98,tau aq 99,tau aq 100,tau aq 101,tau aq 102,tau aq 103,tau aq 104,tau aq 105,tau aq 106,tau aq 107,tau aq 108,tau aq 109,tau aq 110,tau aq 111,tau aq 112,tau aq 113,tau aq 114,tau aq 115,tau aq 116,tau aq 117],[]⟩:=by
    obtain ⟨tq,dq⟩:=aq
    have h5:=arr_eq (show tq.size=118 from hw)
    have h6:dq= []:=hd
    subst h6
    exact congrArg (fun z=>Act.mk z []) h5
   show K2 aq wx
   rw[haq,hf 0,hf 1,hf 2,hf 3,hf 4,hf 5,hf 6,hf 7,hf 8,hf 9,hf 10,hf 11,hf 12,hf 13,hf 14,hf 15,hf 16,hf 17,hf 18,hf 19,hf 20,hf 21,hf 22,hf 23,hf 24,hf 25,hf 26,hf 27,hf 28,hf 29,hf 30,hf 31,hf 32,hf 33,hf 34,hf 35,hf 36,hf 37,hf 38,hf 39,hf 40,hf 41,hf 42,hf 43,hf 44,hf 45,hf 46,hf 47,hf 48,hf 49,hf 50,hf 51,hf 52,hf 53,hf 54,hf 55,hf 56,hf 57,hf 58,hf 59,hf 60,hf 61,hf 62,hf 63,hf 64,hf 65,hf 66,hf 67,hf 68,hf 69,hf 70,hf 71,hf 72,hf 73,hf 74,hf 75,hf 76,hf 77,hf 78,hf 79,hf 80,hf 81,hf 82,hf 83,hf 84,hf 85,hf 86,hf 87,hf 88,hf 89,hf 90,hf 91,hf 92,hf 93,hf 94,hf 95,hf 96,hf 97,hf 98,hf 99]
   clear haq hf hd hw
   try dsimp only
   refine h3 _ _ ?_
   go_meet
   refine ⟨Wi3.m (hg 18 VA (_,_) Vs).1 (hg 18 VA (_,_) Vs).1 (hg 18 VA (_,_) Vs).1 ?_ ?_ ?_,Wi3.m (hg 19 VA (_,_) Vs).1 (hg 19 VA (_,_) Vs).1 (hg 19 VA (_,_) Vs).1 ?_ ?_ ?_,Wi4.m (hg 20 VA (_,_) Vs).1 (hg 20 VA (_,_) Vs).1 (hg 20 VA (_,_) Vs).1 (hg 20 VA (_,_) Vs).1 ?_ ?_ ?_ ?_,Wi4.m (hg 21 VA (_,_) Vs).1 (hg 21 VA (_,_) Vs).1 (hg 21 VA (_,_) Vs).1 (hg 21 VA (_,_) Vs).1 ?_ ?_ ?_ ?_,Ri3.m ?_ ?_ ?_,Wi4.m ?_ ?_ ?_ ?_ ?_ ?_ ?_ ?_,Ri3.m ?_ ?_ ?_,Wi4.m ?_ ?_ ?_ ?_ ?_ ?_ ?_ ?_,hS.below⟩
   all_goals first|exact hS.cells (_,_) Vs|exact (hS.free _ Vs).2
 try clear c00
 try clear c01
 try clear c02
 try clear c10
 try clear c11
 try clear c12
 try clear c20
 try clear c21
 try clear c22
 try clear c23
 try clear c30
 try clear c31
 try clear c32
 try clear c33
 try clear c40
 try clear c41
 try clear c42
 try clear c50
 try clear c51
 try clear c52
 try clear c53
 try clear c60
 try clear c61
 try clear c62
 try clear c70
 try clear c71
 try clear c72
 try clear c73
 try clear f00
 try clear f01
 try clear f02
 try clear f10
 try clear f11
 try clear f12
 try clear f20
 try clear f21
 try clear f22
 try clear f23
 try clear f30
 try clear f31
 try clear f32
 try clear f33
 try clear f50
 try clear f51
 try clear f52
 try clear f53
 try clear f70
 try clear f71
 try clear f72
 try clear f73
 obtain ⟨⟨c00,c01,c02,f00,f01,f02,z0⟩,⟨c10,c11,c12,f10,f11,f12,z1⟩,⟨c20,c21,c22,c23,f20,f21,f22,f23,z2⟩,⟨c30,c31,c32,c33,f30,f31,f32,f33,z3⟩,⟨c40,c41,c42,z4⟩,⟨c50,c51,c52,c53,f50,f51,f52,f53,z5⟩,⟨c60,c61,c62,z6⟩,⟨c70,c71,c72,c73,f70,f71,f72,f73,z7⟩,hb0⟩:=hcut
 rename_i KK hKK
 refine hKK _ _ ?_
 refine wp_ret ?_
 refine bodyPost_ret (v:= .tuple #[.agg #[.int .i64 x1,.int .i64 t,.int .i64 (e*s)],.agg #[.int .i64 e,.int .i64 t,.int .i64 (x1*s)],.agg #[.int .i64 g0,.int .i64 gg1,.int .i64 g2,.int .i64 g3],.agg #[.int .i64 l0,.int .i64 l1,.int .i64 l2,.int .i64 l3]]) (by simp [results,Tryz.results133,go_sem,c00,c01,c02,c10,c11,c12,c20,c21,c22,c23,c30,c31,c32,c33]) rfl ?_
 exact ⟨x1,y1,zz1,x2,y2,zz2,e,t,s,g0,gg1,g2,g3,l0,l1,l2,l3,rfl,unhide HR1,unhide HR2,unhide HU,hb0⟩
end Go.Proofs.YtobkcnmlmmhpoaaGreatDoor
