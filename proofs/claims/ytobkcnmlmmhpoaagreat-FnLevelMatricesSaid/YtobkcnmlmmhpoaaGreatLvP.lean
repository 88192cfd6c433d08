/- Plain facts of uniting two forms. Plain: forms as triples: reduced form, composite, powers as functions of triples. Plain: the level form of a reduced form with a root. -/
import Derived.Test.YtobkcnmlmmhpoaaGreatCps
namespace Go.Proofs.YtobkcnmlmmhpoaaGreat
open Go.RowKit
set_option linter.unusedVariables false
set_option linter.unusedSimpArgs false

theorem par_of {a b c e B C:Int} (h:discI e B C=discI a b c):2∣B-b:=by
 unfold discI at h
 have e1:4*e*C=4*(e*C):=Int.mul_assoc _ _ _
 have e2:4*a*c=4*(a*c):=Int.mul_assoc _ _ _
 have h2:(B*B)%2=(b*b)%2:=by omega
 rw[Int.mul_emod,Int.mul_emod b b] at h2
 rcases Int.emod_two_eq B with hB|hB<;>rcases Int.emod_two_eq b with hb|hb<;>rw[hB,hb] at h2<;>omega
noncomputable def uT (a b e B:Int):Int:=cmT (b%(2*a)) a B e
noncomputable def uS (a b c e B:Int):Int:=(uT a b e B*uT a b e B-discI a b c) / (4*a*e)
structure UniF (a b c p q r:Int) (x y:Nat) (e B C t s:Int):Prop where
 a0:1≤a
 a1:a≤26
 b0: -26≤b∧b≤26
 e0:1≤e
 e1:e≤20000
 B0:0≤B
 B1:B<2*e
 g1:Int.gcd e a=1
 par:2∣B-b%(2*a)
 t0:0≤t
 t1:t<2*a*e
 ae:0<a*e∧a*e≤520000
 ta:2*a∣t-b
 te:2*e∣t-B
 uni: ∀z,0≤z→z≤t→2*a∣z-b→2*e∣z-B→z=t
 tt:0≤t*t∧t*t≤1081600000000
 ss:(t*t-discI a b c).tdiv (4*a*e)=s
 s0:0<s
 s1:s≤100000000
 isu:IsU a b c p q r e t s
theorem uni_facts {a b c p q r:Int} {k x y:Nat} (h:RedC a b c) (h':RedC p q r) (hD:discI p q r=discI a b c) (hf:IsFirst p q r a k x y):
  (x≤5∧y≤5∧Int.gcd x y=1)∧UniF a b c p q r x y (cpE p q r x y) (cpB p q r x y) (cpC p q r x y) (uT a b (cpE p q r x y) (cpB p q r x y)) (uS a b c (cpE p q r x y) (cpB p q r x y)):=by
 obtain ⟨s1,s2,s3,s4⟩:=red_small h.cls.ok h.red
 have a0:=h.cls.ok.a0
 have hk:=first_le (by omega) (by omega) h'.cls.pr hf
 obtain ⟨f1,f2,f3⟩:=hit_facts hf.hit
 have hx:x≤5:=by omega
 have hy:y≤5:=by omega
 refine ⟨⟨hx,hy,f2⟩,?_⟩
 have hF:=cpl_facts h' hx hy f2
 have hcb:=hF.cb
 have hE:cpE p q r x y=valI p q r x y:=rfl
 have hS:uS a b c (cpE p q r x y) (cpB p q r x y)=(uT a b (cpE p q r x y) (cpB p q r x y)*uT a b (cpE p q r x y) (cpB p q r x y)-discI a b c) / (4*a*cpE p q r x y):=rfl
 have hT:uT a b (cpE p q r x y) (cpB p q r x y)=cmT (b%(2*a)) a (cpB p q r x y) (cpE p q r x y):=rfl
 have f4:Int.gcd (cpE p q r x y) a=1:=f3
 have e0:=hF.e0
 have e1:=hF.e1
 have B0:=hF.B0
 have B1:=hF.B1
 have dd:=hF.dd
 have mk: ∀t s,IsUB a b (cpE p q r x y) (cpB p q r x y) t→s=(t*t-discI a b c) / (4*a*cpE p q r x y)→IsU a b c p q r (cpE p q r x y) t s:=fun t s h1 h2=>⟨k,x,y,cpB p q r x y,hf,rfl,hcb,h1,h2⟩
 clear hF hcb hE f1 f3
 generalize uS a b c (cpE p q r x y) (cpB p q r x y)=s at*
 generalize uT a b (cpE p q r x y) (cpB p q r x y)=t at*
 generalize cpE p q r x y=e at*
 generalize cpB p q r x y=B at*
 generalize cpC p q r x y=C at*
 have g0:=Int.emod_add_mul_ediv b (2*a)
 have par:2∣B-b%(2*a):=by
  obtain ⟨z,hz⟩:=par_of (dd.trans hD)
  have e2:2*a*(b / (2*a))=2*(a*(b / (2*a))):=Int.mul_assoc _ _ _
  exact ⟨z+a*(b / (2*a)),by omega⟩
 obtain ⟨t0,t1,t2,t3⟩:=cm_facts (a0:=b%(2*a)) (p:=a) (b0:=B) (q:=e) (by omega) e0 f4 par
 rw[←hT] at t0 t1 t2 t3
 have t2':2*a∣t-b:=by
  obtain ⟨z,hz⟩:=t2
  exact ⟨z-b / (2*a),by rw[Int.mul_sub,←hz];omega⟩
 have hub:IsUB a b e B t:=⟨t0,t1,t2',t3⟩
 have g2:Int.gcd a e=1:=by rw[Int.gcd_comm];exact f4
 have hu:=mk t s hub hS
 obtain ⟨_,_,_,_,_,hc,hdd,_,_⟩:=hu.facts h h' hD
 obtain ⟨s',w1,w2,w3⟩:=ub_form a0 (by omega) g2 (dd.trans hD) hub
 rw[←w2] at hS
 subst hS
 have n0:=Int.mul_pos a0 (show 0<e by omega)
 have n1:a*e≤26*20000:=Int.mul_le_mul s1 e1 (by omega) (by omega)
 have e2:2*a*e=2*(a*e):=Int.mul_assoc _ _ _
 have tt0:0≤t*t:=Int.mul_nonneg t0 t0
 have tt1:t*t≤1040000*1040000:=Int.mul_le_mul (by omega) (by omega) t0 (by omega)
 have e4:4*a*e=4*(a*e):=Int.mul_assoc _ _ _
 refine ⟨by omega,s1,⟨s2,s3⟩,e0,e1,B0,B1,f4,par,t0,t1,⟨n0,by omega⟩,t2',t3,?_,⟨tt0,by omega⟩,?_,hc.ok.c0,hc.ok.c1,hu⟩
 ·intro z z0 z1 z2 z3
  exact ub_same a0 (by omega) g2 ⟨z0,by omega,z2,z3⟩ hub
 ·have:t*t-discI a b c=4*a*e*s:=by
   unfold discI at w1 ⊢
   have e5:4*(a*e)*s=4*a*e*s:=by rw[e4]
   omega
  rw[this,Int.mul_tdiv_cancel_left _ (by omega)]
theorem least {P:Nat→Prop} (h: ∃n,P n): ∃n,P n∧ ∀m,m<n→ ¬P m:=by
 obtain ⟨n,hn⟩:=h
 induction n using Nat.strongRecOn with
 |_ n ih=>
  by_cases q: ∃m,m<n∧P m
  ·obtain ⟨m,h1,h2⟩:=q
   exact ih m h1 h2
  ·exact ⟨n,hn,fun m h1 h2=>q ⟨m,h1,h2⟩⟩
theorem fp_ex {a b c m:Int} (hm:1≤m) (hm2:m≤30) (hp:Prim a b c): ∃k,IsFirst a b c m k (fpP a b c m).1 (fpP a b c m).2:=by
 obtain ⟨x',y',h1,h2,h3⟩:=exists_hit hm hm2 (gcd_prim (m:=m) hp)
 obtain ⟨k,⟨x1,y1,hx1,hy1,hh⟩,hk⟩:=least (P:=fun k=> ∃x y,x≤k∧y≤k∧hitB a b c m k x y=true) ⟨max x' y',x',y',by omega,by omega,h3⟩
 obtain ⟨x,⟨y2,hy2,hh2⟩,hx⟩:=least (P:=fun x=> ∃y,y≤k∧hitB a b c m k x y=true) ⟨x1,y1,hy1,hh⟩
 obtain ⟨y,hh3,hy⟩:=least (P:=fun y=>hitB a b c m k x y=true) ⟨y2,hh2⟩
 have hmx:=(hit_facts hh3).1
 have nf: ∀b:Bool,¬b=true→b=false:=fun b h=>by cases b<;>simp at h ⊢
 have hf:IsFirst a b c m k x y:=⟨hh3,by omega,by omega,fun k' h' x' y' hx' hy'=>nf _ (fun q=>hk k' h' ⟨x',y',hx',hy',q⟩),fun x' h' y' hy'=>nf _ (fun q=>hx x' h' ⟨y',hy',q⟩),fun y' h'=>nf _ (hy y' h')⟩
 obtain ⟨e1,e2⟩:=fp_of hf
 unfold fpX at e1
 unfold fpY at e2
 have e3:(fpP a b c m).1=x:=by omega
 have e4:(fpP a b c m).2=y:=by omega
 rw[e3,e4]
 exact ⟨k,hf⟩
theorem fp_eq {a b c m:Int} {k x y:Nat} (h:IsFirst a b c m k x y):(fpP a b c m).1=x∧(fpP a b c m).2=y:=by
 obtain ⟨e1,e2⟩:=fp_of h
 unfold fpX at e1
 unfold fpY at e2
 exact ⟨by omega,by omega⟩
end Go.Proofs.YtobkcnmlmmhpoaaGreat
namespace Go.Proofs.YtobkcnmlmmhpoaaGreat
open Go.RowKit
set_option linter.unusedVariables false
set_option linter.unusedSimpArgs false

abbrev T3:=Int × Int × Int
abbrev frm (F:T3):Value:= .agg #[.int .i64 F.1,.int .i64 F.2.1,.int .i64 F.2.2]
def dT (F:T3):Int:=discI F.1 F.2.1 F.2.2
def ClT (F:T3):Prop:=Cls F.1 F.2.1 F.2.2
def RcT (F:T3):Prop:=RedC F.1 F.2.1 F.2.2
theorem RcT.cl {F:T3} (h:RcT F):ClT F:=h.cls
theorem cpr_ex {F G:T3} (h1:ClT F) (h2:ClT G) (hd:dT G=dT F):CpR F.1 F.2.1 F.2.2 G.1 G.2.1 G.2.2 (cmp F G).1 (cmp F G).2.1 (cmp F G).2.2:=by
 have r1:=rdr_of h1
 have r2:=rdr_of h2
 have k1:RedC (redF F.1 F.2.1 F.2.2).1 (redF F.1 F.2.1 F.2.2).2.1 (redF F.1 F.2.1 F.2.2).2.2:=r1.rc
 have k2:RedC (redF G.1 G.2.1 G.2.2).1 (redF G.1 G.2.1 G.2.2).2.1 (redF G.1 G.2.1 G.2.2).2.2:=r2.rc
 have hD:=r2.dd.trans ((show discI G.1 G.2.1 G.2.2=discI F.1 F.2.1 F.2.2 from hd).trans r1.dd.symm)
 have hs:=red_small k1.cls.ok k1.red
 have ha:=k1.cls.ok.a0
 obtain ⟨kk,hf⟩:=fp_ex (m:=(redF F.1 F.2.1 F.2.2).1) (by omega) (by omega) k2.cls.pr
 obtain ⟨_,hU⟩:=uni_facts k1 k2 hD hf
 have hI:=hU.isu
 obtain ⟨_,_,_,_,_,hcl,hdd3,_,_⟩:=hI.facts k1 k2 hD
 have r3:=rdr_of hcl
 have hc:CpR F.1 F.2.1 F.2.2 G.1 G.2.1 G.2.2 _ _ _:=⟨_,_,_,_,_,_,_,_,_,r1,r2,hd,hI,r3⟩
 have e:=cmp_of hc
 have e2:cmp F G=_:=e
 rw[e2]
 exact hc
theorem cp_rc {F G:T3} (h1:ClT F) (h2:ClT G) (hd:dT G=dT F):RcT (cmp F G):=(cpr_ex h1 h2 hd).rc
structure InD (D:Int) (F:T3):Prop where
 cl:ClT F
 d:dT F=D
theorem InD.rc {D:Int} {F G:T3} (h:InD D F) (h2:InD D G):RcT (cmp F G):=cp_rc h.cl h2.cl (h2.d.trans h.d.symm)
end Go.Proofs.YtobkcnmlmmhpoaaGreat
namespace Go.Proofs.YtobkcnmlmmhpoaaGreat
open Go.RowKit
set_option linter.unusedVariables false
set_option linter.unusedSimpArgs false

noncomputable def lvT (e B n r:Int):Int:=cmT B e ((-r)%(2*n)) n
noncomputable def lvS (e B n r:Int):Int:=if e*n<lvT e B n r then lvT e B n r-2*e*n else lvT e B n r
noncomputable def lvA (D e B n r:Int):Int:=(lvS e B n r*lvS e B n r-D) / (4*e)
structure LvF (D e B C n r t b A:Int):Prop where
 e0:1≤e
 e1:e≤20000
 B0:0≤B
 B1:B<2*e
 g1:Int.gcd n e=1
 par:2∣(-r)%(2*n)-B
 m0:0≤(-r)%(2*n)
 m1:(-r)%(2*n)<2*n
 t0:0≤t
 t1:t<2*e*n
 Bt:B≤t
 en:0<e*n∧e*n≤600000
 te:2*e∣t-B
 tr:2*n∣t+r
 uni: ∀z,0≤z→z≤t→2*e∣z-B→2*n∣z+r→z=t
 bt:e*n-(e*n-t)%(2*e*n)=b
 bb:b=if e*n<t then t-2*e*n else t
 b0: -600000≤b∧b≤600000
 b2:0≤b*b∧b*b≤360000000000
 aa:(b*b-D).tdiv (4*e)=A
 a0:0≤A∧A≤1000000000000
theorem lv_facts {a b c D n r:Int} {k x y:Nat} (h:RedC a b c) (hD:discI a b c=D) (hn:1≤n) (hn2:n≤30) (hr0:0≤r) (hr1:r<2*n) (hr:(r*r-D)%(4*n)=0) (hf:IsFirst a b c n k x y):
  (x≤5∧y≤5∧Int.gcd x y=1)∧LvF D (cpE a b c x y) (cpB a b c x y) (cpC a b c x y) n r (lvT (cpE a b c x y) (cpB a b c x y) n r) (lvS (cpE a b c x y) (cpB a b c x y) n r) (lvA D (cpE a b c x y) (cpB a b c x y) n r):=by
 have hk:=first_le (by omega) (by omega) h.cls.pr hf
 obtain ⟨f1,f2,f3⟩:=hit_facts hf.hit
 have hx:x≤5:=by omega
 have hy:y≤5:=by omega
 refine ⟨⟨hx,hy,f2⟩,?_⟩
 have hF:=cpl_facts h hx hy f2
 have f4:Int.gcd (cpE a b c x y) n=1:=f3
 have e0:=hF.e0
 have e1:=hF.e1
 have B0:=hF.B0
 have B1:=hF.B1
 have dd:=hF.dd
 rw[hD] at dd
 have hT:lvT (cpE a b c x y) (cpB a b c x y) n r=cmT (cpB a b c x y) (cpE a b c x y) ((-r)%(2*n)) n:=rfl
 have hS:lvS (cpE a b c x y) (cpB a b c x y) n r=if cpE a b c x y*n<lvT (cpE a b c x y) (cpB a b c x y) n r then lvT (cpE a b c x y) (cpB a b c x y) n r-2*cpE a b c x y*n else lvT (cpE a b c x y) (cpB a b c x y) n r:=rfl
 have hA:lvA D (cpE a b c x y) (cpB a b c x y) n r=(lvS (cpE a b c x y) (cpB a b c x y) n r*lvS (cpE a b c x y) (cpB a b c x y) n r-D) / (4*cpE a b c x y):=rfl
 have d0:=h.cls.ok.d0
 have d1:=h.cls.ok.d1
 rw[hD] at d0 d1
 clear hF f1 f3 hf hx hy f2 hk h hD
 generalize lvA D (cpE a b c x y) (cpB a b c x y) n r=A at*
 generalize lvS (cpE a b c x y) (cpB a b c x y) n r=s at*
 generalize lvT (cpE a b c x y) (cpB a b c x y) n r=t at*
 generalize cpE a b c x y=e at*
 generalize cpB a b c x y=B at*
 generalize cpC a b c x y=C at*
 have g2:Int.gcd n e=1:=by rw[Int.gcd_comm];exact f4
 have m0:=Int.emod_nonneg (-r) (show 2*n≠0 by omega)
 have m1:=Int.emod_lt_of_pos (-r) (show 0<2*n by omega)
 have mq:=Int.emod_add_mul_ediv (-r) (2*n)
 have eq2:2*n*(-r / (2*n))=2*(n*(-r / (2*n))):=Int.mul_assoc _ _ _
 have par:2∣(-r)%(2*n)-B:=by
  have q1:=Int.emod_add_mul_ediv (r*r-D) (4*n)
  have q2:4*n*((r*r-D) / (4*n))=4*(n*((r*r-D) / (4*n))):=Int.mul_assoc _ _ _
  unfold discI at dd
  have q3:4*e*C=4*(e*C):=Int.mul_assoc _ _ _
  have h2:(r*r)%2=(B*B)%2:=by omega
  rw[Int.mul_emod,Int.mul_emod B B] at h2
  rcases Int.emod_two_eq r with hB|hB<;>rcases Int.emod_two_eq B with hb|hb<;>rw[hB,hb] at h2<;>omega
 obtain ⟨t0,t1,t2,t3⟩:=cm_facts (a0:=B) (p:=e) (b0:=(-r)%(2*n)) (q:=n) e0 hn g2 par
 rw[←hT] at t0 t1 t2 t3
 have n0:=Int.mul_pos (show 0<e by omega) (show 0<n by omega)
 have n1:e*n≤20000*30:=Int.mul_le_mul e1 hn2 (by omega) (by omega)
 have e2:2*e*n=2*(e*n):=Int.mul_assoc _ _ _
 have t4:2*n∣t+r:=by
  obtain ⟨z,hz⟩:=t3
  exact ⟨z-(-r) / (2*n),by rw[Int.mul_sub,←hz];omega⟩
 have Bt:B≤t:=by
  obtain ⟨z,hz⟩:=t2
  by_cases q:0≤z
  ·have:=Int.mul_nonneg (show 0≤2*e by omega) q;omega
  ·have:=Int.mul_le_mul_of_nonneg_left (show z≤ -1 by omega) (show 0≤2*e by omega);omega
 have uni: ∀z,0≤z→z≤t→2*e∣z-B→2*n∣z+r→z=t:=by
  intro z z0 z1 z2 z3
  have hg:Int.gcd e n=1:=f4
  obtain ⟨i,hi⟩:=z2
  obtain ⟨j,hj⟩:=t2
  obtain ⟨k,hk⟩:=z3
  obtain ⟨l,hl⟩:=t4
  have e3:e*(j-i)=n*(l-k):=by
   have x1:2*e*j-2*e*i=2*n*l-2*n*k:=by omega
   have x2:2*(e*(j-i))=2*(n*(l-k)):=by grind
   omega
  obtain ⟨m,hm⟩:=coprime_dvd (a:=e) (b:=n) (c:=l-k) ⟨j-i,e3.symm⟩ hg
  refine (eq_of_mod (m:=2*e*n) (j:=m) ?_ t0 t1 z0 (by omega)).symm
  have:t-z=2*n*(l-k):=by grind
  rw[this,hm];grind
 have bb:e*n-(e*n-t)%(2*e*n)=s∧(-600000≤s∧s≤600000)∧ ∃i,s=B+2*e*i:=by
  obtain ⟨j,hj⟩:=t2
  rw[hS,e2]
  by_cases q:e*n<t
  ·rw [if_pos q]
   refine ⟨?_,by omega,j-n,by grind⟩
   have:(e*n-t)%(2*(e*n))=e*n-t+2*(e*n):=by
    rw[←Int.add_emod_right (a:=e*n-t),Int.emod_eq_of_lt (by omega) (by omega)]
   rw[this];omega
  ·rw [if_neg q]
   exact ⟨by rw[Int.emod_eq_of_lt (by omega) (by omega)];omega,by omega,j,by omega⟩
 obtain ⟨bb1,bb2,i,hi⟩:=bb
 have sq0:0≤s*s:=by
  by_cases q:0≤s
  ·exact Int.mul_nonneg q q
  ·exact Int.mul_nonneg_of_nonpos_of_nonpos (by omega) (by omega)
 have sq1:s*s≤600000*600000:=by
  have h1:s.natAbs≤600000:=by omega
  have h2:=Nat.mul_le_mul h1 h1
  rw[←Int.natAbs_mul] at h2;omega
 have hdiv:s*s-D=4*e*(C+B*i+e*i*i):=by
  unfold discI at dd
  rw[hi];grind
 have hA2:A=C+B*i+e*i*i:=by rw[hA,hdiv,Int.mul_ediv_cancel_left _ (by omega)]
 have hA3:4*e*A=4*(e*A):=Int.mul_assoc _ _ _
 rw[←hA2] at hdiv
 have A0:0≤A:=by
  by_cases q:0≤A
  ·exact q
  ·have:=Int.mul_nonneg_of_nonpos_of_nonpos (a:= -e) (b:=A) (by omega) (by omega)
   rw[Int.neg_mul] at this
   have h3:=Int.mul_le_mul_of_nonneg_left (show A≤ -1 by omega) (show 0≤e by omega)
   omega
 have A1:A≤1000000000000:=by
  have:=Int.mul_le_mul_of_nonneg_right (show 1≤e by omega) A0
  omega
 refine ⟨e0,e1,B0,B1,g2,par,m0,m1,t0,t1,Bt,⟨n0,by omega⟩,t2,t4,uni,bb1,hS,bb2,⟨sq0,by omega⟩,?_,⟨A0,A1⟩⟩
 rw[hdiv,Int.mul_tdiv_cancel_left _ (by omega)]
end Go.Proofs.YtobkcnmlmmhpoaaGreat
