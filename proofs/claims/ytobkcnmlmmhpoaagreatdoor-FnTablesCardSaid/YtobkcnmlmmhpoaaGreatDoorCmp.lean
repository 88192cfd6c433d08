/- Plain: primitive forms, the completed form, united forms, the composite: each is determined by what both sides compute. -/
import Derived.Test.YtobkcnmlmmhpoaaGreatDoorPt
import Derived.Test.YtobkcnmlmmhpoaaGreatDoorSub
namespace Go.Proofs.YtobkcnmlmmhpoaaGreatDoor
set_option linter.unusedVariables false
set_option linter.unusedSimpArgs false

def Prim (a b c:Int):Prop:= ∀d:Int,d∣a→d∣b→d∣c→d∣1
theorem prim_tr {a b c:Int} (t:Int) (h:Prim a b c):Prim a (2*a*t+b) (a*t*t+b*t+c):=by
 intro d h1 h2 h3
 have hb:d∣b:=by
  obtain ⟨k,hk⟩:=h1;obtain ⟨l,hl⟩:=h2
  exact ⟨l-2*k*t,by grind⟩
 have hc:d∣c:=by
  obtain ⟨k,hk⟩:=h1;obtain ⟨l,hl⟩:=hb;obtain ⟨m,hm⟩:=h3
  exact ⟨m-k*t*t-l*t,by grind⟩
 exact h d h1 hb hc
theorem prim_sw {a b c:Int} (h:Prim a b c):Prim c (-b) a:=fun d h1 h2 h3=>h d h3 (Int.dvd_neg.1 h2) h1
theorem prim_step {a b c:Int} (h:Prim a b c):Prim (stepA a b c) (stepB a b c) (stepC a b c):=by
 unfold stepA stepB stepC
 split
 ·exact prim_sw h
 ·exact prim_tr _ h
theorem redN_prim: ∀n a b c,Prim a b c→Prim (redN n a b c).1 (redN n a b c).2.1 (redN n a b c).2.2:=by
 intro n
 induction n with
 |zero=>intro a b c h;exact h
 |succ n ih=>
  intro a b c h
  rw[redN]
  split
  ·exact h
  ·exact ih _ _ _ (prim_step h)
theorem redF_prim {a b c:Int} (h:Prim a b c):Prim (redF a b c).1 (redF a b c).2.1 (redF a b c).2.2:=redN_prim _ a b c h
theorem prim_gcd {a b c:Int} (h:Int.gcd (Int.gcd a b:Int) c=1):Prim a b c:=by
 intro d h1 h2 h3
 have h4:d∣(Int.gcd (Int.gcd a b:Int) c:Int):=Int.dvd_coe_gcd (Int.dvd_coe_gcd h1 h2) h3
 rw[h] at h4;exact h4
theorem dvd_one {d:Int} (h:d∣1):d.natAbs=1:=by
 have:=Int.natAbs_dvd_natAbs.2 h
 exact Nat.dvd_one.1 this
theorem gcd_prim {a b c m:Int} (h:Prim a b c):Int.gcd (Int.gcd (Int.gcd a b:Int) c:Int) m=1:=by
 have h1:((Int.gcd (Int.gcd (Int.gcd a b:Int) c:Int) m:Nat):Int)∣(Int.gcd (Int.gcd a b:Int) c:Int):=Int.gcd_dvd_left _ _
 have h2:((Int.gcd (Int.gcd (Int.gcd a b:Int) c:Int) m:Nat):Int)∣(Int.gcd a b:Int):=Int.dvd_trans h1 (Int.gcd_dvd_left _ _)
 have h3:=dvd_one (h _ (Int.dvd_trans h2 (Int.gcd_dvd_left _ _)) (Int.dvd_trans h2 (Int.gcd_dvd_right _ _)) (Int.dvd_trans h1 (Int.gcd_dvd_right _ _)))
 simpa using h3

structure Cls (a b c:Int):Prop where
 ok:OkF a b c
 pr:Prim a b c
structure RedC (a b c:Int):Prop where
 cls:Cls a b c
 red:redB a b c=true
theorem Cls.redC {a b c:Int} (h:Cls a b c):RedC (redF a b c).1 (redF a b c).2.1 (redF a b c).2.2:=
 ⟨⟨(redF_red h.ok).2.1,redF_prim h.pr⟩,(redF_red h.ok).1⟩
theorem RedC.same {a b c:Int} (h:RedC a b c):redF a b c=(a,b,c):=redF_yes h.red

def IsCB (a b c x y B:Int):Prop:=0≤B∧B<2*valI a b c x y∧ ∃Q S k:Int,x*S-y*Q=1∧B=polI a b c x y Q S+2*valI a b c x y*k
theorem eq_of_mod {m j x y:Int} (h:x-y=m*j) (x0:0≤x) (x1:x<m) (y0:0≤y) (y1:y<m):x=y:=by
 have:j=0:=by
  rcases Int.lt_trichotomy j 0 with q|q|q
  ·have:=Int.mul_le_mul_of_nonneg_left (show j≤ -1 by omega) (show 0≤m by omega);omega
  ·exact q
  ·have:=Int.mul_le_mul_of_nonneg_left (show 1≤j by omega) (show 0≤m by omega);omega
 rw[this] at h;omega
theorem pol_shift (a b c x y Q S k:Int):polI a b c x y (Q+x*k) (S+y*k)=polI a b c x y Q S+2*valI a b c x y*k:=by
 unfold polI valI;grind
theorem cb_same {a b c x y B B':Int} (h:IsCB a b c x y B) (h':IsCB a b c x y B'):B=B':=by
 obtain ⟨h0,h1,Q,S,k,hd,hB⟩:=h
 obtain ⟨h0',h1',Q',S',k',hd',hB'⟩:=h'
 have hQ:Q=Q'+x*(Q*S'-S*Q'):=by grind
 have hS:S=S'+y*(Q*S'-S*Q'):=by grind
 have e:=pol_shift a b c x y Q' S' (Q*S'-S*Q')
 rw[←hQ,←hS] at e
 refine eq_of_mod (j:=k-k'+(Q*S'-S*Q')) ?_ h0 h1 h0' h1'
 rw[hB,hB',e]
 grind
theorem sub_disc {a b c x y Q S:Int} (hd:x*S-y*Q=1):discI (valI a b c x y) (polI a b c x y Q S) (valI a b c Q S)=discI a b c:=by
 have e:discI (valI a b c x y) (polI a b c x y Q S) (valI a b c Q S)=discI a b c*((x*S-y*Q)*(x*S-y*Q)):=by
  unfold discI valI polI;grind
 rw[e,hd];simp
theorem sub_prim {a b c x y Q S:Int} (hd:x*S-y*Q=1) (h:Prim a b c):Prim (valI a b c x y) (polI a b c x y Q S) (valI a b c Q S):=by
 intro d h1 h2 h3
 have back: ∀u v:Int,valI (valI a b c x y) (polI a b c x y Q S) (valI a b c Q S) u v=valI a b c (x*u+Q*v) (y*u+S*v):=by
  intro u v;unfold valI polI;grind
 have hval: ∀u v,d∣valI (valI a b c x y) (polI a b c x y Q S) (valI a b c Q S) u v:=by
  intro u v
  obtain ⟨k1,e1⟩:=h1;obtain ⟨k2,e2⟩:=h2;obtain ⟨k3,e3⟩:=h3
  generalize valI a b c x y=A at*
  generalize polI a b c x y Q S=B at*
  generalize valI a b c Q S=C at*
  exact ⟨k1*u*u+k2*u*v+k3*v*v,by unfold valI;grind⟩
 have ha:d∣a:=by
  have:=hval S (-y)
  rw[back] at this
  have e1:x*S+Q* -y=1:=by grind
  have e2:y*S+S* -y=0:=by grind
  rw[e1,e2] at this
  have e3:valI a b c 1 0=a:=by simp [valI]
  rwa [e3] at this
 have hc:d∣c:=by
  have:=hval (-Q) x
  rw[back] at this
  have e1:x* -Q+Q*x=0:=by grind
  have e2:y* -Q+S*x=1:=by grind
  rw[e1,e2] at this
  have e3:valI a b c 0 1=c:=by simp [valI]
  rwa [e3] at this
 have hb:d∣b:=by
  have:=hval (S-Q) (x-y)
  rw[back] at this
  have e1:x*(S-Q)+Q*(x-y)=1:=by grind
  have e2:y*(S-Q)+S*(x-y)=1:=by grind
  rw[e1,e2] at this
  have e3:valI a b c 1 1=a+b+c:=by simp [valI]
  rw[e3] at this
  have h5:=Int.dvd_sub (Int.dvd_sub this ha) hc
  have e4:a+b+c-a-c=b:=by omega
  rwa [e4] at h5
 exact h d ha hb hc
theorem cb_form {a b c x y B:Int} (h:IsCB a b c x y B): ∃C,discI (valI a b c x y) B C=discI a b c∧(Prim a b c→Prim (valI a b c x y) B C):=by
 obtain ⟨h0,h1,Q,S,k,hd,hB⟩:=h
 have hd2:x*(S+y*k)-y*(Q+x*k)=1:=by grind
 rw[←pol_shift] at hB
 subst hB
 exact ⟨_,sub_disc hd2,sub_prim hd2⟩
def IsUB (a b e B t:Int):Prop:=0≤t∧t<2*a*e∧2*a∣t-b∧2*e∣t-B
theorem ub_same {a b e B t t':Int} (ha:0<a) (he:0<e) (hg:Int.gcd a e=1) (h:IsUB a b e B t) (h':IsUB a b e B t'):t=t':=by
 obtain ⟨h0,h1,⟨k,hk⟩,⟨l,hl⟩⟩:=h
 obtain ⟨h0',h1',⟨k',hk'⟩,⟨l',hl'⟩⟩:=h'
 have e1:a*(k-k')=e*(l-l'):=by
  have x1:2*a*k-2*a*k'=2*e*l-2*e*l':=by omega
  have x2:2*(a*(k-k'))=2*(e*(l-l')):=by grind
  omega
 obtain ⟨m,hm⟩:=coprime_dvd (a:=a) (b:=e) (c:=l-l') ⟨k-k',e1.symm⟩ hg
 refine eq_of_mod (m:=2*a*e) (j:=m) ?_ h0 h1 h0' h1'
 have:t-t'=2*e*(l-l'):=by grind
 rw[this,hm];grind
theorem ub_form {a b c e B C t:Int} (ha:0<a) (he:0<e) (hg:Int.gcd a e=1) (hD:discI e B C=discI a b c) (h:IsUB a b e B t):
  ∃s,discI (a*e) t s=discI a b c∧s=(t*t-discI a b c) / (4*a*e)∧(Prim a b c→Prim e B C→Prim (a*e) t s):=by
 obtain ⟨h0,h1,⟨k,hk⟩,⟨l,hl⟩⟩:=h
 have tk:t=2*a*k+b:=by omega
 have tl:t=2*e*l+B:=by omega
 have e1:t*t-discI a b c=4*(a*(a*k*k+b*k+c)):=by rw[tk];unfold discI;grind
 have e2:t*t-discI a b c=4*(e*(e*l*l+B*l+C)):=by rw[←hD,tl];unfold discI;grind
 have e3:a*(a*k*k+b*k+c)=e*(e*l*l+B*l+C):=by omega
 obtain ⟨s,hs⟩:=coprime_dvd (a:=a) (b:=e) (c:=e*l*l+B*l+C) ⟨_,e3.symm⟩ hg
 have e4:a*k*k+b*k+c=e*s:=by
  have:a*(a*k*k+b*k+c)=a*(e*s):=by rw[e3,hs];grind
  exact Int.eq_of_mul_eq_mul_left Vn this
 have e5:t*t-discI a b c=4*a*e*s:=by rw[e2,hs];grind
 have hpos:4*a*e≠0:=by
  have:=Int.mul_pos (show 0<4*a by omega) he;omega
 refine ⟨s,?_,?_,?_⟩
 ·unfold discI at *;grind
 ·rw [e5,Int.mul_ediv_cancel_left _ hpos]
 ·intro p1 p2
  have q1:Prim a t (e*s):=by
   have:=prim_tr k p1
   rw[←tk,e4] at this;exact this
  have q2:Prim e t (a*s):=by
   have:=prim_tr l p2
   rw[←tl,hs] at this;exact this
  intro d d1 d2 d3
  have g1:Int.gcd d a=1:=by
   have x1:((Int.gcd d a:Nat):Int)∣d:=Int.gcd_dvd_left _ _
   have x2:=dvd_one (q1 _ (Int.gcd_dvd_right _ _) (Int.dvd_trans x1 d2) (Int.dvd_mul_of_dvd_right (Int.dvd_trans x1 d3)))
   simpa using x2
  have d4:d∣e:=coprime_dvd d1 g1
  exact q2 d d4 d2 (Int.dvd_mul_of_dvd_right d3)
theorem hit_facts {a b c m:Int} {k x y:Nat} (h:hitB a b c m k x y=true):max x y=k∧Int.gcd x y=1∧Int.gcd (valI a b c x y) m=1:=by
 unfold hitB igcd at h
 simp only[Bool.and_eq_true,decide_eq_true_eq,beq_iff_eq] at h
 obtain ⟨h1,h2,h3⟩:=h
 exact ⟨h1,Vn,Vn⟩
theorem first_le {a b c m:Int} {k x y:Nat} (hm:1≤m) (hm2:m≤30) (hp:Prim a b c) (h:IsFirst a b c m k x y):k≤5:=by
 obtain ⟨x',y',h1,h2,h3⟩:=exists_hit hm hm2 (gcd_prim (m:=m) hp)
 by_cases q:k≤5
 ·exact q
 ·have:=h.sizes (max x' y') Vn x' y' Vn Vn
  rw[h3] at this;cases this
theorem le_five {x:Nat} (h:x≤5):x=0∨x=1∨x=2∨x=3∨x=4∨x=5:=by omega
theorem val_bd {a b c:Int} {x y:Nat} (h:OkF a b c) (hr:redB a b c=true) (hx:x≤5) (hy:y≤5) (hg:Int.gcd x y=1):0<valI a b c x y∧valI a b c x y≤20000:=by
 obtain ⟨s1,s2,s3,s4⟩:=red_small h hr
 have a0:=h.a0
 have c0:=h.c0
 obtain ⟨n0,n1⟩:=norm_true (red_norm hr)
 have hac:a≤c:=by unfold redB at hr;simp at hr;omega
 rcases le_five hx with rfl|rfl|rfl|rfl|rfl|rfl<;>rcases le_five hy with rfl|rfl|rfl|rfl|rfl|rfl<;>(simp [valI] at* <;>omega)
def IsU (a b c a' b' c' e t s:Int):Prop:= ∃(k x y:Nat) (B:Int),IsFirst a' b' c' a k x y∧e=valI a' b' c' x y∧IsCB a' b' c' x y B∧IsUB a b e B t∧s=(t*t-discI a b c) / (4*a*e)
theorem IsU.facts {a b c a' b' c' e t s:Int} (h:RedC a b c) (h':RedC a' b' c') (hD:discI a' b' c'=discI a b c) (u:IsU a b c a' b' c' e t s):
  0<a∧a≤26∧0<e∧e≤20000∧Int.gcd a e=1∧Cls (a*e) t s∧discI (a*e) t s=discI a b c∧0≤t∧t<2*a*e:=by
 obtain ⟨k,x,y,B,h1,rfl,h3,h4,rfl⟩:=u
 obtain ⟨s1,s2,s3,s4⟩:=red_small h.cls.ok h.red
 have a0:=h.cls.ok.a0
 have hk:=first_le Vn Vn h'.cls.pr h1
 obtain ⟨f1,f2,f3⟩:=hit_facts h1.hit
 obtain ⟨v0,v1⟩:=val_bd h'.cls.ok h'.red (x:=x) (y:=y) Vn Vn f2
 obtain ⟨C,c1,c2⟩:=cb_form h3
 have hg:Int.gcd a (valI a' b' c' x y)=1:=by rw[Int.gcd_comm];exact f3
 generalize valI a' b' c' x y=e at*
 obtain ⟨s,w1,w2,w3⟩:=ub_form a0 v0 hg (c1.trans hD) h4
 rw[←w2]
 have hpr:=w3 h.cls.pr (c2 h'.cls.pr)
 have d0:=h.cls.ok.d0
 have d1:=h.cls.ok.d1
 have t0:=h4.1
 have t1:=h4.2.1
 have n0:=Int.mul_pos a0 v0
 have n1:a*e≤26*20000:=Int.mul_le_mul s1 v1 Vn Vn
 have e2:2*a*e=2*(a*e):=Int.mul_assoc _ _ _
 refine ⟨a0,s1,v0,v1,hg,⟨?_,hpr⟩,w1,t0,t1⟩
 generalize a*e=n at*
 rw[←w1] at d0 d1
 have d0':=d0
 have d1':=d1
 unfold discI at d0' d1'
 have e3:4*n*s=4*(n*s):=Int.mul_assoc _ _ _
 have hts:0≤t*t:=Int.mul_nonneg t0 t0
 have htt:t*t≤2*n*(2*n):=Int.mul_le_mul Vn Vn t0 Vn
 have e4:2*n*(2*n)=4*(n*n):=by grind
 have s0:0<s:=by
  by_cases q:0<s
  ·exact q
  ·have:=Int.mul_nonneg_of_nonpos_of_nonpos (a:= -n) (b:=s) Vn Vn
   rw[Int.neg_mul] at this;omega
 have sb:s≤n+501:=by
  by_cases q:s≤n+501
  ·exact q
  ·have h3:=Int.mul_le_mul_of_nonneg_left (show n+501≤s by omega) (show 0≤n by omega)
   rw[Int.mul_add] at h3
   omega
 exact ⟨n0,Vn,Vn,Vn,s0,Vn,d0,d1⟩
theorem IsU.same {a b c a' b' c' e t s e2 t2 s2:Int} (h:RedC a b c) (h':RedC a' b' c') (hD:discI a' b' c'=discI a b c) (u:IsU a b c a' b' c' e t s) (u2:IsU a b c a' b' c' e2 t2 s2):e=e2∧t=t2∧s=s2:=by
 obtain ⟨a0,_,e0,_,hg,_,_,_,_⟩:=u.facts h h' hD
 obtain ⟨k,x,y,B,h1,rfl,h3,h4,rfl⟩:=u
 obtain ⟨k',x',y',B',h1',rfl,h3',h4',rfl⟩:=u2
 obtain ⟨rfl,rfl,_⟩:=h1.same h1'
 obtain rfl:=cb_same h3 h3'
 obtain rfl:=ub_same a0 e0 hg h4 h4'
 exact ⟨rfl,rfl,rfl⟩
structure RdR (a b c x y z:Int):Prop where
 eq:redF a b c=(x,y,z)
 rc:RedC x y z
 dd:discI x y z=discI a b c
theorem rdr_of {a b c:Int} (h:Cls a b c):RdR a b c (redF a b c).1 (redF a b c).2.1 (redF a b c).2.2:=⟨rfl,h.redC,(redF_red h.ok).2.2⟩
theorem RdR.same {a b c x y z x' y' z':Int} (h:RdR a b c x y z) (h':RdR a b c x' y' z'):x=x'∧y=y'∧z=z':=by
 have:=h.eq.symm.trans h'.eq
 injection this with h1 h2;injection h2 with h2 h3
 exact ⟨h1,h2,h3⟩
theorem rdr_self {a b c:Int} (h:RedC a b c):RdR a b c a b c:=⟨h.same,h,rfl⟩
def CpR (a b c a' b' c' x y z:Int):Prop:= ∃p q r p' q' r' e t s,RdR a b c p q r∧RdR a' b' c' p' q' r'∧discI a' b' c'=discI a b c∧IsU p q r p' q' r' e t s∧RdR (p*e) t s x y z
theorem CpR.rc {a b c a' b' c' x y z:Int} (h:CpR a b c a' b' c' x y z):RedC x y z:=by
 obtain ⟨p,q,r,p',q',r',e,t,s,h1,h2,h3,h4,h5⟩:=h
 exact h5.rc
theorem CpR.dd {a b c a' b' c' x y z:Int} (h:CpR a b c a' b' c' x y z):discI x y z=discI a b c:=by
 obtain ⟨p,q,r,p',q',r',e,t,s,h1,h2,h3,h4,h5⟩:=h
 have hD:discI p' q' r'=discI p q r:=by rw[h2.dd,h3,h1.dd]
 obtain ⟨_,_,_,_,_,_,hd,_,_⟩:=h4.facts h1.rc h2.rc hD
 rw[h5.dd,hd,h1.dd]
theorem CpR.same {a b c a' b' c' x y z x2 y2 z2:Int} (h:CpR a b c a' b' c' x y z) (h2:CpR a b c a' b' c' x2 y2 z2):x=x2∧y=y2∧z=z2:=by
 obtain ⟨p,q,r,p',q',r',e,t,s,h1,h2',h3,h4,h5⟩:=h
 obtain ⟨_,_,_,_,_,_,e2,t2,s2,k1,k2,k3,k4,k5⟩:=h2
 obtain ⟨rfl,rfl,rfl⟩:=h1.same k1
 obtain ⟨rfl,rfl,rfl⟩:=h2'.same k2
 have hD:discI p' q' r'=discI p q r:=by rw[h2'.dd,h3,h1.dd]
 obtain ⟨rfl,rfl,rfl⟩:=h4.same h1.rc h2'.rc hD k4
 exact h5.same k5
open Classical in
noncomputable def cmp (F G:Int × Int × Int):Int × Int × Int:=if h: ∃R:Int × Int × Int,CpR F.1 F.2.1 F.2.2 G.1 G.2.1 G.2.2 R.1 R.2.1 R.2.2 then h.choose else (0,0,0)
theorem cmp_of {a b c a' b' c' x y z:Int} (h:CpR a b c a' b' c' x y z):cmp (a,b,c) (a',b',c')=(x,y,z):=by
 have he: ∃R:Int × Int × Int,CpR a b c a' b' c' R.1 R.2.1 R.2.2:=⟨(x,y,z),h⟩
 unfold cmp
 rw[dif_pos he]
 obtain ⟨e1,e2,e3⟩:=he.choose_spec.same h
 exact Prod.ext e1 (Prod.ext e2 e3)
end Go.Proofs.YtobkcnmlmmhpoaaGreatDoor
