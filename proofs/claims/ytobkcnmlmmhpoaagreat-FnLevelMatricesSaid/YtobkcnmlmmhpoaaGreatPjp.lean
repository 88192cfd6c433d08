/- Plain: the involution leads to a level form and back. Plain: projective points. -/
import Derived.Test.YtobkcnmlmmhpoaaGreatLevel2
import Derived.Test.YtobkcnmlmmhpoaaGreatPP
import Derived.Test.YtobkcnmlmmhpoaaGreatLevel3
namespace Go.Proofs.YtobkcnmlmmhpoaaGreat
open Go.RowKit
set_option linter.unusedVariables false
set_option linter.unusedSimpArgs false

theorem int_one {g:Int} (h0:0≤g) (h:g∣1):g=1:=by
 obtain ⟨k,hk⟩:=h
 have:g∣1:=⟨k,hk⟩
 have h1:=Int.le_of_dvd (by omega) this
 by_cases q:g=0
 ·subst q;omega
 ·omega
theorem igcd_l (a b:Int):igcd a b∣a:=Int.gcd_dvd_left a b
theorem igcd_r (a b:Int):igcd a b∣b:=Int.gcd_dvd_right a b
theorem igcd_of {a b g:Int} (h1:g∣a) (h2:g∣b):g∣igcd a b:=Int.dvd_coe_gcd h1 h2
theorem cop_of {g n d:Int} (hg:g∣d) (h:igcd d n=1):Int.gcd g n=1:=by
 have:((Int.gcd g n:Nat):Int)∣1:=by
  rw[←h]
  exact igcd_of (Int.dvd_trans (Int.gcd_dvd_left g n) hg) (Int.gcd_dvd_right g n)
 have:=int_one (by omega) this
 omega
theorem cop_dvd_mul {g a b:Int} (h:g∣a*b) (hc:Int.gcd g a=1):g∣b:=
 Int.natAbs_dvd_natAbs.1 (Nat.Coprime.dvd_of_dvd_mul_left (k:=g.natAbs) (m:=a.natAbs) hc (by rw[←Int.natAbs_mul];exact Int.natAbs_dvd_natAbs.2 h))
theorem fr_disc {a b c n k:Int} (ha:a=n*k):discI (n*c) (-b) k=discI a b c:=by
 subst ha
 unfold discI;grind
theorem fr_back {a b c n:Int} (h:frOk a b c n=true):lvB (n*c) (-b) (a / n) n=true∧frOk (n*c) (-b) (a / n) n=true∧n*(a / n)=a∧(n*c) / n=c:=by
 unfold frOk at h
 rw[Bool.and_eq_true] at h
 obtain ⟨h1,h2⟩:=h
 have hh:=lv_has h1
 obtain ⟨hc,n1,n30,a0,a1,b0,b1,c0,c1⟩:=has_facts hh
 have hm:a%n=0:=by unfold lvB at h1;simp at h1;exact h1.2
 have hl:igcd (discI a b c) n=1:=by unfold hasB levB at hh;simp at hh;exact hh.2.2
 have hlv:levB (discI a b c) n=true:=by unfold hasB at hh;rw [Bool.and_eq_true] at hh;exact hh.2
 obtain ⟨k,hk⟩:=Int.dvd_of_emod_eq_zero hm
 have hq:a / n=k:=by rw[hk];exact Int.mul_ediv_cancel_left k (by omega)
 have hcn:(n*c) / n=c:=Int.mul_ediv_cancel_left c (by omega)
 have hdd:=fr_disc (b:=b) (c:=c) hk
 have hfo:=fr_form hh
 rw[hq] at hfo ⊢
 have k0:0<k:=by
  by_cases q:0<k
  ·exact q
  ·have:=Int.mul_nonneg_of_nonpos_of_nonpos (a:= -n) (b:=k) (by omega) (by omega)
   rw[Int.neg_mul] at this;omega
 have nc0:0<n*c:=Int.mul_pos (by omega) c0
 have hcont:contI a b c=1:=by unfold classB at hc;simp at hc;exact hc.2
 have hsh:=class_shown hc
 have hcont2:contI (n*c) (-b) k=1:=by
  have g0:0≤contI (n*c) (-b) k:=igcd_nonneg _ _
  have d1:contI (n*c) (-b) k∣n*c:=igcd_l _ _
  have d2:contI (n*c) (-b) k∣ -b:=Int.dvd_trans (igcd_r _ _) (igcd_l _ _)
  have d3:contI (n*c) (-b) k∣k:=Int.dvd_trans (igcd_r _ _) (igcd_r _ _)
  generalize contI (n*c) (-b) k=g at*
  have d4:g∣b:=by have:=Int.dvd_neg.2 d2;rwa [Int.neg_neg] at this
  have d5:g∣a:=by rw[hk];exact Int.dvd_trans d3 (Int.dvd_mul_left _ _)
  have d6:g∣discI a b c:=by
   unfold discI
   refine Int.dvd_sub (Int.dvd_trans d4 (Int.dvd_mul_left _ _)) ?_
   exact Int.dvd_trans d5 ⟨4*c,by grind⟩
  have d7:=cop_of d6 hl
  have d8:g∣c:=cop_dvd_mul d1 d7
  refine int_one g0 ?_
  rw[←hcont]
  exact igcd_of d5 (igcd_of d4 d8)
 have hdis:decide (discI a b c<0)=true:=by have:=class_disc hc;simp;omega
 have hlow:decide (-2000≤discI a b c)=true:=by unfold shownB at hsh;simp at hsh;simp;exact hsh.2
 have hcls:classB (n*c) (-b) k=true:=by
  unfold classB shownB defB
  rw[hdd,hdis,hlow,hcont2,hfo,h2]
  simp;exact nc0
 have hlw:lvB (n*c) (-b) k n=true:=by
  unfold lvB hasB
  rw[hcls,hdd,hlv]
  simp
 refine ⟨hlw,?_,hk.symm,hcn⟩
 unfold frOk
 rw[hlw,←hk]
 have:numB a=true:=by simp [numB,inB];omega
 rw[this];rfl
end Go.Proofs.YtobkcnmlmmhpoaaGreat
namespace Go.Proofs.YtobkcnmlmmhpoaaGreat
open Go.RowKit
set_option linter.unusedVariables false
set_option linter.unusedSimpArgs false

theorem less_irr (x y:Int):lessB x y x y=false:=by unfold lessB;simp
theorem less_iff {x y u v:Int} :lessB x y u v=true↔x<u∨(x=u∧y<v):=by unfold lessB;simp
theorem less_no {x y u v:Int} (h:lessB x y u v=false):u<x∨(u=x∧v≤y):=by
 have: ¬(x<u∨(x=u∧y<v)):=fun e=>by rw[less_iff.2 e] at h;cases h
 omega
theorem less_no_of {x y u v:Int} (h:u<x∨(u=x∧v≤y)):lessB x y u v=false:=by
 cases e:lessB x y u v
 ·rfl
 ·have:=less_iff.1 e;omega
theorem lpN_in (x y n:Int): ∀m,∃k:Int,igcd k n=1∧lpN x y n m=((k*x)%n,(k*y)%n)
 |0=>⟨1,by unfold igcd;simp,by simp [lpN]⟩
 |m+1=>by
  obtain ⟨k,h1,h2⟩:=lpN_in x y n m
  by_cases hm:m=0
  ·subst hm;exact ⟨1,by unfold igcd;simp,by simp [lpN]⟩
  ·rw [lpN,if_neg hm]
   split
   ·rename_i q
    rw[Bool.and_eq_true] at q
    exact ⟨m,by have:=q.1;unfold okB at this;simpa using this,rfl⟩
   ·exact ⟨k,h1,h2⟩
theorem lpN_least (x y n:Int): ∀m,lessB (x%n) (y%n) (lpN x y n m).1 (lpN x y n m).2=false∧ ∀j:Nat,1≤j→j<m→okB j n=true→lessB (pmX x n j) (pmX y n j) (lpN x y n m).1 (lpN x y n m).2=false
 |0=>⟨by simp only[lpN];exact less_irr _ _,fun j h1 h2=>by omega⟩
 |m+1=>by
  obtain ⟨i1,i2⟩:=lpN_least x y n m
  by_cases hm:m=0
  ·subst hm
   refine ⟨by simp only[lpN,if_pos];exact less_irr _ _,fun j h1 h2=>by omega⟩
  ·rw [lpN,if_neg hm]
   split
   ·rename_i q
    rw[Bool.and_eq_true] at q
    have q2:=less_iff.1 q.2
    refine ⟨less_no_of (by have:=less_no i1;simp only;omega),fun j h1 h2 h3=> ?_⟩
    by_cases hj:j=m
    ·subst hj;exact less_irr _ _
    ·exact less_no_of (by have:=less_no (i2 j h1 (by omega) h3);simp only;omega)
   ·rename_i q
    refine ⟨i1,fun j h1 h2 h3=> ?_⟩
    by_cases hj:j=m
    ·subst hj
     cases e:lessB (pmX x n j) (pmX y n j) (lpN x y n j).1 (lpN x y n j).2
     ·rfl
     ·exact absurd (by rw[h3,e];rfl) q
    ·exact i2 j h1 (by omega) h3
theorem gcd_mod1 {k n:Int} (h:igcd k n=1):igcd (k%n) n=1:=by
 refine int_one (igcd_nonneg _ _) ?_
 have d1:=igcd_l (k%n) n
 have d2:=igcd_r (k%n) n
 generalize igcd (k%n) n=g at*
 rw[←h]
 refine igcd_of ?_ d2
 have:=Int.dvd_add d1 (Int.dvd_trans d2 (Int.dvd_mul_right n (k / n)))
 rwa [Int.emod_add_mul_ediv] at this
theorem mul_mod1 (k x n:Int):((k%n)*x)%n=(k*x)%n:=by rw[Int.mul_emod,Int.emod_emod_of_dvd k (Int.dvd_refl n),←Int.mul_emod]
theorem lp_least {x y n k:Int} (hn:1≤n) (hk:igcd k n=1):lessB ((k*x)%n) ((k*y)%n) (lpX x y n) (lpY x y n)=false:=by
 obtain ⟨h1,h2⟩:=lpN_least x y n n.toNat
 unfold lpX lpY
 by_cases n1:n=1
 ·subst n1
  have e: ∀z:Int,z%1=0:=fun z=>Int.emod_one z
  rw[e,e]
  rw[e,e] at h1
  exact h1
 ·have k0:=Int.emod_nonneg k (show n≠0 by omega)
  have k1:=Int.emod_lt_of_pos k (show 0<n by omega)
  have hk2:igcd (k%n) n=1:=gcd_mod1 hk
  have hk3:k%n≠0:=by
   intro e
   rw[e] at hk2
   unfold igcd at hk2
   simp at hk2
   omega
  obtain ⟨j,hj⟩:=Int.eq_ofNat_of_zero_le k0
  have:=h2 j (by omega) (by omega) (by unfold okB;rw [←hj,hk2];rfl)
  unfold pmX at this
  rw[←hj,mul_mod1,mul_mod1] at this
  exact this
theorem lp_in (x y n:Int): ∃k:Int,igcd k n=1∧lpX x y n=(k*x)%n∧lpY x y n=(k*y)%n:=by
 obtain ⟨k,h1,h2⟩:=lpN_in x y n n.toNat
 exact ⟨k,h1,by unfold lpX;rw [h2],by unfold lpY;rw [h2]⟩
theorem cop_mul {a b n:Int} (ha:igcd a n=1) (hb:igcd b n=1):igcd (a*b) n=1:=by
 refine int_one (igcd_nonneg _ _) ?_
 have d1:=igcd_l (a*b) n
 have d2:=igcd_r (a*b) n
 generalize igcd (a*b) n=g at*
 have c1:Int.gcd g a=1:=by
  have:((Int.gcd g a:Nat):Int)∣1:=by
   rw[←ha]
   exact igcd_of (Int.gcd_dvd_right g a) (Int.dvd_trans (Int.gcd_dvd_left g a) d2)
  have:=int_one (by omega) this
  omega
 have d3:g∣b:=cop_dvd_mul d1 c1
 rw[←hb]
 exact igcd_of d3 d2
theorem emod_mul2 {u x x' n k:Int} (h:x'%n=(u*x)%n):(k*x')%n=((k*u)*x)%n:=by
 rw[Int.mul_emod,h,←Int.mul_emod,Int.mul_assoc]
theorem lp_same {x y x' y' n u v:Int} (hn:1≤n) (hu:igcd u n=1) (hv:igcd v n=1) (h1:x'%n=(u*x)%n) (h2:y'%n=(u*y)%n) (h3:x%n=(v*x')%n) (h4:y%n=(v*y')%n):
  lpX x y n=lpX x' y' n∧lpY x y n=lpY x' y' n:=by
 obtain ⟨k,k1,k2,k3⟩:=lp_in x y n
 obtain ⟨j,j1,j2,j3⟩:=lp_in x' y' n
 have a1:=lp_least (x:=x) (y:=y) hn (cop_mul j1 hu)
 rw[←emod_mul2 h1,←emod_mul2 h2,←j2,←j3] at a1
 have a2:=lp_least (x:=x') (y:=y') hn (cop_mul k1 hv)
 rw[←emod_mul2 h3,←emod_mul2 h4,←k2,←k3] at a2
 have b1:=less_no a1
 have b2:=less_no a2
 omega
theorem lp_idem {x y n:Int} (hn:1≤n):lpX (lpX x y n) (lpY x y n) n=lpX x y n∧lpY (lpX x y n) (lpY x y n) n=lpY x y n:=by
 obtain ⟨k,k1,k2,k3⟩:=lp_in x y n
 obtain ⟨j,j1,j2,j3⟩:=lp_in (lpX x y n) (lpY x y n) n
 have e1:lpX x y n%n=(k*x)%n:=by rw[k2];exact Int.emod_emod_of_dvd _ (Int.dvd_refl n)
 have e2:lpY x y n%n=(k*y)%n:=by rw[k3];exact Int.emod_emod_of_dvd _ (Int.dvd_refl n)
 have a1:=lp_least (x:=x) (y:=y) hn (cop_mul j1 k1)
 rw[←emod_mul2 e1,←emod_mul2 e2,←j2,←j3] at a1
 have a2:=lp_least (x:=lpX x y n) (y:=lpY x y n) (k:=1) hn (by unfold igcd;simp)
 rw[Int.one_mul,Int.one_mul,e1,e2,←k2,←k3] at a2
 have b1:=less_no a1
 have b2:=less_no a2
 omega
theorem lp_bd {x y n:Int} (hn:1≤n):(0≤lpX x y n∧lpX x y n<n)∧(0≤lpY x y n∧lpY x y n<n):=by
 obtain ⟨k,k1,k2,k3⟩:=lp_in x y n
 rw[k2,k3]
 exact ⟨⟨Int.emod_nonneg _ (by omega),Int.emod_lt_of_pos _ (by omega)⟩,⟨Int.emod_nonneg _ (by omega),Int.emod_lt_of_pos _ (by omega)⟩⟩
theorem dvd_emod {z n:Int} :n∣z-z%n:=by
 have:=Int.emod_add_mul_ediv z n
 exact ⟨z / n,by omega⟩
theorem cop_dvd {k g n:Int} (hk:igcd k n=1) (hg:g∣n):Int.gcd g k=1:=by
 have:((Int.gcd g k:Nat):Int)∣1:=by
  rw[←hk]
  exact igcd_of (Int.gcd_dvd_right g k) (Int.dvd_trans (Int.gcd_dvd_left g k) hg)
 have:=int_one (by omega) this
 omega
theorem lp_cont {x y n p q:Int} (hd:p*y-q*x=1):contI (lpX x y n) (lpY x y n) n=1:=by
 obtain ⟨k,k1,k2,k3⟩:=lp_in x y n
 have d1:contI (lpX x y n) (lpY x y n) n∣lpX x y n:=igcd_l _ _
 have d2:contI (lpX x y n) (lpY x y n) n∣lpY x y n:=Int.dvd_trans (igcd_r _ _) (igcd_l _ _)
 have d3:contI (lpX x y n) (lpY x y n) n∣n:=Int.dvd_trans (igcd_r _ _) (igcd_r _ _)
 refine int_one (igcd_nonneg _ _) ?_
 generalize contI (lpX x y n) (lpY x y n) n=g at*
 have hx:g∣k*x:=by
  rw[k2] at d1
  have:=Int.dvd_add (Int.dvd_trans d3 (dvd_emod (z:=k*x))) d1
  rwa [Int.sub_add_cancel] at this
 have hy:g∣k*y:=by
  rw[k3] at d2
  have:=Int.dvd_add (Int.dvd_trans d3 (dvd_emod (z:=k*y))) d2
  rwa [Int.sub_add_cancel] at this
 have cg:=cop_dvd k1 d3
 have gx:g∣x:=cop_dvd_mul hx cg
 have gy:g∣y:=cop_dvd_mul hy cg
 rw[←hd]
 exact Int.dvd_sub (Int.dvd_trans gy (Int.dvd_mul_left _ _)) (Int.dvd_trans gx (Int.dvd_mul_left _ _))
theorem emod_dvd {a b n:Int} (h:a%n=b%n):n∣a-b:=Int.dvd_of_emod_eq_zero (Int.emod_eq_emod_iff_emod_sub_eq_zero.1 h)
theorem dvd_emod2 {a b n:Int} (h:n∣a-b):a%n=b%n:=Int.emod_eq_emod_iff_emod_sub_eq_zero.2 (Int.emod_eq_zero_of_dvd h)
theorem lp_cross {x y x' y' n:Int} (h1:lpX x y n=lpX x' y' n) (h2:lpY x y n=lpY x' y' n):n∣x*y'-y*x':=by
 obtain ⟨k,k1,k2,k3⟩:=lp_in x y n
 obtain ⟨j,j1,j2,j3⟩:=lp_in x' y' n
 rw[k2,j2] at h1
 rw[k3,j3] at h2
 obtain ⟨s,hs⟩:=emod_dvd h1
 obtain ⟨t,ht⟩:=emod_dvd h2
 have e:n∣(k*j)*(x*y'-y*x'):=⟨s*(j*y')-t*(j*x'),by
  have e1:k*x=j*x'+n*s:=by omega
  have e2:k*y=j*y'+n*t:=by omega
  have:(k*j)*(x*y'-y*x')=(k*x)*(j*y')-(k*y)*(j*x'):=by grind
  rw[this,e1,e2]
  grind⟩
 have c:=cop_dvd (cop_mul k1 j1) (Int.dvd_refl n)
 exact cop_dvd_mul e c
theorem lp_level {p q r s u v x y P Q R S n:Int} (hn:1≤n) (hd:p*s-q*r=1) (hd2:u*y-v*x=1) (eP:P=p*y-q*x) (eR:R=r*y-s*x) (eS:S=s*u-r*v) (hR:n∣R):
  lpX r s n=lpX x y n∧lpY r s n=lpY x y n:=by
 have hS:igcd S n=1∧igcd P n=1∧n∣P*S-1:=by
  have hdet:P*S-(q*u-p*v)*R=1:=by
   have:P*S-(q*u-p*v)*R=(p*s-q*r)*(u*y-v*x):=by rw[eP,eR,eS];grind
   rw[this,hd,hd2];rfl
  have h1:n∣P*S-1:=by
   have:P*S-1=(q*u-p*v)*R:=by omega
   rw[this]
   exact Int.dvd_trans hR (Int.dvd_mul_left _ _)
  have cop: ∀{z z':Int},n∣z*z'-1→igcd z n=1:=fun {z z'} h=>by
   refine int_one (igcd_nonneg _ _) ?_
   have d1:=igcd_l z n
   have d2:=igcd_r z n
   generalize igcd z n=g at*
   have:=Int.dvd_sub (Int.dvd_trans d1 (Int.dvd_mul_right z z')) (Int.dvd_trans d2 h)
   have e:z*z'-(z*z'-1)=1:=by omega
   rwa [e] at this
  exact ⟨cop (z':=P) (by rw[Int.mul_comm];exact h1),cop h1,h1⟩
 obtain ⟨cS,cP,hPS⟩:=hS
 obtain ⟨t,ht⟩:=hR
 obtain ⟨t2,ht2⟩:=hPS
 have e1:r-S*x=n*(t*u):=by
  have:r-S*x=R*u+r*(1-(u*y-v*x)):=by rw[eR,eS];grind
  rw[this,hd2,ht];grind
 have e2:s-S*y=n*(t*v):=by
  have:s-S*y=R*v+s*(1-(u*y-v*x)):=by rw[eR,eS];grind
  rw[this,hd2,ht];grind
 have f1:r%n=(S*x)%n:=dvd_emod2 ⟨_,e1⟩
 have f2:s%n=(S*y)%n:=dvd_emod2 ⟨_,e2⟩
 have f3:x%n=(P*r)%n:=dvd_emod2 ⟨-(t2*x)-P*(t*u),by
  have:x-P*r= -((P*S-1)*x)-P*(r-S*x):=by grind
  rw[this,ht2,e1];grind⟩
 have f4:y%n=(P*s)%n:=dvd_emod2 ⟨-(t2*y)-P*(t*v),by
  have:y-P*s= -((P*S-1)*y)-P*(s-S*y):=by grind
  rw[this,ht2,e2];grind⟩
 exact lp_same hn cP cS f3 f4 f1 f2
theorem fpN_len (p:Nat→Bool) (e1 e2:Nat→Int): ∀k,(fpN p e1 e2 k).length=2*fcN p k
 |0=>rfl
 |k+1=>by
  have:=fpN_len p e1 e2 k
  rw[fpN,fcN]
  split
  ·rw [List.length_append,this];simp;omega
  ·exact this
theorem fpN_mem {p:Nat→Bool} {e1 e2:Nat→Int} {j:Nat} (hj:p j=true): ∀k,j<k→ ∃i,i<fcN p k∧(fpN p e1 e2 k).getD (2*i) 0=e1 j∧(fpN p e1 e2 k).getD (2*i+1) 0=e2 j
 |0,h=>by omega
 |k+1,h=>by
  have hl:=fpN_len p e1 e2 k
  by_cases q:j=k
  ·subst q
   rw[fpN_yes hj,fcN_yes hj]
   refine ⟨fcN p j,by omega,?_,?_⟩
   ·rw [List.getD_eq_getElem?_getD,List.getElem?_append_right (by omega),hl]
    simp
   ·rw [List.getD_eq_getElem?_getD,List.getElem?_append_right (by omega),hl]
    have:2*fcN p j+1-2*fcN p j=1:=by omega
    rw[this];rfl
  ·obtain ⟨i,h1,h2,h3⟩:=fpN_mem hj k (by omega)
   cases hk:p k
   ·rw [fpN_no hk,fcN_no hk];exact ⟨i,h1,h2,h3⟩
   ·rw [fpN_yes hk,fcN_yes hk]
    refine ⟨i,by omega,?_,?_⟩
    ·rw [List.getD_eq_getElem?_getD,List.getElem?_append_left (by omega),←List.getD_eq_getElem?_getD];exact h2
    ·rw [List.getD_eq_getElem?_getD,List.getElem?_append_left (by omega),←List.getD_eq_getElem?_getD];exact h3
theorem pp_listed {x y n p q:Int} (hn:1≤n) (h30:n≤30) (hd:p*y-q*x=1): ∃i,i<ppN n∧ppF n (2*i)=lpX x y n∧ppF n (2*i+1)=lpY x y n:=by
 obtain ⟨m,rfl⟩:=Int.eq_ofNat_of_zero_le (show 0≤n by omega)
 obtain ⟨⟨b0,b1⟩,b2,b3⟩:=lp_bd (x:=x) (y:=y) hn
 obtain ⟨i1,i2⟩:=lp_idem (x:=x) (y:=y) hn
 have hc:=lp_cont (n:=(m:Int)) hd
 generalize lpX x y m=X at*
 generalize lpY x y m=Y at*
 obtain ⟨X,rfl⟩:=Int.eq_ofNat_of_zero_le b0
 obtain ⟨Y,rfl⟩:=Int.eq_ofNat_of_zero_le b2
 have hp:ppI m X Y=true:=by
  unfold ppI
  rw[hc,i1,i2];simp
 obtain ⟨a,b,c⟩:=ppP_at (x:=X) (show Y<m by omega)
 have hlt:X*m+Y<ppK m m 0:=by
  unfold ppK
  have:=Nat.mul_le_mul_right m (show X+1≤m by omega)
  rw[Nat.add_mul] at this
  omega
 obtain ⟨i,h1,h2,h3⟩:=fpN_mem (p:=ppP m) (e1:=ppE1 m) (e2:=ppE2 m) (a.trans hp) _ hlt
 have hb:inB (m:Int) 1 30=true:=by simp [inB];omega
 refine ⟨i,by rw[ppN_yes hb];exact h1,?_,?_⟩
 ·unfold ppF ppL
  rw[Int.toNat_natCast,h2,b]
 ·unfold ppF ppL
  rw[Int.toNat_natCast,h3,c]
end Go.Proofs.YtobkcnmlmmhpoaaGreat
