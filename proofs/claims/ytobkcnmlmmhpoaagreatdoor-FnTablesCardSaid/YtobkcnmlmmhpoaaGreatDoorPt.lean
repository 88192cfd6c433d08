/- Plain: reduction of definite forms, as both sides do it, one step after the other. Plain: the reduced forms of a discriminant. Plain: inverses modulo a number, common residues. Plain: for every number up to 30 and all residues of the coefficients a point of size at most 5 serves: checked by the kernel. Plain: the first point at which the value of a form has no common divisor with a number. -/
import Derived.Test.YtobkcnmlmmhpoaaGreatDoorConv
import Derived.Test.YtobkcnmlmmhpoaaGreatDoorPrim
namespace Go.Proofs.YtobkcnmlmmhpoaaGreatDoor
set_option linter.unusedVariables false
set_option linter.unusedSimpArgs false

def valI (a b c x y:Int):Int:=a*x*x+b*x*y+c*y*y
def trT (a b:Int):Int:=(a-b) / (2*a)
def stepA (a b c:Int):Int:=if normB a b then c else a
def stepB (a b c:Int):Int:=if normB a b then -b else 2*a*trT a b+b
def stepC (a b c:Int):Int:=if normB a b then a else a*trT a b*trT a b+b*trT a b+c
structure OkF (a b c:Int):Prop where
 a0:0<a
 a1:a≤100000000
 b0: -100000000≤b
 b1:b≤100000000
 c0:0<c
 c1:c≤100000000
 d0: -2000≤discI a b c
 d1:discI a b c<0
theorem trT_bd {a b:Int} (h:0<a): -a<2*a*trT a b+b∧2*a*trT a b+b≤a:=by
 unfold trT
 have h1:=Int.emod_add_mul_ediv (a-b) (2*a)
 have h2:=Int.emod_nonneg (a-b) (show 2*a≠0 by omega)
 have h3:=Int.emod_lt_of_pos (a-b) (show 0<2*a by omega)
 omega
theorem norm_true {a b:Int} (h:normB a b=true): -a<b∧b≤a:=by unfold normB at h;simpa using h
theorem norm_false {a b:Int} (h:normB a b=false): ¬(-a<b∧b≤a):=by unfold normB at h;simpa using h
theorem disc_tr (a b c t:Int):discI a (2*a*t+b) (a*t*t+b*t+c)=discI a b c:=by
 unfold discI;grind
theorem disc_sw (a b c:Int):discI c (-b) a=discI a b c:=by
 unfold discI;grind
theorem sq_le_of {x A:Int} (h: -A≤x∧x≤A):0≤x*x∧x*x≤A*A:=by
 have h1:=mul_bd (a:=x) (b:=x) (A:=A) (B:=A) Vn h h
 refine ⟨?_,h1.2⟩
 by_cases q:0≤x
 ·exact Int.mul_nonneg q q
 ·exact Int.mul_nonneg_of_nonpos_of_nonpos Vn Vn
theorem c_bd {a b c:Int} (ha:0<a) (ha2:a≤100000000) (hb: -a≤b∧b≤a) (h0: -2000≤discI a b c) (h1:discI a b c<0):0<c∧c≤a+500:=by
 obtain ⟨q0,q1⟩:=sq_le_of hb
 unfold discI at h0 h1
 have e:4*a*c=4*(a*c):=Int.mul_assoc _ _ _
 refine ⟨?_,?_⟩
 ·by_cases q:0<c
  ·exact q
  ·have:=Int.mul_nonneg_of_nonpos_of_nonpos (a:= -a) (b:=c) Vn Vn
   rw[Int.neg_mul] at this;omega
 ·by_cases q:c≤a+500
  ·exact q
  ·exfalso
   have h3:=Int.mul_le_mul_of_nonneg_left (show a+501≤c by omega) (show 0≤a by omega)
   rw[Int.mul_add] at h3
   omega
theorem step_ok {a b c:Int} (h:OkF a b c):OkF (stepA a b c) (stepB a b c) (stepC a b c):=by
 unfold stepA stepB stepC
 cases hn:normB a b
 ·simp only[Bool.false_eq_true,if_false]
  obtain ⟨t0,t1⟩:=trT_bd (b:=b) h.a0
  have hd:=disc_tr a b c (trT a b)
  generalize hx:2*a*trT a b+b=x at*
  generalize hy:a*trT a b*trT a b+b*trT a b+c=y at*
  have d0: -2000≤discI a x y:=by rw[hd];exact h.d0
  have d1:discI a x y<0:=by rw[hd];exact h.d1
  obtain ⟨y0,y1⟩:=c_bd h.a0 h.a1 ⟨Vn,t1⟩ d0 d1
  have:=h.a1
  by_cases q:a≤1000
  ·exact ⟨h.a0,Vn,Vn,Vn,y0,Vn,d0,d1⟩
  ·refine ⟨h.a0,Vn,Vn,Vn,y0,?_,d0,d1⟩
   -- a great one: the last coefficient is less than the first
   obtain ⟨q0,q1⟩:=sq_le_of (x:=x) (A:=a) ⟨Vn,t1⟩
   unfold discI at d0 d1
   have e:4*a*y=4*(a*y):=Int.mul_assoc _ _ _
   by_cases qq:y≤a
   ·omega
   ·exfalso
    have h3:=Int.mul_le_mul_of_nonneg_left (show a+1≤y by omega) (show 0≤a by omega)
    rw[Int.mul_add] at h3
    omega
 ·simp only[if_true]
  exact ⟨h.c0,h.c1,by have:=h.b1;omega,by have:=h.b0;omega,h.a0,h.a1,by rw[disc_sw];exact h.d0,by rw[disc_sw];exact h.d1⟩

def redN:Nat→Int→Int→Int→Int × Int × Int
 |0,a,b,c=>(a,b,c)
 |n+1,a,b,c=>if redB a b c then (a,b,c) else redN n (stepA a b c) (stepB a b c) (stepC a b c)
def muF (a b c:Int):Nat:=3*a.toNat+(if normB a b then (if redB a b c then 0 else 1) else 2)
theorem red_norm {a b c:Int} (h:redB a b c=true):normB a b=true:=by unfold redB at h;simp at h;exact h.1
theorem mu_step {a b c:Int} (h:OkF a b c) (hr:redB a b c=false):muF (stepA a b c) (stepB a b c) (stepC a b c)<muF a b c:=by
 have ha:=h.a0
 unfold muF stepA stepB stepC
 cases hn:normB a b
 ·obtain ⟨t0,t1⟩:=trT_bd (b:=b) h.a0
  have hn2:normB a (2*a*trT a b+b)=true:=by unfold normB;simp;omega
  simp only[Bool.false_eq_true,if_false,hn2,if_true]
  split<;>omega
 ·obtain ⟨n0,n1⟩:=norm_true hn
  simp only[if_true,hr,Bool.false_eq_true,if_false]
  have hac:c<a∨(a=c∧b<0):=by
   unfold redB at hr;rw [hn] at hr;simp at hr;omega
  rcases hac with hac|⟨hac,hb⟩
  ·have:=h.c0
   split
   ·split<;>omega
   ·omega
  ·subst hac
   have hn2:normB a (-b)=true:=by unfold normB;simp;omega
   have hr2:redB a (-b) a=true:=by unfold redB;rw [hn2];simp;omega
   simp only[hn2,hr2,if_true]
   omega
theorem redN_more: ∀n a b c,OkF a b c→muF a b c≤n→redN (n+1) a b c=redN n a b c:=by
 intro n
 induction n with
 |zero=>
  intro a b c h hm
  cases hr:redB a b c
  ·have:=mu_step h hr;omega
  ·simp [redN,hr]
 |succ n ih=>
  intro a b c h hm
  cases hr:redB a b c
  ·have h1:=mu_step h hr
   have h2:=ih _ _ _ (step_ok h) Vn
   have e1:redN (n+1+1) a b c=redN (n+1) (stepA a b c) (stepB a b c) (stepC a b c):=by rw[redN,if_neg (by rw[hr];simp)]
   have e2:redN (n+1) a b c=redN n (stepA a b c) (stepB a b c) (stepC a b c):=by rw[redN,if_neg (by rw[hr];simp)]
   rw[e1,e2]
   exact h2
  ·have e1:redN (n+1+1) a b c=(a,b,c):=by rw[redN,if_pos hr]
   have e2:redN (n+1) a b c=(a,b,c):=by rw[redN,if_pos hr]
   rw[e1,e2]
theorem redN_all {a b c:Int} (h:OkF a b c) {n:Nat} (hn:muF a b c≤n):redN n a b c=redN (muF a b c) a b c:=by
 obtain ⟨k,rfl⟩:=Nat.exists_eq_add_of_le hn
 induction k with
 |zero=>rfl
 |succ k ih=>
  have h1:=ih (Nat.le_add_right _ _)
  rw[←h1]
  exact redN_more (muF a b c+k) a b c h (Nat.le_add_right _ _)
def redF (a b c:Int):Int × Int × Int:=redN (muF a b c) a b c
theorem redF_yes {a b c:Int} (hr:redB a b c=true):redF a b c=(a,b,c):=by
 unfold redF
 cases muF a b c with
 |zero=>rfl
 |succ n=>rw[redN,if_pos hr]
theorem redF_no {a b c:Int} (h:OkF a b c) (hr:redB a b c=false):redF a b c=redF (stepA a b c) (stepB a b c) (stepC a b c):=by
 have h1:=mu_step h hr
 unfold redF
 obtain ⟨n,hn⟩:=Nat.exists_eq_succ_of_ne_zero (show muF a b c≠0 by omega)
 rw[hn,redN,if_neg (by rw[hr];simp)]
 exact redN_all (step_ok h) Vn
theorem redN_red: ∀n a b c,OkF a b c→muF a b c≤n→redB (redN n a b c).1 (redN n a b c).2.1 (redN n a b c).2.2=true∧OkF (redN n a b c).1 (redN n a b c).2.1 (redN n a b c).2.2∧discI (redN n a b c).1 (redN n a b c).2.1 (redN n a b c).2.2=discI a b c:=by
 intro n
 induction n with
 |zero=>
  intro a b c h hm
  cases hr:redB a b c
  ·have:=mu_step h hr;omega
  ·exact ⟨hr,h,rfl⟩
 |succ n ih=>
  intro a b c h hm
  cases hr:redB a b c
  ·have h1:=mu_step h hr
   obtain ⟨i1,i2,i3⟩:=ih _ _ _ (step_ok h) Vn
   rw[redN]
   simp only[hr,Bool.false_eq_true,if_false]
   refine ⟨i1,i2,i3.trans ?_⟩
   unfold stepA stepB stepC
   split
   ·exact disc_sw a b c
   ·exact disc_tr a b c _
  ·rw [redN]
   simp only[hr,if_true]
   exact ⟨trivial,h,trivial⟩
theorem redF_red {a b c:Int} (h:OkF a b c):redB (redF a b c).1 (redF a b c).2.1 (redF a b c).2.2=true∧OkF (redF a b c).1 (redF a b c).2.1 (redF a b c).2.2∧discI (redF a b c).1 (redF a b c).2.1 (redF a b c).2.2=discI a b c:=redN_red _ a b c h (Nat.le_refl _)
theorem red_small {a b c:Int} (h:OkF a b c) (hr:redB a b c=true):a≤26∧ -26≤b∧b≤26∧c≤600:=by
 obtain ⟨n0,n1⟩:=norm_true (red_norm hr)
 have hac:a≤c:=by unfold redB at hr;simp at hr;omega
 have ha:=h.a0
 obtain ⟨q0,q1⟩:=sq_le_of (x:=b) (A:=a) ⟨Vn,n1⟩
 have h2:=h.d0
 unfold discI at h2
 have e:4*a*c=4*(a*c):=Int.mul_assoc _ _ _
 have h3:=Int.mul_le_mul_of_nonneg_left hac (show 0≤a by omega)
 have h26:a≤26:=by
  by_cases q:a≤26
  ·exact q
  ·have:=sq_mono (show 0≤27 by omega) (show (27:Int)≤a by omega);omega
 refine ⟨h26,Vn,Vn,?_⟩
 obtain ⟨c0,c1⟩:=c_bd h.a0 Vn ⟨Vn,n1⟩ h.d0 h.d1
 omega
end Go.Proofs.YtobkcnmlmmhpoaaGreatDoor
namespace Go.Proofs.YtobkcnmlmmhpoaaGreatDoor
open Go.RowKit
set_option linter.unusedVariables false
set_option linter.unusedSimpArgs false
attribute [local go_sem] q2 q3 q4 q5 q6 q7 q8 q9 q10 q11 q12
theorem flN_in {α:Type} {p:Nat→Bool} {e:Nat→α} {j:Nat} (hp:p j=true): ∀{k:Nat},j<k→e j ∈ flN p e k
 |0,h=>by omega
 |k+1,h=>by
  rw[flN]
  by_cases q:j=k
  ·subst q;rw [if_pos hp];simp
  ·have:=flN_in (p:=p) (e:=e) hp (k:=k) Vn
   split
   ·rw [List.mem_append];exact .inl this
   ·exact this
theorem allB3_in {d:Int} {a j:Nat} (hj:j<2*a) (hp:rowP d a j=true): ∀{n:Nat},a<n→rowE d a j ∈ allB3 d n
 |0,h=>by omega
 |n+1,h=>by
  rw[allB3_succ,List.mem_append]
  by_cases q:a=n
  ·subst q;exact .inr (flN_in (p:=rowP d a) (e:=rowE d a) hp hj)
  ·exact .inl (allB3_in hj hp Vn)
theorem allB3_of {d:Int} {f:Int × Int × Int} : ∀a,f ∈ allB3 d a→ ∃(a' j:Nat),1≤a'∧a'<a∧rowP d a' j=true∧f=rowE d a' j
 |0,h=>by cases h
 |a+1,h=>by
  rw[allB3_succ,List.mem_append] at h
  rcases h with h|h
  ·obtain ⟨a',j,h1,h2,h3⟩:=allB3_of a h
   exact ⟨a',j,h1,Vn,h3⟩
  ·obtain ⟨j,h1,h2,h3⟩:=flN_mem h
   exact ⟨a,j,Vn,Vn,h2,h3⟩
structure RfOk (d x y z:Int):Prop where
 cls:classB x y z=true
 red:redB x y z=true
 disc:discI x y z=d
theorem rf_ok {d:Int} (hd:negB d=true) {f:Int × Int × Int} (hf:f ∈ rfL d):RfOk d f.1 f.2.1 f.2.2:=by
 obtain ⟨d0,d1⟩:=neg_true hd
 obtain ⟨i,h1,h2,h3⟩:=flN_mem hf
 have hm:f ∈ allR d:=by
  rw[h3,List.getD_eq_getElem?_getD,List.getElem?_eq_getElem h1];exact List.getElem_mem h1
 have hform:=allR_form d0 d1 f hm
 have hc:contI f.1 f.2.1 f.2.2=1:=by
  have h4:primI ((allR d).getD i (0,0,0))=true:=h2
  have h5:f=(allR d).getD i (0,0,0):=h3
  rw[←h5] at h4
  unfold primI at h4
  simpa using h4
 obtain ⟨a,j,ha,_,hp,he⟩:=allB3_of _ hm
 unfold rowP at hp
 rw[Bool.and_eq_true] at hp
 have hD:discI f.1 f.2.1 f.2.2=d:=by
  have:=disc_of (d:=d) (b:=1-(a:Int)+j) ha
  rw[hp.1] at this
  rw[he]
  simpa [rowE] using this
 have hr:redB f.1 f.2.1 f.2.2=true:=by rw[he];exact hp.2
 refine ⟨?_,hr,hD⟩
 unfold classB shownB defB
 rw[hform,hD,hc]
 have:0<f.1:=by rw[he];show (0:Int)<(a:Int);omega
 simp [this];omega
theorem rf_pos {d:Int} (hd:negB d=true):0<(rfL d).length:=by
 obtain ⟨d0,d1⟩:=neg_true hd
 have hm4:d%4=0∨d%4=1:=by unfold negB at hd;simp at hd;omega
 obtain ⟨j,hj,hjd⟩: ∃j:Nat,j<2∧(j:Int)=d%4:=by
  rcases hm4 with h|h
  ·exact ⟨0,Vn,Vn⟩
  ·exact ⟨1,Vn,Vn⟩
 have hq:((j:Int)*(j:Int)-d)%4=0:=by
  rcases (show j=0∨j=1 by omega) with rfl|rfl<;>simp<;>omega
 have hp:rowP d 1 j=true:=by
  unfold rowP
  have e:(1:Int)-((1:Nat):Int)+(j:Int)=(j:Int):=by omega
  rw[e]
  have hc:1≤cOf d 1 (j:Int):=by
   unfold cOf
   rcases (show j=0∨j=1 by omega) with rfl|rfl<;>simp<;>omega
  have h4:((j:Int)*(j:Int)-d)%(4*((1:Nat):Int))=0:=hq
  rw[h4]
  unfold redB normB
  simp
  omega
 have hmem:rowE d 1 j ∈ allR d:=allB3_in Vn hp ((aN_iff d1).2 VX)
 obtain ⟨i,hi,he⟩:=List.getElem_of_mem hmem
 have hpr:primI ((allR d).getD i (0,0,0))=true:=by
  have:(allR d).getD i (0,0,0)=rowE d 1 j:=by rw[List.getD_eq_getElem?_getD,List.getElem?_eq_getElem hi];exact he
  rw[this]
  unfold primI rowE contI igcd
  simp
 have:=flN_in (p:=fun i=>primI ((allR d).getD i (0,0,0))) (e:=fun i=>(allR d).getD i (0,0,0)) hpr hi
 exact List.length_pos_of_mem this
end Go.Proofs.YtobkcnmlmmhpoaaGreatDoor
namespace Go.Proofs.YtobkcnmlmmhpoaaGreatDoor
set_option linter.unusedVariables false
set_option linter.unusedSimpArgs false

theorem coprime_dvd {a b c:Int} (h:a∣b*c) (hc:Int.gcd a b=1):a∣c:=by
 have h1:a.natAbs∣b.natAbs*c.natAbs:=by
  have:=Int.natAbs_dvd_natAbs.2 h
  rwa [Int.natAbs_mul] at this
 exact Int.natAbs_dvd_natAbs.1 (Nat.Coprime.dvd_of_dvd_mul_left (show Nat.Coprime a.natAbs b.natAbs from hc) h1)
theorem gcd_mod_left (x m:Int):Int.gcd (x%m) m=Int.gcd x m:=by
 have h:=Int.gcd_add_mul_right_left m (x%m) (x / m)
 rw[Int.mul_comm (x / m) m,Int.emod_add_mul_ediv] at h
 exact h.symm
def IsInv (a m s:Int):Prop:=0≤s∧s<m∧m∣a*s-1
theorem IsInv.same {a m s t:Int} (hg:Int.gcd m a=1) (h:IsInv a m s) (h':IsInv a m t):s=t:=by
 obtain ⟨s0,s1,k,hk⟩:=h
 obtain ⟨t0,t1,l,hl⟩:=h'
 have hd:m∣a*(s-t):=⟨k-l,by grind⟩
 obtain ⟨q,hq⟩:=coprime_dvd hd hg
 have:q=0:=by
  rcases Int.lt_trichotomy q 0 with c|c|c
  ·have:=Int.mul_le_mul_of_nonneg_left (show q≤ -1 by omega) (show 0≤m by omega);omega
  ·exact c
  ·have:=Int.mul_le_mul_of_nonneg_left (show 1≤q by omega) (show 0≤m by omega);omega
 rw[this] at hq;omega
open Classical in
noncomputable def invI (a m:Int):Int:=if h: ∃s,IsInv a m s then h.choose else 0
theorem inv_of {a m s:Int} (hg:Int.gcd m a=1) (h:IsInv a m s):invI a m=s:=by
 have he: ∃s,IsInv a m s:=⟨s,h⟩
 unfold invI
 rw[dif_pos he]
 exact IsInv.same hg he.choose_spec h
structure EucI (a m r s x y:Int):Prop where
 r0:0≤r
 s0:0≤s
 rx:m∣a*x-r
 sy:m∣a*y-s
 sign:(0≤x∧y≤0∧x*s-y*r=m)∨(x≤0∧0≤y∧y*r-x*s=m)
 g:Int.gcd r s=1
 rm:r≤m
 sm:s≤m
 yb: -m≤y∧y≤m
 xb: -m≤x∧x≤m
theorem EucI.step {a m r s x y:Int} (h:EucI a m r s x y) (hs:s≠0) (hm:1≤m):EucI a m s (r-r / s*s) y (x-r / s*y)∧r-r / s*s=r%s∧0≤r / s∧r / s≤r∧ -(2*m)≤r / s*y∧r / s*y≤2*m∧0≤r / s*s∧r / s*s≤r:=by
 have s1:1≤s:=by have:=h.s0;omega
 have e:r-r / s*s=r%s:=by have:=Int.emod_add_mul_ediv r s;rw [Int.mul_comm s] at this;omega
 have m0:=Int.emod_nonneg r hs
 have m1:=Int.emod_lt_of_pos r (show 0<s by omega)
 have q0:0≤r / s:=Int.ediv_nonneg h.r0 Vn
 have q1:r / s≤r:=Int.ediv_le_self s h.r0
 have hg:Int.gcd s (r%s)=1:=by
  rw[Int.gcd_comm,gcd_mod_left]
  exact h.g
 generalize hq:r / s=q at*
 rw[e]
 have er:r%s=r-q*s:=e.symm
 obtain ⟨k,hk⟩:=h.rx
 obtain ⟨l,hl⟩:=h.sy
 have hsg:(0≤y∧x-q*y≤0∧y*(r%s)-(x-q*y)*s=m)∨(y≤0∧0≤x-q*y∧(x-q*y)*s-y*(r%s)=m):=by
  rcases h.sign with ⟨x0,y0,hh⟩|⟨x0,y0,hh⟩
  ·right
   have:=Int.mul_nonneg q0 (show 0≤ -y by omega)
   rw[Int.mul_neg] at this
   refine ⟨y0,Vn,?_⟩
   rw[er];grind
  ·left
   have:=Int.mul_nonneg q0 y0
   refine ⟨y0,Vn,?_⟩
   rw[er];grind
 have nb: -m≤x-q*y∧x-q*y≤m:=by
  rcases hsg with ⟨g0,g1,g2⟩|⟨g0,g1,g2⟩
  ·have h1:=Int.mul_nonneg g0 m0
   have h2:(x-q*y)*s= -(-(x-q*y)*s):=by rw[Int.neg_mul];omega
   have h3:=Int.mul_le_mul_of_nonneg_left s1 (show 0≤ -(x-q*y) by omega)
   omega
  ·have h1:=Int.mul_nonneg (show 0≤ -y by omega) m0
   rw[Int.neg_mul] at h1
   have h3:=Int.mul_le_mul_of_nonneg_left s1 g1
   omega
 refine ⟨⟨h.s0,m0,h.sy,⟨k-q*l,by rw[er];grind⟩,hsg.symm.elim (fun h=> .inr ⟨h.1,h.2.1,h.2.2⟩) (fun h=> .inl ⟨h.1,h.2.1,h.2.2⟩),hg,h.sm,by have:=h.sm;omega,nb,h.yb⟩,rfl,q0,q1,?_,?_,?_,?_⟩
 ·have:=h.xb;omega
 ·have:=h.xb;omega
 ·exact Int.mul_nonneg q0 h.s0
 ·omega
theorem EucI.last {a m r x y:Int} (h:EucI a m r 0 x y) (hm:1≤m):r=1∧IsInv a m (x%m):=by
 have hr:r=1:=by
  have:=h.g
  rw[Int.gcd_zero_right] at this
  have:=h.r0;omega
 refine ⟨hr,Int.emod_nonneg x Vn,Int.emod_lt_of_pos x Vn,?_⟩
 obtain ⟨k,hk⟩:=h.rx
 have:=Int.emod_add_mul_ediv x m
 exact ⟨k-a*(x / m),by rw[hr] at hk;grind⟩
end Go.Proofs.YtobkcnmlmmhpoaaGreatDoor
namespace Go.Proofs.YtobkcnmlmmhpoaaGreatDoor
def ptsL:List (Nat × Nat):= [(0,1),(1,0),(1,1),(1,2),(2,1),(1,3),(2,3),(3,1),(3,2),(1,4),(3,4),(4,1),(4,3),(1,5),(2,5),(3,5),(4,5),(5,1),(5,2),(5,3),(5,4)]
def chk1 (m a b c:Nat):Bool:= !(Nat.gcd (Nat.gcd (Nat.gcd a b) c) m==1) || ptsL.any fun p=>Nat.gcd (a*p.1*p.1+b*p.1*p.2+c*p.2*p.2) m==1
def chkM (m:Nat):Bool:=(List.range m).all fun a=>(List.range m).all fun b=>(List.range m).all fun c=>chk1 m a b c
theorem chk_all:((List.range 31).all chkM)=true:=by decide +kernel
end Go.Proofs.YtobkcnmlmmhpoaaGreatDoor
namespace Go.Proofs.YtobkcnmlmmhpoaaGreatDoor
set_option linter.unusedVariables false
set_option linter.unusedSimpArgs false

def hitB (a b c m:Int) (k x y:Nat):Bool:=decide (max x y=k)&&(igcd x y==1&&igcd (valI a b c x y) m==1)
structure IsFirst (a b c m:Int) (k x y:Nat):Prop where
 hit:hitB a b c m k x y=true
 xk:x≤k
 yk:y≤k
 sizes: ∀k',k'<k→ ∀x' y',x'≤k'→y'≤k'→hitB a b c m k' x' y'=false
 rows: ∀x',x'<x→ ∀y',y'≤k→hitB a b c m k x' y'=false
 cols: ∀y',y'<y→hitB a b c m k x y'=false
theorem IsFirst.same {a b c m:Int} {k x y k' x' y':Nat} (h:IsFirst a b c m k x y) (h':IsFirst a b c m k' x' y'):x=x'∧y=y'∧k=k':=by
 have hk:k=k':=by
  rcases Nat.lt_trichotomy k k' with q|q|q
  ·have:=h'.sizes k q x y h.xk h.yk;rw [h.hit] at this;cases this
  ·exact q
  ·have:=h.sizes k' q x' y' h'.xk h'.yk;rw [h'.hit] at this;cases this
 subst hk
 have hx:x=x':=by
  rcases Nat.lt_trichotomy x x' with q|q|q
  ·have:=h'.rows x q y h.yk;rw [h.hit] at this;cases this
  ·exact q
  ·have:=h.rows x' q y' h'.yk;rw [h'.hit] at this;cases this
 subst hx
 refine ⟨rfl,?_,rfl⟩
 rcases Nat.lt_trichotomy y y' with q|q|q
 ·have:=h'.cols y q;rw [h.hit] at this;cases this
 ·exact q
 ·have:=h.cols y' q;rw [h'.hit] at this;cases this
open Classical in
noncomputable def fpP (a b c m:Int):Nat × Nat:=if h: ∃p:Nat × Nat × Nat,IsFirst a b c m p.1 p.2.1 p.2.2 then (h.choose.2.1,h.choose.2.2) else (0,0)
noncomputable def fpX (a b c m:Int):Int:=((fpP a b c m).1:Int)
noncomputable def fpY (a b c m:Int):Int:=((fpP a b c m).2:Int)
theorem fp_of {a b c m:Int} {k x y:Nat} (h:IsFirst a b c m k x y):fpX a b c m=x∧fpY a b c m=y:=by
 have he: ∃p:Nat × Nat × Nat,IsFirst a b c m p.1 p.2.1 p.2.2:=⟨(k,x,y),h⟩
 have h2:=he.choose_spec.same h
 unfold fpX fpY fpP
 rw[dif_pos he]
 exact ⟨by rw[h2.1],by rw[h2.2.1]⟩

/-! A point of size at most 5 is always found. -/
theorem ptsL_ok: ∀p ∈ ptsL,Nat.gcd p.1 p.2=1∧p.1≤5∧p.2≤5:=by decide
theorem exists_hit {a b c m:Int} (hm:1≤m) (hm2:m≤30) (hg:Int.gcd (Int.gcd (Int.gcd a b:Int) c:Int) m=1): ∃x y:Nat,x≤5∧y≤5∧hitB a b c m (max x y) x y=true:=by
 obtain ⟨n,rfl⟩:=Int.eq_ofNat_of_zero_le (show 0≤m by omega)
 have hn:n<31:=by omega
 have hn0:(n:Int)≠0:=by omega
 have h1:=chk_all
 rw[List.all_eq_true] at h1
 have h2:=h1 n (List.mem_range.2 hn)
 unfold chkM at h2
 have red: ∀z:Int,∃k:Nat,(k:Int)=z%n∧k<n:=fun z=>⟨(z%n).toNat,by have:=Int.emod_nonneg z hn0;omega,by have:=Int.emod_lt_of_pos z (show (0:Int)<n by omega);have:=Int.emod_nonneg z hn0;omega⟩
 obtain ⟨a',ea,la⟩:=red a
 obtain ⟨b',eb,lb⟩:=red b
 obtain ⟨c',ec,lc⟩:=red c
 rw[List.all_eq_true] at h2
 have h3:=h2 a' (List.mem_range.2 la)
 rw[List.all_eq_true] at h3
 have h4:=h3 b' (List.mem_range.2 lb)
 rw[List.all_eq_true] at h4
 have h5:=h4 c' (List.mem_range.2 lc)
 unfold chk1 at h5
 have hgn:Nat.gcd (Nat.gcd (Nat.gcd a' b') c') n=1:=by
  generalize hD:Nat.gcd (Nat.gcd (Nat.gcd a' b') c') n=D
  have d1:D∣Nat.gcd (Nat.gcd a' b') c':=by rw[←hD];exact Nat.gcd_dvd_left _ _
  have dn:D∣n:=by rw[←hD];exact Nat.gcd_dvd_right _ _
  have d2:D∣Nat.gcd a' b':=Nat.dvd_trans d1 (Nat.gcd_dvd_left _ _)
  have dc:D∣c':=Nat.dvd_trans d1 (Nat.gcd_dvd_right _ _)
  have da:D∣a':=Nat.dvd_trans d2 (Nat.gcd_dvd_left _ _)
  have db:D∣b':=Nat.dvd_trans d2 (Nat.gcd_dvd_right _ _)
  have up: ∀(z:Int) (z':Nat),(z':Int)=z%n→D∣z'→(D:Int)∣z:=fun z z' e h=>by
   rw[←Int.emod_add_mul_ediv z n,←e]
   exact Int.dvd_add (Int.natCast_dvd_natCast.2 h) (Int.dvd_mul_of_dvd_left (Int.natCast_dvd_natCast.2 dn))
  have h9:(D:Int)∣(Int.gcd (Int.gcd (Int.gcd a b:Int) c:Int) (n:Int):Int):=
   Int.dvd_coe_gcd (Int.dvd_coe_gcd (Int.dvd_coe_gcd (up a a' ea da) (up b b' eb db)) (up c c' ec dc)) (Int.natCast_dvd_natCast.2 dn)
  rw[hg] at h9
  have:=Int.natCast_dvd_natCast.1 h9
  exact Nat.dvd_one.1 this
 rw[hgn] at h5
 simp only[beq_self_eq_true,Bool.not_true,Bool.false_or,List.any_eq_true] at h5
 obtain ⟨p,hp,hv⟩:=h5
 obtain ⟨q1,q2,q3⟩:=ptsL_ok p hp
 refine ⟨p.1,p.2,q2,q3,?_⟩
 unfold hitB
 have hval:igcd (valI a b c p.1 p.2) n=1:=by
  unfold igcd
  have e:(valI a b c p.1 p.2)%n=((a'*p.1*p.1+b'*p.1*p.2+c'*p.2*p.2:Nat):Int)%n:=by
   have ha:a=a'+n*(a / n):=by rw[ea];exact (Int.emod_add_mul_ediv a n).symm
   have hb:b=b'+n*(b / n):=by rw[eb];exact (Int.emod_add_mul_ediv b n).symm
   have hc:c=c'+n*(c / n):=by rw[ec];exact (Int.emod_add_mul_ediv c n).symm
   have:valI a b c p.1 p.2=((a'*p.1*p.1+b'*p.1*p.2+c'*p.2*p.2:Nat):Int)+n*(a / n*p.1*p.1+b / n*p.1*p.2+c / n*p.2*p.2):=by
    unfold valI
    push_cast
    generalize a / (n:Int)=qa at*
    generalize b / (n:Int)=qb at*
    generalize c / (n:Int)=qc at*
    subst ha hb hc
    grind
   rw[this,Int.add_mul_emod_self_left]
  rw[←gcd_mod_left,e,gcd_mod_left]
  have:Int.gcd ((a'*p.1*p.1+b'*p.1*p.2+c'*p.2*p.2:Nat):Int) n=Nat.gcd (a'*p.1*p.1+b'*p.1*p.2+c'*p.2*p.2) n:=rfl
  rw[this]
  simp at hv
  rw[hv];rfl
 have hxy:igcd (p.1:Int) (p.2:Int)=1:=by
  unfold igcd
  have:Int.gcd (p.1:Int) (p.2:Int)=Nat.gcd p.1 p.2:=rfl
  rw[this,q1];rfl
 simp [hval,hxy]
end Go.Proofs.YtobkcnmlmmhpoaaGreatDoor
