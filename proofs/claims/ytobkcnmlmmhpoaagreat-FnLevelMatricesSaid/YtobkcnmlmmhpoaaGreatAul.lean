/- Plain: automorphs of a form and of its reduced form; lists of matrices put in by insertion. Plain: the matrix of a reduction: its determinant, what it makes, its bounds. Plain: the automorphs of a class form, found from its reduced form and found by their traces, in one order. -/
import Derived.Test.YtobkcnmlmmhpoaaGreatRedF
import Derived.Test.YtobkcnmlmmhpoaaGreatStep
namespace Go.Proofs.YtobkcnmlmmhpoaaGreat
set_option linter.unusedVariables false
set_option linter.unusedSimpArgs false

abbrev M4:=Int × Int × Int × Int
def mM (m n:M4):M4:=(m.1*n.1+m.2.1*n.2.2.1,m.1*n.2.1+m.2.1*n.2.2.2,m.2.2.1*n.1+m.2.2.2*n.2.2.1,m.2.2.1*n.2.1+m.2.2.2*n.2.2.2)
def iM (m:M4):M4:=(m.2.2.2,-m.2.1,-m.2.2.1,m.1)
def aM (a b c x u:Int):M4:=(x,-(c*u),a*u,x+b*u)
theorem aut_conj {a b c p q r s x u:Int} (h:p*s-q*r=1):
  mM (mM (p,q,r,s) (aM (a*p*p+b*p*r+c*r*r) (2*a*p*q+b*(p*s+q*r)+2*c*r*s) (a*q*q+b*q*s+c*s*s) x u)) (iM (p,q,r,s))=aM a b c (x+(a*p*q+b*q*r+c*r*s)*u) u:=by
 unfold mM aM iM
 simp only[Prod.mk.injEq]
 refine ⟨?_,?_,?_,?_⟩<;>grind
def ltM (m n:M4):Bool:=if m.1=n.1 then (if m.2.1=n.2.1 then (if m.2.2.1=n.2.2.1 then decide (m.2.2.2<n.2.2.2) else decide (m.2.2.1<n.2.2.1)) else decide (m.2.1<n.2.1)) else decide (m.1<n.1)
theorem ltM_irr (m:M4):ltM m m=false:=by unfold ltM;simp
theorem ltM_iff {m n:M4} :ltM m n=true↔m.1<n.1∨(m.1=n.1∧(m.2.1<n.2.1∨(m.2.1=n.2.1∧(m.2.2.1<n.2.2.1∨(m.2.2.1=n.2.2.1∧m.2.2.2<n.2.2.2))))):=by
 unfold ltM
 by_cases h1:m.1=n.1
 ·rw [if_pos h1]
  by_cases h2:m.2.1=n.2.1
  ·rw [if_pos h2]
   by_cases h3:m.2.2.1=n.2.2.1
   ·rw [if_pos h3,decide_eq_true_eq];omega
   ·rw [if_neg h3,decide_eq_true_eq];omega
  ·rw [if_neg h2,decide_eq_true_eq];omega
 ·rw [if_neg h1,decide_eq_true_eq];omega
theorem ltM_tri {m n:M4} (h:ltM m n=false) (hne:m≠n):ltM n m=true:=by
 have h1: ¬ltM m n=true:=by rw[h];simp
 rw[ltM_iff] at h1 ⊢
 have h2: ¬(m.1=n.1∧m.2.1=n.2.1∧m.2.2.1=n.2.2.1∧m.2.2.2=n.2.2.2):=fun ⟨a,b,c,d⟩=>hne (Prod.ext a (Prod.ext b (Prod.ext c d)))
 omega
theorem ltM_trans {m n k:M4} (h:ltM m n=true) (h2:ltM n k=true):ltM m k=true:=by
 rw[ltM_iff] at*
 omega
def insM (m:M4):List M4→List M4
 | []=> [m]
 |n :: L=>if ltM m n then m :: n :: L else n :: insM m L
def SrtM:List M4→Prop
 | []=>True
 |m :: L=>(∀n ∈ L,ltM m n=true)∧SrtM L
theorem insM_mem (m k:M4): ∀L,k ∈ insM m L↔k=m∨k ∈ L
 | []=>by simp [insM]
 |n :: L=>by
  unfold insM
  split
  ·simp
  ·simp only[List.mem_cons,insM_mem m k L]
   constructor
   ·rintro (h|h|h)
    ·exact .inr (.inl h)
    ·exact .inl h
    ·exact .inr (.inr h)
   ·rintro (h|h|h)
    ·exact .inr (.inl h)
    ·exact .inl h
    ·exact .inr (.inr h)
theorem insM_srt {m:M4} : ∀{L},SrtM L→m ∉ L→SrtM (insM m L)
 | [],_,_=>⟨fun n hn=>(by cases hn),trivial⟩
 |n :: L,hs,hm=>by
  unfold insM
  by_cases q:ltM m n=true
  ·rw [if_pos q]
   refine ⟨fun k hk=> ?_,hs⟩
   rw[List.mem_cons] at hk
   rcases hk with rfl|hk
   ·exact q
   ·exact ltM_trans q (hs.1 k hk)
  ·rw [if_neg q]
   have hne:m≠n:=fun e=>hm (by rw[e];exact List.mem_cons_self)
   refine ⟨fun k hk=> ?_,insM_srt hs.2 (fun h=>hm (List.mem_cons_of_mem _ h))⟩
   rw[insM_mem] at hk
   rcases hk with rfl|hk
   ·exact ltM_tri (by simpa using q) hne
   ·exact hs.1 k hk
theorem srt_eq: ∀{L K:List M4},SrtM L→SrtM K→(∀m,m ∈ L↔m ∈ K)→L=K
 | [],[],_,_,_=>rfl
 | [],k :: K,_,_,h=>absurd ((h k).2 List.mem_cons_self) (by simp)
 |l :: L,[],_,_,h=>absurd ((h l).1 List.mem_cons_self) (by simp)
 |l :: L,k :: K,hL,hK,h=>by
  have e:l=k:=by
   have h1:=(h l).1 List.mem_cons_self
   have h2:=(h k).2 List.mem_cons_self
   rw[List.mem_cons] at h1 h2
   rcases h1 with h1|h1
   ·exact h1
   ·rcases h2 with h2|h2
    ·exact h2.symm
    ·have a:=hK.1 l h1
     have b:=hL.1 k h2
     have:=ltM_trans a b
     rw[ltM_irr] at this;cases this
  subst e
  congr 1
  refine srt_eq hL.2 hK.2 fun m=>⟨fun hm=> ?_,fun hm=> ?_⟩
  ·have:=(h m).1 (List.mem_cons_of_mem _ hm)
   rw[List.mem_cons] at this
   rcases this with rfl|t
   ·have:=hL.1 m hm;rw [ltM_irr] at this;cases this
   ·exact t
  ·have:=(h m).2 (List.mem_cons_of_mem _ hm)
   rw[List.mem_cons] at this
   rcases this with rfl|t
   ·have:=hK.1 m hm;rw [ltM_irr] at this;cases this
   ·exact t
end Go.Proofs.YtobkcnmlmmhpoaaGreat
namespace Go.Proofs.YtobkcnmlmmhpoaaGreat
open Go.RowKit
set_option linter.unusedVariables false
set_option linter.unusedSimpArgs false

structure MadeM (a0 b0 c0 a b c p q r s:Int):Prop where
 det:p*s-q*r=1
 ea:a=a0*p*p+b0*p*r+c0*r*r
 eb:b=2*a0*p*q+b0*(p*s+q*r)+2*c0*r*s
 ec:c=a0*q*q+b0*q*s+c0*s*s
theorem MadeM.backA {a0 b0 c0 a b c p q r s:Int} (h:MadeM a0 b0 c0 a b c p q r s):a0=a*s*s-b*s*r+c*r*r:=by
 obtain ⟨h1,h2,h3,h4⟩:=h
 subst h2 h3 h4
 grind
theorem MadeM.backC {a0 b0 c0 a b c p q r s:Int} (h:MadeM a0 b0 c0 a b c p q r s):c0=a*q*q-b*q*p+c*p*p:=by
 obtain ⟨h1,h2,h3,h4⟩:=h
 subst h2 h3 h4
 grind
theorem sqM_le {r M:Int} (h:r*r≤M*M) (hM:0≤M): -M≤r∧r≤M:=by
 constructor
 ·by_cases q: -M≤r
  ·exact q
  ·have h1:=Int.mul_le_mul (show M+1≤ -r by omega) (show M+1≤ -r by omega) (by omega) (by omega)
   rw[Int.neg_mul_neg] at h1
   have:(M+1)*(M+1)=M*M+2*M+1:=by grind
   omega
 ·by_cases q:r≤M
  ·exact q
  ·have h1:=Int.mul_le_mul (show M+1≤r by omega) (show M+1≤r by omega) (by omega) (by omega)
   have:(M+1)*(M+1)=M*M+2*M+1:=by grind
   omega
theorem val_bdM {a b c n x y:Int} (ha:0<a) (ha1:a≤100000000) (hd:discI a b c<0) (hn:n=a*x*x-b*x*y+c*y*y) (hn1:n≤100000000): -200000000≤y∧y≤200000000:=by
 have e:4*a*n=(2*a*x-b*y)*(2*a*x-b*y)+(-(discI a b c))*(y*y):=by subst hn;unfold discI;grind
 have h0:0≤(2*a*x-b*y)*(2*a*x-b*y):=by
  by_cases q:0≤2*a*x-b*y
  ·exact Int.mul_nonneg q q
  ·exact Int.mul_nonneg_of_nonpos_of_nonpos (by omega) (by omega)
 have hy:0≤y*y:=by
  by_cases q:0≤y
  ·exact Int.mul_nonneg q q
  ·exact Int.mul_nonneg_of_nonpos_of_nonpos (by omega) (by omega)
 have h1:y*y≤(-(discI a b c))*(y*y):=by
  have:=Int.mul_le_mul_of_nonneg_right (show 1≤ -(discI a b c) by omega) hy
  omega
 have h2:4*a*n≤40000000000000000:=by
  have h3:a*n≤a*100000000:=Int.mul_le_mul_of_nonneg_left hn1 (by omega)
  have h4:4*a*n=4*(a*n):=Int.mul_assoc _ _ _
  omega
 exact sqM_le (M:=200000000) (by omega) (by omega)
theorem MadeM.bd {a0 b0 c0 a b c p q r s:Int} (h:MadeM a0 b0 c0 a b c p q r s) (h0:OkF a0 b0 c0) (h1:OkF a b c):
  (-200000000≤p∧p≤200000000)∧(-200000000≤q∧q≤200000000)∧(-200000000≤r∧r≤200000000)∧(-200000000≤s∧s≤200000000):=by
 have eA:=h.backA
 have eC:=h.backC
 have hd2:discI c b a<0:=by
  have:=h1.d1
  unfold discI at*
  have e:4*c*a=4*a*c:=by grind
  omega
 refine ⟨?_,?_,?_,?_⟩
 ·exact val_bdM (n:=c0) (x:=q) (y:=p) h1.a0 h1.a1 h1.d1 eC h0.c1
 ·exact val_bdM (a:=c) (b:=b) (c:=a) (n:=c0) (x:=p) (y:=q) h1.c0 h1.c1 hd2 (by rw[eC];grind) h0.c1
 ·exact val_bdM (n:=a0) (x:=s) (y:=r) h1.a0 h1.a1 h1.d1 eA h0.a1
 ·exact val_bdM (a:=c) (b:=b) (c:=a) (n:=a0) (x:=r) (y:=s) h1.c0 h1.c1 hd2 (by rw[eA];grind) h0.a1
theorem pr_bdM {x y:Int} {M N:Int} (hM:0≤M) (hx: -M≤x∧x≤M) (hy: -N≤y∧y≤N): -(M*N)≤x*y∧x*y≤M*N:=by
 have a:=Int.mul_nonneg (show 0≤M-x by omega) (show 0≤N+y by omega)
 have b:=Int.mul_nonneg (show 0≤M+x by omega) (show 0≤N-y by omega)
 have c:=Int.mul_nonneg (show 0≤M-x by omega) (show 0≤N-y by omega)
 have d:=Int.mul_nonneg (show 0≤M+x by omega) (show 0≤N+y by omega)
 have e1:(M-x)*(N+y)=M*N+M*y-x*N-x*y:=by grind
 have e2:(M+x)*(N-y)=M*N-M*y+x*N-x*y:=by grind
 have e3:(M-x)*(N-y)=M*N-M*y-x*N+x*y:=by grind
 have e4:(M+x)*(N+y)=M*N+M*y+x*N+x*y:=by grind
 omega
theorem wrap_sum {u v:Int} (hu: -40000000000000000≤u∧u≤40000000000000000) (hv: -40000000000000000≤v∧v≤40000000000000000):wrap64 (wrap64 u+wrap64 v)=u+v:=by unfold wrap64;omega
theorem sM_bd {a b c:Int} (h:OkF a b c):(-200000000≤sP a b∧sP a b≤200000000)∧(-200000000≤sQ a b∧sQ a b≤200000000)∧(-200000000≤sR a b∧sR a b≤200000000)∧(-200000000≤sS a b∧sS a b≤200000000):=by
 have ht:=at_tr h
 unfold sP sQ sR sS
 cases normB a b
 ·simp;omega
 ·simp
theorem MadeM.step {a0 b0 c0 a b c p q r s:Int} (h:MadeM a0 b0 c0 a b c p q r s) (h0:OkF a0 b0 c0) (h1:OkF a b c):
  MadeM a0 b0 c0 (stepA a b c) (stepB a b c) (stepC a b c) (mmP p q r s (sP a b) (sQ a b) (sR a b) (sS a b)) (mmQ p q r s (sP a b) (sQ a b) (sR a b) (sS a b)) (mmR p q r s (sP a b) (sQ a b) (sR a b) (sS a b)) (mmS p q r s (sP a b) (sQ a b) (sR a b) (sS a b)):=by
 obtain ⟨bp,bq,br,bs⟩:=h.bd h0 h1
 obtain ⟨tp,tq,tr,ts⟩:=sM_bd h1
 have P:=fun {x y:Int} (hx: -200000000≤x∧x≤200000000) (hy: -200000000≤y∧y≤200000000)=>(show -40000000000000000≤x*y∧x*y≤40000000000000000 by have:=pr_bdM (M:=200000000) (N:=200000000) (by omega) hx hy;omega)
 have e1:mmP p q r s (sP a b) (sQ a b) (sR a b) (sS a b)=p*sP a b+q*sR a b:=wrap_sum (P bp tp) (P bq tr)
 have e2:mmQ p q r s (sP a b) (sQ a b) (sR a b) (sS a b)=p*sQ a b+q*sS a b:=wrap_sum (P bp tq) (P bq ts)
 have e3:mmR p q r s (sP a b) (sQ a b) (sR a b) (sS a b)=r*sP a b+s*sR a b:=wrap_sum (P br tp) (P bs tr)
 have e4:mmS p q r s (sP a b) (sQ a b) (sR a b) (sS a b)=r*sQ a b+s*sS a b:=wrap_sum (P br tq) (P bs ts)
 rw[e1,e2,e3,e4]
 obtain ⟨g1,g2,g3,g4⟩:=h
 clear e1 e2 e3 e4 P bp bq br bs tp tq tr ts h0 h1
 unfold stepA stepB stepC sP sQ sR sS
 generalize trT a b=t
 cases normB a b
 ·simp only[Bool.false_eq_true,if_false]
  constructor<;>grind
 ·simp only[if_true]
  constructor<;>grind
theorem rdM_made {a0 b0 c0:Int} (h0:OkF a0 b0 c0): ∀(n:Nat) {a b c p q r s:Int},OkF a b c→MadeM a0 b0 c0 a b c p q r s→
  MadeM a0 b0 c0 (redN n a b c).1 (redN n a b c).2.1 (redN n a b c).2.2 (rdM n a b c p q r s).1 (rdM n a b c p q r s).2.1 (rdM n a b c p q r s).2.2.1 (rdM n a b c p q r s).2.2.2
 |0,_,_,_,_,_,_,_,_,h=>h
 |n+1,a,b,c,p,q,r,s,h1,h=>by
  unfold redN rdM
  cases hr:redB a b c
  ·simp only[Bool.false_eq_true,if_false]
   exact rdM_made h0 n (step_ok h1) (h.step h0 h1)
  ·simp only[if_true]
   exact h
theorem redM_made {a b c:Int} (h:OkF a b c):MadeM a b c (redF a b c).1 (redF a b c).2.1 (redF a b c).2.2 (redM a b c 1 0 0 1).1 (redM a b c 1 0 0 1).2.1 (redM a b c 1 0 0 1).2.2.1 (redM a b c 1 0 0 1).2.2.2:=
 rdM_made h _ h ⟨by omega,by grind,by grind,by grind⟩
end Go.Proofs.YtobkcnmlmmhpoaaGreat
namespace Go.Proofs.YtobkcnmlmmhpoaaGreat
open Go.RowKit
set_option linter.unusedVariables false
set_option linter.unusedSimpArgs false

def putM:List M4→List M4→List M4
 |L,[]=>L
 |L,m :: K=>putM (insM m L) K
theorem putM_mem (k:M4): ∀(K L:List M4),k ∈ putM L K↔k ∈ K∨k ∈ L
 | [],L=>by simp [putM]
 |m :: K,L=>by
  rw[putM,putM_mem k K,insM_mem,List.mem_cons]
  constructor
  ·rintro (h|h|h)
   ·exact .inl (.inr h)
   ·exact .inl (.inl h)
   ·exact .inr h
  ·rintro ((h|h)|h)
   ·exact .inr (.inl h)
   ·exact .inl h
   ·exact .inr (.inr h)
def NewM:List M4→List M4→Prop
 |_,[]=>True
 |L,m :: K=>m ∉ L∧NewM (insM m L) K
theorem putM_srt: ∀{K L:List M4},SrtM L→NewM L K→SrtM (putM L K)
 | [],_,h,_=>h
 |m :: K,L,h,hn=>putM_srt (K:=K) (insM_srt h hn.1) hn.2
theorem new_of {K:List M4} : ∀{L:List M4},K.Nodup→(∀m ∈ K,m ∉ L)→NewM L K:=by
 induction K with
 |nil=>intro L _ _;trivial
 |cons m K ih=>
  intro L hd hm
  rw[List.nodup_cons] at hd
  refine ⟨hm m List.mem_cons_self,ih hd.2 fun k hk hkl=> ?_⟩
  rw[insM_mem] at hkl
  rcases hkl with rfl|h
  ·exact hd.1 hk
  ·exact hm k (List.mem_cons_of_mem _ hk) h
theorem put_eq {K K':List M4} (h1:K.Nodup) (h2:K'.Nodup) (h: ∀m,m ∈ K↔m ∈ K'):putM [] K=putM [] K':=
 srt_eq (putM_srt trivial (new_of h1 (by simp))) (putM_srt trivial (new_of h2 (by simp))) fun m=>by rw[putM_mem,putM_mem,h m]
theorem aM_inj {a b c x u y v:Int} (ha:0<a) (h:aM a b c x u=aM a b c y v):x=y∧u=v:=by
 unfold aM at h
 simp only[Prod.mk.injEq] at h
 have hu:u=v:=by
  have h3:=h.2.2.1
  exact Int.eq_of_mul_eq_mul_left (by omega) h3
 exact ⟨h.1,hu⟩
def turnL (A B C:Int):List M4:=
 if A=C∧B=0 then [(1,0,0,1),(0,-1,1,0),(-1,0,0,-1),(0,1,-1,0)]
 else if A=C∧B=A then [(1,0,0,1),(0,-1,1,1),(1,1,-1,0),(-1,0,0,-1),(0,1,-1,-1),(-1,-1,1,0)]
 else [(1,0,0,1),(-1,0,0,-1)]
def turnX (A B C:Int):List (Int × Int):=
 if A=C∧B=0 then [(1,0),(0,1),(-1,0),(0,-1)]
 else if A=C∧B=A then [(1,0),(0,1),(1,-1),(-1,0),(0,-1),(-1,1)]
 else [(1,0),(-1,0)]
theorem turn_aM {A B C:Int} (h1:A=C∧B=0→A=1) (h2:A=C∧B=A→A=1):turnL A B C=(turnX A B C).map (fun z=>aM A B C z.1 z.2):=by
 unfold turnL turnX
 by_cases q1:A=C∧B=0
 ·rw [if_pos q1,if_pos q1]
  have:=h1 q1
  obtain ⟨rfl,rfl⟩:=q1
  subst this
  rfl
 ·rw [if_neg q1,if_neg q1]
  by_cases q2:A=C∧B=A
  ·rw [if_pos q2,if_pos q2]
   have:=h2 q2
   obtain ⟨rfl,rfl⟩:=q2
   subst this
   rfl
  ·rw [if_neg q2,if_neg q2]
   simp [aM]
def candT (i:Nat):Int:=(i / 3:Nat)-2
def candU (i:Nat):Int:=(i%3:Nat)-1
def candM (a b c:Int) (i:Nat):M4:=aM a b c ((candT i-b*candU i) / 2) (candU i)
def spK (a b c:Int):Nat→List M4
 |0=> []
 |n+1=>if candT n*candT n-discI a b c*candU n*candU n=4 then spK a b c n++ [candM a b c n] else spK a b c n
end Go.Proofs.YtobkcnmlmmhpoaaGreat
