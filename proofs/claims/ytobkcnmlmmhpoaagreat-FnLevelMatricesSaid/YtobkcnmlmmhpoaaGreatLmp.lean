/- Plain: a level matrix makes the second form of the first one. -/
import Derived.Test.YtobkcnmlmmhpoaaGreatLe
namespace Go.Proofs.YtobkcnmlmmhpoaaGreat
open Go.RowKit
set_option linter.unusedVariables false
set_option linter.unusedSimpArgs false

theorem MadeM.comp {a b c x y z u v t p q r s p2 q2 r2 s2:Int} (h:MadeM a b c x y z p q r s) (k:MadeM x y z u v t p2 q2 r2 s2):
  MadeM a b c u v t (p*p2+q*r2) (p*q2+q*s2) (r*p2+s*r2) (r*q2+s*s2):=by
 obtain ⟨d,ea,eb,ec⟩:=h
 obtain ⟨d2,fa,fb,fc⟩:=k
 subst ea eb ec fa fb fc
 have hd:(p*p2+q*r2)*(r*q2+s*s2)-(p*q2+q*s2)*(r*p2+s*r2)=(p*s-q*r)*(p2*s2-q2*r2):=by grind
 refine ⟨by rw[hd,d,d2];rfl,?_,?_,?_⟩
 ·grind
 ·grind
 ·grind
theorem MadeM.inv {a b c x y z p q r s:Int} (h:MadeM a b c x y z p q r s):MadeM x y z a b c s (-q) (-r) p:=by
 have hA:=h.backA
 have hB:=h.backB
 have hC:=h.backC
 refine ⟨?_,?_,?_,?_⟩
 ·have:=h.det;grind
 ·rw [hA];grind
 ·rw [hB];grind
 ·rw [hC];grind
theorem MadeM.aut {a b c x u:Int} (h:x*x+b*x*u+a*c*u*u=1):MadeM a b c a b c x (-(c*u)) (a*u) (x+b*u):=by
 refine ⟨?_,?_,?_,?_⟩
 ·grind
 ·grind
 ·grind
 ·grind
theorem cand_eq {b D t u x ac:Int} (hx:2*x=t-b*u) (hD:D=b*b-4*ac) (h:t*t-D*u*u=4):x*x+b*x*u+ac*u*u=1:=by
 have ht:t=2*x+b*u:=by omega
 subst ht hD
 have e:(2*x+b*u)*(2*x+b*u)-(b*b-4*ac)*u*u=4*(x*x+b*x*u+ac*u*u):=by grind
 omega
theorem val_bd6 {a b c n x y:Int} (ha:0<a) (ha1:a≤600) (hd:discI a b c<0) (hn:n=a*x*x-b*x*y+c*y*y) (hn1:n≤1000000): -50000≤y∧y≤50000:=by
 have e:4*a*n=(2*a*x-b*y)*(2*a*x-b*y)+(-(discI a b c))*(y*y):=by subst hn;unfold discI;grind
 have h0:0≤(2*a*x-b*y)*(2*a*x-b*y):=by
  by_cases q:0≤2*a*x-b*y
  ·exact Int.mul_nonneg q q
  ·exact Int.mul_nonneg_of_nonpos_of_nonpos (by omega) (by omega)
 have hy:0≤y*y:=by
  by_cases q:0≤y
  ·exact Int.mul_nonneg q q
  ·exact Int.mul_nonneg_of_nonpos_of_nonpos (by omega) (by omega)
 have h1:y*y≤(-(discI a b c))*(y*y):=by
  have:=Int.mul_le_mul_of_nonneg_right (show 1≤ -(discI a b c) by omega) hy
  omega
 have h2:4*a*n≤2400000000:=by
  have h3:a*n≤a*1000000:=Int.mul_le_mul_of_nonneg_left hn1 (by omega)
  have h4:4*a*n=4*(a*n):=Int.mul_assoc _ _ _
  omega
 exact sqM_le (M:=50000) (by omega) (by omega)
theorem MadeM.bd6 {a0 b0 c0 a b c p q r s:Int} (h:MadeM a0 b0 c0 a b c p q r s) (h0:a0≤1000000∧c0≤1000000) (ha:0<a∧a≤600) (hc:0<c∧c≤600) (hd:discI a b c<0):
  (-50000≤p∧p≤50000)∧(-50000≤q∧q≤50000)∧(-50000≤r∧r≤50000)∧(-50000≤s∧s≤50000):=by
 have eA:=h.backA
 have eC:=h.backC
 have hd2:discI c b a<0:=by
  have e:4*c*a=4*a*c:=by grind
  unfold discI at*
  omega
 refine ⟨?_,?_,?_,?_⟩
 ·exact val_bd6 (n:=c0) (x:=q) (y:=p) ha.1 ha.2 hd eC h0.2
 ·exact val_bd6 (a:=c) (b:=b) (c:=a) (n:=c0) (x:=p) (y:=q) hc.1 hc.2 hd2 (by rw[eC];grind) h0.2
 ·exact val_bd6 (n:=a0) (x:=s) (y:=r) ha.1 ha.2 hd eA h0.1
 ·exact val_bd6 (a:=c) (b:=b) (c:=a) (n:=a0) (x:=r) (y:=s) hc.1 hc.2 hd2 (by rw[eA];grind) h0.1
theorem insB_mem {m k:M4} {L:List M4} (h:k ∈ insB m L):k=m∨k ∈ L:=by
 unfold insB at h
 rw[List.mem_append,List.mem_cons] at h
 rcases h with h|h|h
 ·exact .inr (List.mem_of_mem_take h)
 ·exact .inl h
 ·exact .inr (List.mem_of_mem_drop h)
theorem putB_mem {k:M4} : ∀{K L:List M4},k ∈ putB L K→k ∈ K∨k ∈ L
 | [],_,h=> .inr h
 |m :: K,L,h=>by
  rw[putB] at h
  rcases putB_mem h with h|h
  ·exact .inl (List.mem_cons_of_mem _ h)
  ·rcases insB_mem h with h|h
   ·exact .inl (by rw[h];exact List.mem_cons_self)
   ·exact .inr h
theorem lmF_true {n:Int} {m k W:M4} : ∀{L:List M4},lmF n m k L=(W,true)→ ∃t,t ∈ L∧W=mm4 (mm4 t m) k∧W.2.2.1.tmod n=0
 | [],h=>by simp [lmF] at h
 |t :: L,h=>by
  rw[lmF] at h
  split at h
  ·rename_i q
   injection h with h1 h2
   subst h1
   exact ⟨t,List.mem_cons_self,rfl,q⟩
  ·obtain ⟨t',h1,h2,h3⟩:=lmF_true h
   exact ⟨t',List.mem_cons_of_mem _ h1,h2,h3⟩
theorem mm4_ex {m k:M4} {M N:Int} (hM:0≤M) (hMN:M*N≤1000000000000000000) (hm:(-M≤m.1∧m.1≤M)∧(-M≤m.2.1∧m.2.1≤M)∧(-M≤m.2.2.1∧m.2.2.1≤M)∧(-M≤m.2.2.2∧m.2.2.2≤M))
  (hk:(-N≤k.1∧k.1≤N)∧(-N≤k.2.1∧k.2.1≤N)∧(-N≤k.2.2.1∧k.2.2.1≤N)∧(-N≤k.2.2.2∧k.2.2.2≤N)):
  mm4 m k=mM m k∧((-(2*(M*N))≤(mM m k).1∧(mM m k).1≤2*(M*N))∧(-(2*(M*N))≤(mM m k).2.1∧(mM m k).2.1≤2*(M*N))∧(-(2*(M*N))≤(mM m k).2.2.1∧(mM m k).2.2.1≤2*(M*N))∧(-(2*(M*N))≤(mM m k).2.2.2∧(mM m k).2.2.2≤2*(M*N))):=by
 obtain ⟨p,q,r,s⟩:=m
 obtain ⟨p2,q2,r2,s2⟩:=k
 obtain ⟨a0,a1,a2,a3⟩:=hm
 obtain ⟨b0,b1,b2,b3⟩:=hk
 have e:=mm_bd hM a0 a1 a2 a3 b0 b1 b2 b3
 exact ⟨mm_in hM hMN a0 a1 a2 a3 b0 b1 b2 b3,e _ (.inl rfl),e _ (.inr (.inl rfl)),e _ (.inr (.inr (.inl rfl))),e _ (.inr (.inr (.inr rfl)))⟩
theorem lm_made {a b c p q r n P Q R S:Int} (hF:lvB a b c n=true) (hG:lvB p q r n=true) (h:lmG a b c p q r n=((P,Q,R,S),true)):MadeM a b c p q r P Q R S∧R.tmod n=0:=by
 have hf:=(level_of hF).1
 have hg:=(level_of hG).1
 have mf:=redM_made (okF_cls hf)
 have mg:=redM_made (okF_cls hg)
 obtain ⟨rf1,rf2,rf3⟩:=redF_red (okF_cls hf)
 obtain ⟨rg1,rg2,rg3⟩:=redF_red (okF_cls hg)
 have sf:=red_small rf2 rf1
 have sg:=red_small rg2 rg1
 have f0:=form_true (class_form hf)
 have g0:=form_true (class_form hg)
 unfold lmG lmX at h
 split at h
 ·rename_i e
  obtain ⟨t,ht,hW,hR⟩:=lmF_true h
  unfold rfA rfB rfC at e
  unfold rmP rmQ rmR rmS at hW
  generalize redF a b c=F at*
  generalize redF p q r=G at*
  obtain ⟨x,y,z⟩:=F
  obtain ⟨x',y',z'⟩:=G
  obtain ⟨e1,e2,e3⟩:=e
  try simp only at e1 e2 e3
  subst e1 e2 e3
  generalize redM a b c 1 0 0 1=M at*
  generalize redM p q r 1 0 0 1=N at*
  obtain ⟨m0,m1,m2,m3⟩:=M
  obtain ⟨k0,k1,k2,k3⟩:=N
  try simp only at mf mg hW sf sg rf2
  have bm:=mf.bd6 ⟨f0.1.2,f0.2.2.2⟩ ⟨rf2.a0,by omega⟩ ⟨rf2.c0,by omega⟩ rf2.d1
  have bk:=mg.bd6 ⟨g0.1.2,g0.2.2.2⟩ ⟨rf2.a0,by omega⟩ ⟨rf2.c0,by omega⟩ rf2.d1
  rcases putB_mem ht with ht|ht
  ·have bt:=spK_bd (class_form hf) ht
   obtain ⟨i,hi,hq,ht2⟩:=spK_mem ht
   obtain ⟨c1,c2⟩:=candT_bd hi
   obtain ⟨c3,c4,c5,c6,c7,c8⟩:=cand_ok (class_form hf) c1 c2 hq
   obtain ⟨ex1,bx⟩:=mm4_ex (M:=1000000) (N:=50000) (m:=t) (k:=(m0,m1,m2,m3)) (by omega) (by omega) bt bm
   obtain ⟨ex2,-⟩:=mm4_ex (M:=100000000000) (N:=50000) (m:=mM t (m0,m1,m2,m3)) (k:=iM (k0,k1,k2,k3)) (by omega) (by omega) (by omega) (by unfold iM;simp only;omega)
   rw[ex1,ex2] at hW
   have hx:2*((candT i-b*candU i) / 2)=candT i-b*candU i:=by omega
   have hau:=MadeM.aut (a:=a) (b:=b) (c:=c) (cand_eq hx (show discI a b c=b*b-4*(a*c) by unfold discI;grind) hq)
   obtain ⟨X,hX⟩: ∃X,(candT i-b*candU i) / 2=X:=⟨_,rfl⟩
   obtain ⟨U,hU⟩: ∃U,candU i=U:=⟨_,rfl⟩
   unfold candM aM at ht2
   rw[hX,hU] at ht2
   rw[hX,hU] at hau
   subst ht2
   have fin:=(hau.comp mf).comp mg.inv
   unfold mM iM at hW
   simp only[Prod.mk.injEq] at hW
   obtain ⟨w1,w2,w3,w4⟩:=hW
   try simp only at hR
   refine ⟨?_,hR⟩
   rw[w1,w2,w3,w4]
   exact fin
  ·cases ht
 ·simp at h
theorem le_true {a b c p q r n:Int} (h:(leM a b c p q r n).2=true):lvB a b c n=true∧lvB p q r n=true∧leA a b c p q r n=true∧leOk a b c p q r n=true∧matB (leM a b c p q r n).1.1 (leM a b c p q r n).1.2.1 (leM a b c p q r n).1.2.2.1 (leM a b c p q r n).1.2.2.2=true∧
  MadeM a b c p q r (leM a b c p q r n).1.1 (leM a b c p q r n).1.2.1 (leM a b c p q r n).1.2.2.1 (leM a b c p q r n).1.2.2.2∧(leM a b c p q r n).1.2.2.1.tmod n=0:=by
 have hd:leM a b c p q r n=if leA a b c p q r n&&matB (lmG a b c p q r n).1.1 (lmG a b c p q r n).1.2.1 (lmG a b c p q r n).1.2.2.1 (lmG a b c p q r n).1.2.2.2 then ((lmG a b c p q r n).1,true) else ((0,0,0,0),false):=rfl
 split at hd
 ·rename_i q9
  rw[Bool.and_eq_true] at q9
  have hA:=q9.1
  unfold leA at hA
  rw[Bool.and_eq_true,Bool.and_eq_true] at hA
  obtain ⟨h1,h2,h3⟩:=hA
  rw[hd]
  obtain ⟨⟨⟨P,Q,R,S⟩,t⟩,hG⟩: ∃G,lmG a b c p q r n=G:=⟨_,rfl⟩
  rw[hG] at h3 q9
  try simp only at h3
  subst h3
  obtain ⟨k1,k2⟩:=lm_made h1 h2 hG
  rw[hG]
  exact ⟨h1,h2,q9.1,by unfold leOk;rw [h1,h2];rfl,q9.2,k1,k2⟩
 ·rw [hd] at h
  simp at h
end Go.Proofs.YtobkcnmlmmhpoaaGreat
