/- Plain: automorphs of a class form, as the program multiplies. -/
import Derived.Test.YtobkcnmlmmhpoaaGreatReduceI
import Derived.Test.YtobkcnmlmmhpoaaGreatReduceS
namespace Go.Proofs.YtobkcnmlmmhpoaaGreat
open Go.RowKit
set_option linter.unusedVariables false
set_option linter.unusedSimpArgs false
attribute [local go_sem] q2 q3 q4 q5 q6 q7 q8 q9 q10 q11 q12
theorem okF_cls {a b c:Int} (h:classB a b c=true):OkF a b c:=by
 obtain ⟨ha,hb,hc⟩:=form_true (class_form h)
 have hd:=class_disc h
 have h2:=shown_def (class_shown h)
 unfold defB at h2;simp at h2
 have hbb:0≤b*b:=by
  by_cases q:0≤b
  ·exact Int.mul_nonneg q q
  ·exact Int.mul_nonneg_of_nonpos_of_nonpos (by omega) (by omega)
 have e:4*a*c=4*(a*c):=Int.mul_assoc _ _ _
 have hac:0<a*c:=by unfold discI at hd;omega
 have c0:0<c:=by
  by_cases q:0<c
  ·exact q
  ·have:=Int.mul_nonneg_of_nonpos_of_nonpos (a:= -a) (b:=c) (by omega) (by omega)
   rw[Int.neg_mul] at this;omega
 exact ⟨h2.2.2,by omega,by omega,by omega,c0,by omega,hd.1,hd.2⟩

def cjM (R n:M4):M4:=mM (mM R n) (iM R)
theorem turn_small {a b c:Int} : ∀n ∈ turnL a b c,(-1≤n.1∧n.1≤1)∧(-1≤n.2.1∧n.2.1≤1)∧(-1≤n.2.2.1∧n.2.2.1≤1)∧(-1≤n.2.2.2∧n.2.2.2≤1):=by
 unfold turnL
 split
 ·simp
 ·split<;>simp
theorem turn_len (a b c:Int):(turnL a b c).length≤6∧0<(turnL a b c).length:=by
 unfold turnL
 split
 ·simp
 ·split<;>simp
structure AutOk (a0 b0 c0 a b c p q r s:Int):Prop where
 cls:classB a0 b0 c0=true
 made:MadeM a0 b0 c0 a b c p q r s
 ok:OkM p q r s
 pa:0<a
 red:redB a b c=true
 disc:discI a0 b0 c0<0∧ -2000≤discI a0 b0 c0
 mod4:discI a0 b0 c0%4=0∨discI a0 b0 c0%4=1
 cont:contI a0 b0 c0=1
theorem disc_mod4 (a b c:Int):discI a b c%4=0∨discI a b c%4=1:=by
 have e:4*a*c=4*(a*c):=Int.mul_assoc _ _ _
 unfold discI
 rw[e]
 obtain ⟨k,hk⟩: ∃k,b=2*k∨b=2*k+1:=⟨b / 2,by omega⟩
 rcases hk with hk|hk
 ·have:b*b=4*(k*k):=by rw[hk];grind
  omega
 ·have:b*b=4*(k*k+k)+1:=by rw[hk];grind
  omega
theorem autOk_of {a b c:Int} (h:classB a b c=true):AutOk a b c (rfA a b c) (rfB a b c) (rfC a b c) (rmP a b c) (rmQ a b c) (rmR a b c) (rmS a b c):=by
 have h0:=okF_cls h
 obtain ⟨hr,h1,hd⟩:=redF_red h0
 have hm:=redM_made h0
 obtain ⟨p0,q0,r0,s0⟩:=hm.bd h0 h1
 have ps:=pr_bdM (by omega) p0 s0
 have qr:=pr_bdM (by omega) q0 r0
 refine ⟨h,hm,⟨p0,q0,r0,s0,hm.det,⟨Int.le_trans (by decide) ps.1,Int.le_trans ps.2 (by decide)⟩,⟨Int.le_trans (by decide) qr.1,Int.le_trans qr.2 (by decide)⟩⟩,h1.a0,hr,⟨h0.d1,h0.d0⟩,disc_mod4 _ _ _,?_⟩
 unfold classB at h
 simp at h
 exact h.2
theorem AutOk.eqB {a0 b0 c0 a b c p q r s:Int} (h:AutOk a0 b0 c0 a b c p q r s) (hp:0<a0):putB [] ((turnL a b c).map (cjM (p,q,r,s)))=putB [] (spK a0 b0 c0 15):=by
 have u1:a=c∧b=0→a=1:=fun ⟨e1,e2⟩=>made_unit h.made h.cont h.pa (by rw[e2];exact Int.dvd_zero a) (by rw[←e1];exact Int.dvd_refl a)
 have u2:a=c∧b=a→a=1:=fun ⟨e1,e2⟩=>made_unit h.made h.cont h.pa (by rw[e2];exact Int.dvd_refl a) (by rw[←e1];exact Int.dvd_refl a)
 have n1:((turnL a b c).map (cjM (p,q,r,s))).Nodup:=by
  have:=conj_turn h.made u1 u2
  show ((turnL a b c).map (fun n=>mM (mM (p,q,r,s) n) (iM (p,q,r,s)))).Nodup
  rw[this]
  exact nodup_aM hp (turnX_nodup _ _ _ _)
 have n2:(spK a0 b0 c0 15).Nodup:=by
  rw[sp_spX h.disc.1 h.mod4]
  exact nodup_aM hp (spX_nodup _ _)
 rw[putB_eq (L:= []) (by simp [SrtM]) (new_of n1 (by simp)),putB_eq (L:= []) (by simp [SrtM]) (new_of n2 (by simp))]
 exact aut_eq h.made hp h.pa h.red h.cont h.disc.1 h.mod4
theorem spK_mem {a b c:Int} {m:M4} : ∀{n:Nat},m ∈ spK a b c n→ ∃i,i<n∧candT i*candT i-discI a b c*candU i*candU i=4∧m=candM a b c i
 |0,h=>by cases h
 |n+1,h=>by
  unfold spK at h
  split at h
  ·rename_i q
   rw[List.mem_append,List.mem_singleton] at h
   rcases h with h|h
   ·obtain ⟨i,h1,h2,h3⟩:=spK_mem h
    exact ⟨i,by omega,h2,h3⟩
   ·exact ⟨n,by omega,q,h⟩
  ·obtain ⟨i,h1,h2,h3⟩:=spK_mem h
   exact ⟨i,by omega,h2,h3⟩
theorem cand_ok {a b c t u:Int} (hf:formB a b c=true) (ht: -2≤t∧t≤2) (hu: -1≤u∧u≤1) (h:t*t-discI a b c*u*u=4):
  (t-b*u)%2=0∧(t+b*u) / 2=(t-b*u) / 2+b*u∧(-1000000≤(t-b*u) / 2∧(t-b*u) / 2≤1000000)∧(-1000000≤ -(c*u)∧ -(c*u)≤1000000)∧(-1000000≤a*u∧a*u≤1000000)∧(-1000000≤(t-b*u) / 2+b*u∧(t-b*u) / 2+b*u≤1000000):=by
 obtain ⟨ha,hb,hc⟩:=form_true hf
 have e:4*a*c=4*(a*c):=Int.mul_assoc _ _ _
 have hpar:(t-b*u)%2=0:=by
  have hb2:(b*b-b)%2=0:=by
   obtain ⟨k,hk⟩: ∃k,b=2*k∨b=2*k+1:=⟨b / 2,by omega⟩
   rcases hk with hk|hk
   ·have:b*b=4*(k*k):=by rw[hk];grind
    omega
   ·have:b*b=4*(k*k+k)+1:=by rw[hk];grind
    omega
  unfold discI at h
  rw[e] at h
  rcases (show t= -2∨t= -1∨t=0∨t=1∨t=2 by omega) with rfl|rfl|rfl|rfl|rfl<;>rcases (show u= -1∨u=0∨u=1 by omega) with rfl|rfl|rfl<;>simp only[Int.mul_neg,Int.mul_one,Int.mul_zero,Int.neg_neg,Int.neg_mul] at h ⊢ <;>omega
 have hbu:(-1000000≤b*u∧b*u≤1000000):=by rcases (show u= -1∨u=0∨u=1 by omega) with rfl|rfl|rfl<;>simp<;>omega
 have hcu:(-1000000≤c*u∧c*u≤1000000):=by rcases (show u= -1∨u=0∨u=1 by omega) with rfl|rfl|rfl<;>simp<;>omega
 have hau:(-1000000≤a*u∧a*u≤1000000):=by rcases (show u= -1∨u=0∨u=1 by omega) with rfl|rfl|rfl<;>simp<;>omega
 generalize b*u=bu at*
 generalize c*u=cu at*
 generalize a*u=au at*
 refine ⟨hpar,?_,?_,?_,?_,?_⟩<;>omega
theorem candT_bd {i:Nat} (h:i<15):(-2≤candT i∧candT i≤2)∧(-1≤candU i∧candU i≤1):=by
 unfold candT candU;omega
theorem spK_bd {a b c:Int} {m:M4} (hf:formB a b c=true) (h:m ∈ spK a b c 15):(-1000000≤m.1∧m.1≤1000000)∧(-1000000≤m.2.1∧m.2.1≤1000000)∧(-1000000≤m.2.2.1∧m.2.2.1≤1000000)∧(-1000000≤m.2.2.2∧m.2.2.2≤1000000):=by
 obtain ⟨i,h1,h2,rfl⟩:=spK_mem h
 obtain ⟨ht,hu⟩:=candT_bd h1
 obtain ⟨_,_,k1,k2,k3,k4⟩:=cand_ok hf ht hu h2
 exact ⟨k1,k2,k3,k4⟩
theorem mat_of {p q r s:Int} (h:(-1000000≤p∧p≤1000000)∧(-1000000≤q∧q≤1000000)∧(-1000000≤r∧r≤1000000)∧(-1000000≤s∧s≤1000000)):matB p q r s=true:=by
 rw[mat_num]
 obtain ⟨h0,h1,h2,h3⟩:=h
 have f: ∀{x:Int},(-1000000≤x∧x≤1000000)→numB x=true:=fun {x} hx=>by unfold numB inB;simp;omega
 rw[f h0,f h1,f h2,f h3];rfl
theorem AutOk.conj {a0 b0 c0 a b c p q r s:Int} (h:AutOk a0 b0 c0 a b c p q r s) (hp:0<a0) {n:M4} (hn:n ∈ turnL a b c):
  ∃y0 y1 y2 y3 z0 z1 z2 z3:Int,(mmP p q r s n.1 n.2.1 n.2.2.1 n.2.2.2=y0∧mmQ p q r s n.1 n.2.1 n.2.2.1 n.2.2.2=y1∧mmR p q r s n.1 n.2.1 n.2.2.1 n.2.2.2=y2∧mmS p q r s n.1 n.2.1 n.2.2.1 n.2.2.2=y3)∧
   (mmP y0 y1 y2 y3 s (-q) (-r) p=z0∧mmQ y0 y1 y2 y3 s (-q) (-r) p=z1∧mmR y0 y1 y2 y3 s (-q) (-r) p=z2∧mmS y0 y1 y2 y3 s (-q) (-r) p=z3)∧cjM (p,q,r,s) n=(z0,z1,z2,z3)∧matB z0 z1 z2 z3=true∧((-1000000≤z0∧z0≤1000000)∧(-1000000≤z1∧z1≤1000000)∧(-1000000≤z2∧z2≤1000000)∧(-1000000≤z3∧z3≤1000000)):=by
 have hf:=form_true (class_form h.cls)
 obtain ⟨s0,s1,s2,s3⟩:=turn_small n hn
 obtain ⟨p0,q0,r0,t0,-,-,-⟩:=h.ok
 obtain ⟨n0,n1,n2,n3⟩:=n
 have e1:=mm_in (M:=200000000) (N:=1) (by omega) (by omega) p0 q0 r0 t0 s0 s1 s2 s3
 have e2:=mm_bd (M:=200000000) (N:=1) (by omega) p0 q0 r0 t0 s0 s1 s2 s3
 have hmem:cjM (p,q,r,s) (n0,n1,n2,n3) ∈ spK a0 b0 c0 15:=by
  have h1:cjM (p,q,r,s) (n0,n1,n2,n3) ∈ putM [] ((turnL a b c).map (cjM (p,q,r,s))):=(putM_mem _ _ _).2 (.inl (List.mem_map_of_mem hn))
  have h2:putM [] ((turnL a b c).map (cjM (p,q,r,s)))=putM [] (spK a0 b0 c0 15):=aut_eq h.made hp h.pa h.red h.cont h.disc.1 h.mod4
  rw[h2] at h1
  rcases (putM_mem _ _ _).1 h1 with h3|h3
  ·exact h3
  ·cases h3
 have hb:=spK_bd (class_form h.cls) hmem
 have hcj:cjM (p,q,r,s) (n0,n1,n2,n3)=mM (mM (p,q,r,s) (n0,n1,n2,n3)) (s,-q,-r,p):=rfl
 generalize mM (p,q,r,s) (n0,n1,n2,n3)=Y at*
 obtain ⟨y0,y1,y2,y3⟩:=Y
 simp only[Prod.mk.injEq] at e1
 have b0:=e2 y0 (.inl rfl)
 have b1:=e2 y1 (.inr (.inl rfl))
 have b2:=e2 y2 (.inr (.inr (.inl rfl)))
 have b3:=e2 y3 (.inr (.inr (.inr rfl)))
 have e3:=mm_in (p:=y0) (q:=y1) (r:=y2) (s:=y3) (p2:=s) (q2:= -q) (r2:= -r) (s2:=p) (M:=400000000) (N:=200000000) (by omega) (by omega) (by omega) (by omega) (by omega) (by omega) t0 (by omega) (by omega) p0
 rw[←hcj] at e3
 generalize cjM (p,q,r,s) (n0,n1,n2,n3)=Z at*
 obtain ⟨z0,z1,z2,z3⟩:=Z
 simp only[Prod.mk.injEq] at e3
 exact ⟨y0,y1,y2,y3,z0,z1,z2,z3,e1,e3,rfl,mat_of hb,hb⟩
end Go.Proofs.YtobkcnmlmmhpoaaGreat
