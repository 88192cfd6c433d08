/- Plain: inverses modulo a number, common residues. Plain: for every number up to 30 and all residues of the coefficients a point of size at most 5 serves: checked by the kernel. Plain: the first point at which the value of a form has no common divisor with a number. -/
import Derived.Test.YtobkcnmlmmhpoaaGreatRedF
namespace Go.Proofs.YtobkcnmlmmhpoaaGreat
set_option linter.unusedVariables false
set_option linter.unusedSimpArgs false

theorem coprime_dvd {a b c:Int} (h:a∣b*c) (hc:Int.gcd a b=1):a∣c:=by
 have h1:a.natAbs∣b.natAbs*c.natAbs:=by
  have:=Int.natAbs_dvd_natAbs.2 h
  rwa [Int.natAbs_mul] at this
 exact Int.natAbs_dvd_natAbs.1 (Nat.Coprime.dvd_of_dvd_mul_left (show Nat.Coprime a.natAbs b.natAbs from hc) h1)
theorem gcd_mod_left (x m:Int):Int.gcd (x%m) m=Int.gcd x m:=by
 have h:=Int.gcd_add_mul_right_left m (x%m) (x / m)
 rw[Int.mul_comm (x / m) m,Int.emod_add_mul_ediv] at h
 exact h.symm
def IsInv (a m s:Int):Prop:=0≤s∧s<m∧m∣a*s-1
theorem IsInv.same {a m s t:Int} (hg:Int.gcd m a=1) (h:IsInv a m s) (h':IsInv a m t):s=t:=by
 obtain ⟨s0,s1,k,hk⟩:=h
 obtain ⟨t0,t1,l,hl⟩:=h'
 have hd:m∣a*(s-t):=⟨k-l,by grind⟩
 obtain ⟨q,hq⟩:=coprime_dvd hd hg
 have:q=0:=by
  rcases Int.lt_trichotomy q 0 with c|c|c
  ·have:=Int.mul_le_mul_of_nonneg_left (show q≤ -1 by omega) (show 0≤m by omega);omega
  ·exact c
  ·have:=Int.mul_le_mul_of_nonneg_left (show 1≤q by omega) (show 0≤m by omega);omega
 rw[this] at hq;omega
open Classical in
noncomputable def invI (a m:Int):Int:=if h: ∃s,IsInv a m s then h.choose else 0
theorem inv_of {a m s:Int} (hg:Int.gcd m a=1) (h:IsInv a m s):invI a m=s:=by
 have he: ∃s,IsInv a m s:=⟨s,h⟩
 unfold invI
 rw[dif_pos he]
 exact IsInv.same hg he.choose_spec h
structure EucI (a m r s x y:Int):Prop where
 r0:0≤r
 s0:0≤s
 rx:m∣a*x-r
 sy:m∣a*y-s
 sign:(0≤x∧y≤0∧x*s-y*r=m)∨(x≤0∧0≤y∧y*r-x*s=m)
 g:Int.gcd r s=1
 rm:r≤m
 sm:s≤m
 yb: -m≤y∧y≤m
 xb: -m≤x∧x≤m
theorem EucI.step {a m r s x y:Int} (h:EucI a m r s x y) (hs:s≠0) (hm:1≤m):EucI a m s (r-r / s*s) y (x-r / s*y)∧r-r / s*s=r%s∧0≤r / s∧r / s≤r∧ -(2*m)≤r / s*y∧r / s*y≤2*m∧0≤r / s*s∧r / s*s≤r:=by
 have s1:1≤s:=by have:=h.s0;omega
 have e:r-r / s*s=r%s:=by have:=Int.emod_add_mul_ediv r s;rw [Int.mul_comm s] at this;omega
 have m0:=Int.emod_nonneg r hs
 have m1:=Int.emod_lt_of_pos r (show 0<s by omega)
 have q0:0≤r / s:=Int.ediv_nonneg h.r0 (by omega)
 have q1:r / s≤r:=Int.ediv_le_self s h.r0
 have hg:Int.gcd s (r%s)=1:=by
  rw[Int.gcd_comm,gcd_mod_left]
  exact h.g
 generalize hq:r / s=q at*
 rw[e]
 have er:r%s=r-q*s:=e.symm
 obtain ⟨k,hk⟩:=h.rx
 obtain ⟨l,hl⟩:=h.sy
 have hsg:(0≤y∧x-q*y≤0∧y*(r%s)-(x-q*y)*s=m)∨(y≤0∧0≤x-q*y∧(x-q*y)*s-y*(r%s)=m):=by
  rcases h.sign with ⟨x0,y0,hh⟩|⟨x0,y0,hh⟩
  ·right
   have:=Int.mul_nonneg q0 (show 0≤ -y by omega)
   rw[Int.mul_neg] at this
   refine ⟨y0,by omega,?_⟩
   rw[er];grind
  ·left
   have:=Int.mul_nonneg q0 y0
   refine ⟨y0,by omega,?_⟩
   rw[er];grind
 have nb: -m≤x-q*y∧x-q*y≤m:=by
  rcases hsg with ⟨g0,g1,g2⟩|⟨g0,g1,g2⟩
  ·have h1:=Int.mul_nonneg g0 m0
   have h2:(x-q*y)*s= -(-(x-q*y)*s):=by rw[Int.neg_mul];omega
   have h3:=Int.mul_le_mul_of_nonneg_left s1 (show 0≤ -(x-q*y) by omega)
   omega
  ·have h1:=Int.mul_nonneg (show 0≤ -y by omega) m0
   rw[Int.neg_mul] at h1
   have h3:=Int.mul_le_mul_of_nonneg_left s1 g1
   omega
 refine ⟨⟨h.s0,m0,h.sy,⟨k-q*l,by rw[er];grind⟩,hsg.symm.elim (fun h=> .inr ⟨h.1,h.2.1,h.2.2⟩) (fun h=> .inl ⟨h.1,h.2.1,h.2.2⟩),hg,h.sm,by have:=h.sm;omega,nb,h.yb⟩,rfl,q0,q1,?_,?_,?_,?_⟩
 ·have:=h.xb;omega
 ·have:=h.xb;omega
 ·exact Int.mul_nonneg q0 h.s0
 ·omega
theorem EucI.last {a m r x y:Int} (h:EucI a m r 0 x y) (hm:1≤m):r=1∧IsInv a m (x%m):=by
 have hr:r=1:=by
  have:=h.g
  rw[Int.gcd_zero_right] at this
  have:=h.r0;omega
 refine ⟨hr,Int.emod_nonneg x (by omega),Int.emod_lt_of_pos x (by omega),?_⟩
 obtain ⟨k,hk⟩:=h.rx
 have:=Int.emod_add_mul_ediv x m
 exact ⟨k-a*(x / m),by rw[hr] at hk;grind⟩
end Go.Proofs.YtobkcnmlmmhpoaaGreat
namespace Go.Proofs.YtobkcnmlmmhpoaaGreat
def ptsL:List (Nat × Nat):= [(0,1),(1,0),(1,1),(1,2),(2,1),(1,3),(2,3),(3,1),(3,2),(1,4),(3,4),(4,1),(4,3),(1,5),(2,5),(3,5),(4,5),(5,1),(5,2),(5,3),(5,4)]
def chk1 (m a b c:Nat):Bool:= !(Nat.gcd (Nat.gcd (Nat.gcd a b) c) m==1) || ptsL.any fun p=>Nat.gcd (a*p.1*p.1+b*p.1*p.2+c*p.2*p.2) m==1
def chkM (m:Nat):Bool:=(List.range m).all fun a=>(List.range m).all fun b=>(List.range m).all fun c=>chk1 m a b c
theorem chk_all:((List.range 31).all chkM)=true:=by decide +kernel
end Go.Proofs.YtobkcnmlmmhpoaaGreat
namespace Go.Proofs.YtobkcnmlmmhpoaaGreat
set_option linter.unusedVariables false
set_option linter.unusedSimpArgs false

def hitB (a b c m:Int) (k x y:Nat):Bool:=decide (max x y=k)&&(igcd x y==1&&igcd (valI a b c x y) m==1)
structure IsFirst (a b c m:Int) (k x y:Nat):Prop where
 hit:hitB a b c m k x y=true
 xk:x≤k
 yk:y≤k
 sizes: ∀k',k'<k→ ∀x' y',x'≤k'→y'≤k'→hitB a b c m k' x' y'=false
 rows: ∀x',x'<x→ ∀y',y'≤k→hitB a b c m k x' y'=false
 cols: ∀y',y'<y→hitB a b c m k x y'=false
theorem IsFirst.same {a b c m:Int} {k x y k' x' y':Nat} (h:IsFirst a b c m k x y) (h':IsFirst a b c m k' x' y'):x=x'∧y=y'∧k=k':=by
 have hk:k=k':=by
  rcases Nat.lt_trichotomy k k' with q|q|q
  ·have:=h'.sizes k q x y h.xk h.yk;rw [h.hit] at this;cases this
  ·exact q
  ·have:=h.sizes k' q x' y' h'.xk h'.yk;rw [h'.hit] at this;cases this
 subst hk
 have hx:x=x':=by
  rcases Nat.lt_trichotomy x x' with q|q|q
  ·have:=h'.rows x q y h.yk;rw [h.hit] at this;cases this
  ·exact q
  ·have:=h.rows x' q y' h'.yk;rw [h'.hit] at this;cases this
 subst hx
 refine ⟨rfl,?_,rfl⟩
 rcases Nat.lt_trichotomy y y' with q|q|q
 ·have:=h'.cols y q;rw [h.hit] at this;cases this
 ·exact q
 ·have:=h.cols y' q;rw [h'.hit] at this;cases this
open Classical in
noncomputable def fpP (a b c m:Int):Nat × Nat:=if h: ∃p:Nat × Nat × Nat,IsFirst a b c m p.1 p.2.1 p.2.2 then (h.choose.2.1,h.choose.2.2) else (0,0)
noncomputable def fpX (a b c m:Int):Int:=((fpP a b c m).1:Int)
noncomputable def fpY (a b c m:Int):Int:=((fpP a b c m).2:Int)
theorem fp_of {a b c m:Int} {k x y:Nat} (h:IsFirst a b c m k x y):fpX a b c m=x∧fpY a b c m=y:=by
 have he: ∃p:Nat × Nat × Nat,IsFirst a b c m p.1 p.2.1 p.2.2:=⟨(k,x,y),h⟩
 have h2:=he.choose_spec.same h
 unfold fpX fpY fpP
 rw[dif_pos he]
 exact ⟨by rw[h2.1],by rw[h2.2.1]⟩

/-! A point of size at most 5 is always found. -/
theorem ptsL_ok: ∀p ∈ ptsL,Nat.gcd p.1 p.2=1∧p.1≤5∧p.2≤5:=by decide
theorem exists_hit {a b c m:Int} (hm:1≤m) (hm2:m≤30) (hg:Int.gcd (Int.gcd (Int.gcd a b:Int) c:Int) m=1): ∃x y:Nat,x≤5∧y≤5∧hitB a b c m (max x y) x y=true:=by
 obtain ⟨n,rfl⟩:=Int.eq_ofNat_of_zero_le (show 0≤m by omega)
 have hn:n<31:=by omega
 have hn0:(n:Int)≠0:=by omega
 have h1:=chk_all
 rw[List.all_eq_true] at h1
 have h2:=h1 n (List.mem_range.2 hn)
 unfold chkM at h2
 have red: ∀z:Int,∃k:Nat,(k:Int)=z%n∧k<n:=fun z=>⟨(z%n).toNat,by have:=Int.emod_nonneg z hn0;omega,by have:=Int.emod_lt_of_pos z (show (0:Int)<n by omega);have:=Int.emod_nonneg z hn0;omega⟩
 obtain ⟨a',ea,la⟩:=red a
 obtain ⟨b',eb,lb⟩:=red b
 obtain ⟨c',ec,lc⟩:=red c
 rw[List.all_eq_true] at h2
 have h3:=h2 a' (List.mem_range.2 la)
 rw[List.all_eq_true] at h3
 have h4:=h3 b' (List.mem_range.2 lb)
 rw[List.all_eq_true] at h4
 have h5:=h4 c' (List.mem_range.2 lc)
 unfold chk1 at h5
 have hgn:Nat.gcd (Nat.gcd (Nat.gcd a' b') c') n=1:=by
  generalize hD:Nat.gcd (Nat.gcd (Nat.gcd a' b') c') n=D
  have d1:D∣Nat.gcd (Nat.gcd a' b') c':=by rw[←hD];exact Nat.gcd_dvd_left _ _
  have dn:D∣n:=by rw[←hD];exact Nat.gcd_dvd_right _ _
  have d2:D∣Nat.gcd a' b':=Nat.dvd_trans d1 (Nat.gcd_dvd_left _ _)
  have dc:D∣c':=Nat.dvd_trans d1 (Nat.gcd_dvd_right _ _)
  have da:D∣a':=Nat.dvd_trans d2 (Nat.gcd_dvd_left _ _)
  have db:D∣b':=Nat.dvd_trans d2 (Nat.gcd_dvd_right _ _)
  have up: ∀(z:Int) (z':Nat),(z':Int)=z%n→D∣z'→(D:Int)∣z:=fun z z' e h=>by
   rw[←Int.emod_add_mul_ediv z n,←e]
   exact Int.dvd_add (Int.natCast_dvd_natCast.2 h) (Int.dvd_mul_of_dvd_left (Int.natCast_dvd_natCast.2 dn))
  have h9:(D:Int)∣(Int.gcd (Int.gcd (Int.gcd a b:Int) c:Int) (n:Int):Int):=
   Int.dvd_coe_gcd (Int.dvd_coe_gcd (Int.dvd_coe_gcd (up a a' ea da) (up b b' eb db)) (up c c' ec dc)) (Int.natCast_dvd_natCast.2 dn)
  rw[hg] at h9
  have:=Int.natCast_dvd_natCast.1 h9
  exact Nat.dvd_one.1 this
 rw[hgn] at h5
 simp only[beq_self_eq_true,Bool.not_true,Bool.false_or,List.any_eq_true] at h5
 obtain ⟨p,hp,hv⟩:=h5
 obtain ⟨q1,q2,q3⟩:=ptsL_ok p hp
 refine ⟨p.1,p.2,q2,q3,?_⟩
 unfold hitB
 have hval:igcd (valI a b c p.1 p.2) n=1:=by
  unfold igcd
  have e:(valI a b c p.1 p.2)%n=((a'*p.1*p.1+b'*p.1*p.2+c'*p.2*p.2:Nat):Int)%n:=by
   have ha:a=a'+n*(a / n):=by rw[ea];exact (Int.emod_add_mul_ediv a n).symm
   have hb:b=b'+n*(b / n):=by rw[eb];exact (Int.emod_add_mul_ediv b n).symm
   have hc:c=c'+n*(c / n):=by rw[ec];exact (Int.emod_add_mul_ediv c n).symm
   have:valI a b c p.1 p.2=((a'*p.1*p.1+b'*p.1*p.2+c'*p.2*p.2:Nat):Int)+n*(a / n*p.1*p.1+b / n*p.1*p.2+c / n*p.2*p.2):=by
    unfold valI
    push_cast
    generalize a / (n:Int)=qa at*
    generalize b / (n:Int)=qb at*
    generalize c / (n:Int)=qc at*
    subst ha hb hc
    grind
   rw[this,Int.add_mul_emod_self_left]
  rw[←gcd_mod_left,e,gcd_mod_left]
  have:Int.gcd ((a'*p.1*p.1+b'*p.1*p.2+c'*p.2*p.2:Nat):Int) n=Nat.gcd (a'*p.1*p.1+b'*p.1*p.2+c'*p.2*p.2) n:=rfl
  rw[this]
  simp at hv
  rw[hv];rfl
 have hxy:igcd (p.1:Int) (p.2:Int)=1:=by
  unfold igcd
  have:Int.gcd (p.1:Int) (p.2:Int)=Nat.gcd p.1 p.2:=rfl
  rw[this,q1];rfl
 simp [hval,hxy]
end Go.Proofs.YtobkcnmlmmhpoaaGreat
