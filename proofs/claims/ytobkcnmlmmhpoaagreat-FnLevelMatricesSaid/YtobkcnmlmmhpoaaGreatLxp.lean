/- What the law of level matrices asks of its calls. -/
import Derived.Test.YtobkcnmlmmhpoaaGreatMcs
import Derived.Test.YtobkcnmlmmhpoaaGreatLmp
import Derived.Test.YtobkcnmlmmhpoaaGreatPjp
import Derived.Test.YtobkcnmlmmhpoaaGreatDra
namespace Go.Proofs.YtobkcnmlmmhpoaaGreat
open Go.RowKit
set_option linter.unusedVariables false
set_option linter.unusedSimpArgs false
attribute [local go_sem] q2 q3 q4 q5 q6 q7 q8 q9 q10 q11 q12

theorem lxI (a b c p q r n v0 v1 v2 v3:Int) (t:Bool) (w:World) (i0:I64 a) (i1:I64 b) (i2:I64 c) (i3:I64 p) (i4:I64 q) (i5:I64 r) (hR:leM a b c p q r n=((v0,v1,v2,v3),t)):
  Calls Tryz.prog 6 #[.agg #[.int .i64 a,.int .i64 b,.int .i64 c],.agg #[.int .i64 p,.int .i64 q,.int .i64 r],.int .i64 n] w fun e w'=>e= .returned (.tuple #[.agg #[.int .i64 v0,.int .i64 v1,.int .i64 v2,.int .i64 v3],.bool (t)])∧Below w.heap.size w w':=by
 have:=iLevelMatrix_c a b c p q r n w i0 i1 i2 i3 i4 i5
 rw[hR] at this
 exact this
theorem lxS (a b c p q r n v0 v1 v2 v3:Int) (t:Bool) (w:World) (hR:leM a b c p q r n=((v0,v1,v2,v3),t)):
  Calls Tryz.prog 7 #[.agg #[.int .i64 a,.int .i64 b,.int .i64 c],.agg #[.int .i64 p,.int .i64 q,.int .i64 r],.int .i64 n] w fun e w'=>e= .returned (.tuple #[.agg #[.int .i64 v0,.int .i64 v1,.int .i64 v2,.int .i64 v3],.bool (t)])∧Below w.heap.size w w':=by
 have:=sLevelMatrix_c a b c p q r n w
 rw[hR] at this
 exact this
theorem lxA (a b c p q r n:Int) (s t:Bool) (w:World) (i0:I64 a) (i1:I64 b) (i2:I64 c) (i3:I64 p) (i4:I64 q) (i5:I64 r) (h1:leA a b c p q r n=s) (h2:leOk a b c p q r n=t):
  Calls Tryz.prog 8 #[.agg #[.int .i64 a,.int .i64 b,.int .i64 c],.agg #[.int .i64 p,.int .i64 q,.int .i64 r],.int .i64 n] w fun e w'=>e= .returned (.tuple #[.bool (s),.bool (t)])∧Below w.heap.size w w':=by
 subst h1 h2;exact iAreLevelEquivalent_c a b c p q r n w i0 i1 i2 i3 i4 i5
theorem lxM (p q r s n:Int) (t u:Bool) (w:World) (h0:I64 p) (h1:I64 q) (h2:I64 r) (h3:I64 s) (e1:lmB p q r s n=t) (e2:(lmB p q r s n&&(r.tmod n==0))=u):
  Calls Tryz.prog 10 #[.agg #[.int .i64 p,.int .i64 q,.int .i64 r,.int .i64 s],.int .i64 n] w fun e w'=>e= .returned (.tuple #[.bool (u),.bool (t)])∧Below w.heap.size w w':=by
 subst e1 e2;exact implIsLevelMatrix_a p q r s n w h0 h1 h2 h3
theorem lxF (a b c n x y z:Int) (t:Bool) (w:World) (h0:I64 a) (h1:I64 b) (h2:I64 c) (e0:frA a b c n=x) (e1:frB a b c n=y) (e2:frC a b c n=z) (e3:frOk a b c n=t):
  Calls Tryz.prog 11 #[.agg #[.int .i64 a,.int .i64 b,.int .i64 c],.int .i64 n] w fun e w'=>e= .returned (.tuple #[.agg #[.int .i64 x,.int .i64 y,.int .i64 z],.bool (t)])∧Below w.heap.size w w':=by
 subst e0 e1 e2 e3;exact implFrickeForm_b a b c n w h0 h1 h2
theorem lxL (a b c n:Int) (s t:Bool) (w:World) (h0:I64 a) (h1:I64 b) (h2:I64 c) (e0:lvB a b c n=s) (e1:hasB a b c n=t):
  Calls Tryz.prog 12 #[.agg #[.int .i64 a,.int .i64 b,.int .i64 c],.int .i64 n] w fun e w'=>e= .returned (.tuple #[.bool (s),.bool (t)])∧Below w.heap.size w w':=by
 subst e0 e1;exact implIsLevelForm_a a b c n w h0 h1 h2
theorem lxP (p q r s n x y:Int) (t:Bool) (w:World) (h0:I64 p) (h1:I64 q) (h2:I64 r) (h3:I64 s) (e0:ppX p q r s n=x) (e1:ppY p q r s n=y) (e2:lmB p q r s n=t):
  Calls Tryz.prog 14 #[.agg #[.int .i64 p,.int .i64 q,.int .i64 r,.int .i64 s],.int .i64 n] w fun e w'=>e= .returned (.tuple #[.agg #[.int .i64 x,.int .i64 y],.bool (t)])∧Below w.heap.size w w':=by
 subst e0 e1 e2;exact implProjectivePoint_a p q r s n w h0 h1 h2 h3
theorem lxQ (p q r s n x y:Int) (t:Bool) (w:World) (e0:ppX p q r s n=x) (e1:ppY p q r s n=y) (e2:lmB p q r s n=t):
  Calls Tryz.prog 15 #[.agg #[.int .i64 p,.int .i64 q,.int .i64 r,.int .i64 s],.int .i64 n] w fun e w'=>e= .returned (.tuple #[.agg #[.int .i64 x,.int .i64 y],.bool (t)])∧Below w.heap.size w w':=by
 subst e0 e1 e2;exact specProjectivePoint_a p q r s n w
structure LxOk (a b c p q r n m0 m1 m2 m3:Int):Prop where
 f:formB a b c=true
 g:formB p q r=true
 m:matB m0 m1 m2 m3=true
 e1:valI a b c m0 m2=p
 e2:polI a b c m0 m2 m1 m3=q
 e3:valI a b c m1 m3=r
 l1:lmB m0 m1 m2 m3 n=true
 l2:(lmB m0 m1 m2 m3 n&&(m2.tmod n==0))=true
theorem lx_ok {a b c p q r n m0 m1 m2 m3:Int} (hR:leM a b c p q r n=((m0,m1,m2,m3),true)):LxOk a b c p q r n m0 m1 m2 m3∧leA a b c p q r n=true∧leOk a b c p q r n=true:=by
 have h:=le_true (a:=a) (b:=b) (c:=c) (p:=p) (q:=q) (r:=r) (n:=n) (by rw[hR])
 rw[hR] at h
 obtain ⟨h1,h2,h3,h4,h5,h6,h7⟩:=h
 simp only at h5 h6 h7
 obtain ⟨k1,n1,n2⟩:=level_of h1
 obtain ⟨k2,-,-⟩:=level_of h2
 have hl:lmB m0 m1 m2 m3 n=true:=by
  have:=h6.det
  unfold lmB properB detI inB
  rw[h5,this]
  simp;omega
 refine ⟨⟨class_form k1,class_form k2,h5,?_,?_,?_,hl,?_⟩,h3,h4⟩
 ·rw [h6.ea];unfold valI;rfl
 ·rw [h6.eb];unfold polI;grind
 ·rw [h6.ec];unfold valI;rfl
 ·rw [hl,h7];rfl
theorem lx_fr {a b c n x y z:Int} (h:frOk a b c n=true) (e0:frA a b c n=x) (e1:frB a b c n=y) (e2:frC a b c n=z):
  (frA x y z n=a∧frB x y z n=b∧frC x y z n=c∧frOk x y z n=true)∧lvB x y z n=true∧hasB x y z n=true∧I64 x∧I64 y∧I64 z:=by
 obtain ⟨h1,h2,h3,h4⟩:=fr_back h
 have f0:x=n*c:=by rw[←e0];unfold frA;rw [if_pos h]
 have f1:y= -b:=by rw[←e1];unfold frB;rw [if_pos h]
 have f2:z=a / n:=by rw[←e2];unfold frC;rw [if_pos h]
 subst f0 f1 f2
 have hf:=form_true (class_form (has_facts (lv_has h1)).1)
 refine ⟨⟨?_,?_,?_,h2⟩,h1,lv_has h1,i64_n hf.1,i64_n hf.2.1,i64_n hf.2.2⟩
 ·unfold frA;rw [if_pos h2,h3]
 ·unfold frB;rw [if_pos h2,Int.neg_neg]
 ·unfold frC;rw [if_pos h2,h4]
def fndB (f:Nat→Int) (x y:Int):Nat→Bool
 |0=>false
 |i+1=>fndB f x y i || (f (i*2)==x&&f (i*2+1)==y)
theorem fnd_yes {f:Nat→Int} {x y:Int} {i:Nat} (h1:f (i*2)=x) (h2:f (i*2+1)=y): ∀n,i<n→fndB f x y n=true
 |0,h=>by omega
 |n+1,h=>by
  rw[fndB]
  by_cases q:i=n
  ·subst q;rw [h1,h2];simp
  ·rw [fnd_yes h1 h2 n (by omega)];rfl
theorem lx_pt {a0 a1 a2 a3 b0 b1 b2 b3 i0 i1 i2 i3 c0 c1 c2 c3 k x y u v:Int} (ha:lmB a0 a1 a2 a3 k=true) (hb:lmB b0 b1 b2 b3 k=true) (hx:ppX a0 a1 a2 a3 k=x) (hy:ppY a0 a1 a2 a3 k=y) (hu:ppX b0 b1 b2 b3 k=u) (hv:ppY b0 b1 b2 b3 k=v)
  (hi:i0=b3∧i1= -b1∧i2= -b2∧i3=b0) (hc:c0=mmP a0 a1 a2 a3 i0 i1 i2 i3∧c1=mmQ a0 a1 a2 a3 i0 i1 i2 i3∧c2=mmR a0 a1 a2 a3 i0 i1 i2 i3∧c3=mmS a0 a1 a2 a3 i0 i1 i2 i3) (hm:matB c0 c1 c2 c3=true):
  lmB c0 c1 c2 c3 k=true∧((c2.tmod k=0)↔(x=u∧y=v))∧inB k 1 30=true∧fndB (ppF k) x y (ppN k)=true:=by
 have ga:=ha
 have gb:=hb
 unfold lmB properB detI at ha hb
 simp only[Bool.and_eq_true,beq_iff_eq] at ha hb
 obtain ⟨⟨ma,da⟩,ka⟩:=ha
 obtain ⟨⟨mb,db⟩,-⟩:=hb
 have k1:=inB_true ka
 obtain ⟨A0,A1,A2,A3⟩:=mat_true ma
 obtain ⟨B0,B1,B2,B3⟩:=mat_true mb
 obtain ⟨r0,r1,r2,r3⟩:=hi
 have he:=mm_in (p:=a0) (q:=a1) (r:=a2) (s:=a3) (p2:=i0) (q2:=i1) (r2:=i2) (s2:=i3) (M:=1000000) (N:=1000000) (by omega) (by omega) A0 A1 A2 A3 (by omega) (by omega) (by omega) (by omega)
 obtain ⟨c0e,c1e,c2e,c3e⟩:=hc
 unfold mM at he
 simp only[Prod.mk.injEq] at he
 rw[←c0e,←c1e,←c2e,←c3e] at he
 obtain ⟨e0,e1,e2,e3⟩:=he
 subst r0 r1 r2 r3
 have f0:c0=a0*i0-a1*b2:=by rw[e0];grind
 have f2:c2=a2*i0-a3*b2:=by rw[e2];grind
 have f3:c3=a3*i3-a2*b1:=by rw[e3];grind
 have f1:c1=a1*i3-a0*b1:=by rw[e1];grind
 have hdc:c0*c3-c1*c2=1:=by
  have:c0*c3-c1*c2=(a0*a3-a1*a2)*(i3*i0-b1*b2):=by rw[f0,f1,f2,f3];grind
  rw[this,da,db];rfl
 have hX:x=lpX a2 a3 k:=by rw[←hx];unfold ppX;rw [if_pos ga]
 have hY:y=lpY a2 a3 k:=by rw[←hy];unfold ppY;rw [if_pos ga]
 have hU:u=lpX b2 i0 k:=by rw[←hu];unfold ppX;rw [if_pos gb]
 have hV:v=lpY b2 i0 k:=by rw[←hv];unfold ppY;rw [if_pos gb]
 refine ⟨?_,⟨fun h=> ?_,fun h=> ?_⟩,ka,?_⟩
 ·unfold lmB properB detI
  rw[hm,hdc,ka];rfl
 ·have hd:=Int.dvd_of_tmod_eq_zero h
  have:=lp_level (p:=a0) (q:=a1) (r:=a2) (s:=a3) (u:=i3) (v:=b1) (x:=b2) (y:=i0) (P:=c0) (Q:=0) (R:=c2) (S:=c3) k1.1 da db f0 f2 f3 hd
  rw[hX,hY,hU,hV]
  exact this
 ·have:=lp_cross (x:=a2) (y:=a3) (x':=b2) (y':=i0) (n:=k) (by rw[←hX,←hU];exact h.1) (by rw[←hY,←hV];exact h.2)
  rw[←f2] at this
  exact Int.tmod_eq_zero_of_dvd this
 ·obtain ⟨i,h1,h2,h3⟩:=pp_listed (x:=a2) (y:=a3) (p:=a0) (q:=a1) k1.1 k1.2 da
  rw[Nat.mul_comm] at h2 h3
  exact fnd_yes (by rw[h2,hX]) (by rw[h3,hY]) _ h1
end Go.Proofs.YtobkcnmlmmhpoaaGreat
