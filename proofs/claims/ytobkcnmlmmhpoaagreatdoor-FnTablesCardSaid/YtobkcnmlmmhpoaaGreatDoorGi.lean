/- Plain: the lattices of forms in an order w w = g w + k of a quadratic field, their scales and products. Plain: a reduced form is alone in its class. Plain: reduced forms with homothetic lattices are equal. Plain: the lattice of a triple; a form and its reduced form, the composite. Plain: the laws of the composite: commutative, associative, the identity. Plain: the identity and the inverse of classes, cancellation, powers, orders. -/
import Derived.Test.YtobkcnmlmmhpoaaGreatDoorCmp
import Derived.Test.YtobkcnmlmmhpoaaGreatDoorGp
namespace Go.Proofs.YtobkcnmlmmhpoaaGreatDoor
set_option linter.unusedVariables false
set_option linter.unusedSimpArgs false

abbrev E2:=Int × Int
def mulE (g k:Int) (p q:E2):E2:=(p.1*q.1+k*(p.2*q.2),p.1*q.2+p.2*q.1+g*(p.2*q.2))
def nrmE (g k:Int) (p:E2):Int:=p.1*p.1+g*(p.1*p.2)-k*(p.2*p.2)
theorem e2_ext {p q:E2} (h1:p.1=q.1) (h2:p.2=q.2):p=q:=Prod.ext h1 h2
theorem mulE_comm (g k:Int) (p q:E2):mulE g k p q=mulE g k q p:=by
 apply e2_ext<;>simp only[mulE]<;>grind
theorem mulE_assoc (g k:Int) (p q r:E2):mulE g k (mulE g k p q) r=mulE g k p (mulE g k q r):=by
 apply e2_ext<;>simp only[mulE]<;>grind
theorem nrm_mul (g k:Int) (p q:E2):nrmE g k (mulE g k p q)=nrmE g k p*nrmE g k q:=by
 simp only[nrmE,mulE];grind
def Lat (a t:Int) (z:E2):Prop:=a∣z.1+t*z.2
def Sc (g k:Int) (p:E2) (S:E2→Prop) (z:E2):Prop:= ∃s,S s∧z=mulE g k p s
def Hom (g k:Int) (S T:E2→Prop):Prop:= ∃p q:E2,0<nrmE g k p∧0<nrmE g k q∧ ∀z,Sc g k p S z↔Sc g k q T z
theorem Hom.refl {g k:Int} (S:E2→Prop):Hom g k S S:=⟨(1,0),(1,0),by simp [nrmE],by simp [nrmE],fun _=>Iff.rfl⟩
theorem Hom.symm {g k:Int} {S T:E2→Prop} (h:Hom g k S T):Hom g k T S:=by
 obtain ⟨p,q,h1,h2,h3⟩:=h
 exact ⟨q,p,h2,h1,fun z=>(h3 z).symm⟩
theorem sc_sc (g k:Int) (p q:E2) (S:E2→Prop) (z:E2):Sc g k (mulE g k p q) S z↔ ∃y,Sc g k q S y∧z=mulE g k p y:=by
 constructor
 ·rintro ⟨s,h1,rfl⟩
  exact ⟨_,⟨s,h1,rfl⟩,mulE_assoc _ _ _ _ _⟩
 ·rintro ⟨y,⟨s,h1,rfl⟩,rfl⟩
  exact ⟨s,h1,(mulE_assoc _ _ _ _ _).symm⟩
theorem Hom.trans {g k:Int} {S T U:E2→Prop} (h:Hom g k S T) (h':Hom g k T U):Hom g k S U:=by
 obtain ⟨p,q,h1,h2,h3⟩:=h
 obtain ⟨r,s,h4,h5,h6⟩:=h'
 refine ⟨mulE g k r p,mulE g k q s,by rw[nrm_mul];exact Int.mul_pos h4 h1,by rw[nrm_mul];exact Int.mul_pos h2 h5,fun z=> ?_⟩
 have e1:Sc g k (mulE g k r p) S z↔Sc g k (mulE g k r q) T z:=by
  rw[sc_sc,sc_sc]
  exact ⟨fun ⟨y,hy,hz⟩=>⟨y,(h3 y).1 hy,hz⟩,fun ⟨y,hy,hz⟩=>⟨y,(h3 y).2 hy,hz⟩⟩
 have e2:Sc g k (mulE g k q r) T z↔Sc g k (mulE g k q s) U z:=by
  rw[sc_sc,sc_sc]
  exact ⟨fun ⟨y,hy,hz⟩=>⟨y,(h6 y).1 hy,hz⟩,fun ⟨y,hy,hz⟩=>⟨y,(h6 y).2 hy,hz⟩⟩
 rw[e1,mulE_comm g k r q,e2]
theorem hom_sl2 {g k a t c x y Q S e t':Int} (hn:a*c=t*t-g*t-k) (hd:x*S-y*Q=1) (he:e=a*x*x+(2*t-g)*x*y+c*y*y) (ht:t'=t+(a*x*Q+(2*t-g)*y*Q+c*y*S)) (ha:0<a) (he0:0<e):Hom g k (Lat a t) (Lat e t'):=by
 refine ⟨(x*a+y*t-g*y,y),(a,0),?_,?_,?_⟩
 ·have:nrmE g k (x*a+y*t-g*y,y)=a*e:=by
   simp only[nrmE];rw [he];grind
  rw[this];exact Int.mul_pos ha he0
 ·simp only[nrmE];have:=Int.mul_pos ha ha;simp;omega
 ·intro z
  constructor
  ·rintro ⟨s,⟨m,hm⟩,rfl⟩
   refine ⟨((m*S+s.2*Q)*e-t'*(m*y+s.2*x),m*y+s.2*x),⟨m*S+s.2*Q,by grind⟩,?_⟩
   have h1:s.1=a*m-t*s.2:=by omega
   apply e2_ext
   ·simp only[mulE,h1];rw [he,ht];grind
   ·simp only[mulE,h1];grind
  ·rintro ⟨s,⟨m,hm⟩,rfl⟩
   refine ⟨((x*m-Q*s.2)*a-t*(S*s.2-y*m),S*s.2-y*m),⟨x*m-Q*s.2,by grind⟩,?_⟩
   have h1:s.1=e*m-t'*s.2:=by omega
   apply e2_ext
   ·simp only[mulE,h1];rw [he,ht];grind
   ·simp only[mulE,h1];grind
inductive Mu (g k:Int) (S T:E2→Prop):E2→Prop
 |mul {s t:E2} :S s→T t→Mu g k S T (mulE g k s t)
 |add {p q:E2} :Mu g k S T p→Mu g k S T q→Mu g k S T (p.1+q.1,p.2+q.2)
theorem mulE_add (g k:Int) (p q r:E2):mulE g k r (p.1+q.1,p.2+q.2)=((mulE g k r p).1+(mulE g k r q).1,(mulE g k r p).2+(mulE g k r q).2):=by
 apply e2_ext<;>simp only[mulE]<;>grind
theorem mulE_add' (g k:Int) (p q r:E2):mulE g k (p.1+q.1,p.2+q.2) r=((mulE g k p r).1+(mulE g k q r).1,(mulE g k p r).2+(mulE g k q r).2):=by
 apply e2_ext<;>simp only[mulE]<;>grind
theorem Mu.comm {g k:Int} {S T:E2→Prop} {z:E2} (h:Mu g k S T z):Mu g k T S z:=by
 induction h with
 |mul h1 h2=>rw[mulE_comm];exact .mul h2 h1
 |add _ _ h1 h2=>exact .add h1 h2
theorem Mu.assoc {g k:Int} {S T U:E2→Prop} {z:E2} (h:Mu g k (Mu g k S T) U z):Mu g k S (Mu g k T U) z:=by
 induction h with
 | @mul s u h1 h2=>
  induction h1 with
  |mul h3 h4=>rw[mulE_assoc];exact .mul h3 (.mul h4 h2)
  |add _ _ h3 h4=>rw[mulE_add'];exact .add h3 h4
 |add _ _ h1 h2=>exact .add h1 h2
theorem Mu.assoc' {g k:Int} {S T U:E2→Prop} {z:E2} (h:Mu g k S (Mu g k T U) z):Mu g k (Mu g k S T) U z:=by
 induction h with
 | @mul s u h1 h2=>
  induction h2 with
  |mul h3 h4=>rw[←mulE_assoc];exact .mul (.mul h1 h3) h4
  |add _ _ h3 h4=>rw[mulE_add];exact .add h3 h4
 |add _ _ h1 h2=>exact .add h1 h2
theorem Mu.mono {g k:Int} {S T S' T':E2→Prop} {z:E2} (h:Mu g k S T z) (h1: ∀z,S z→S' z) (h2: ∀z,T z→T' z):Mu g k S' T' z:=by
 induction h with
 |mul h3 h4=>exact .mul (h1 _ h3) (h2 _ h4)
 |add _ _ h3 h4=>exact .add h3 h4
theorem sc_mu {g k:Int} {p r:E2} {S T:E2→Prop} {z:E2} :Sc g k (mulE g k p r) (Mu g k S T) z↔Mu g k (Sc g k p S) (Sc g k r T) z:=by
 constructor
 ·rintro ⟨m,hm,rfl⟩
  induction hm with
  | @mul s t h1 h2=>
   have e:mulE g k (mulE g k p r) (mulE g k s t)=mulE g k (mulE g k p s) (mulE g k r t):=by
    apply e2_ext<;>simp only[mulE]<;>grind
   rw[e];exact .mul ⟨s,h1,rfl⟩ ⟨t,h2,rfl⟩
  |add _ _ h1 h2=>rw[mulE_add];exact .add h1 h2
 ·intro h
  induction h with
  |mul h1 h2=>
   obtain ⟨s,h3,rfl⟩:=h1
   obtain ⟨t,h4,rfl⟩:=h2
   refine ⟨mulE g k s t,.mul h3 h4,?_⟩
   apply e2_ext<;>simp only[mulE]<;>grind
  |add _ _ h1 h2=>
   obtain ⟨m,h3,h4⟩:=h1
   obtain ⟨n,h5,h6⟩:=h2
   exact ⟨(m.1+n.1,m.2+n.2),.add h3 h5,by rw[mulE_add,h4,h6]⟩
theorem Hom.mu {g k:Int} {S T S' T':E2→Prop} (h:Hom g k S S') (h':Hom g k T T'):Hom g k (Mu g k S T) (Mu g k S' T'):=by
 obtain ⟨p,q,h1,h2,h3⟩:=h
 obtain ⟨r,s,h4,h5,h6⟩:=h'
 refine ⟨mulE g k p r,mulE g k q s,by rw[nrm_mul];exact Int.mul_pos h1 h4,by rw[nrm_mul];exact Int.mul_pos h2 h5,fun z=> ?_⟩
 rw[sc_mu,sc_mu]
 exact ⟨fun h=>h.mono (fun z=>(h3 z).1) (fun z=>(h6 z).1),fun h=>h.mono (fun z=>(h3 z).2) (fun z=>(h6 z).2)⟩
theorem Hom.of_iff {g k:Int} {S T:E2→Prop} (h: ∀z,S z↔T z):Hom g k S T:=
 ⟨(1,0),(1,0),by simp [nrmE],by simp [nrmE],fun z=>⟨fun ⟨s,h1,h2⟩=>⟨s,(h s).1 h1,h2⟩,fun ⟨s,h1,h2⟩=>⟨s,(h s).2 h1,h2⟩⟩⟩
theorem bez_nat: ∀(m n:Nat),∃r s:Int,r*m+s*n=(Nat.gcd m n:Nat):=by
 intro m
 induction m using Nat.strongRecOn with
 |_ m ih=>
  intro n
  by_cases q:m=0
  ·subst q;exact ⟨0,1,Vs⟩
  ·obtain ⟨r,s,h⟩:=ih (n%m) (Nat.mod_lt _ Vn) m
   rw[Nat.gcd_rec]
   refine ⟨s-r*(n / m:Nat),r,?_⟩
   have e:(n:Int)=m*(n / m:Nat)+(n%m:Nat):=by exact_mod_cast (Nat.div_add_mod n m).symm
   rw[←h];grind
theorem bez_ex {a e:Int} (h:Int.gcd a e=1): ∃r s:Int,r*a+s*e=1:=by
 obtain ⟨r,s,h1⟩:=bez_nat a.natAbs e.natAbs
 have h2:Nat.gcd a.natAbs e.natAbs=1:=h
 rw[h2] at h1
 rcases Int.natAbs_eq a with ha|ha<;>rcases Int.natAbs_eq e with he|he
 ·exact ⟨r,s,by rw[ha,he];simpa using h1⟩
 ·exact ⟨r,-s,by rw[ha,he];simp at h1 ⊢;grind⟩
 ·exact ⟨-r,s,by rw[ha,he];simp at h1 ⊢;grind⟩
 ·exact ⟨-r,-s,by rw[ha,he];simp at h1 ⊢;grind⟩
theorem mu_united {g k a e t:Int} (hg:Int.gcd a e=1) (hn:a*e∣t*t-g*t-k): ∀z,Mu g k (Lat a t) (Lat e t) z↔Lat (a*e) t z:=by
 intro z
 constructor
 ·intro h
  induction h with
  | @mul s u h1 h2=>
   obtain ⟨m,hm⟩:=h1
   obtain ⟨n,hn2⟩:=h2
   obtain ⟨c,hc⟩:=hn
   have e1:s.1=a*m-t*s.2:=by omega
   have e2:u.1=e*n-t*u.2:=by omega
   refine ⟨m*n-s.2*u.2*c,?_⟩
   simp only[mulE,e1,e2];grind
  |add _ _ h1 h2=>
   obtain ⟨m,hm⟩:=h1
   obtain ⟨n,hn2⟩:=h2
   exact ⟨m+n,by simp only;grind⟩
 ·rintro ⟨m,hm⟩
  obtain ⟨r,s,hrs⟩: ∃r s:Int,r*a+s*e=1:=bez_ex hg
  have e1:z=((mulE g k (a,0) (e*m,0)).1+((mulE g k (a*r*z.2,0) (-t,1)).1+(mulE g k (-t,1) (e*s*z.2,0)).1),(mulE g k (a,0) (e*m,0)).2+((mulE g k (a*r*z.2,0) (-t,1)).2+(mulE g k (-t,1) (e*s*z.2,0)).2)):=by
   have h1:z.1=a*e*m-t*z.2:=by omega
   apply e2_ext
   ·simp only[mulE,h1];grind
   ·simp only[mulE];grind
  rw[e1]
  refine .add (.mul ⟨1,Vs⟩ ⟨m,Vs⟩) (.add (.mul ⟨r*z.2,by simp;grind⟩ ⟨0,by simp;omega⟩) (.mul ⟨0,by simp;omega⟩ ⟨s*z.2,by simp;grind⟩))
end Go.Proofs.YtobkcnmlmmhpoaaGreatDoor
namespace Go.Proofs.YtobkcnmlmmhpoaaGreatDoor
set_option linter.unusedVariables false
set_option linter.unusedSimpArgs false

theorem sq_nn (x:Int):0≤x*x:=by
 by_cases q:0≤x
 ·exact Int.mul_nonneg q q
 ·exact Int.mul_nonneg_of_nonpos_of_nonpos Vn Vn
theorem sq_lt {y:Int} (h:y*y<4):y= -1∨y=0∨y=1:=by
 by_cases q:2≤y
 ·have:=Int.mul_le_mul q q Vn Vn;omega
 ·by_cases q2:y≤ -2
  ·have h2:=Int.mul_le_mul_of_nonneg_left (show (2:Int)≤ -y by omega) (show (0:Int)≤ -y by omega)
   have h3: -y* -y=y*y:=by grind
   omega
  ·omega
theorem row_small {a b c a' x y:Int} (hb: -a<b∧b≤a) (hc:a≤c) (ha:0<a) (he:a'=a*x*x+b*x*y+c*y*y) (hle:a'≤a):y*y<4:=by
 have h1:4*(a*a')=(2*a*x+b*y)*(2*a*x+b*y)+(4*(a*c)-b*b)*(y*y):=by rw[he];grind
 have h2:=sq_nn (2*a*x+b*y)
 have h3:a*a≤a*c:=Int.mul_le_mul_of_nonneg_left hc Vn
 have h4:b*b≤a*a:=by
  have e:a*a-b*b=(a-b)*(a+b):=by grind
  have:=Int.mul_nonneg (show 0≤a-b by omega) (show 0≤a+b by omega)
  omega
 have h5:a*a'≤a*a:=Int.mul_le_mul_of_nonneg_left hle Vn
 have h6:=sq_nn y
 have h7:=Int.mul_le_mul_of_nonneg_right (show 3*(a*a)≤4*(a*c)-b*b by omega) h6
 by_cases q:y*y<4
 ·exact q
 ·have h8:=Int.mul_le_mul_of_nonneg_left (show 4≤y*y by omega) (show 0≤3*(a*a) by have:=Int.mul_pos ha ha;omega)
  have:=Int.mul_pos ha ha
  omega
structure RdF (a b c:Int):Prop where
 a0:0<a
 b0: -a<b
 b1:b≤a
 ac:a≤c
 eq:a=c→0≤b
theorem disc_c {a b c c':Int} (ha:0<a) (h:b*b-4*a*c'=b*b-4*a*c):c'=c:=by
 have:4*a*c'=4*a*c:=by omega
 exact Int.eq_of_mul_eq_mul_left Vn this
theorem mod_same {a b b' n:Int} (ha:0<a) (h:b'=b+2*a*n) (h0: -a<b) (h1:b≤a) (h2: -a<b') (h3:b'≤a):b'=b:=by
 have:n=0:=by
  rcases Int.lt_trichotomy n 0 with q|q|q
  ·have:=Int.mul_le_mul_of_nonneg_left (show n≤ -1 by omega) (show 0≤2*a by omega);omega
  ·exact q
  ·have:=Int.mul_le_mul_of_nonneg_left (show 1≤n by omega) (show 0≤2*a by omega);omega
 rw[this] at h;omega
theorem red_le {a b c a' b' c' x y Q S:Int} (h:RdF a b c) (h':RdF a' b' c') (hd:x*S-y*Q=1) (he:a'=a*x*x+b*x*y+c*y*y) (hb:b'=2*a*x*Q+b*(x*S+y*Q)+2*c*y*S) (hD:b'*b'-4*a'*c'=b*b-4*a*c) (hle:a'≤a):a'=a∧b'=b∧c'=c:=by
 obtain ⟨a0,b0,b1,ac,e0⟩:=h
 obtain ⟨a0',b0',b1',ac',e0'⟩:=h'
 have hy:=sq_lt (row_small ⟨b0,b1⟩ ac a0 he hle)
 by_cases y0:y=0
 ·subst y0
  have hxs:x*S=1:=by simpa using hd
  have hx2:x*x=1:=by
   have h1:=dvd_one (d:=x) ⟨S,hxs.symm⟩
   rcases Int.natAbs_eq x with q|q<;>rw[q,h1]<;>rfl
  have ea:a'=a:=by rw[he];simp;rw [Int.mul_assoc,hx2];omega
  have eb:b'=b+2*a*(x*Q):=by rw[hb];simp;rw [hxs];grind
  have eb2:=mod_same a0 eb b0 b1 Vn Vn
  refine ⟨ea,eb2,disc_c a0 (b:=b) ?_⟩
  rw[ea,eb2] at hD;exact hD
 ·have hy2:y*y=1:=by rcases hy with q|q|q<;>rw[q]<;>first|rfl|exact absurd q y0
  have he2:a'=a*(x*x)+b*(x*y)+c:=by rw[he];grind
  have hX:x*x=(x*y)*(x*y):=by
   have:(x*y)*(x*y)=x*x*(y*y):=by grind
   rw[this,hy2,Int.mul_one]
  rw[hX] at he2
  have hyx: ∀m,x*y=m→x=m*y:=fun m hm=>by
   have:x*(y*y)=m*y:=by rw[←hm];grind
   rw[hy2,Int.mul_one] at this;exact this
  generalize hXm:x*y=X at he2
  have e3:a*(X*X)+b*X=X*(a*X+b):=by grind
  rcases Int.lt_trichotomy X 0 with q|q|q
  ·-- X≤ -1
   have h1:a*X≤a* -1:=Int.mul_le_mul_of_nonneg_left Vn Vn
   have h2:0≤ -(a*X+b):=by omega
   have h3:=Int.mul_le_mul_of_nonneg_right (show 1≤ -X by omega) h2
   have h4: -X* -(a*X+b)=X*(a*X+b):=by grind
   have hc:c=a:=by omega
   have hz:a*X+b=0:=by omega
   have hX1:X= -1:=by
    by_cases r:X= -1
    ·exact r
    ·have:a*X≤a* -2:=Int.mul_le_mul_of_nonneg_left Vn Vn
     omega
   have hba:b=a:=by rw[hX1] at hz;omega
   have ea:a'=a:=by rw[he2,hX1,hba,hc];omega
   subst ea
   have hb2:b'*b'≤a'*a':=by
    have e:a'*a'-b'*b'=(a'-b')*(a'+b'):=by grind
    have:=Int.mul_nonneg (show 0≤a'-b' by omega) (show 0≤a'+b' by omega)
    omega
   rw[hba,hc] at hD
   have h5:4*a'*c'=4*(a'*c'):=Int.mul_assoc _ _ _
   have h6:4*a'*a'=4*(a'*a'):=Int.mul_assoc _ _ _
   have h7:a'*c'≤a'*a':=by omega
   have hcc:c'=a':=by
    by_cases r:c'≤a'
    ·omega
    ·have:=Int.mul_le_mul_of_nonneg_left (show a'+1≤c' by omega) (show 0≤a' by omega)
     rw[Int.mul_add] at this;omega
   rw[hcc] at hD
   have h8:(b'-a')*(b'+a')=0:=by grind
   rcases Int.mul_eq_zero.1 h8 with r|r
   ·exact ⟨rfl,Vn,Vn⟩
   ·omega
  ·subst q
   have hx0:x=0:=by rw[hyx 0 hXm];simp
   subst hx0
   have hyQ:y*Q= -1:=by
    have: -(y*Q)=1:=by simpa using hd
    omega
   have hc:c=a:=by omega
   have ea:a'=a:=by rw[he2,hc];omega
   have eb:b'= -b+2*a*(y*S):=by rw[hb,hc];simp;rw [hyQ];grind
   have hbn:=e0 hc.symm
   by_cases r:b=a
   ·have eb2:b'=b+2*a*(y*S-1):=by rw[eb,r];grind
    have eb3:=mod_same a0 eb2 b0 b1 Vn Vn
    refine ⟨ea,eb3,disc_c a0 (b:=b) ?_⟩
    rw[ea,eb3] at hD;exact hD
   ·have eb3:=mod_same a0 eb Vn Vn Vn Vn
    have ec:c'=c:=disc_c a0 (b:=b) (by
     rw[ea,eb3] at hD
     have: -b* -b=b*b:=by grind
     omega)
    have:=e0' Vn
    exact ⟨ea,Vn,ec⟩
  ·have h1:a*1≤a*X:=Int.mul_le_mul_of_nonneg_left Vn Vn
   have:=Int.mul_pos q (show 0<a*X+b by omega)
   omega
theorem red_alone {a b c a' b' c' x y Q S:Int} (h:RdF a b c) (h':RdF a' b' c') (hd:x*S-y*Q=1) (he:a'=a*x*x+b*x*y+c*y*y) (hb:b'=2*a*x*Q+b*(x*S+y*Q)+2*c*y*S) (hc:c'=a*Q*Q+b*Q*S+c*S*S):a'=a∧b'=b∧c'=c:=by
 have hD:b'*b'-4*a'*c'=b*b-4*a*c:=by
  have e:b'*b'-4*a'*c'=(b*b-4*a*c)*((x*S-y*Q)*(x*S-y*Q)):=by rw[he,hb,hc];grind
  rw[e,hd];simp
 by_cases q:a'≤a
 ·exact red_le h h' hd he hb hD q
 ·have hd2:S*x- -y* -Q=1:=by grind
  have f1:a=a'*S*S+b'*S* -y+c'* -y* -y:=by
   have:a'*S*S+b'*S* -y+c'* -y* -y=a*((x*S-y*Q)*(x*S-y*Q)):=by rw[he,hb,hc];grind
   rw[this,hd];simp
  have f2:b=2*a'*S* -Q+b'*(S*x+ -y* -Q)+2*c'* -y*x:=by
   have:2*a'*S* -Q+b'*(S*x+ -y* -Q)+2*c'* -y*x=b*((x*S-y*Q)*(x*S-y*Q)):=by rw[he,hb,hc];grind
   rw[this,hd];simp
  obtain ⟨g1,g2,g3⟩:=red_le h' h hd2 f1 f2 hD.symm Vn
  exact ⟨g1.symm,g2.symm,g3.symm⟩
end Go.Proofs.YtobkcnmlmmhpoaaGreatDoor
namespace Go.Proofs.YtobkcnmlmmhpoaaGreatDoor
set_option linter.unusedVariables false
set_option linter.unusedSimpArgs false

def crs (p q:E2):Int:=p.1*q.2-p.2*q.1
theorem crs_mul (g k:Int) (p s u:E2):crs (mulE g k p s) (mulE g k p u)=nrmE g k p*crs s u:=by
 simp only[crs,mulE,nrmE];grind
theorem hom_half {g k a t a' t':Int} {p q:E2} (hh: ∀z,Sc g k q (Lat a' t') z→Sc g k p (Lat a t) z):
  ∃x y Q S:Int,mulE g k q (a',0)=mulE g k p (x*a+y*t,-y)∧mulE g k q (t',-1)=mulE g k p (Q*a+S*t,-S)∧nrmE g k q*a'=nrmE g k p*a*(x*S-y*Q):=by
 obtain ⟨s,⟨m,hm⟩,h1⟩:=hh _ ⟨(a',0),⟨1,Vs⟩,rfl⟩
 obtain ⟨u,⟨n,hn⟩,h2⟩:=hh _ ⟨(t',-1),⟨0,by simp;omega⟩,rfl⟩
 have e1:s=(m*a+ -s.2*t,- -s.2):=by
  apply e2_ext
  ·simp only;grind
  ·simp
 have e2:u=(n*a+ -u.2*t,- -u.2):=by
  apply e2_ext
  ·simp only;grind
  ·simp
 refine ⟨m,-s.2,n,-u.2,by rw[←e1];exact h1,by rw[←e2];exact h2,?_⟩
 have c1:=crs_mul g k q (a',0) (t',-1)
 rw[h1,h2,crs_mul] at c1
 rw[e1,e2] at c1
 simp only[crs] at c1
 grind
theorem hom_red {g k a t c a' t' c':Int} (hn:a*c=t*t-g*t-k) (hn':a'*c'=t'*t'-g*t'-k) (h:RdF a (2*t-g) c) (h':RdF a' (2*t'-g) c') (hh:Hom g k (Lat a t) (Lat a' t')):a'=a∧t'=t∧c'=c:=by
 obtain ⟨p,q,np,nq,hz⟩:=hh
 obtain ⟨x,y,Q,S,h1,h2,h3⟩:=hom_half (fun z=>(hz z).2)
 obtain ⟨x',y',Q',S',_,_,h4⟩:=hom_half (fun z=>(hz z).1)
 have a0:=h.a0
 have a0':=h'.a0
 have l0:=Int.mul_pos nq a0'
 have m0:=Int.mul_pos np a0
 -- the determinants
 have hdet:x*S-y*Q=1:=by
  generalize x*S-y*Q=d at h3
  generalize x'*S'-y'*Q'=d' at h4
  have e:nrmE g k q*a'*1=nrmE g k q*a'*(d'*d):=by rw[Int.mul_one];rw [←Int.mul_assoc,←h4];exact h3
  have e2:=Int.eq_of_mul_eq_mul_left Vn e
  have e3:=dvd_one (d:=d) ⟨d',by rw[Int.mul_comm];exact e2⟩
  rcases Int.natAbs_eq d with r|r
  ·rw [r,e3];rfl
  ·rw [e3] at r
   rw[r] at h3
   omega
 rw[hdet,Int.mul_one] at h3
 have key: ∀u v:Int,a'*u*u+(2*t'-g)*u*v+c'*v*v=a*(x*u+Q*v)*(x*u+Q*v)+(2*t-g)*(x*u+Q*v)*(y*u+S*v)+c*(y*u+S*v)*(y*u+S*v):=by
  intro u v
  have e1:mulE g k q (u*a'+v*t',-v)=mulE g k p ((x*u+Q*v)*a+(y*u+S*v)*t,-(y*u+S*v)):=by
   have f1:mulE g k q (u*a'+v*t',-v)=(u*(mulE g k q (a',0)).1+v*(mulE g k q (t',-1)).1,u*(mulE g k q (a',0)).2+v*(mulE g k q (t',-1)).2):=by
    apply e2_ext<;>simp only[mulE]<;>grind
   rw[f1,h1,h2]
   apply e2_ext<;>simp only[mulE]<;>grind
  have e2:=congrArg (nrmE g k) e1
  rw[nrm_mul,nrm_mul] at e2
  have e3:nrmE g k (u*a'+v*t',-v)=a'*(a'*u*u+(2*t'-g)*u*v+c'*v*v):=by simp only[nrmE];grind
  have e4:nrmE g k ((x*u+Q*v)*a+(y*u+S*v)*t,-(y*u+S*v))=a*(a*(x*u+Q*v)*(x*u+Q*v)+(2*t-g)*(x*u+Q*v)*(y*u+S*v)+c*(y*u+S*v)*(y*u+S*v)):=by simp only[nrmE];grind
  rw[e3,e4,←Int.mul_assoc,←Int.mul_assoc,h3] at e2
  exact Int.eq_of_mul_eq_mul_left Vn e2
 have k1:=key 1 0
 have k2:=key 0 1
 have k3:=key 1 1
 obtain ⟨r1,r2,r3⟩:=red_alone h h' hdet (by grind) (by grind) (by grind)
 exact ⟨r1,Vn,r3⟩
end Go.Proofs.YtobkcnmlmmhpoaaGreatDoor
namespace Go.Proofs.YtobkcnmlmmhpoaaGreatDoor
set_option linter.unusedVariables false
set_option linter.unusedSimpArgs false

def gO (D:Int):Int:=D%2
def kO (D:Int):Int:=(D-D%2) / 4
def tO (D b:Int):Int:=(b+D%2) / 2
theorem tO_b {a b c D:Int} (h:discI a b c=D):2*tO D b-gO D=b∧a*c=tO D b*tO D b-gO D*tO D b-kO D:=by
 have hp:=disc_par a b c
 rw[h] at hp
 unfold discI at h
 have e:4*a*c=4*(a*c):=Int.mul_assoc _ _ _
 rw[e] at h
 unfold tO gO kO
 have hb:(b*b)%2=D%2:=by omega
 rw[Int.mul_emod] at hb
 have h2:2*((b+D%2) / 2)=b+D%2:=by
  rcases Int.emod_two_eq b with q|q<;>rw[q] at hb<;>omega
 refine ⟨Vn,?_⟩
 generalize (b+D%2) / 2=t at*
 obtain ⟨j,hj⟩:=hp
 have hk:(D-D%2) / 4= -j:=by omega
 rw[hk]
 rcases Int.emod_two_eq D with q|q
 ·rw [q] at hj h2 ⊢
  have:b=2*t:=by omega
  subst this
  have e2:2*t*(2*t)=4*(t*t):=by grind
  omega
 ·rw [q] at hj h2 ⊢
  have:b=2*t-1:=by omega
  subst this
  have e2:(2*t-1)*(2*t-1)=4*(t*t)-4*t+1:=by grind
  omega
def LT (D:Int) (F:T3):E2→Prop:=Lat F.1 (tO D F.2.1)
def HomD (D:Int) (S T:E2→Prop):Prop:=Hom (gO D) (kO D) S T
theorem hom_mat {D a b c a' b' c' x y Q S:Int} (hD:discI a b c=D) (hD':discI a' b' c'=D) (ha:0<a) (ha':0<a') (hd:x*S-y*Q=1) (he:a'=a*x*x+b*x*y+c*y*y) (hb:b'=2*a*x*Q+b*(x*S+y*Q)+2*c*y*S):HomD D (LT D (a,b,c)) (LT D (a',b',c')):=by
 obtain ⟨h1,h2⟩:=tO_b hD
 obtain ⟨h3,h4⟩:=tO_b hD'
 refine hom_sl2 (a:=a) (c:=c) (x:=x) (y:=y) (Q:=Q) (S:=S) h2 hd ?_ ?_ ha ha'
 ·rw [h1];exact he
 ·rw [h1]
  show tO D b'=tO D b+_
  have e:2*(tO D b'-tO D b)=2*(a*x*Q+b*y*Q+c*y*S):=by
   have:b'-b=2*(a*x*Q+b*y*Q+c*y*S):=by
    have e3:b*(x*S-y*Q)=b:=by rw[hd,Int.mul_one]
    rw[hb];grind
   omega
  omega
theorem step_disc (a b c:Int):discI (stepA a b c) (stepB a b c) (stepC a b c)=discI a b c:=by
 unfold stepA stepB stepC
 split
 ·unfold discI;grind
 ·unfold discI;grind
theorem hom_redN {D:Int} : ∀(n:Nat) (a b c:Int),OkF a b c→discI a b c=D→HomD D (LT D (a,b,c)) (LT D (redN n a b c))
 |0,a,b,c,_,_=>Hom.refl _
 |n+1,a,b,c,h,hD=>by
  rw[redN]
  split
  ·exact Hom.refl _
  ·rename_i hr
   have hr2:redB a b c=false:=by simpa using hr
   have k1:=step_ok h
   have k2:=step_disc a b c
   refine Hom.trans ?_ (hom_redN n _ _ _ k1 (k2.trans hD))
   have hs:=k2.trans hD
   unfold stepA stepB stepC at hs ⊢
   cases hn:normB a b
   ·rw [hn] at hs
    simp only[Bool.false_eq_true,if_false] at hs ⊢
    exact hom_mat (x:=1) (y:=0) (Q:=trT a b) (S:=1) hD hs h.a0 h.a0 Vs Vs Vs
   ·rw [hn] at hs
    simp only[if_true] at hs ⊢
    exact hom_mat (x:=0) (y:=1) (Q:= -1) (S:=0) hD hs h.a0 h.c0 Vs Vs Vs
theorem hom_rd {D:Int} {F:T3} (h:InD D F):HomD D (LT D F) (LT D (rdT F)):=hom_redN _ _ _ _ h.cl.ok h.d
theorem hom_rdr {D a b c x y z:Int} (h:RdR a b c x y z) (ho:OkF a b c) (hD:discI a b c=D):HomD D (LT D (a,b,c)) (LT D (x,y,z)):=by
 have:=hom_redN (muF a b c) a b c ho hD
 have e:redN (muF a b c) a b c=(x,y,z):=h.eq
 rw[e] at this;exact this
theorem lat_shift {a t u:Int} (h:a∣u-t) (z:E2):Lat a t z↔Lat a u z:=by
 obtain ⟨m,hm⟩:=h
 unfold Lat
 have e:z.1+u*z.2=z.1+t*z.2+a*(m*z.2):=by
  have:u=t+a*m:=by omega
  rw[this];grind
 rw[e]
 exact ⟨fun h=>Int.dvd_add h ⟨_,rfl⟩,fun h=>by
  have:=Int.dvd_sub h (⟨m*z.2,rfl⟩:a∣a*(m*z.2))
  have e2:z.1+t*z.2+a*(m*z.2)-a*(m*z.2)=z.1+t*z.2:=by omega
  rwa [e2] at this⟩
theorem tO_dvd {D a b b':Int} (h:2*a∣b'-b) (hb:2*tO D b-gO D=b) (hb':2*tO D b'-gO D=b'):a∣tO D b'-tO D b:=by
 obtain ⟨m,hm⟩:=h
 have e:2*a*m=2*(a*m):=Int.mul_assoc _ _ _
 exact ⟨m,Vn⟩
theorem hom_isU {D a b c a' b' c' e t s:Int} (h:RedC a b c) (h':RedC a' b' c') (hD:discI a b c=D) (hD':discI a' b' c'=D) (u:IsU a b c a' b' c' e t s):HomD D (Mu (gO D) (kO D) (LT D (a,b,c)) (LT D (a',b',c'))) (LT D (a*e,t,s)):=by
 obtain ⟨a0,_,e0,_,hg,hcl,hd3,_,_⟩:=u.facts h h' (hD'.trans hD.symm)
 obtain ⟨k,x,y,B,h1,he,⟨B0,B1,Q,S,j,hd,hB⟩,⟨_,_,ta,te⟩,_⟩:=u
 rw[hD] at hd3
 rw[←he] at hB B1
 have hd2:(x:Int)*(S+y*j)-y*(Q+x*j)=1:=by grind
 have hB2:B=polI a' b' c' x y (Q+x*j) (S+y*j):=by rw[pol_shift,←he];exact hB
 have hC:=sub_disc (a:=a') (b:=b') (c:=c') hd2
 rw[←hB2,←he,hD'] at hC
 have H1:HomD D (LT D (a',b',c')) (LT D (e,B,valI a' b' c' (Q+x*j) (S+y*j))):=
  hom_mat (x:=x) (y:=y) hD' hC h'.cls.ok.a0 e0 hd2 (by rw[he];rfl) (by rw[hB2];unfold polI;grind)
 obtain ⟨b1,n1⟩:=tO_b hD
 obtain ⟨b2,n2⟩:=tO_b hC
 obtain ⟨b3,n3⟩:=tO_b hd3
 have H2: ∀z,LT D (a,b,c) z↔Lat a (tO D t) z:=lat_shift (tO_dvd ta b1 b3)
 have H3: ∀z,LT D (e,B,valI a' b' c' (Q+x*j) (S+y*j)) z↔Lat e (tO D t) z:=lat_shift (tO_dvd te b2 b3)
 refine (Hom.mu (Hom.of_iff H2) (H1.trans (Hom.of_iff H3))).trans (Hom.of_iff ?_)
 exact mu_united hg ⟨s,n3.symm⟩
end Go.Proofs.YtobkcnmlmmhpoaaGreatDoor
namespace Go.Proofs.YtobkcnmlmmhpoaaGreatDoor
set_option linter.unusedVariables false
set_option linter.unusedSimpArgs false

theorem hom_cp {D:Int} {F G:T3} (h:InD D F) (h2:InD D G):HomD D (Mu (gO D) (kO D) (LT D F) (LT D G)) (LT D (cmp F G)):=by
 obtain ⟨p,q,r,p',q',r',e,t,s,h1,h3,h4,h5,h6⟩:=cpr_ex h.cl h2.cl (h2.d.trans h.d.symm)
 have d1:discI p q r=D:=h1.dd.trans h.d
 have d2:discI p' q' r'=D:=h3.dd.trans h2.d
 obtain ⟨_,_,_,_,_,hcl,hd3,_,_⟩:=h5.facts h1.rc h3.rc (d2.trans d1.symm)
 have e1:HomD D (LT D F) (LT D (p,q,r)):=hom_rdr h1 h.cl.ok h.d
 have e2:HomD D (LT D G) (LT D (p',q',r')):=hom_rdr h3 h2.cl.ok h2.d
 exact (Hom.mu e1 e2).trans ((hom_isU h1.rc h3.rc d1 d2 h5).trans (hom_rdr h6 hcl.ok (hd3.trans d1)))
theorem rdf_of {D:Int} {F:T3} (h:InD D F) (hr:RcT F):RdF F.1 (2*tO D F.2.1-gO D) F.2.2∧F.1*F.2.2=tO D F.2.1*tO D F.2.1-gO D*tO D F.2.1-kO D:=by
 obtain ⟨h1,h2⟩:=tO_b (D:=D) (a:=F.1) (b:=F.2.1) (c:=F.2.2) h.d
 rw[h1]
 refine ⟨?_,h2⟩
 have hr2:RedC F.1 F.2.1 F.2.2:=hr
 have hb:=hr2.red
 unfold redB normB at hb
 simp at hb
 exact ⟨hr2.cls.ok.a0,hb.1.1,hb.1.2,Vn,Vn⟩
theorem hom_same {D:Int} {F G:T3} (h:InD D F) (h2:InD D G) (r1:RcT F) (r2:RcT G) (hh:HomD D (LT D F) (LT D G)):F=G:=by
 obtain ⟨f1,f2⟩:=rdf_of h r1
 obtain ⟨g1,g2⟩:=rdf_of h2 r2
 obtain ⟨e1,e2,e3⟩:=hom_red f2 g2 f1 g1 hh
 have b1:=(tO_b (D:=D) (a:=F.1) (b:=F.2.1) (c:=F.2.2) h.d).1
 have b2:=(tO_b (D:=D) (a:=G.1) (b:=G.2.1) (c:=G.2.2) h2.d).1
 rw[e2] at b2
 exact Prod.ext e1.symm (Prod.ext Vn e3.symm)
theorem cmp_comm {D:Int} {F G:T3} (h:InD D F) (h2:InD D G):cmp F G=cmp G F:=
 hom_same (h.cp h2) (h2.cp h) (h.rc h2) (h2.rc h) ((hom_cp h h2).symm.trans ((Hom.of_iff fun z=>⟨Mu.comm,Mu.comm⟩).trans (hom_cp h2 h)))
theorem cmp_assoc {D:Int} {F G K:T3} (h:InD D F) (h2:InD D G) (h3:InD D K):cmp (cmp F G) K=cmp F (cmp G K):=
 hom_same ((h.cp h2).cp h3) (h.cp (h2.cp h3)) ((h.cp h2).rc h3) (h.rc (h2.cp h3))
  (((hom_cp (h.cp h2) h3).symm.trans (Hom.mu (hom_cp h h2).symm (Hom.refl _))).trans ((Hom.of_iff fun z=>⟨Mu.assoc,Mu.assoc'⟩).trans ((Hom.mu (Hom.refl _) (hom_cp h2 h3)).trans (hom_cp h (h2.cp h3)))))
end Go.Proofs.YtobkcnmlmmhpoaaGreatDoor
namespace Go.Proofs.YtobkcnmlmmhpoaaGreatDoor
set_option linter.unusedVariables false
set_option linter.unusedSimpArgs false

theorem cmp_one {D:Int} {F:T3} (h:InD D F):cmp F (onT D)=rdT F:=by
 have ho:InD D (onT D)∧RcT (onT D):=by
  have:=one_in h.cl
  rw[h.d] at this;exact this
 refine hom_same (h.cp ho.1) h.rd (h.rc ho.1) (rd_rc h.cl) ?_
 refine ((hom_cp h ho.1).symm.trans ?_).trans (hom_rd h)
 obtain ⟨h1,h2⟩:=tO_b (D:=D) (a:=F.1) (b:=F.2.1) (c:=F.2.2) h.d
 have e1: ∀z,LT D (onT D) z↔Lat 1 (tO D F.2.1) z:=lat_shift ⟨_,(Int.one_mul _).symm⟩
 refine (Hom.mu (Hom.refl _) (Hom.of_iff e1)).trans (Hom.of_iff fun z=> ?_)
 have:=mu_united (g:=gO D) (k:=kO D) (a:=F.1) (e:=1) (t:=tO D F.2.1) Vs ⟨F.2.2,by rw[Int.mul_one];exact h2.symm⟩ z
 rw[Int.mul_one] at this
 exact this
theorem one_cmp {D:Int} {F:T3} (h:InD D F):cmp (onT D) F=rdT F:=by
 have ho:InD D (onT D):=by
  have:=(one_in h.cl).1
  rw[h.d] at this;exact this
 rw[cmp_comm ho h,cmp_one h]
theorem bez3 {a b c:Int} (h:Prim a b c): ∃u v w:Int,u*a+v*b+w*c=1:=by
 have key: ∀x y:Int,∃r s:Int,r*x+s*y=(Int.gcd x y:Int):=by
  intro x y
  obtain ⟨r,s,h1⟩:=bez_nat x.natAbs y.natAbs
  have h2:Nat.gcd x.natAbs y.natAbs=Int.gcd x y:=rfl
  rw[h2] at h1
  rcases Int.natAbs_eq x with ha|ha<;>rcases Int.natAbs_eq y with he|he
  ·exact ⟨r,s,by rw[←h1];grind⟩
  ·exact ⟨r,-s,by rw[←h1];grind⟩
  ·exact ⟨-r,s,by rw[←h1];grind⟩
  ·exact ⟨-r,-s,by rw[←h1];grind⟩
 obtain ⟨r,s,e1⟩:=key a b
 obtain ⟨r2,s2,e2⟩:=key (Int.gcd a b:Int) c
 have h1:((Int.gcd (Int.gcd a b:Int) c:Nat):Int)∣(Int.gcd a b:Int):=Int.gcd_dvd_left _ _
 have h3:=dvd_one (h _ (Int.dvd_trans h1 (Int.gcd_dvd_left _ _)) (Int.dvd_trans h1 (Int.gcd_dvd_right _ _)) (Int.gcd_dvd_right _ _))
 have h4:Int.gcd (Int.gcd a b:Int) c=1:=by simpa using h3
 rw[h4] at e2
 refine ⟨r2*r,r2*s,s2,?_⟩
 rw[←e1] at e2
 grind
theorem mu_conj {g k a t c:Int} (hn:a*c=t*t-g*t-k) (hp:Prim a (2*t-g) c): ∀z,Mu g k (Lat a t) (Lat a (g-t)) z↔Sc g k (a,0) (Lat 1 0) z:=by
 intro z
 constructor
 ·intro h
  induction h with
  | @mul s u h1 h2=>
   obtain ⟨m,hm⟩:=h1
   obtain ⟨n,hn2⟩:=h2
   have e1:s.1=a*m-t*s.2:=by omega
   have e2:u.1=a*n-(g-t)*u.2:=by omega
   refine ⟨(a*m*n-m*(g-t)*u.2-t*s.2*n-s.2*u.2*c,m*u.2+s.2*n),⟨_,(Int.one_mul _).symm⟩,?_⟩
   apply e2_ext
   ·simp only[mulE,e1,e2];grind
   ·simp only[mulE,e1,e2];grind
  |add _ _ h1 h2=>
   obtain ⟨m,_,h4⟩:=h1
   obtain ⟨n,_,h6⟩:=h2
   exact ⟨(m.1+n.1,m.2+n.2),⟨_,(Int.one_mul _).symm⟩,by rw[mulE_add,h4,h6]⟩
 ·rintro ⟨s,_,rfl⟩
  obtain ⟨u,v,w,hb⟩:=bez3 hp
  obtain ⟨X,hX⟩: ∃X,X=s.1+t*s.2:=⟨_,rfl⟩
  have e:mulE g k (a,0) s=((mulE g k (a*(X*u),0) (a,0)).1+((mulE g k (a*(X*v),0) (-(g-t),1)).1+((mulE g k (a*(X*v)- -t*0-a*(X*v)+X*v*t,-(X*v)) (a,0)).1+((mulE g k (-t,1) (X*w*(g-t),-(X*w))).1+(mulE g k (-t*s.2,s.2) (a,0)).1))),
   (mulE g k (a*(X*u),0) (a,0)).2+((mulE g k (a*(X*v),0) (-(g-t),1)).2+((mulE g k (a*(X*v)- -t*0-a*(X*v)+X*v*t,-(X*v)) (a,0)).2+((mulE g k (-t,1) (X*w*(g-t),-(X*w))).2+(mulE g k (-t*s.2,s.2) (a,0)).2)))):=by
   apply e2_ext
   ·simp only[mulE];grind
   ·simp only[mulE];grind
  rw[e]
  refine .add (.mul ⟨X*u,Vs⟩ ⟨1,Vs⟩) (.add (.mul ⟨X*v,Vs⟩ ⟨0,by simp;omega⟩) (.add (.mul ⟨0,by simp;grind⟩ ⟨1,Vs⟩) (.add (.mul ⟨0,by simp;omega⟩ ⟨0,by simp;grind⟩) (.mul ⟨0,by simp;grind⟩ ⟨1,Vs⟩))))
def inT (F:T3):T3:=(F.1,-F.2.1,F.2.2)
theorem inT_in {D:Int} {F:T3} (h:InD D F):InD D (inT F):=by
 have ho:=h.cl.ok
 have hd:discI F.1 (-F.2.1) F.2.2=discI F.1 F.2.1 F.2.2:=by unfold discI;rw [Int.neg_mul_neg]
 have h1:=ho.b0
 have h2:=ho.b1
 have hp:Prim F.1 F.2.1 F.2.2:=h.cl.pr
 refine ⟨⟨⟨ho.a0,ho.a1,?_,?_,ho.c0,ho.c1,?_,?_⟩,fun d e1 e2 e3=>hp d e1 ((Int.dvd_neg).1 e2) e3⟩,?_⟩
 ·show -100000000≤ -F.2.1;omega
 ·show -F.2.1≤100000000;omega
 ·show -2000≤discI F.1 (-F.2.1) F.2.2;rw [hd];exact ho.d0
 ·show discI F.1 (-F.2.1) F.2.2<0;rw [hd];exact ho.d1
 ·show discI F.1 (-F.2.1) F.2.2=D;rw [hd];exact h.d
theorem on_in {D:Int} {F:T3} (h:InD D F):InD D (onT D)∧RcT (onT D):=by
 have:=one_in h.cl
 rw[h.d] at this;exact this
theorem cmp_inv {D:Int} {F:T3} (h:InD D F):cmp F (inT F)=onT D:=by
 have ho:=on_in h
 have hi:=inT_in h
 refine hom_same (h.cp hi) ho.1 (h.rc hi) ho.2 ((hom_cp h hi).symm.trans ?_)
 obtain ⟨h1,h2⟩:=tO_b (D:=D) (a:=F.1) (b:=F.2.1) (c:=F.2.2) h.d
 obtain ⟨h3,_⟩:=tO_b (D:=D) (a:=F.1) (b:= -F.2.1) (c:=F.2.2) hi.d
 have e:tO D (-F.2.1)=gO D-tO D F.2.1:=by omega
 have hp:Prim F.1 (2*tO D F.2.1-gO D) F.2.2:=by rw[h1];exact h.cl.pr
 have hm:=mu_conj (g:=gO D) (k:=kO D) (a:=F.1) (t:=tO D F.2.1) (c:=F.2.2) h2 hp
 have e1: ∀z,LT D (onT D) z↔Lat 1 0 z:=lat_shift ⟨_,(Int.one_mul _).symm⟩
 have e2: ∀z,LT D (inT F) z↔Lat F.1 (gO D-tO D F.2.1) z:=by
  intro z
  show Lat F.1 (tO D (-F.2.1)) z↔_
  rw[e]
 have a0:0<F.1:=h.cl.ok.a0
 refine (Hom.mu (Hom.refl _) (Hom.of_iff e2)).trans ((Hom.of_iff hm).trans (Hom.trans ?_ (Hom.of_iff e1).symm))
 refine ⟨(1,0),(F.1,0),by simp [nrmE],by simp [nrmE];exact Int.mul_pos a0 a0,fun z=> ?_⟩
 constructor
 ·rintro ⟨s,hs,rfl⟩
  have:mulE (gO D) (kO D) (1,0) s=s:=by apply e2_ext<;>simp [mulE]
  rw[this];exact hs
 ·intro hz
  exact ⟨z,hz,by apply e2_ext<;>simp [mulE]⟩
theorem cmp_rot {D:Int} {X W:T3} (h:InD D X) (hw:InD D W):cmp (cmp X W) (inT W)=rdT X:=by
 rw[cmp_assoc h hw (inT_in hw),cmp_inv hw,cmp_one h]
theorem cmp_cancel {D:Int} {X Y W:T3} (h:InD D X) (hy:InD D Y) (hw:InD D W) (he:cmp X W=cmp Y W):rdT X=rdT Y:=by
 rw[←cmp_rot h hw,←cmp_rot hy hw,he]
noncomputable def poN (D:Int) (W:T3):Nat→T3
 |0=>onT D
 |n+1=>cmp (poN D W n) W
theorem poN_in {D:Int} {W:T3} (hw:InD D W): ∀n,InD D (poN D W n)
 |0=>(on_in hw).1
 |n+1=>(poN_in hw n).cp hw
theorem poN_rc {D:Int} {W:T3} (hw:InD D W): ∀n,RcT (poN D W n)
 |0=>(on_in hw).2
 |n+1=>(poN_in hw n).rc hw
theorem poN_rd {D:Int} {W:T3} (hw:InD D W) (n:Nat):rdT (poN D W n)=poN D W n:=rd_same (poN_rc hw n)
theorem poN_one {D:Int} {W:T3} (hw:InD D W):poN D W 1=rdT W:=one_cmp hw
theorem poN_add {D:Int} {W:T3} (hw:InD D W) (m:Nat): ∀n,poN D W (m+n)=cmp (poN D W m) (poN D W n)
 |0=>by rw[Nat.add_zero];show _=cmp _ (onT D);rw [cmp_one (poN_in hw m),poN_rd hw]
 |n+1=>by
  show cmp (poN D W (m+n)) W=cmp _ (cmp (poN D W n) W)
  rw[poN_add hw m n,cmp_assoc (poN_in hw m) (poN_in hw n) hw]
theorem cmp_left {D:Int} {X Y W:T3} (h:InD D X) (hy:InD D Y) (hw:InD D W) (he:cmp W X=cmp W Y):rdT X=rdT Y:=by
 rw[cmp_comm hw h,cmp_comm hw hy] at he
 exact cmp_cancel h hy hw he
def cdT (F:T3):Nat:=(F.1*53+(F.2.1+26)).toNat
theorem cd_bd {D:Int} {F:T3} (h:InD D F) (hr:RcT F):(1≤F.1∧F.1≤26)∧(-26≤F.2.1∧F.2.1≤26):=by
 have hr2:RedC F.1 F.2.1 F.2.2:=hr
 obtain ⟨s1,s2,s3,s4⟩:=red_small hr2.cls.ok hr2.red
 have a0:=hr2.cls.ok.a0
 omega
theorem cd_inj {D:Int} {F G:T3} (h:InD D F) (hr:RcT F) (h2:InD D G) (hr2:RcT G) (he:cdT F=cdT G):F=G:=by
 obtain ⟨⟨a1,a2⟩,b1,b2⟩:=cd_bd h hr
 obtain ⟨⟨a3,a4⟩,b3,b4⟩:=cd_bd h2 hr2
 unfold cdT at he
 have e1:F.1=G.1:=by omega
 have e2:F.2.1=G.2.1:=by omega
 have d1:F.2.1*F.2.1-4*F.1*F.2.2=D:=h.d
 have d2:G.2.1*G.2.1-4*G.1*G.2.2=D:=h2.d
 rw[e1,e2] at d1
 have e3:F.2.2=G.2.2:=disc_c (a:=G.1) (b:=G.2.1) Vn Vn
 exact Prod.ext e1 (Prod.ext e2 e3)
theorem pigeon (f:Nat→Nat) (N:Nat) (hf: ∀n,f n<N): ∃i j,i<j∧j≤N∧f i=f j:=by
 refine Classical.byContradiction fun hn=> ?_
 have hnd:((List.range (N+1)).map f).Nodup:=by
  rw[List.Nodup,List.pairwise_map]
  refine List.Pairwise.imp_of_mem ?_ List.pairwise_lt_range
  intro a b ha hb hab he
  rw[List.mem_range] at ha hb
  exact hn ⟨a,b,hab,Vn,he⟩
 have:=hnd.length_le_of_subset (l₂:=List.range N) (by
  intro x hx
  rw[List.mem_map] at hx
  obtain ⟨y,_,rfl⟩:=hx
  exact List.mem_range.2 (hf y))
 simp at this
 omega
theorem ord_ex {D:Int} {W:T3} (hw:InD D W): ∃n,1≤n∧n≤2000∧poN D W n=onT D:=by
 obtain ⟨i,j,h1,h2,h3⟩:=pigeon (fun n=>cdT (poN D W n)) 2000 (fun n=>by
  obtain ⟨⟨a1,a2⟩,b1,b2⟩:=cd_bd (poN_in hw n) (poN_rc hw n)
  show cdT _<2000
  unfold cdT;omega)
 have e:=cd_inj (poN_in hw i) (poN_rc hw i) (poN_in hw j) (poN_rc hw j) h3
 refine ⟨j-i,Vn,Vn,?_⟩
 have e2:j=i+(j-i):=by omega
 rw[e2,poN_add hw] at e
 have e3:cmp (poN D W i) (onT D)=cmp (poN D W i) (poN D W (j-i)):=by rw[cmp_one (poN_in hw i),poN_rd hw,←e]
 have:=cmp_left (on_in hw).1 (poN_in hw (j-i)) (poN_in hw i) e3
 rw[rd_same (on_in hw).2,poN_rd hw] at this
 exact this.symm
end Go.Proofs.YtobkcnmlmmhpoaaGreatDoor
