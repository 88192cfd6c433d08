/- Finite abelian groups, plainly: counts of elements by their orders, the exponent. -/
import Derived.Test.YtobkcnmlmmhpoaaGreatDoorNum
import Derived.ProofKit
namespace Go.Proofs.YtobkcnmlmmhpoaaGreatDoor
set_option linter.unusedVariables false
set_option linter.unusedSimpArgs false

def smN (h:Nat→Nat):Nat→Nat
 |0=>0
 |n+1=>smN h n+h n
theorem smN_shift (h:Nat→Nat): ∀n,smN (fun e=>h (e+1)) n+h 0=smN h n+h n
 |0=>by simp [smN]
 |n+1=>by have:=smN_shift h n;simp only[smN] at *;omega
theorem smN_cyc {h:Nat→Nat} {n:Nat} (e:h n=h 0):smN (fun e=>h (e+1)) n=smN h n:=by have:=smN_shift h n;omega
theorem smN_congr {h k:Nat→Nat} {n:Nat} (e: ∀i,i<n→h i=k i):smN h n=smN k n:=by
 induction n with
 |zero=>rfl
 |succ n ih=>rw[smN,smN,ih (fun i hi=>e i Vn),e n Vn]
theorem smN_const (c n:Nat):smN (fun _=>c) n=n*c:=by
 induction n with
 |zero=>simp [smN]
 |succ n ih=>rw[smN,ih,Nat.succ_mul]
def smL {G:Type} (f:G→Nat):List G→Nat
 | []=>0
 |x :: l=>f x+smL f l
theorem smL_add {G:Type} (f h:G→Nat): ∀l,smL (fun a=>f a+h a) l=smL f l+smL h l
 | []=>rfl
 |x :: l=>by simp only[smL,smL_add f h l];omega
theorem smL_zero {G:Type} : ∀l:List G,smL (fun _=>0) l=0
 | []=>rfl
 |x :: l=>by simp only[smL,smL_zero l]
theorem smL_perm {G:Type} (f:G→Nat) {l m:List G} (h:l.Perm m):smL f l=smL f m:=by
 induction h with
 |nil=>rfl
 |cons x _ ih=>simp only[smL,ih]
 |swap x y l=>simp only[smL];omega
 |trans _ _ h1 h2=>rw[h1,h2]
theorem smL_map {G:Type} (f:G→Nat) (k:G→G): ∀l,smL f (l.map k)=smL (fun a=>f (k a)) l
 | []=>rfl
 |x :: l=>by simp only[List.map,smL,smL_map f k l]
theorem smL_smN {G:Type} (F:G→Nat→Nat) (l:List G): ∀n,smL (fun a=>smN (F a) n) l=smN (fun e=>smL (fun a=>F a e) l) n
 |0=>by simp only[smN];exact smL_zero l
 |n+1=>by simp only[smN];rw [smL_add,smL_smN F l n]
theorem smL_ite {G:Type} (p:G→Bool) (c:Nat): ∀l:List G,smL (fun a=>if p a then c else 0) l=(l.filter p).length*c
 | []=>by simp [smL]
 |x :: l=>by
  simp only[smL,List.filter,smL_ite p c l]
  cases p x
  ·simp
  ·simp [Nat.succ_mul];omega
theorem smL_congr {G:Type} {f h:G→Nat} : ∀{l:List G},(∀a ∈ l,f a=h a)→smL f l=smL h l
 | [],_=>rfl
 |x :: l,e=>by simp only[smL];rw [e x Vs,smL_congr (fun a ha=>e a (by simp [ha]))]

structure Fab (G:Type) [DecidableEq G] where
 els:List G
 nd:els.Nodup
 all: ∀x,x ∈ els
 mul:G→G→G
 one:G
 inv:G→G
 assoc: ∀x y z,mul (mul x y) z=mul x (mul y z)
 comm: ∀x y,mul x y=mul y x
 one_mul: ∀x,mul one x=x
 inv_mul: ∀x,mul (inv x) x=one
namespace Fab
variable {G:Type} [DecidableEq G] (g:Fab G)
theorem mul_one (x:G):g.mul x g.one=x:=by rw[g.comm,g.one_mul]
theorem cancel {x y z:G} (h:g.mul z x=g.mul z y):x=y:=by
 have:=congrArg (g.mul (g.inv z)) h
 rwa [←g.assoc,←g.assoc,g.inv_mul,g.one_mul,g.one_mul] at this
def pw (x:G):Nat→G
 |0=>g.one
 |n+1=>g.mul (pw x n) x
theorem pw_add (x:G) (m:Nat): ∀n,g.pw x (m+n)=g.mul (g.pw x m) (g.pw x n)
 |0=>(g.mul_one _).symm
 |n+1=>by rw[←Nat.add_assoc,pw,pw,pw_add x m n,g.assoc]
theorem pw_e: ∀n,g.pw g.one n=g.one
 |0=>rfl
 |n+1=>by rw[pw,pw_e n,g.one_mul]
theorem pw_mul (x:G) (m:Nat): ∀n,g.pw x (m*n)=g.pw (g.pw x m) n
 |0=>rfl
 |n+1=>by rw[Nat.mul_succ,pw_add,pw,pw_mul x m n]
theorem mul4 (a b c d:G):g.mul (g.mul a b) (g.mul c d)=g.mul (g.mul a c) (g.mul b d):=by
 rw[g.assoc,←g.assoc b c d,g.comm b c,g.assoc c b d,←g.assoc]
theorem mul_pw (x y:G): ∀n,g.pw (g.mul x y) n=g.mul (g.pw x n) (g.pw y n)
 |0=>(g.one_mul _).symm
 |n+1=>by rw[pw,pw,pw,mul_pw x y n,mul4]
theorem pw_one (x:G):g.pw x 1=x:=by rw[pw,pw,g.one_mul]
theorem pw_dvd {x:G} {m n:Nat} (h:g.pw x m=g.one) (hd:m∣n):g.pw x n=g.one:=by
 obtain ⟨k,rfl⟩:=hd;rw [pw_mul,h,pw_e]
def tor (N:Nat):List G:=g.els.filter (fun x=>decide (g.pw x N=g.one))
theorem mem_tor {N:Nat} {x:G} :x ∈ g.tor N↔g.pw x N=g.one:=by
 unfold tor;rw [List.mem_filter,decide_eq_true_eq];exact ⟨fun h=>h.2,fun h=>⟨g.all x,h⟩⟩
theorem nd_tor (N:Nat):(g.tor N).Nodup:=g.nd.filter _
theorem tr (f:G→Nat) (x:G):smL (fun a=>f (g.mul a x)) g.els=smL f g.els:=by
 rw[←smL_map f (fun a=>g.mul a x)]
 refine smL_perm f ((List.perm_ext_iff_of_nodup ?_ g.nd).2 fun a=>⟨fun _=>g.all a,fun _=> ?_⟩)
 ·refine List.pairwise_map.2 (g.nd.imp fun {a b} h e=>h ?_)
  rw[g.comm a,g.comm b] at e
  exact g.cancel e
 ·refine List.mem_map.2 ⟨g.mul a (g.inv x),g.all _,?_⟩
  rw[g.assoc,g.inv_mul,g.mul_one]
def cn (N:Nat):List G→G→Nat
 | [],a=>if a=g.one then 1 else 0
 |x :: l,a=>smN (fun e=>cn N l (g.mul a (g.pw x e))) N
theorem cn_mem {N:Nat} {x:G} : ∀{l:List G},x ∈ l→(∀y ∈ l,g.pw y N=g.one)→ ∀a,g.cn N l (g.mul a x)=g.cn N l a
 |y :: l,hx,hy,a=>by
  simp only[cn]
  by_cases q:x=y
  ·subst q
   have hN:=hy x Vs
   rw[←smN_cyc (h:=fun e=>g.cn N l (g.mul a (g.pw x e))) (by simp only[hN];rfl)]
   refine smN_congr fun i _=> ?_
   show g.cn N l (g.mul (g.mul a x) (g.pw x i))=g.cn N l (g.mul a (g.mul (g.pw x i) x))
   rw[g.assoc,g.comm x]
  ·have hx2:x ∈ l:=by simpa [q] using hx
   refine smN_congr fun i _=> ?_
   rw[g.assoc,g.comm x,←g.assoc]
   exact cn_mem hx2 (fun z hz=>hy z (by simp [hz])) _
theorem cn_off {N:Nat} : ∀{l:List G},(∀y ∈ l,g.pw y N=g.one)→ ∀{a},g.pw a N≠g.one→g.cn N l a=0
 | [],_,a,ha=>by
  simp only[cn];rw [if_neg];intro h;exact ha (by rw[h,pw_e])
 |x :: l,hy,a,ha=>by
  simp only[cn]
  rw[smN_congr (k:=fun _=>0) (fun i _=>cn_off (fun z hz=>hy z (by simp [hz])) ?_),smN_const,Nat.mul_zero]
  rw[mul_pw,←pw_mul,Nat.mul_comm,pw_mul,hy x Vs,pw_e,g.mul_one];exact ha
theorem cn_sum (N:Nat): ∀l:List G,smL (g.cn N l) g.els=N ^ l.length
 | []=>by
  have h:smL (g.cn N []) g.els=smL (fun a=>if decide (a=g.one) then 1 else 0) g.els:=smL_congr fun a _=>by simp [cn]
  rw[h,smL_ite,Nat.mul_one,List.length_nil,Nat.pow_zero]
  have h2:(g.els.filter fun a=>decide (a=g.one)).length=1:=by
   have:(g.els.filter (fun a=>decide (a=g.one))).Perm [g.one]:=by
    refine (List.perm_ext_iff_of_nodup (g.nd.filter _) Vs).2 fun a=> ?_
    rw[List.mem_filter];simp [g.all a]
   rw[this.length_eq];rfl
  exact h2
 |x :: l=>by
  have h:smL (g.cn N (x :: l)) g.els=smN (fun e=>smL (fun a=>g.cn N l (g.mul a (g.pw x e))) g.els) N:=smL_smN (fun a e=>g.cn N l (g.mul a (g.pw x e))) g.els N
  rw[h,smN_congr (k:=fun _=>N ^ l.length) (fun i _=>by rw[g.tr (g.cn N l)];exact cn_sum N l),smN_const,List.length_cons,Nat.pow_succ,Nat.mul_comm]
theorem tor_dvd (N:Nat):(g.tor N).length∣N ^ (g.tor N).length:=by
 have h:=g.cn_sum N (g.tor N)
 have hm: ∀y ∈ g.tor N,g.pw y N=g.one:=fun y hy=>g.mem_tor.1 hy
 have e:smL (g.cn N (g.tor N)) g.els=smL (fun a=>if decide (g.pw a N=g.one) then g.cn N (g.tor N) g.one else 0) g.els:=by
  refine smL_congr fun a _=> ?_
  by_cases q:g.pw a N=g.one
  ·rw [if_pos (by simpa using q),←g.cn_mem (g.mem_tor.2 q) hm g.one,g.one_mul]
  ·rw [if_neg (by simpa using q),g.cn_off hm q]
 rw[e,smL_ite] at h
 exact ⟨_,h.symm⟩
theorem bez1: ∀v u:Nat,1≤v→1≤u→Nat.Coprime u v→ ∃x y,u*x=v*y+1:=by
 intro v
 induction v using Nat.strongRecOn with
 |ind v ih=>
  intro u hv hu h
  by_cases q:v=1
  ·exact ⟨1,u-1,by subst q;omega⟩
  ·have hr:Nat.Coprime v (u%v):=by
    unfold Nat.Coprime at *;rw [Nat.gcd_comm,←Nat.gcd_rec,Nat.gcd_comm];exact h
   have hlt:=Nat.mod_lt u (show 0<v by omega)
   have hr1:1≤u%v:=by
    rcases Nat.eq_zero_or_pos (u%v) with e|e
    ·unfold Nat.Coprime at hr;rw [e,Nat.gcd_zero_right] at hr;omega
    ·exact e
   obtain ⟨x,y,e⟩:=ih (u%v) hlt v hr1 hv hr
   obtain ⟨w,rfl⟩: ∃w,v=w+1:=⟨v-1,Vn⟩
   have hx:1≤x:=by
    rcases Nat.eq_zero_or_pos x with h0|h0
    ·rw [h0] at e;omega
    ·exact h0
   obtain ⟨z,rfl⟩: ∃z,x=z+1:=⟨x-1,Vn⟩
   have hd:=Nat.div_add_mod u (w+1)
   generalize u%(w+1)=r at*
   generalize u / (w+1)=k at*
   refine ⟨y*w,k*(y*w)+(z*w+w-1),?_⟩
   have e2:(r*y+1)*w=(w+1)*(z+1)*w:=by rw[e]
   have e3:(w+1)*(z+1)*w=(w+1)*(z*w+w):=by rw[Nat.mul_assoc,Nat.add_mul z 1 w,Nat.one_mul]
   have hw:1≤w:=by omega
   obtain ⟨m,hm⟩: ∃m,z*w+w=m+1:=⟨z*w+w-1,Vn⟩
   rw[e3,hm,Nat.add_mul,Nat.one_mul,Nat.mul_succ] at e2
   have e4:z*w+w-1=m:=by omega
   rw[e4,←hd,Nat.add_mul,Nat.mul_add,Nat.mul_assoc (w+1) k,←Nat.mul_assoc r y w]
   omega
theorem bez {u v:Nat} (hu:1≤u) (hv:1≤v) (h:Nat.Coprime u v): ∃s t k,v*t+u*s=1+k*(u*v):=by
 obtain ⟨m,q,e⟩:=bez1 v u hv hu h
 obtain ⟨u',rfl⟩: ∃u',u=u'+1:=⟨u-1,Vn⟩
 refine ⟨m,u'*q,q,?_⟩
 rw[e]
 have:(u'+1)*v*q=u'*(v*q)+v*q:=by rw[Nat.add_mul,Nat.add_mul,Nat.mul_assoc,Nat.one_mul]
 have e2:v*(u'*q)=u'*(v*q):=by rw[←Nat.mul_assoc,Nat.mul_comm v u',Nat.mul_assoc]
 rw[e2,Nat.mul_comm q,this];omega
theorem tor_mul {u v:Nat} (hu:1≤u) (hv:1≤v) (h:Nat.Coprime u v):(g.tor (u*v)).length=(g.tor u).length*(g.tor v).length:=by
 obtain ⟨s,t,k,e⟩:=bez hu hv h
 have hl: ∀a,g.pw a u=g.one→g.pw a (v*t)=a:=fun a ha=>by
  have e2:g.pw a (v*t+u*s)=g.pw a (1+k*(u*v)):=by rw[e]
  rw[pw_add,g.pw_mul a u,ha,pw_e,g.mul_one,pw_add,g.pw_one,Nat.mul_comm k,g.pw_mul a (u*v),g.pw_mul a u,ha,pw_e,pw_e,g.mul_one] at e2
  exact e2
 have hr: ∀b,g.pw b v=g.one→g.pw b (v*t)=g.one:=fun b hb=>by rw[g.pw_mul,hb,pw_e]
 have key: ∀a b,g.pw a u=g.one→g.pw b v=g.one→g.pw (g.mul a b) (v*t)=a:=fun a b ha hb=>by rw[mul_pw,hl a ha,hr b hb,g.mul_one]
 have hp:(g.tor (u*v)).Perm ((g.tor u).flatMap fun a=>(g.tor v).map (g.mul a)):=by
  refine (List.perm_ext_iff_of_nodup (g.nd_tor _) ?_).2 fun x=> ?_
  ·refine List.pairwise_flatMap.2 ⟨fun a ha=> ?_,?_⟩
   ·exact List.pairwise_map.2 ((g.nd_tor v).imp fun {b c} hbc q=>hbc (g.cancel q))
   ·refine List.Pairwise.imp_of_mem ?_ (g.nd_tor u)
    intro a b ha hb hab x hx y hy q
    obtain ⟨c,hc,rfl⟩:=List.mem_map.1 hx
    obtain ⟨d,hd,rfl⟩:=List.mem_map.1 hy
    refine hab ?_
    rw[←key a c (g.mem_tor.1 ha) (g.mem_tor.1 hc),q,key b d (g.mem_tor.1 hb) (g.mem_tor.1 hd)]
  ·rw [mem_tor,List.mem_flatMap]
   constructor
   ·intro hx
    refine ⟨g.pw x (v*t),g.mem_tor.2 ?_,List.mem_map.2 ⟨g.pw x (u*s),g.mem_tor.2 ?_,?_⟩⟩
    ·rw [←pw_mul];exact g.pw_dvd hx ⟨t,by rw[Nat.mul_assoc u v t,Nat.mul_comm u,Nat.mul_comm (v*t) u]⟩
    ·rw [←pw_mul];exact g.pw_dvd hx ⟨s,by rw[Nat.mul_assoc u s v,Nat.mul_comm s v,←Nat.mul_assoc]⟩
    ·rw [←pw_add,e,pw_add,g.pw_one,Nat.mul_comm k,g.pw_mul x (u*v),hx,pw_e,g.mul_one]
   ·rintro ⟨a,ha,hx⟩
    obtain ⟨b,hb,rfl⟩:=List.mem_map.1 hx
    rw[mul_pw,g.pw_mul a u,g.mem_tor.1 ha,pw_e,g.one_mul,Nat.mul_comm u v,g.pw_mul b v,g.mem_tor.1 hb,pw_e]
 rw[hp.length_eq,List.length_flatMap]
 have: ∀l:List G,(l.map fun a=>((g.tor v).map (g.mul a)).length).sum=l.length*(g.tor v).length:=by
  intro l
  induction l with
  |nil=>simp
  |cons a l ih=>rw[List.map_cons,List.sum_cons,ih,List.length_map,List.length_cons,Nat.succ_mul,Nat.add_comm]
 exact this _
end Fab
def Pr (p:Nat):Prop:=2≤p∧ ∀d,d∣p→d=1∨d=p
theorem Pr.cop {p m:Nat} (h:Pr p) (hm: ¬p∣m):Nat.Coprime p m:=by
 rcases h.2 _ (Nat.gcd_dvd_left p m) with e|e
 ·exact e
 ·exact absurd (e▸Nat.gcd_dvd_right p m) hm
theorem Pr.mul {p a b:Nat} (h:Pr p) (hd:p∣a*b):p∣a∨p∣b:=by
 by_cases q:p∣a
 ·exact .inl q
 ·exact .inr ((h.cop q).dvd_of_dvd_mul_left hd)
theorem Pr.pow {p a:Nat} (h:Pr p): ∀{k},p∣a ^ k→p∣a
 |0,hd=>by
  have:=Nat.dvd_one.1 (by simpa using hd);have:=h.1;omega
 |k+1,hd=>by
  rw[Nat.pow_succ] at hd
  rcases h.mul hd with e|e
  ·exact h.pow e
  ·exact e
theorem Pr.dvd_pp {p:Nat} (h:Pr p): ∀{k d},d∣p ^ k→ ∃i,i≤k∧d=p ^ i
 |0,d,hd=>⟨0,Vn,by simpa using hd⟩
 |k+1,d,hd=>by
  by_cases q:p∣d
  ·obtain ⟨d',rfl⟩:=q
   rw[Nat.pow_succ,Nat.mul_comm (p ^ k)] at hd
   obtain ⟨i,hi,e⟩:=h.dvd_pp (Nat.dvd_of_mul_dvd_mul_left (show 0<p by have:=h.1;omega) hd)
   refine ⟨i+1,?_,?_⟩
   ·omega
   ·rw [e,Nat.pow_succ,Nat.mul_comm]
  ·exact ⟨0,Vn,by
    have:=(h.cop q).pow_left (k+1)
    simpa using this.symm.eq_one_of_dvd hd⟩
theorem Pr.sp {p:Nat} (h:Pr p): ∀n,1≤n→ ∃s m,n=p ^ s*m∧ ¬p∣m:=by
 intro n
 induction n using Nat.strongRecOn with
 |ind n ih=>
  intro hn
  by_cases q:p∣n
  ·obtain ⟨d,rfl⟩:=q
   have hp:=h.1
   have hd:1≤d:=by
    rcases Nat.eq_zero_or_pos d with e|e
    ·rw [e] at hn;simp at hn
    ·exact e
   have hlt:d<p*d:=by
    exact Nat.lt_of_lt_of_le Vn (Nat.mul_le_mul_right d hp)
   obtain ⟨s,m,e,hm⟩:=ih d hlt hd
   exact ⟨s+1,m,by rw[e,Nat.pow_succ,Nat.mul_comm (p ^ s) p,Nat.mul_assoc],hm⟩
  ·exact ⟨0,n,Vs,q⟩
theorem Pr.le_of {p a i m:Nat} (h:Pr p) (hm: ¬p∣m) (hd:p ^ a∣p ^ i*m):a≤i:=by
 have:=((h.cop hm).pow_left a).dvd_of_dvd_mul_right hd
 exact (Nat.pow_dvd_pow_iff_le_right h.1).1 this
theorem Pr.ex {n:Nat} (hn:2≤n): ∃p,Pr p∧p∣n:=by
 induction n using Nat.strongRecOn with
 |ind n ih=>
  by_cases q: ∀d,d∣n→d=1∨d=n
  ·exact ⟨n,⟨hn,q⟩,Nat.dvd_refl _⟩
  ·obtain ⟨d,hd⟩:=Classical.not_forall.1 q
   have ⟨hd1,hd2⟩:d∣n∧ ¬(d=1∨d=n):=⟨Classical.byContradiction fun c=>hd fun e=>absurd e c,fun e=>hd fun _=>e⟩
   have hle:=Nat.le_of_dvd Vn hd1
   have h0:d≠0:=fun e=>by rw[e] at hd1;have:=Nat.eq_zero_of_zero_dvd hd1;omega
   obtain ⟨p,hp,hpd⟩:=ih d Vn Vn
   exact ⟨p,hp,Nat.dvd_trans hpd hd1⟩
theorem least1 {P:Nat→Prop} : ∀n,P n→ ∃m,P m∧ ∀k,k<m→ ¬P k:=by
 intro n
 induction n using Nat.strongRecOn with
 |ind n ih=>
  intro h
  by_cases q: ∃k,k<n∧P k
  ·obtain ⟨k,hk,hp⟩:=q
   exact ih k hk hp
  ·exact ⟨n,h,fun k hk hp=>q ⟨k,hk,hp⟩⟩
namespace Fab
variable {G:Type} [DecidableEq G] (g:Fab G)
def IsOrd (x:G) (o:Nat):Prop:=1≤o∧g.pw x o=g.one∧ ∀e,1≤e→e<o→g.pw x e≠g.one
theorem ord_some {x:G} {N:Nat} (hN:1≤N) (h:g.pw x N=g.one): ∃o,g.IsOrd x o:=by
 obtain ⟨m,hm,hk⟩:=least1 (P:=fun e=>1≤e∧g.pw x e=g.one) N ⟨hN,h⟩
 exact ⟨m,hm.1,hm.2,fun e h1 h2 h3=>hk e h2 ⟨h1,h3⟩⟩
variable {g}
theorem IsOrd.iff {x:G} {o:Nat} (h:g.IsOrd x o) {q:Nat} :g.pw x q=g.one↔o∣q:=by
 constructor
 ·intro e
  rw[←Nat.div_add_mod q o,pw_add,pw_mul,h.2.1,pw_e,g.one_mul] at e
  refine Nat.dvd_of_mod_eq_zero ?_
  rcases Nat.eq_zero_or_pos (q%o) with z|z
  ·exact z
  ·exact absurd e (h.2.2 _ z (Nat.mod_lt _ h.1))
 ·exact g.pw_dvd h.2.1
theorem IsOrd.le {x:G} {o N:Nat} (h:g.IsOrd x o) (hN:g.pw x N=g.one):o≤(g.tor N).length:=by
 have hd:((List.range o).map (g.pw x)).Nodup:=by
  refine List.pairwise_map.2 ?_
  refine List.Pairwise.imp_of_mem ?_ (List.pairwise_lt_range (n:=o))
  intro i j hi hj hij e
  have hj:=List.mem_range.1 hj
  refine h.2.2 (j-i) Vn Vn ?_
  have e2:j=i+(j-i):=by omega
  rw[e2,pw_add] at e
  have e3:g.mul (g.pw x i) g.one=g.mul (g.pw x i) (g.pw x (j-i)):=by rw[g.mul_one];exact e
  exact (g.cancel e3).symm
 have:=hd.length_le_of_subset (l₂:=g.tor N) fun y hy=>by
  obtain ⟨i,_,rfl⟩:=List.mem_map.1 hy
  rw[mem_tor,←pw_mul,Nat.mul_comm,pw_mul,hN,pw_e]
 simpa using this
variable (g)
theorem tor_sub {M N:Nat} (h:M∣N):(g.tor M).length≤(g.tor N).length:=
 (g.nd_tor M).length_le_of_subset fun x hx=>g.mem_tor.2 (g.pw_dvd (g.mem_tor.1 hx) h)
theorem tor_eq {M N:Nat} (h:M∣N) (he:(g.tor N).length≤(g.tor M).length) {x:G} (hx:g.pw x N=g.one):g.pw x M=g.one:=by
 refine Classical.byContradiction fun q=> ?_
 have:(x :: g.tor M).length≤(g.tor N).length:=by
  refine List.Nodup.length_le_of_subset (List.nodup_cons.2 ⟨fun c=>q (g.mem_tor.1 c),g.nd_tor M⟩) fun y hy=> ?_
  rcases List.mem_cons.1 hy with rfl|hy
  ·exact g.mem_tor.2 hx
  ·exact g.mem_tor.2 (g.pw_dvd (g.mem_tor.1 hy) h)
 rw[List.length_cons] at this;omega
theorem tor_len {M N:Nat} (h: ∀x,g.pw x M=g.one↔g.pw x N=g.one):(g.tor M).length=(g.tor N).length:=by
 refine Nat.le_antisymm ((g.nd_tor M).length_le_of_subset fun x hx=>g.mem_tor.2 ((h x).1 (g.mem_tor.1 hx))) ((g.nd_tor N).length_le_of_subset fun x hx=>g.mem_tor.2 ((h x).2 (g.mem_tor.1 hx)))
theorem tor_pp {p:Nat} (h:Pr p) (k:Nat): ∃i,(g.tor (p ^ k)).length=p ^ i:=by
 have:=g.tor_dvd (p ^ k)
 rw[←Nat.pow_mul] at this
 obtain ⟨i,_,e⟩:=h.dvd_pp this
 exact ⟨i,e⟩
theorem tor_all {E:Nat} (hE: ∀x,g.pw x E=g.one):(g.tor E).length=g.els.length:=by
 unfold tor;rw [List.filter_eq_self.2 fun x _=>by simpa using hE x]
theorem all_tor {E:Nat} (h:(g.tor E).length=g.els.length) (x:G):g.pw x E=g.one:=by
 have:=List.length_filter_eq_length_iff.1 h x (g.all x)
 simpa using this
theorem sylow {p E a m:Nat} (hp:Pr p) (hE:1≤E) (hx: ∀x,g.pw x E=g.one) (hn:g.els.length=p ^ a*m) (hm: ¬p∣m):(g.tor (p ^ a)).length=p ^ a:=by
 have hpp: ∀k,1≤p ^ k:=fun k=>Nat.pow_pos (by have:=hp.1;omega)
 obtain ⟨s,M,e,hM⟩:=hp.sp (E*p ^ a) (Nat.mul_le_mul hE (hpp a))
 have has:a≤s:=hp.le_of hM (e▸Nat.dvd_mul_left _ _)
 have hM1:1≤M:=Nat.pos_of_ne_zero fun z=>hM (z▸Nat.dvd_zero p)
 have hcop:Nat.Coprime (p ^ s) M:=(hp.cop hM).pow_left s
 have h1:=g.tor_mul (hpp s) hM1 hcop
 rw[g.tor_all (fun x=>by rw[←e];exact g.pw_dvd (hx x) (Nat.dvd_mul_right _ _)),hn] at h1
 obtain ⟨i,hi⟩:=g.tor_pp hp s
 have hnM: ¬p∣(g.tor M).length:=fun c=>hM (hp.pow (Nat.dvd_trans c (g.tor_dvd M)))
 rw[hi] at h1
 have e1:a≤i:=hp.le_of hnM (h1▸Nat.dvd_mul_right _ _)
 have e2:i≤a:=hp.le_of hm (h1.symm▸Nat.dvd_mul_right _ _)
 obtain rfl:i=a:=by omega
 rw[←hi]
 rw[hi]
 rw[←hi]
 refine Nat.le_antisymm (by rw[hi];have:=g.tor_sub (M:=p ^ i) (N:=p ^ s) (Nat.pow_dvd_pow p has);omega) ?_
 rw[hi]
 refine Nat.le_trans (Nat.le_of_eq hi.symm) ((g.nd_tor _).length_le_of_subset fun x hx=> ?_)
 have hx:=g.mem_tor.1 hx
 obtain ⟨o,ho⟩:=g.ord_some (hpp s) hx
 have hl:=ho.le hx
 obtain ⟨j,_,rfl⟩:=hp.dvd_pp (ho.iff.1 hx)
 rw[hi] at hl
 have hj:j≤i:=(Nat.pow_le_pow_iff_right hp.1).1 hl
 exact g.mem_tor.2 (ho.iff.2 (Nat.pow_dvd_pow p hj))
def ct (p k:Nat):Nat:=(g.tor (p ^ k)).length
theorem ct_zero (p:Nat):g.ct p 0=1:=by
 unfold ct tor
 have:(g.els.filter (fun a=>decide (g.pw a (p ^ 0)=g.one))).Perm [g.one]:=by
  refine (List.perm_ext_iff_of_nodup (g.nd.filter _) (List.nodup_cons.2 ⟨Vs,List.nodup_nil⟩)).2 fun a=> ?_
  rw[List.mem_filter];simp [g.all a,g.pw_one]
 rw[this.length_eq];rfl
theorem ct_mono (p k:Nat):g.ct p k≤g.ct p (k+1):=g.tor_sub (Nat.pow_dvd_pow p Vn)
theorem ct_stag {p k:Nat} (h:g.ct p (k+1)=g.ct p k):g.ct p (k+2)=g.ct p (k+1):=by
 refine (g.tor_len fun x=>⟨fun hx=> ?_,fun hx=>g.pw_dvd hx (Nat.pow_dvd_pow p Vn)⟩)
 have hy:g.pw (g.pw x p) (p ^ (k+1))=g.one:=by
  rw[←pw_mul,Nat.mul_comm,←Nat.pow_succ];exact hx
 have:=g.tor_eq (M:=p ^ k) (N:=p ^ (k+1)) (Nat.pow_dvd_pow p Vn) (Nat.le_of_eq h) hy
 rw[←pw_mul,Nat.mul_comm,←Nat.pow_succ] at this
 exact this
def rk (p:Nat):Nat→Nat
 |0=>0
 |k+1=>rk p k+if g.ct p k<g.ct p (k+1) then 1 else 0
theorem rk_ok (p:Nat): ∀k,(g.rk p k=k∨g.ct p (k+1)=g.ct p k)∧g.ct p (g.rk p k)=g.ct p k∧(1≤g.rk p k→g.ct p (g.rk p k-1)<g.ct p (g.rk p k))
 |0=>⟨.inl rfl,rfl,fun h=>absurd h (by simp [rk])⟩
 |k+1=>by
  obtain ⟨h1,h2,h3⟩:=rk_ok p k
  have hm:=g.ct_mono p k
  by_cases q:g.ct p k<g.ct p (k+1)
  ·have e:g.rk p k=k:=by rcases h1 with e|e;exact e;omega
   have e2:g.rk p (k+1)=k+1:=by rw[rk,if_pos q,e]
   rw[e2]
   exact ⟨.inl rfl,rfl,fun _=>q⟩
  ·have e2:g.rk p (k+1)=g.rk p k:=by rw[rk,if_neg q];rfl
   have e3:g.ct p (k+1)=g.ct p k:=by omega
   rw[e2]
   exact ⟨.inr (g.ct_stag e3),by rw[h2,e3],h3⟩
def prd (f:Nat→Nat):List Nat→Nat
 | []=>1
 |p :: l=>f p*prd f l
theorem prd_cop {f:Nat→Nat} {q:Nat} (hq:Pr q): ∀{l:List Nat},(∀p ∈ l,Pr p)→(∀p ∈ l,q≠p)→ ∀{r:Nat→Nat},¬q∣prd (fun p=>p ^ r p) l
 | [],_,_,r,h=>by
  have:=Nat.dvd_one.1 h;have:=hq.1;omega
 |p :: l,hp,hne,r,h=>by
  rcases hq.mul h with e|e
  ·have:=hq.pow e
   rcases (hp p Vs).2 q this with e|e
   ·have:=hq.1;omega
   ·exact hne p Vs e
  ·exact prd_cop (f:=f) hq (fun x hx=>hp x W5) (fun x hx=>hne x W5) e
theorem prd_pos: ∀{l:List Nat},(∀p ∈ l,Pr p)→ ∀(r:Nat→Nat),1≤prd (fun p=>p ^ r p) l
 | [],_,_=>Nat.le_refl _
 |p :: l,hp,r=>Nat.mul_le_mul (Nat.pow_pos (by have:=(hp p Vs).1;omega)) (prd_pos (l:=l) (fun x hx=>hp x (List.mem_cons_of_mem _ hx)) r)
theorem tor_prd: ∀{l:List Nat},l.Nodup→(∀p ∈ l,Pr p)→ ∀(r:Nat→Nat),(g.tor (prd (fun p=>p ^ r p) l)).length=prd (fun p=>g.ct p (r p)) l
 | [],_,_,_=>g.ct_zero 1
 |p :: l,hd,hp,r=>by
  have hd:=List.nodup_cons.1 hd
  have hl: ∀x ∈ l,Pr x:=fun x hx=>hp x W5
  have hpp:=hp p Vs
  have hc:=prd_cop (f:=id) hpp hl (fun x hx e=>hd.1 (e▸hx)) (r:=r)
  show (g.tor (p ^ r p*prd (fun p=>p ^ r p) l)).length=g.ct p (r p)*prd (fun p=>g.ct p (r p)) l
  rw[g.tor_mul (Nat.pow_pos (by have:=hpp.1;omega)) (prd_pos hl r) ((hpp.cop hc).pow_left _),tor_prd hd.2 hl r]
  rfl
theorem prd_dvd {T:Nat} : ∀{l:List Nat},l.Nodup→(∀p ∈ l,Pr p)→ ∀(r:Nat→Nat),(∀p ∈ l,p ^ r p∣T)→prd (fun p=>p ^ r p) l∣T
 | [],_,_,_,_=>Nat.one_dvd _
 |p :: l,hd,hp,r,h=>by
  have hd:=List.nodup_cons.1 hd
  have hl: ∀x ∈ l,Pr x:=fun x hx=>hp x W5
  have hpp:=hp p Vs
  have hc:=prd_cop (f:=id) hpp hl (fun x hx e=>hd.1 (e▸hx)) (r:=r)
  exact ((hpp.cop hc).pow_left _).mul_dvd_of_dvd_of_dvd (h p Vs) (prd_dvd hd.2 hl r (fun x hx=>h x W5))
theorem prd_all {n:Nat} (hn:1≤n) {l:List Nat} (hd:l.Nodup) (hp: ∀p ∈ l,Pr p) (hall: ∀q,Pr q→q∣n→q ∈ l) {a:Nat→Nat} (ha: ∀p ∈ l,∃m,n=p ^ a p*m∧ ¬p∣m):prd (fun p=>p ^ a p) l=n:=by
 obtain ⟨t,ht⟩:=prd_dvd (T:=n) hd hp a (fun p hpl=>by obtain ⟨m,e,_⟩:=ha p hpl;exact ⟨m,e⟩)
 by_cases q:2≤t
 ·obtain ⟨p,hpp,hpt⟩:=Pr.ex q
  have hpl:=hall p hpp (by rw[ht];exact Nat.dvd_trans hpt (Nat.dvd_mul_left _ _))
  obtain ⟨m,e,hm⟩:=ha p hpl
  obtain ⟨c,hc⟩:p ^ a p∣prd (fun p=>p ^ a p) l:=by
   clear hd hp hall ha ht hpp e hm
   induction l with
   |nil=>cases hpl
   |cons x l ih=>
    rcases List.mem_cons.1 hpl with rfl|h
    ·exact Nat.dvd_mul_right _ _
    ·exact Nat.dvd_trans (ih h) (Nat.dvd_mul_left _ _)
  have h1:p ^ (a p+1)∣p ^ a p*m:=by
   rw[←e,ht,hc,Nat.pow_succ,Nat.mul_assoc]
   exact Nat.mul_dvd_mul_left _ (Nat.dvd_trans hpt (Nat.dvd_mul_left _ _))
  have:=hpp.le_of hm h1
  omega
 ·have:t=1:=by
   rcases Nat.eq_zero_or_pos t with z|z
   ·rw [z] at ht;omega
   ·omega
  rw[ht,this,Nat.mul_one]
theorem expo {E:Nat} (hE:1≤E) (hx: ∀x,g.pw x E=g.one) {l:List Nat} (hd:l.Nodup) (hp: ∀p ∈ l,Pr p) (hall: ∀q,Pr q→q∣g.els.length→q ∈ l) {a:Nat→Nat} (ha: ∀p ∈ l,∃m,g.els.length=p ^ a p*m∧ ¬p∣m) (T:Nat):
  (∀x,g.pw x T=g.one)↔prd (fun p=>p ^ g.rk p (a p)) l∣T:=by
 have hn:1≤g.els.length:=by
  have:=g.all g.one
  exact List.length_pos_of_mem this
 constructor
 ·intro hT
  refine prd_dvd hd hp _ fun p hpl=> ?_
  obtain ⟨_,_,h3⟩:=g.rk_ok p (a p)
  rcases Nat.eq_zero_or_pos (g.rk p (a p)) with z|z
  ·rw [z];exact Nat.one_dvd _
  ·have h3:=h3 z
   have hex: ∃x,g.pw x (p ^ g.rk p (a p))=g.one∧g.pw x (p ^ (g.rk p (a p)-1))≠g.one:=by
    refine Classical.byContradiction fun c=> ?_
    have:=g.tor_len (M:=p ^ g.rk p (a p)) (N:=p ^ (g.rk p (a p)-1)) fun x=>⟨fun h=>Classical.byContradiction fun c2=>c ⟨x,h,c2⟩,fun h=>g.pw_dvd h (Nat.pow_dvd_pow p Vn)⟩
    unfold ct at h3;omega
   obtain ⟨x,hx1,hx2⟩:=hex
   have hpp:=hp p hpl
   obtain ⟨o,ho⟩:=g.ord_some (Nat.pow_pos (by have:=hpp.1;omega)) hx1
   obtain ⟨j,hj,rfl⟩:=hpp.dvd_pp (ho.iff.1 hx1)
   have: ¬j≤g.rk p (a p)-1:=fun c=>hx2 (ho.iff.2 (Nat.pow_dvd_pow p c))
   obtain rfl:j=g.rk p (a p):=by omega
   exact ho.iff.1 (hT x)
 ·intro hT x
  refine g.pw_dvd (g.all_tor ?_ x) hT
  rw[g.tor_prd hd hp]
  have: ∀l',(∀p ∈ l',p ∈ l)→prd (fun p=>g.ct p (g.rk p (a p))) l'=prd (fun p=>p ^ a p) l':=by
   intro l'
   induction l' with
   |nil=>intro _;rfl
   |cons p l' ih=>
    intro h
    obtain ⟨m,e,hm⟩:=ha p (h p Vs)
    simp only[prd]
    rw[ih (fun x hx=>h x W5),(g.rk_ok p (a p)).2.1]
    have:=g.sylow (hp p (h p Vs)) hE hx e hm
    unfold ct;rw [this]
  rw[this l (fun _ h=>h),prd_all hn hd hp hall ha]
end Fab

end Go.Proofs.YtobkcnmlmmhpoaaGreatDoor
