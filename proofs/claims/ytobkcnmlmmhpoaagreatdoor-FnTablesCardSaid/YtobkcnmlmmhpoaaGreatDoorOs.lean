/- Prime factors and invariant factors, plainly. Plain: the orders of the classes of a discriminant, their counts, and the exponent. -/
import Derived.Test.YtobkcnmlmmhpoaaGreatDoorGrp
import Derived.Test.YtobkcnmlmmhpoaaGreatDoorRfl
namespace Go.Proofs.YtobkcnmlmmhpoaaGreatDoor
set_option linter.unusedVariables false
set_option linter.unusedSimpArgs false

def fcL (p n:Nat):List Nat:=
 if h:2≤p∧p*p≤n then (if n%p=0 then p :: fcL p (n / p) else fcL (p+1) n) else if 1<n then [n] else []
termination_by 2*n-p
decreasing_by
 ·have h1:n / p<n:=Nat.div_lt_self (by have:=Nat.mul_le_mul h.1 h.1;omega) Vn
  have h2:p*2≤p*p:=Nat.mul_le_mul_left p h.1
  omega
 ·have h2:p*2≤p*p:=Nat.mul_le_mul_left p h.1
  omega
theorem fc_dvd {p n:Nat} (h1:2≤p) (h2:p*p≤n) (h3:n%p=0):fcL p n=p :: fcL p (n / p):=by
 rw[fcL,dif_pos ⟨h1,h2⟩,if_pos h3]
theorem fc_no {p n:Nat} (h1:2≤p) (h2:p*p≤n) (h3:n%p≠0):fcL p n=fcL (p+1) n:=by
 rw[fcL,dif_pos ⟨h1,h2⟩,if_neg h3]
theorem fc_end {p n:Nat} (h2:n<p*p) (h3:1<n):fcL p n= [n]:=by
 rw[fcL,dif_neg Vn,if_pos h3]
theorem fc_nil {p n:Nat} (h2:n<p*p) (h3:n≤1):fcL p n= []:=by
 rw[fcL,dif_neg Vn,if_neg Vn]
def prL:List Nat→Nat
 | []=>1
 |x :: l=>x*prL l
structure FcOk (p n:Nat) (l:List Nat):Prop where
 pr: ∀x ∈ l,Pr x∧p≤x∧x∣n
 mul:prL l=n
 up:l.Pairwise (· ≤ ·)
theorem fc_ok: ∀m p n:Nat,2*n-p≤m→2≤p→1≤n→(∀q,Pr q→q∣n→p≤q)→FcOk p n (fcL p n):=by
 intro m
 induction m with
 |zero=>
  intro p n hm hp hn hq
  have h2:p*2≤p*p:=Nat.mul_le_mul_left p hp
  by_cases q:n≤1
  ·rw [fc_nil Vn q]
   exact ⟨fun x hx=>(by cases hx),by simp only[prL];omega,List.Pairwise.nil⟩
  ·obtain ⟨r,hr,hrd⟩:=Pr.ex (show 2≤n by omega)
   have:=hq r hr hrd
   have:=Nat.le_of_dvd Vn hrd
   omega
 |succ m ih=>
  intro p n hm hp hn hq
  by_cases h2:p*p≤n
  ·have h4:p*2≤p*p:=Nat.mul_le_mul_left p hp
   by_cases h3:n%p=0
   ·rw [fc_dvd hp h2 h3]
    have hd:n=p*(n / p):=by have:=Nat.div_add_mod n p;omega
    have h1:n / p<n:=Nat.div_lt_self Vn Vn
    have hpos:1≤n / p:=by
     rcases Nat.eq_zero_or_pos (n / p) with z|z
     ·rw [z] at hd;omega
     ·exact z
    obtain ⟨a1,a2,a3⟩:=ih p (n / p) Vn hp hpos (fun q hq1 hq2=>hq q hq1 (by rw[hd];exact Nat.dvd_trans hq2 (Nat.dvd_mul_left _ _)))
    have hpp:Pr p:=by
     refine ⟨hp,fun d hdp=> ?_⟩
     by_cases hd1:d=1
     ·exact .inl hd1
     ·have hdp2:=Nat.le_of_dvd Vn hdp
      have hd0:d≠0:=fun e=>by rw[e] at hdp;have:=Nat.eq_zero_of_zero_dvd hdp;omega
      obtain ⟨r,hr,hrd⟩:=Pr.ex (show 2≤d by omega)
      have:=hq r hr (Nat.dvd_trans hrd (Nat.dvd_trans hdp (Nat.dvd_of_mod_eq_zero h3)))
      have:=Nat.le_of_dvd Vn hrd
      exact .inr Vn
    refine ⟨fun x hx=> ?_,?_,?_⟩
    ·rcases List.mem_cons.1 hx with rfl|hx
     ·exact ⟨hpp,Nat.le_refl _,Nat.dvd_of_mod_eq_zero h3⟩
     ·obtain ⟨b1,b2,b3⟩:=a1 x hx
      exact ⟨b1,b2,by rw[hd];exact Nat.dvd_trans b3 (Nat.dvd_mul_left _ _)⟩
    ·rw [prL,a2,←hd]
    ·exact List.pairwise_cons.2 ⟨fun x hx=>(a1 x hx).2.1,a3⟩
   ·rw [fc_no hp h2 h3]
    obtain ⟨a1,a2,a3⟩:=ih (p+1) n Vn Vn hn (fun q hq1 hq2=>by
     have:=hq q hq1 hq2
     by_cases e:q=p
     ·exact absurd (Nat.mod_eq_zero_of_dvd (e▸hq2)) h3
     ·omega)
    exact ⟨fun x hx=>⟨(a1 x hx).1,by have:=(a1 x hx).2.1;omega,(a1 x hx).2.2⟩,a2,a3⟩
  ·by_cases q:n≤1
   ·rw [fc_nil Vn q]
    exact ⟨fun x hx=>(by cases hx),by simp only[prL];omega,List.Pairwise.nil⟩
   ·rw [fc_end Vn Vn]
    have hpn:Pr n:=by
     refine ⟨Vn,fun d hd=> ?_⟩
     by_cases hd1:d=1
     ·exact .inl hd1
     ·by_cases hd2:d=n
      ·exact .inr hd2
      ·obtain ⟨e,he⟩:=hd
       have hd0:d≠0:=fun z=>by rw[z] at he;omega
       have he0:e≠0:=fun z=>by rw[z] at he;omega
       have he1:e≠1:=fun z=>by rw[z] at he;omega
       obtain ⟨r,hr,hrd⟩:=Pr.ex (show 2≤d by omega)
       obtain ⟨s,hs,hsd⟩:=Pr.ex (show 2≤e by omega)
       have b1:=hq r hr (by rw[he];exact Nat.dvd_trans hrd (Nat.dvd_mul_right _ _))
       have b2:=hq s hs (by rw[he];exact Nat.dvd_trans hsd (Nat.dvd_mul_left _ _))
       have b3:=Nat.le_of_dvd Vn hrd
       have b4:=Nat.le_of_dvd Vn hsd
       have:=Nat.mul_le_mul (show p≤d by omega) (show p≤e by omega)
       omega
    refine ⟨fun x hx=> ?_,by simp [prL],Vs⟩
    obtain rfl:x=n:=by simpa using hx
    exact ⟨hpn,hq x hpn (Nat.dvd_refl _),Nat.dvd_refl _⟩
theorem prL_dvd {q:Nat} (hq:Pr q): ∀{l:List Nat},(∀x ∈ l,Pr x)→q∣prL l→q ∈ l
 | [],_,h=>by have:=Nat.dvd_one.1 h;have:=hq.1;omega
 |x :: l,hl,h=>by
  rcases hq.mul h with e|e
  ·rcases (hl x Vs).2 q e with e2|e2
   ·have:=hq.1;omega
   ·simp [e2]
  ·have:=prL_dvd hq (fun y hy=>hl y (by simp [hy])) e
   simp [this]
def ddK (fs:List Nat):Nat→List Nat
 |0=> []
 |k+1=>if (ddK fs k).getD ((ddK fs k).length-1) 0=fs.getD k 0 then ddK fs k else ddK fs k++ [fs.getD k 0]
theorem dd_yes {fs:List Nat} {k:Nat} (h:(ddK fs k).getD ((ddK fs k).length-1) 0=fs.getD k 0):ddK fs (k+1)=ddK fs k:=by rw[ddK,if_pos h]
theorem dd_no {fs:List Nat} {k:Nat} (h:(ddK fs k).getD ((ddK fs k).length-1) 0≠fs.getD k 0):ddK fs (k+1)=ddK fs k++ [fs.getD k 0]:=by rw[ddK,if_neg h]
structure DdOk (fs:List Nat) (k:Nat) (l:List Nat):Prop where
 mem: ∀x,x ∈ l↔ ∃i,i<k∧fs.getD i 0=x
 up:l.Pairwise (· < ·)
 last:l.getD (l.length-1) 0=(if k=0 then 0 else fs.getD (k-1) 0)
 len:l.length≤k
theorem dd_ok {fs:List Nat} (h2: ∀x ∈ fs,1≤x) (hu:fs.Pairwise (· ≤ ·)): ∀k,k≤fs.length→DdOk fs k (ddK fs k)
 |0,_=>⟨fun x=>⟨fun h=>by (have:x ∈ ([]:List Nat):=h;cases this),fun ⟨i,h,_⟩=>by omega⟩,List.Pairwise.nil,rfl,Nat.le_refl _⟩
 |k+1,hk=>by
  obtain ⟨a1,a2,a3,a4⟩:=dd_ok h2 hu k Vn
  have hf: ∀i,i<fs.length→fs.getD i 0 ∈ fs:=fun i hi=>by rw[List.getD_eq_getElem?_getD,List.getElem?_eq_getElem hi];exact List.getElem_mem hi
  have hle: ∀i,i<k→fs.getD i 0≤fs.getD k 0:=fun i hi=>by
   rw[List.getD_eq_getElem?_getD,List.getElem?_eq_getElem (show i<fs.length by omega),List.getD_eq_getElem?_getD,List.getElem?_eq_getElem (show k<fs.length by omega)]
   exact List.pairwise_iff_getElem.1 hu i k Vn Vn hi
  by_cases q:(ddK fs k).getD ((ddK fs k).length-1) 0=fs.getD k 0
  ·rw [dd_yes q]
   have hk0:k≠0:=fun z=>by
    subst z
    have:=h2 _ (hf 0 Vn)
    rw[a3,if_pos rfl] at q;omega
   refine ⟨fun x=>⟨fun h=> ?_,fun ⟨i,hi,he⟩=> ?_⟩,a2,?_,Vn⟩
   ·obtain ⟨i,hi,he⟩:=(a1 x).1 h
    exact ⟨i,Vn,he⟩
   ·by_cases e:i=k
    ·subst e
     rw[a3,if_neg hk0] at q
     exact (a1 x).2 ⟨i-1,Vn,by rw[q,he]⟩
    ·exact (a1 x).2 ⟨i,Vn,he⟩
   ·rw [if_neg Vn,q];rfl
  ·rw [dd_no q]
   have hlt: ∀x ∈ ddK fs k,x<fs.getD k 0:=fun x hx=>by
    obtain ⟨i,hi,he⟩:=(a1 x).1 hx
    rw[a3,if_neg Vn] at q
    have h3:=hle (k-1) Vn
    have h4:fs.getD i 0≤fs.getD (k-1) 0:=by
     by_cases e:i=k-1
     ·rw [e];exact Nat.le_refl _
     ·rw [List.getD_eq_getElem?_getD,List.getElem?_eq_getElem (show i<fs.length by omega),List.getD_eq_getElem?_getD,List.getElem?_eq_getElem (show k-1<fs.length by omega)]
      exact List.pairwise_iff_getElem.1 hu i (k-1) Vn Vn Vn
    omega
   refine ⟨fun x=> ?_,?_,?_,by simp;omega⟩
   ·rw [List.mem_append]
    constructor
    ·rintro (h|h)
     ·obtain ⟨i,hi,he⟩:=(a1 x).1 h
      exact ⟨i,Vn,he⟩
     ·have e:x=fs.getD k 0:=List.mem_singleton.1 h
      exact ⟨k,Vn,e.symm⟩
    ·rintro ⟨i,hi,he⟩
     by_cases e:i=k
     ·subst e;exact .inr (List.mem_singleton.2 he.symm)
     ·exact .inl ((a1 x).2 ⟨i,Vn,he⟩)
   ·exact List.pairwise_append.2 ⟨a2,Vs,fun x hx y hy=>by
     obtain rfl:y=fs.getD k 0:=by simpa using hy
     exact hlt x hx⟩
   ·rw [if_neg Vn];simp
def psL (n:Nat):List Nat:=ddK (fcL 2 n) (fcL 2 n).length
structure PsOk (n:Nat) (l:List Nat):Prop where
 nd:l.Nodup
 pr: ∀p ∈ l,Pr p
 dv: ∀p ∈ l,p∣n
 all: ∀q,Pr q→q∣n→q ∈ l
theorem ps_fc {n:Nat} (hn:1≤n):FcOk 2 n (fcL 2 n):=fc_ok _ 2 n (Nat.le_refl _) (Nat.le_refl _) hn (fun q hq _=>hq.1)
theorem ps_dd {n:Nat} (hn:1≤n): ∀k,k≤(fcL 2 n).length→DdOk (fcL 2 n) k (ddK (fcL 2 n) k):=
 dd_ok (fun x hx=>by have:=((ps_fc hn).pr x hx).1.1;omega) (ps_fc hn).up
theorem ps_ok {n:Nat} (hn:1≤n):PsOk n (psL n):=by
 have hf:=ps_fc hn
 have hd:=ps_dd hn _ (Nat.le_refl _)
 have hm: ∀x,x ∈ psL n↔x ∈ fcL 2 n:=fun x=>by
  rw[show psL n=ddK (fcL 2 n) (fcL 2 n).length from rfl,hd.mem]
  constructor
  ·rintro ⟨i,hi,rfl⟩
   rw[List.getD_eq_getElem?_getD,List.getElem?_eq_getElem hi];exact List.getElem_mem hi
  ·intro h
   obtain ⟨i,hi,he⟩:=List.getElem_of_mem h
   exact ⟨i,hi,by rw[List.getD_eq_getElem?_getD,List.getElem?_eq_getElem hi];exact he⟩
 refine ⟨hd.up.imp (fun {a b} h e=>by omega),fun p hp=>(hf.pr p ((hm p).1 hp)).1,fun p hp=>(hf.pr p ((hm p).1 hp)).2.2,fun q hq hqn=> ?_⟩
 exact (hm q).2 (prL_dvd hq (fun x hx=>(hf.pr x hx).1) (by rw[hf.mul];exact hqn))
theorem prL_len: ∀{l:List Nat},(∀x ∈ l,2≤x)→l.length<prL l
 | [],_=>Nat.zero_lt_one
 |x :: l,h=>by
  have ih:=prL_len (l:=l) (fun y hy=>h y (by simp [hy]))
  have h2:=Nat.mul_le_mul_right (prL l) (h x Vs)
  rw[prL,List.length_cons];omega
theorem fc_len {n:Nat} (hn:1≤n):(fcL 2 n).length<n:=by
 have:=prL_len (l:=fcL 2 n) (fun x hx=>((ps_fc hn).pr x hx).1.1)
 rwa [(ps_fc hn).mul] at this
def exN (m p:Nat):Nat:=if h:2≤p∧1≤m∧m%p=0 then exN (m / p) p+1 else 0
termination_by m
decreasing_by exact Nat.div_lt_self Vn Vn
theorem ex_yes {m p:Nat} (h1:2≤p) (h2:1≤m) (h3:m%p=0):exN m p=exN (m / p) p+1:=by rw[exN,dif_pos ⟨h1,h2,h3⟩]
theorem ex_no {m p:Nat} (h3:m%p≠0):exN m p=0:=by rw[exN,dif_neg Vn]
theorem ex_spec {p:Nat} (hp:2≤p): ∀m,1≤m→ ∃k,m=p ^ exN m p*k∧ ¬p∣k:=by
 intro m
 induction m using Nat.strongRecOn with
 |ind m ih=>
  intro hm
  by_cases h:m%p=0
  ·have hd:m=p*(m / p):=by have:=Nat.div_add_mod m p;omega
   have hlt:m / p<m:=Nat.div_lt_self Vn Vn
   have hpos:1≤m / p:=by
    rcases Nat.eq_zero_or_pos (m / p) with z|z
    ·rw [z] at hd;omega
    ·exact z
   obtain ⟨k,hk,hk2⟩:=ih _ hlt hpos
   refine ⟨k,?_,hk2⟩
   rw[ex_yes hp hm h,Nat.pow_succ,Nat.mul_comm (p ^ _) p,Nat.mul_assoc,←hk];exact hd
  ·exact ⟨m,by rw[ex_no h];simp,fun c=>h (Nat.mod_eq_zero_of_dvd c)⟩
theorem ex_pow {p:Nat} (hp:2≤p): ∀j,exN (p ^ j) p=j
 |0=>ex_no (by rw[Nat.pow_zero,Nat.mod_eq_of_lt Vn];omega)
 |j+1=>by
  rw[ex_yes hp (Nat.pow_pos Vn) (by rw[Nat.pow_succ];exact Nat.mul_mod_left _ _),Nat.pow_succ,Nat.mul_div_cancel _ Vn,ex_pow hp j]
theorem ex_le {p:Nat} (hp:2≤p) {m:Nat} (hm:1≤m):exN m p<m:=by
 obtain ⟨k,hk,hk2⟩:=ex_spec hp m hm
 have hk0:1≤k:=Nat.pos_of_ne_zero fun z=>hk2 (z▸Nat.dvd_zero p)
 have h1:exN m p<p ^ exN m p:=Nat.lt_pow_self Vn
 have h2:=Nat.mul_le_mul_left (p ^ exN m p) hk0
 omega
def mulF (p:Nat):Nat→List Nat→List Nat
 |0,l=>l
 |r+1,[]=>p :: mulF p r []
 |r+1,x :: l=>(x*p) :: mulF p r l
theorem mulF_len (p:Nat): ∀r (l:List Nat),(mulF p r l).length=max r l.length
 |0,l=>by simp [mulF]
 |r+1,[]=>by simp [mulF,mulF_len p r []]
 |r+1,x :: l=>by simp [mulF,mulF_len p r l]
theorem mulF_first (p:Nat) (r:Nat) (l:List Nat):(mulF p r l).getD 0 1=(if 1≤r then p else 1)*l.getD 0 1:=by
 cases r with
 |zero=>simp [mulF]
 |succ r=>
  cases l with
  |nil=>simp [mulF]
  |cons x l=>simp [mulF,Nat.mul_comm]
theorem mulF_get (p:Nat): ∀r (l:List Nat) i,(mulF p r l).getD i 1=(if i<r then p else 1)*l.getD i 1
 |0,l,i=>by simp [mulF]
 |r+1,[],0=>by simp [mulF]
 |r+1,x :: l,0=>by simp [mulF,Nat.mul_comm]
 |r+1,[],i+1=>by
  have:=mulF_get p r [] i
  simp only[mulF,List.getD_cons_succ];rw [this];simp
 |r+1,x :: l,i+1=>by
  have:=mulF_get p r l i
  simp only[mulF,List.getD_cons_succ];rw [this];simp
theorem ext_getD {l m:List Nat} (h:l.length=m.length) (h2: ∀i,i<l.length→l.getD i 1=m.getD i 1):l=m:=by
 refine List.ext_getElem h fun i h3 h4=> ?_
 have:=h2 i h3
 simpa [List.getD_eq_getElem?_getD,List.getElem?_eq_getElem h3,List.getElem?_eq_getElem h4] using this
theorem gdl {l m:List Nat} {i d:Nat} (h:i<l.length):(l++m).getD i d=l.getD i d:=by
 simp [List.getD_eq_getElem?_getD,List.getElem?_append_left h]
theorem gdr {l:List Nat} {i x d:Nat} (h:l.length=i):(l++ [x]).getD i d=x:=by
 subst h;simp [List.getD_eq_getElem?_getD]
theorem gds {l:List Nat} {i r y d:Nat} (hr:r<l.length):(l.set r y).getD i d=if r=i then y else l.getD i d:=by
 simp only[List.getD_eq_getElem?_getD,List.getElem?_set]
 by_cases q:r=i
 ·rw [if_pos q,if_pos hr,if_pos q];rfl
 ·rw [if_neg q,if_neg q]
theorem mulF_new (p:Nat) {r:Nat} {l:List Nat} (h:(mulF p r l).length=r) (hl:l.length≤r):mulF p (r+1) l=mulF p r l++ [p]:=by
 refine ext_getD (by rw[mulF_len,List.length_append,h];simp;omega) fun i hi=> ?_
 rw[mulF_get]
 by_cases q:i<r
 ·rw [if_pos Vn,gdl Vn,mulF_get,if_pos q]
 ·rw [mulF_len] at hi
  obtain rfl:i=r:=by omega
  rw[gdr h,if_pos Vn,List.getD_eq_getElem?_getD,List.getElem?_eq_none hl];simp
theorem mulF_old (p:Nat) {r:Nat} {l:List Nat} (h:r<l.length):mulF p (r+1) l=(mulF p r l).set r ((mulF p r l).getD r 1*p):=by
 refine ext_getD (by rw[mulF_len,List.length_set,mulF_len];omega) fun i hi=> ?_
 rw[mulF_len] at hi
 have hlen:=mulF_len p r l
 rw[mulF_get,gds Vn]
 by_cases q:r=i
 ·subst q
  rw[if_pos Vn,if_pos rfl,mulF_get,if_neg Vn,Nat.one_mul,Nat.mul_comm]
 ·rw [if_neg q,mulF_get]
  by_cases c:i<r
  ·rw [if_pos c,if_pos Vn]
  ·rw [if_neg c,if_neg Vn]
def cntI (os:List Int) (q:Int):Nat:=(os.filter (fun o=>q%o==0)).length
def cK (os:List Int) (p k:Nat):Nat:=if k=0 then 1 else cntI os ((p ^ k:Nat):Int)
def rnd (os:List Int) (p:Nat) (l:List Nat):Nat→List Nat
 |0=>l
 |k+1=>mulF p (exN (cK os p (k+1) / cK os p k) p) (rnd os p l k)
def fsP (os:List Int):List Nat→List Nat→List Nat
 | [],l=>l
 |p :: ps,l=>fsP os ps (rnd os p l (exN os.length p))
def fsK (os:List Int) (ps:List Nat) (k:Nat):List Nat:=fsP os (ps.take k) []
theorem fsP_app (os:List Int) (p:Nat): ∀(ps l:List Nat),fsP os (ps++ [p]) l=rnd os p (fsP os ps l) (exN os.length p)
 | [],l=>rfl
 |q :: ps,l=>by rw[List.cons_append,fsP,fsP_app os p ps];rfl
theorem fsK_succ {os:List Int} {ps:List Nat} {k:Nat} (h:k<ps.length):fsK os ps (k+1)=rnd os (ps.getD k 0) (fsK os ps k) (exN os.length (ps.getD k 0)):=by
 unfold fsK
 rw[List.take_add_one,List.getElem?_eq_getElem h,List.getD_eq_getElem?_getD,List.getElem?_eq_getElem h]
 exact fsP_app os _ _ _
def fsL (os:List Int):List Nat:=fsK os (psL os.length) (psL os.length).length
structure OsOk {G:Type} [DecidableEq G] (g:Fab G) (os:List Int):Prop where
 len:os.length=g.els.length
 pos: ∀o ∈ os,1≤o
 cnt: ∀q:Nat,1≤q→cntI os (q:Int)=(g.tor q).length
 lcm: ∀T:Nat,(∀o ∈ os,o∣(T:Int))↔ ∀x,g.pw x T=g.one
 exp: ∃E,1≤E∧ ∀x,g.pw x E=g.one
namespace OsOk
variable {G:Type} [DecidableEq G] {g:Fab G} {os:List Int} (h:OsOk g os)
theorem pos1 (h:OsOk g os):1≤os.length:=by rw[h.len];exact List.length_pos_of_mem (g.all g.one)
theorem ck (h:OsOk g os) {p:Nat} (hp:2≤p) (k:Nat):cK os p k=g.ct p k:=by
 unfold cK
 split
 ·rename_i e;rw [e,g.ct_zero]
 ·exact h.cnt _ (Nat.pow_pos Vn)
theorem ck_pp (h:OsOk g os) {p:Nat} (hp:Pr p) (k:Nat): ∃i,cK os p k=p ^ i:=by
 rw[h.ck hp.1];exact g.tor_pp hp k
theorem ck_mono (h:OsOk g os) {p:Nat} (hp:Pr p) (k:Nat):cK os p k≤cK os p (k+1):=by
 rw[h.ck hp.1,h.ck hp.1];exact g.ct_mono p k
theorem ck_le (h:OsOk g os) {p:Nat} (hp:Pr p): ∀k,k≤exN os.length p→cK os p k≤p ^ exN os.length p:=by
 intro k hk
 rw[h.ck hp.1]
 obtain ⟨m,hm,hm2⟩:=ex_spec hp.1 os.length h.pos1
 obtain ⟨E,hE,hx⟩:=h.exp
 have hs:=g.sylow hp hE hx (by rw[←h.len];exact hm) hm2
 have:=g.tor_sub (M:=p ^ k) (N:=p ^ exN os.length p) (Nat.pow_dvd_pow p hk)
 unfold Fab.ct;omega
theorem ck_top (h:OsOk g os) {p:Nat} (hp:Pr p):cK os p (exN os.length p)=p ^ exN os.length p:=by
 rw[h.ck hp.1]
 obtain ⟨m,hm,hm2⟩:=ex_spec hp.1 os.length h.pos1
 obtain ⟨E,hE,hx⟩:=h.exp
 exact g.sylow hp hE hx (by rw[←h.len];exact hm) hm2
theorem rnd_full (h:OsOk g os) {p:Nat} (hp:Pr p) {k:Nat} (hk:k≤exN os.length p) (hf:p ^ exN os.length p≤cK os p k) (l:List Nat):rnd os p l (exN os.length p)=rnd os p l k:=by
 have hmono: ∀m,k≤m→m≤exN os.length p→cK os p m=p ^ exN os.length p:=by
  intro m h1 h2
  have h3:=h.ck_le hp m h2
  have h4: ∀j,cK os p k≤cK os p (k+j):=by
   intro j
   induction j with
   |zero=>exact Nat.le_refl _
   |succ j ij=>exact Nat.le_trans ij (h.ck_mono hp (k+j))
  have h5:=h4 (m-k)
  rw[show k+(m-k)=m by omega] at h5
  omega
 have: ∀m,k≤m→m≤exN os.length p→rnd os p l m=rnd os p l k:=by
  intro m
  induction m with
  |zero=>intro h1 _;rw [show k=0 by omega]
  |succ m im=>
   intro h1 h2
   by_cases e:k=m+1
   ·rw [e]
   ·rw [rnd,hmono m Vn Vn,hmono (m+1) Vn h2,Nat.div_self (Nat.pow_pos (by have:=hp.1;omega)),ex_no (by have:=hp.1;rw [Nat.mod_eq_of_lt Vn];omega)]
    exact im Vn Vn
 exact this _ hk (Nat.le_refl _)
theorem parts (h:OsOk g os) {p:Nat} (hp:Pr p) (k:Nat):(1≤exN (cK os p (k+1) / cK os p k) p↔cK os p k<cK os p (k+1))∧1≤cK os p k∧1≤cK os p (k+1) / cK os p k:=by
 obtain ⟨i,hi⟩:=h.ck_pp hp k
 obtain ⟨j,hj⟩:=h.ck_pp hp (k+1)
 have hm:=h.ck_mono hp k
 rw[hi,hj] at hm ⊢
 have hij:i≤j:=(Nat.pow_le_pow_iff_right hp.1).1 hm
 have hp0:0<p:=by have:=hp.1;omega
 rw[Nat.pow_div hij hp0,ex_pow hp.1]
 refine ⟨⟨fun q=>(Nat.pow_lt_pow_iff_right hp.1).2 Vn,fun q=> ?_⟩,Nat.pow_pos hp0,Nat.pow_pos hp0⟩
 have:=(Nat.pow_lt_pow_iff_right hp.1).1 q
 omega
theorem rnd_first (h:OsOk g os) {p:Nat} (hp:Pr p) (l:List Nat): ∀k,(rnd os p l k).getD 0 1=p ^ g.rk p k*l.getD 0 1
 |0=>by simp [rnd,Fab.rk]
 |k+1=>by
  rw[rnd,mulF_first,rnd_first h hp l k,Fab.rk]
  have e:=(h.parts hp k).1
  rw[h.ck hp.1,h.ck hp.1] at e
  rw[h.ck hp.1,h.ck hp.1]
  by_cases q:g.ct p k<g.ct p (k+1)
  ·rw [if_pos (e.2 q),if_pos q,Nat.pow_add,Nat.pow_one,←Nat.mul_assoc,Nat.mul_comm p]
  ·rw [if_neg (fun c=>q (e.1 c)),if_neg q,Nat.one_mul];rfl
theorem fsP_first (h:OsOk g os): ∀{ps:List Nat} (l:List Nat),(∀p ∈ ps,Pr p)→(fsP os ps l).getD 0 1=Fab.prd (fun p=>p ^ g.rk p (exN os.length p)) ps*l.getD 0 1
 | [],l,_=>by simp [fsP,Fab.prd]
 |p :: ps,l,hp=>by
  rw[fsP,fsP_first h _ (fun x hx=>hp x W5),h.rnd_first (hp p Vs),Fab.prd,←Nat.mul_assoc,Nat.mul_comm (Fab.prd _ _)]
theorem greatest (h:OsOk g os) (T:Nat):(∀o ∈ os,o∣(T:Int))↔(fsL os).getD 0 1∣T:=by
 obtain ⟨p1,p2,p3,p4⟩:=ps_ok h.pos1
 obtain ⟨E,hE,hx⟩:=h.exp
 have e:(fsL os).getD 0 1=Fab.prd (fun p=>p ^ g.rk p (exN os.length p)) (psL os.length):=by
  unfold fsL fsK
  rw[List.take_length,h.fsP_first [] p2];simp
 rw[e,h.lcm T]
 refine g.expo hE hx p1 p2 (fun q h1 h2=>p4 q h1 (by rw[h.len];exact h2)) (fun p hp=> ?_) T
 obtain ⟨m,hm⟩:=ex_spec (p2 p hp).1 os.length h.pos1
 exact ⟨m,by rw[←h.len];exact hm.1,hm.2⟩
theorem rnd_bd {p:Nat} (hp:Pr p) {l:List Nat} {M:Nat} (hM: ∀x ∈ l,1≤x∧x≤M) (hM1:1≤M): ∀k,∀x ∈ rnd os p l k,1≤x∧x≤p ^ k*M:=by
 have mb: ∀r (l:List Nat) (M:Nat),1≤M→(∀x ∈ l,1≤x∧x≤M)→ ∀x ∈ mulF p r l,1≤x∧x≤p*M:=by
  intro r
  induction r with
  |zero=>
   intro l M hM1 hl x hx
   have:=hl x hx
   have h2:1*M≤p*M:=Nat.mul_le_mul_right M (by have:=hp.1;omega)
   omega
  |succ r ir=>
   intro l M hM1 hl x hx
   have hpM:p*1≤p*M:=Nat.mul_le_mul_left p hM1
   cases l with
   |nil=>
    rcases List.mem_cons.1 hx with rfl|hx
    ·have:=hp.1;omega
    ·exact ir [] M hM1 (fun y hy=>by cases hy) x hx
   |cons y l=>
    rcases List.mem_cons.1 hx with rfl|hx
    ·obtain ⟨b1,b2⟩:=hl y Vs
     have c1:=Nat.mul_le_mul_right p b2
     have c2:=Nat.mul_le_mul b1 (show 1≤p by have:=hp.1;omega)
     rw[Nat.mul_comm M p] at c1;omega
    ·exact ir l M hM1 (fun z hz=>hl z (by simp [hz])) x hx
 intro k
 induction k with
 |zero=>intro x hx;have:=hM x hx;simp;exact this
 |succ k ik=>
  intro x hx
  rw[rnd] at hx
  have:=mb _ _ _ (Nat.mul_le_mul (Nat.pow_pos (by have:=hp.1;omega):1≤p ^ k) hM1) ik x hx
  rw[Nat.pow_succ,Nat.mul_comm (p ^ k) p,Nat.mul_assoc];exact this
theorem fsP_bd (h:OsOk g os): ∀{ps:List Nat},(∀p ∈ ps,Pr p)→ ∀{l:List Nat} {M:Nat},1≤M→(∀x ∈ l,1≤x∧x≤M)→ ∀x ∈ fsP os ps l,1≤x∧x≤Fab.prd (fun p=>p ^ exN os.length p) ps*M
 | [],_,l,M,_,hl,x,hx=>by simp [Fab.prd];exact hl x hx
 |p :: ps,hp,l,M,hM,hl,x,hx=>by
  have hpp:=hp p Vs
  have:=fsP_bd h (fun q hq=>hp q (by simp [hq])) (Nat.mul_le_mul (Nat.pow_pos (by have:=hpp.1;omega):1≤p ^ exN os.length p) hM) (rnd_bd hpp hl hM (exN os.length p)) x hx
  rw[Fab.prd,Nat.mul_comm (p ^ _),Nat.mul_assoc];exact this
end OsOk

end Go.Proofs.YtobkcnmlmmhpoaaGreatDoor
namespace Go.Proofs.YtobkcnmlmmhpoaaGreatDoor
set_option linter.unusedVariables false
set_option linter.unusedSimpArgs false

def IsOr (D:Int) (W:T3) (n:Nat):Prop:=1≤n∧n≤2000∧poN D W n=onT D∧ ∀k,1≤k→k<n→poN D W k≠onT D
theorem isOr_ex {D:Int} {W:T3} (h:InD D W): ∃n,IsOr D W n:=by
 obtain ⟨n,h1,h2,h3⟩:=ord_ex h
 obtain ⟨m,⟨m1,m2,m3⟩,hm⟩:=least1 (P:=fun n=>1≤n∧n≤2000∧poN D W n=onT D) n ⟨h1,h2,h3⟩
 exact ⟨m,m1,m2,m3,fun k hk hlt he=>hm k hlt ⟨hk,Vn,he⟩⟩
open Classical in
noncomputable def orN (D:Int) (W:T3):Nat:=if h: ∃n,IsOr D W n then h.choose else 0
theorem or_is {D:Int} {W:T3} (h:InD D W):IsOr D W (orN D W):=by
 unfold orN
 rw[dif_pos (isOr_ex h)]
 exact (isOr_ex h).choose_spec
theorem or_here {D:Int} {W:T3} (h:InD D W) {n:Nat} (h1:1≤n) (h2:n≤orN D W) (h3:poN D W n=onT D):n=orN D W:=by
 rcases Nat.lt_or_ge n (orN D W) with q|q
 ·exact absurd h3 ((or_is h).2.2.2 n h1 q)
 ·omega
noncomputable def orL (d:Int):List Int:=(rfL d).map fun F=>(orN d F:Int)
theorem cg_one {d:Int} (hd:negB d=true) (x: {F:T3 // F ∈ rfL d}) (n:Nat):(cg d hd).pw x n=(cg d hd).one↔poN d x.1 n=onT d:=by
 rw[←cg_pw hd x n]
 exact ⟨fun h=>congrArg Subtype.val h,fun h=>Subtype.ext h⟩
theorem cg_ord {d:Int} (hd:negB d=true) (x: {F:T3 // F ∈ rfL d}):(cg d hd).IsOrd x (orN d x.1):=by
 obtain ⟨h1,_,h3,h4⟩:=or_is (rf_in hd x.2).1
 exact ⟨h1,(cg_one hd x _).2 h3,fun e he hl q=>h4 e he hl ((cg_one hd x _).1 q)⟩
theorem cg_os {d:Int} (hd:negB d=true):OsOk (cg d hd) (orL d):=by
 refine ⟨by rw[cg_len];exact List.length_map _,fun o ho=> ?_,fun q hq=> ?_,fun T=> ?_,facN 2000,fac_pos _,cg_exp hd⟩
 ·obtain ⟨F,hF,rfl⟩:=List.mem_map.1 ho
  have:=(or_is (rf_in hd hF).1).1
  omega
 ·have h1:((cg d hd).tor q).length=((rfL d).attach).countP (fun x=>decide (poN d x.1 q=onT d)):=by
   unfold Fab.tor
   rw[←List.countP_eq_length_filter]
   refine List.countP_congr fun x _=> ?_
   rw[decide_eq_true_eq,decide_eq_true_eq];exact cg_one hd x q
  have h2:((rfL d).attach).countP (fun x=>decide (poN d x.1 q=onT d))=(rfL d).countP (fun F=>decide (poN d F q=onT d)):=List.countP_attach (p:=fun F=>decide (poN d F q=onT d))
  rw[h1,h2]
  unfold cntI orL
  rw[←List.countP_eq_length_filter,List.countP_map]
  refine List.countP_congr fun F hF=> ?_
  rw[decide_eq_true_eq,←cg_one hd ⟨F,hF⟩,(cg_ord hd ⟨F,hF⟩).iff]
  show ((q:Int)%(orN d F:Int)==0)=true↔_
  rw[beq_iff_eq]
  constructor
  ·intro e;exact Int.natCast_dvd_natCast.1 (Int.dvd_of_emod_eq_zero e)
  ·intro e;exact Int.emod_eq_zero_of_dvd (Int.natCast_dvd_natCast.2 e)
 ·constructor
  ·intro h x
   have:=h (orN d x.1:Int) (List.mem_map.2 ⟨x.1,x.2,rfl⟩)
   exact (cg_ord hd x).iff.2 (Int.natCast_dvd_natCast.1 this)
  ·intro h o ho
   obtain ⟨F,hF,rfl⟩:=List.mem_map.1 ho
   exact Int.natCast_dvd_natCast.2 ((cg_ord hd ⟨F,hF⟩).iff.1 (h ⟨F,hF⟩))
def lcK (os:List Int):Nat→Int
 |0=>1
 |k+1=>lcK os k / igcd (lcK os k) (os.getD k 0)*os.getD k 0
theorem lc_step {a b:Int} (ha:1≤a) (hb:1≤b):1≤a / igcd a b*b∧ ∀T:Int,a / igcd a b*b∣T↔a∣T∧b∣T:=by
 obtain ⟨m,rfl⟩:=Int.eq_ofNat_of_zero_le (show 0≤a by omega)
 obtain ⟨n,rfl⟩:=Int.eq_ofNat_of_zero_le (show 0≤b by omega)
 have e:(m:Int) / igcd m n*(n:Int)=((Nat.lcm m n:Nat):Int):=by
  unfold igcd
  rw[Int.gcd_natCast_natCast,←Int.natCast_ediv,←Int.natCast_mul]
  congr 1
  have hg:=Nat.gcd_dvd_left m n
  rw[Nat.lcm,Nat.div_mul_right_comm hg]
 rw[e]
 refine ⟨?_,fun T=>⟨fun h=>⟨Int.dvd_trans (Int.natCast_dvd_natCast.2 (Nat.dvd_lcm_left m n)) h,Int.dvd_trans (Int.natCast_dvd_natCast.2 (Nat.dvd_lcm_right m n)) h⟩,fun ⟨h1,h2⟩=> ?_⟩⟩
 ·have:=Nat.lcm_pos (m:=m) (n:=n) Vn Vn
  omega
 ·have h3:=Int.ofNat_dvd_left.1 h1
  have h4:=Int.ofNat_dvd_left.1 h2
  exact Int.ofNat_dvd_left.2 (Nat.lcm_dvd h3 h4)
theorem lcK_ok {os:List Int} (hp: ∀o ∈ os,1≤o): ∀k,k≤os.length→1≤lcK os k∧ ∀T:Int,lcK os k∣T↔ ∀i,i<k→os.getD i 0∣T
 |0,_=>⟨Int.le_refl 1,fun T=>⟨fun _ i hi=>absurd hi (Nat.not_lt_zero _),fun _=>Int.one_dvd T⟩⟩
 |k+1,hk=>by
  obtain ⟨h1,h2⟩:=lcK_ok hp k Vn
  have hm:os.getD k 0 ∈ os:=by rw[List.getD_eq_getElem?_getD,List.getElem?_eq_getElem (show k<os.length by omega)];exact List.getElem_mem _
  obtain ⟨h3,h4⟩:=lc_step h1 (hp _ hm)
  refine ⟨h3,fun T=> ?_⟩
  rw[lcK,h4 T,h2 T]
  constructor
  ·rintro ⟨a,b⟩ i hi
   by_cases q:i=k
   ·rw [q];exact b
   ·exact a i Vn
  ·intro a
   exact ⟨fun i hi=>a i Vn,a k Vn⟩
theorem lc_top {d:Int} (hd:negB d=true):lcK (orL d) (orL d).length=(((fsL (orL d)).getD 0 1:Nat):Int):=by
 have h:=cg_os hd
 obtain ⟨h1,h2⟩:=lcK_ok h.pos _ (Nat.le_refl _)
 have hi: ∀T:Int,(∀i,i<(orL d).length→(orL d).getD i 0∣T)↔ ∀o ∈ orL d,o∣T:=fun T=>⟨fun a o ho=>by
  obtain ⟨i,hi,he⟩:=List.getElem_of_mem ho
  have:=a i hi
  rw[List.getD_eq_getElem?_getD,List.getElem?_eq_getElem hi,Option.getD_some,he] at this
  exact this,fun a i hi=>a _ (by rw[List.getD_eq_getElem?_getD,List.getElem?_eq_getElem hi];exact List.getElem_mem _)⟩
 obtain ⟨m,hm⟩:=Int.eq_ofNat_of_zero_le (show 0≤lcK (orL d) (orL d).length by omega)
 have a1:(fsL (orL d)).getD 0 1∣m:=(h.greatest m).1 ((hi _).1 ((h2 _).1 (by rw[hm];exact Int.dvd_refl _)))
 have a2:(m:Int)∣(((fsL (orL d)).getD 0 1:Nat):Int):=by
  rw[←hm]
  exact (h2 _).2 ((hi _).2 ((h.greatest _).2 (Nat.dvd_refl _)))
 rw[hm]
 congr 1
 exact Nat.dvd_antisymm (Int.natCast_dvd_natCast.1 a2) a1
theorem lc_bd {d:Int} (hd:negB d=true) {k:Nat} (hk:k≤(orL d).length):1≤lcK (orL d) k∧lcK (orL d) k≤(((fsL (orL d)).getD 0 1:Nat):Int):=by
 have h:=cg_os hd
 obtain ⟨h1,h2⟩:=lcK_ok h.pos k hk
 obtain ⟨t1,t2⟩:=lcK_ok h.pos _ (Nat.le_refl (orL d).length)
 refine ⟨h1,?_⟩
 rw[←lc_top hd]
 have:lcK (orL d) k∣lcK (orL d) (orL d).length:=(h2 _).2 fun i hi=>(t2 _).1 (Int.dvd_refl _) i Vn
 exact Int.le_of_dvd Vn this
theorem fs_bd {d:Int} (hd:negB d=true): ∀x ∈ fsL (orL d),1≤x∧x≤(orL d).length:=by
 have h:=cg_os hd
 obtain ⟨p1,p2,p3,p4⟩:=ps_ok h.pos1
 intro x hx
 unfold fsL fsK at hx
 rw[List.take_length] at hx
 have:=h.fsP_bd p2 (l:= []) (M:=1) (Nat.le_refl _) (fun y hy=>by cases hy) x hx
 rw[Nat.mul_one,Fab.prd_all h.pos1 p1 p2 p4 (fun p hp=>ex_spec (p2 p hp).1 _ h.pos1)] at this
 exact this
end Go.Proofs.YtobkcnmlmmhpoaaGreatDoor
