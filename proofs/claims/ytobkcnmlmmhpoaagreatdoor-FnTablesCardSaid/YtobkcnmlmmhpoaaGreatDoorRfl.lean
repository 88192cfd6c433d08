/- Forms as triples: bounds, reduced forms, discriminants. Pairs and rows of class forms on both sides. Plain: the reduced forms of a discriminant are a finite abelian group; the identity is the first of them. -/
import Derived.Test.YtobkcnmlmmhpoaaGreatDoorGp
import Derived.Test.YtobkcnmlmmhpoaaGreatDoorRule
import Derived.Test.YtobkcnmlmmhpoaaGreatDoorOwn
import Derived.Test.YtobkcnmlmmhpoaaGreatDoorPt
import Derived.Test.YtobkcnmlmmhpoaaGreatDoorGi
import Derived.Test.YtobkcnmlmmhpoaaGreatDoorGrp
namespace Go.Proofs.YtobkcnmlmmhpoaaGreatDoor
open Go.RowKit
set_option linter.unusedVariables false
set_option linter.unusedSimpArgs false
attribute [local go_sem] q2 q3 q4 q5 q6 q7 q8 q9 q10 q11 q12

structure Frm (D:Int) (F:T3):Prop where
 i:InD D F
 f:formB F.1 F.2.1 F.2.2=true
theorem Frm.of {D:Int} {F:T3} (h:InD D F) (h2:RcT F):Frm D F:=⟨h,red_form h2⟩
theorem Frm.rd {D:Int} {F:T3} (h:Frm D F):Frm D (rdT F):= .of h.i.rd (rd_rc h.i.cl)
theorem Frm.cp {D:Int} {F G:T3} (h:Frm D F) (h2:Frm D G):Frm D (cmp F G):= .of (h.i.cp h2.i) (h.i.rc h2.i)
theorem Frm.on {D:Int} {F:T3} (h:Frm D F):Frm D (onT D)∧RcT (onT D):=by
 have:=one_in h.i.cl
 rw[h.i.d] at this
 exact ⟨.of this.1 this.2,this.2⟩
theorem Frm.dd {D:Int} {F:T3} (h:Frm D F): -2000≤D∧D<0:=by
 have h1:=h.i.cl.ok.d0
 have h2:=h.i.cl.ok.d1
 have h3:discI F.1 F.2.1 F.2.2=D:=h.i.d
 omega

noncomputable def pwD (D:Int) (F:T3) (k:Int):T3:=pwL (onT D) (rdT F) k.toNat
theorem Frm.pw {D:Int} {F:T3} (h:Frm D F) (k:Int):Frm D (pwD D F k):= .of (pwL_in _ h.on.1.i h.i.rd) (pwL_rc _ h.on.1.i h.i.rd h.on.2)
end Go.Proofs.YtobkcnmlmmhpoaaGreatDoor
namespace Go.Proofs.YtobkcnmlmmhpoaaGreatDoor
open Go.RowKit
set_option linter.unusedVariables false
set_option linter.unusedSimpArgs false
attribute [local go_sem] q2 q3 q4 q5 q6 q7 q8 q9 q10 q11 q12

theorem cls_of {a b c:Int} (h:classB a b c=true):Cls a b c:=by
 obtain ⟨ha,hb,hc⟩:=form_true (class_form h)
 have hd:=class_disc h
 have h2:=shown_def (class_shown h)
 unfold defB at h2;simp at h2
 have hbb:0≤b*b:=by
  by_cases q:0≤b
  ·exact Int.mul_nonneg q q
  ·exact Int.mul_nonneg_of_nonpos_of_nonpos Vn Vn
 have e:4*a*c=4*(a*c):=Int.mul_assoc _ _ _
 have hac:0<a*c:=by unfold discI at hd;omega
 have c0:0<c:=by
  by_cases q:0<c
  ·exact q
  ·have:=Int.mul_nonneg_of_nonpos_of_nonpos (a:= -a) (b:=c) Vn Vn
   rw[Int.neg_mul] at this;omega
 refine ⟨⟨h2.2.2,Vn,Vn,Vn,c0,Vn,hd.1,hd.2⟩,prim_gcd ?_⟩
 unfold classB at h;simp at h
 have h3:=h.2
 rw[←cont_alt] at h3
 unfold igcd at h3
 omega
end Go.Proofs.YtobkcnmlmmhpoaaGreatDoor
namespace Go.Proofs.YtobkcnmlmmhpoaaGreatDoor
set_option linter.unusedVariables false
set_option linter.unusedSimpArgs false

theorem flN_nodup {α:Type} {p:Nat→Bool} {e:Nat→α} : ∀{k:Nat},(∀i j,i<k→j<k→p i=true→p j=true→e i=e j→i=j)→(flN p e k).Nodup
 |0,_=>List.nodup_nil
 |k+1,h=>by
  have ih:=flN_nodup (p:=p) (e:=e) (k:=k) (fun i j hi hj=>h i j Vn Vn)
  rw[flN]
  split
  ·rename_i hp
   refine List.nodup_append.2 ⟨ih,Vs,?_⟩
   intro x hx y hy hxy
   have hy2:y=e k:=by simpa using hy
   obtain ⟨j,h1,h2,h3⟩:=flN_mem hx
   have:=h j k Vn Vn h2 hp (by rw[←h3,hxy,hy2])
   omega
  ·exact ih
theorem allB3_nodup (d:Int): ∀a,(allB3 d a).Nodup
 |0=>List.nodup_nil
 |a+1=>by
  rw[allB3_succ]
  refine List.nodup_append.2 ⟨allB3_nodup d a,flN_nodup (fun i j _ _ _ _ e=> ?_),?_⟩
  ·unfold rowE at e
   have:=congrArg (fun f:Int × Int × Int=>f.2.1) e
   simp at this;omega
  ·intro x hx y hy e
   obtain ⟨a',j',h1,h2,_,rfl⟩:=allB3_of a hx
   obtain ⟨j,_,_,rfl⟩:=flN_mem hy
   have:=congrArg (fun f:Int × Int × Int=>f.1) e
   simp [rowE] at this;omega
theorem rf_nodup (d:Int):(rfL d).Nodup:=by
 refine flN_nodup (fun i j hi hj _ _ e=> ?_)
 have e2:(allR d).getD i (0,0,0)=(allR d).getD j (0,0,0):=e
 simp only[List.getD_eq_getElem?_getD,List.getElem?_eq_getElem hi,List.getElem?_eq_getElem hj,Option.getD_some] at e2
 exact (List.getElem_inj (allB3_nodup d (aN d))).1 e2
theorem prim_cont {a b c:Int} (h:Prim a b c):contI a b c=1:=by
 have h1:=Int.gcd_dvd_left (a:=a) (b:=igcd b c)
 have h2:=Int.gcd_dvd_right (a:=a) (b:=igcd b c)
 have h3:(igcd b c)∣b:=Int.gcd_dvd_left (a:=b) (b:=c)
 have h4:(igcd b c)∣c:=Int.gcd_dvd_right (a:=b) (b:=c)
 have h5:=h (contI a b c) h1 (Int.dvd_trans h2 h3) (Int.dvd_trans h2 h4)
 have h6:=igcd_nonneg a (igcd b c)
 have:=Int.le_of_dvd Vn h5
 unfold contI at*
 have h0:igcd a (igcd b c)≠0:=fun e=>by rw[e] at h5;exact absurd h5 VA
 omega
theorem rf_mem {d:Int} {F:T3} (h:InD d F) (hr:RcT F):F ∈ rfL d:=by
 obtain ⟨a,b,c⟩:=F
 have hr2:RedC a b c:=hr
 have ok:=hr2.cls.ok
 have hD:b*b-4*a*c=d:=h.d
 have hred:=hr2.red
 have hred2:=hred
 unfold redB normB at hred2
 simp at hred2
 obtain ⟨⟨n1,n2⟩,n3⟩:=hred2
 have a0:=ok.a0
 have d1:=ok.d1
 have hd1:d<0:=by have:discI a b c=d:=h.d;omega
 have hac:a≤c:=by rcases n3 with q|q<;>omega
 have m1:a*a≤a*c:=Int.mul_le_mul_of_nonneg_left hac Vn
 have m2:b*b≤a*a:=by
  by_cases q:0≤b
  ·exact Int.mul_le_mul n2 n2 q Vn
  ·have:=Int.mul_le_mul (a:= -b) (b:= -b) (c:=a) (d:=a) Vn Vn Vn Vn
   rw[Int.neg_mul_neg] at this;exact this
 have e4:4*a*c=4*(a*c):=Int.mul_assoc _ _ _
 obtain ⟨an,rfl⟩:=Int.eq_ofNat_of_zero_le (show 0≤a by omega)
 have hmul:1*1≤(an:Int)*(an:Int):=Int.mul_le_mul Vn Vn Vn Vn
 have hd3:d≤ -3:=by omega
 have haN:an<aN d:=(aN_iff hd3).2 (by have e5:3*(an:Int)*(an:Int)=3*((an:Int)*(an:Int)):=Int.mul_assoc _ _ _;omega)
 obtain ⟨j,hj,hjb⟩: ∃j:Nat,j<2*an∧1-(an:Int)+j=b:=⟨(b-1+an).toNat,Vn,Vn⟩
 have hq:b*b-d=4*(an:Int)*c:=by omega
 have hc:cOf d an b=c:=by unfold cOf;rw [hq,Int.mul_ediv_cancel_left _ Vn]
 have hp:rowP d an j=true:=by
  unfold rowP
  rw[hjb,hc,hq,Int.mul_emod_right,hred];rfl
 have hE:rowE d an j=((an:Int),b,c):=by unfold rowE;rw [hjb,hc]
 have hm:((an:Int),b,c) ∈ allR d:=by rw[←hE];exact allB3_in hj hp haN
 obtain ⟨i,hi,he⟩:=List.getElem_of_mem hm
 have hg:(allR d).getD i (0,0,0)=((an:Int),b,c):=by rw[List.getD_eq_getElem?_getD,List.getElem?_eq_getElem hi];exact he
 have:=flN_in (p:=fun i=>primI ((allR d).getD i (0,0,0))) (e:=fun i=>(allR d).getD i (0,0,0)) (j:=i) (by show primI _=true;rw [hg];unfold primI;rw [prim_cont hr2.cls.pr];rfl) hi
 rw[hg] at this
 exact this
theorem rf_in {d:Int} (hd:negB d=true) {F:T3} (h:F ∈ rfL d):InD d F∧RcT F:=by
 have ho:=rf_ok hd h
 have hc:=cls_of ho.cls
 exact ⟨⟨hc,ho.disc⟩,hc,ho.red⟩
theorem neg_on {d:Int} (hd:negB d=true):InD d (onT d)∧RcT (onT d):=by
 obtain ⟨d0,d1⟩:=neg_true hd
 have hm4:d%4=0∨d%4=1:=by unfold negB at hd;simp at hd;omega
 exact on_facts d0 Vn Vn
theorem flN_first {α:Type} {p:Nat→Bool} {e:Nat→α} (h:p 0=true) (x:α): ∀k,(flN p e (k+1)).getD 0 x=e 0
 |0=>by rw[flN_yes h];rfl
 |k+1=>by
  have ih:=flN_first (p:=p) (e:=e) h x k
  rw[flN]
  split
  ·have hl:0<(flN p e (k+1)).length:=List.length_pos_of_mem (flN_in (p:=p) (e:=e) h Vn)
   rw[List.getD_eq_getElem?_getD,List.getElem?_append_left hl,←List.getD_eq_getElem?_getD,ih]
  ·exact ih
theorem allB3_first {d:Int} {x:Int × Int × Int} (h:0<(allB3 d 2).length): ∀k,(allB3 d (k+2)).getD 0 x=(allB3 d 2).getD 0 x
 |0=>rfl
 |k+1=>by
  have ih:=allB3_first (d:=d) (x:=x) h k
  have hl:0<(allB3 d (k+2)).length:=by
   have: ∀m,0<(allB3 d (m+2)).length:=by
    intro m
    induction m with
    |zero=>exact h
    |succ m im=>rw[allB3_succ,List.length_append];omega
   exact this k
  rw[allB3_succ,List.getD_eq_getElem?_getD,List.getElem?_append_left hl,←List.getD_eq_getElem?_getD,ih]
theorem rf_zero {d:Int} (hd:negB d=true):(rfL d).getD 0 (0,0,0)=onT d:=by
 obtain ⟨d0,d1⟩:=neg_true hd
 have hm4:d%4=0∨d%4=1:=by unfold negB at hd;simp at hd;omega
 have haN:1<aN d:=(aN_iff d1).2 VX
 have hon:=neg_on hd
 have hp0:rowP d 1 0=decide (d%2=0):=by
  unfold rowP redB normB cOf
  simp
  rcases hm4 with h|h
  ·have e1:(-d)%4=0:=by omega
   have e2:d%2=0:=by omega
   have e3:1≤ -d / 4:=by omega
   simp [e1,e2]<;>omega
  ·have e1:(-d)%4≠0:=by omega
   have e2:d%2≠0:=by omega
   simp [e1,e2]<;>omega
 have hp1:rowP d 1 1=decide (d%2=1):=by
  unfold rowP redB normB cOf
  simp
  rcases hm4 with h|h
  ·have e1:(1-d)%4≠0:=by omega
   have e2:d%2≠1:=by omega
   simp [e1,e2]<;>omega
  ·have e1:(1-d)%4=0:=by omega
   have e2:d%2=1:=by omega
   have e3:1≤(1-d) / 4:=by omega
   simp [e1,e2]<;>omega
 have h2:(allB3 d 2).getD 0 (0,0,0)=onT d∧0<(allB3 d 2).length:=by
  rw[allB3_succ,allB3_one,List.nil_append]
  show (flN (rowP d 1) (rowE d 1) 2).getD 0 (0,0,0)=onT d∧0<(flN (rowP d 1) (rowE d 1) 2).length
  rcases Int.emod_two_eq d with q|q
  ·have p0:rowP d 1 0=true:=by rw[hp0,q];rfl
   have p1:rowP d 1 1=false:=by rw[hp1,q];rfl
   rw[flN_no p1,flN_yes p0]
   refine ⟨?_,by simp [flN]⟩
   show rowE d 1 0=onT d
   unfold rowE onT cOf;rw [q];simp
  ·have p0:rowP d 1 0=false:=by rw[hp0,q];rfl
   have p1:rowP d 1 1=true:=by rw[hp1,q];rfl
   rw[flN_yes p1,flN_no p0]
   refine ⟨?_,by simp [flN]⟩
   show rowE d 1 1=onT d
   unfold rowE onT cOf;rw [q];simp
 obtain ⟨k,hk⟩: ∃k,aN d=k+2:=⟨aN d-2,Vn⟩
 have h3:(allR d).getD 0 (0,0,0)=onT d:=by unfold allR;rw [hk,allB3_first h2.2,h2.1]
 have hl:0<(allR d).length:=by
  have:=rf_pos hd
  have:=flN_len (fun i=>primI ((allR d).getD i (0,0,0))) (fun i=>(allR d).getD i (0,0,0)) (allR d).length
  have e:(flN (fun i=>primI ((allR d).getD i (0,0,0))) (fun i=>(allR d).getD i (0,0,0)) (allR d).length).length=(rfL d).length:=rfl
  omega
 obtain ⟨m,hm⟩: ∃m,(allR d).length=m+1:=⟨(allR d).length-1,Vn⟩
 have hon2:RedC (onT d).1 (onT d).2.1 (onT d).2.2:=hon.2
 have:=flN_first (p:=fun i=>primI ((allR d).getD i (0,0,0))) (e:=fun i=>(allR d).getD i (0,0,0)) (by show primI _=true;rw [h3];unfold primI;rw [prim_cont hon2.cls.pr];rfl) (0,0,0) m
 unfold rfL primL
 rw[hm]
 exact this.trans h3
noncomputable def cg (d:Int) (hd:negB d=true):Fab {F:T3 // F ∈ rfL d} where
 els:=(rfL d).attach
 nd:=by
  have h:=rf_nodup d
  rw[←List.attach_map_subtype_val (rfL d)] at h
  exact (List.pairwise_map.1 h).imp fun {a b} h e=>h (by rw[e])
 all:=fun x=>List.mem_attach _ x
 mul:=fun x y=>⟨cmp x.1 y.1,rf_mem ((rf_in hd x.2).1.cp (rf_in hd y.2).1) ((rf_in hd x.2).1.rc (rf_in hd y.2).1)⟩
 one:=⟨onT d,rf_mem (neg_on hd).1 (neg_on hd).2⟩
 inv:=fun x=>⟨rdT (inT x.1),rf_mem (inT_in (rf_in hd x.2).1).rd (rd_rc (inT_in (rf_in hd x.2).1).cl)⟩
 assoc:=fun x y z=>Subtype.ext (cmp_assoc (rf_in hd x.2).1 (rf_in hd y.2).1 (rf_in hd z.2).1)
 comm:=fun x y=>Subtype.ext (cmp_comm (rf_in hd x.2).1 (rf_in hd y.2).1)
 one_mul:=fun x=>Subtype.ext ((one_cmp (rf_in hd x.2).1).trans (rd_same (rf_in hd x.2).2))
 inv_mul:=fun x=>Subtype.ext (by
  have hx:=(rf_in hd x.2).1
  have h2:=inT_in hx
  show cmp (rdT (inT x.1)) x.1=onT d
  rw[cp_rd1 h2.cl hx.cl (hx.d.trans h2.d.symm),cmp_comm h2 hx,cmp_inv hx])
theorem cg_pw {d:Int} (hd:negB d=true) (x: {F:T3 // F ∈ rfL d}): ∀n,((cg d hd).pw x n).1=poN d x.1 n
 |0=>rfl
 |n+1=>by
  show cmp ((cg d hd).pw x n).1 x.1=_
  rw[cg_pw hd x n];rfl
theorem cg_len {d:Int} (hd:negB d=true):(cg d hd).els.length=(rfL d).length:=List.length_attach
def facN:Nat→Nat
 |0=>1
 |n+1=>(n+1)*facN n
theorem fac_pos: ∀n,1≤facN n
 |0=>Nat.le_refl _
 |n+1=>Nat.mul_le_mul (show 1≤n+1 by omega) (fac_pos n)
theorem fac_dvd {k:Nat} (hk:1≤k): ∀{n:Nat},k≤n→k∣facN n
 |0,h=>by omega
 |n+1,h=>by
  by_cases q:k=n+1
  ·rw [q];exact Nat.dvd_mul_right _ _
  ·exact Nat.dvd_trans (fac_dvd hk (show k≤n by omega)) (Nat.dvd_mul_left _ _)
theorem cg_exp {d:Int} (hd:negB d=true) (x: {F:T3 // F ∈ rfL d}):(cg d hd).pw x (facN 2000)=(cg d hd).one:=by
 obtain ⟨n,h1,h2,h3⟩:=ord_ex (rf_in hd x.2).1
 exact (cg d hd).pw_dvd (Subtype.ext ((cg_pw hd x n).trans h3)) (fac_dvd h1 h2)
end Go.Proofs.YtobkcnmlmmhpoaaGreatDoor
