/- The composite (impl). The composite of two classes (impl). -/
import Derived.Test.YtobkcnmlmmhpoaaGreatDoorUnw
namespace Go.Proofs.YtobkcnmlmmhpoaaGreatDoor
set_option maxRecDepth 100000
set_option maxHeartbeats 80000000
open Go.RowKit
set_option linter.unusedVariables false
set_option linter.unusedSimpArgs false
attribute [local go_sem] q2 q3 q4 q5 q6 q7 q8 q9 q10 q11 q12

theorem composite_a (a e t s m0 m1 m2 m3 n0 n1 n2 n3:Int) (w:World) (h0:0≤a*e∧a*e≤1000000):
  Calls Tryz.prog 141 #[.agg #[.int .i64 a,.int .i64 e,.int .i64 t,.int .i64 s,.int .i64 m0,.int .i64 m1,.int .i64 m2,.int .i64 m3,.int .i64 n0,.int .i64 n1,.int .i64 n2,.int .i64 n3]] w fun e' w'=>e'= .returned (.agg #[.int .i64 (a*e),.int .i64 t,.int .i64 s])∧Below w.heap.size w w':=by
 go_enter Tryz.func141,Tryz.ntmps141
 go_wp2
 refine bodyPost_ret (v:= .agg #[.int .i64 (a*e),.int .i64 t,.int .i64 s]) (by simp [results,Tryz.results141,go_sem, *]) rfl ?_
 refine ⟨rfl,?_⟩
 (repeat' first|with_reducible (first|exact Below.refl _ _|assumption|refine gr_alloc ?_ _|refine below_drewN ?_ _|refine below_drew ?_|refine gr_call ?_ VV|refine Below.setCell ?_ ?_ _)|go_size|omega|(simp;omega))

theorem composite_v (a b c p q r:Int) (x y:Nat) (w:World) (h0:0≤a*cpE p q r x y∧a*cpE p q r x y≤1000000):
  Calls Tryz.prog 141 #[uV a b c p q r x y] w fun e' w'=>e'= .returned (.agg #[.int .i64 (a*cpE p q r x y),.int .i64 (uT a b (cpE p q r x y) (cpB p q r x y)),.int .i64 (uS a b c (cpE p q r x y) (cpB p q r x y))])∧Below w.heap.size w w':=composite_a _ _ _ _ _ _ _ _ _ _ _ _ w h0
end Go.Proofs.YtobkcnmlmmhpoaaGreatDoor
namespace Go.Proofs.YtobkcnmlmmhpoaaGreatDoor
open Go.RowKit
set_option linter.unusedVariables false
set_option linter.unusedSimpArgs false
attribute [local go_sem] q2 q3 q4 q5 q6 q7 q8 q9 q10 q11 q12

theorem reduced_rw (a b c x y z:Int) (h:OkF a b c) (e1:rfA a b c=x) (e2:rfB a b c=y) (e3:rfC a b c=z) (w:World):
  Calls Tryz.prog 98 #[.agg #[.int .i64 a,.int .i64 b,.int .i64 c]] w fun e w'=>e= .returned (.agg #[.int .i64 x,.int .i64 y,.int .i64 z])∧Below w.heap.size w w':=by
 subst e1 e2 e3;exact reduced_a a b c w h
theorem compose_r (a b c p q r:Int) (w:World) (hc1:Cls a b c) (hc2:Cls p q r) (hdd:discI p q r=discI a b c):
  Calls Tryz.prog 114 #[.agg #[.int .i64 a,.int .i64 b,.int .i64 c],.agg #[.int .i64 p,.int .i64 q,.int .i64 r]] w fun e' w'=> ∃u v k,e'= .returned (.agg #[.int .i64 u,.int .i64 v,.int .i64 k])∧CpR a b c p q r u v k∧Below w.heap.size w w':=by
 have r1:=rdr_of hc1
 have r2:=rdr_of hc2
 obtain ⟨x1,hx1⟩: ∃x1,rfA a b c=x1:=⟨_,rfl⟩
 obtain ⟨y1,hy1⟩: ∃y1,rfB a b c=y1:=⟨_,rfl⟩
 obtain ⟨z1,hz1⟩: ∃z1,rfC a b c=z1:=⟨_,rfl⟩
 obtain ⟨x2,hx2⟩: ∃x2,rfA p q r=x2:=⟨_,rfl⟩
 obtain ⟨y2,hy2⟩: ∃y2,rfB p q r=y2:=⟨_,rfl⟩
 obtain ⟨z2,hz2⟩: ∃z2,rfC p q r=z2:=⟨_,rfl⟩
 change RdR a b c (rfA a b c) (rfB a b c) (rfC a b c) at r1
 change RdR p q r (rfA p q r) (rfB p q r) (rfC p q r) at r2
 rw[hx1,hy1,hz1] at r1
 rw[hx2,hy2,hz2] at r2
 have hr1:=reduced_rw a b c x1 y1 z1 hc1.ok hx1 hy1 hz1
 have hr2:=reduced_rw p q r x2 y2 z2 hc2.ok hx2 hy2 hz2
 have h1:RedC x1 y1 z1:=r1.rc
 have h2:RedC x2 y2 z2:=r2.rc
 have hD:discI x2 y2 z2=discI x1 y1 z1:=by rw[r2.dd,hdd,r1.dd]
 have hs:=red_small h1.cls.ok h1.red
 have ha:=h1.cls.ok.a0
 obtain ⟨kk,hf⟩:=fp_ex (a:=x2) (b:=y2) (c:=z2) (m:=x1) Vn Vn h2.cls.pr
 obtain ⟨_,hU⟩:=uni_facts h1 h2 hD hf
 have hI:=hU.isu
 obtain ⟨_,_,_,_,_,hcl,hdd3,_,_⟩:=hI.facts h1 h2 hD
 have r3:=rdr_of hcl
 obtain ⟨u,hu⟩: ∃u,rfA (x1*cpE x2 y2 z2 (fpP x2 y2 z2 x1).1 (fpP x2 y2 z2 x1).2) (uT x1 y1 (cpE x2 y2 z2 (fpP x2 y2 z2 x1).1 (fpP x2 y2 z2 x1).2) (cpB x2 y2 z2 (fpP x2 y2 z2 x1).1 (fpP x2 y2 z2 x1).2)) (uS x1 y1 z1 (cpE x2 y2 z2 (fpP x2 y2 z2 x1).1 (fpP x2 y2 z2 x1).2) (cpB x2 y2 z2 (fpP x2 y2 z2 x1).1 (fpP x2 y2 z2 x1).2))=u:=⟨_,rfl⟩
 obtain ⟨v,hv⟩: ∃v,rfB (x1*cpE x2 y2 z2 (fpP x2 y2 z2 x1).1 (fpP x2 y2 z2 x1).2) (uT x1 y1 (cpE x2 y2 z2 (fpP x2 y2 z2 x1).1 (fpP x2 y2 z2 x1).2) (cpB x2 y2 z2 (fpP x2 y2 z2 x1).1 (fpP x2 y2 z2 x1).2)) (uS x1 y1 z1 (cpE x2 y2 z2 (fpP x2 y2 z2 x1).1 (fpP x2 y2 z2 x1).2) (cpB x2 y2 z2 (fpP x2 y2 z2 x1).1 (fpP x2 y2 z2 x1).2))=v:=⟨_,rfl⟩
 obtain ⟨k,hk⟩: ∃k,rfC (x1*cpE x2 y2 z2 (fpP x2 y2 z2 x1).1 (fpP x2 y2 z2 x1).2) (uT x1 y1 (cpE x2 y2 z2 (fpP x2 y2 z2 x1).1 (fpP x2 y2 z2 x1).2) (cpB x2 y2 z2 (fpP x2 y2 z2 x1).1 (fpP x2 y2 z2 x1).2)) (uS x1 y1 z1 (cpE x2 y2 z2 (fpP x2 y2 z2 x1).1 (fpP x2 y2 z2 x1).2) (cpB x2 y2 z2 (fpP x2 y2 z2 x1).1 (fpP x2 y2 z2 x1).2))=k:=⟨_,rfl⟩
 change RdR _ _ _ (rfA (x1*cpE x2 y2 z2 (fpP x2 y2 z2 x1).1 (fpP x2 y2 z2 x1).2) (uT x1 y1 (cpE x2 y2 z2 (fpP x2 y2 z2 x1).1 (fpP x2 y2 z2 x1).2) (cpB x2 y2 z2 (fpP x2 y2 z2 x1).1 (fpP x2 y2 z2 x1).2)) (uS x1 y1 z1 (cpE x2 y2 z2 (fpP x2 y2 z2 x1).1 (fpP x2 y2 z2 x1).2) (cpB x2 y2 z2 (fpP x2 y2 z2 x1).1 (fpP x2 y2 z2 x1).2))) (rfB (x1*cpE x2 y2 z2 (fpP x2 y2 z2 x1).1 (fpP x2 y2 z2 x1).2) (uT x1 y1 (cpE x2 y2 z2 (fpP x2 y2 z2 x1).1 (fpP x2 y2 z2 x1).2) (cpB x2 y2 z2 (fpP x2 y2 z2 x1).1 (fpP x2 y2 z2 x1).2)) (uS x1 y1 z1 (cpE x2 y2 z2 (fpP x2 y2 z2 x1).1 (fpP x2 y2 z2 x1).2) (cpB x2 y2 z2 (fpP x2 y2 z2 x1).1 (fpP x2 y2 z2 x1).2))) (rfC (x1*cpE x2 y2 z2 (fpP x2 y2 z2 x1).1 (fpP x2 y2 z2 x1).2) (uT x1 y1 (cpE x2 y2 z2 (fpP x2 y2 z2 x1).1 (fpP x2 y2 z2 x1).2) (cpB x2 y2 z2 (fpP x2 y2 z2 x1).1 (fpP x2 y2 z2 x1).2)) (uS x1 y1 z1 (cpE x2 y2 z2 (fpP x2 y2 z2 x1).1 (fpP x2 y2 z2 x1).2) (cpB x2 y2 z2 (fpP x2 y2 z2 x1).1 (fpP x2 y2 z2 x1).2))) at r3
 rw[hu,hv,hk] at r3
 have hr3:=reduced_rw _ _ _ u v k hcl.ok hu hv hk
 have hae:0≤x1*cpE x2 y2 z2 (fpP x2 y2 z2 x1).1 (fpP x2 y2 z2 x1).2∧x1*cpE x2 y2 z2 (fpP x2 y2 z2 x1).1 (fpP x2 y2 z2 x1).2≤1000000:=⟨by have:=hU.ae;omega,by have:=hU.ae;omega⟩
 have HC:Hid (CpR a b c p q r u v k):=hide ⟨_,_,_,_,_,_,_,_,_,r1,r2,hdd,hI,r3⟩
 clear hx1 hy1 hz1 hx2 hy2 hz2 r1 r2 r3 hc1 hc2 hdd hs ha hU hI hcl hdd3 hu hv hk hf
 go_enter Tryz.func114,Tryz.ntmps114
 go_upto_region 1 with fail
 go_cut [] (fun  wx=>Ri3 wx w.heap.size a b c∧Ri3 wx (w.heap.size+1) p q r∧Wi3 wx (w.heap.size+1+1) u v k∧Below w.heap.size w wx)
 case first=>
  have h1:=trivial
  rename_i K2 h2 h3
  refine region_n0 Vw (fun j=> #[5,6,7,8,9,10,11,4].getD j 0) (fun j=>Kd.ok ((fun j=>match j with|0=>Kd.val (.agg #[.int .i64 a,.int .i64 b,.int .i64 c])|1=>Kd.val (.agg #[.int .i64 x1,.int .i64 y1,.int .i64 z1])|2=>Kd.val (.agg #[.int .i64 p,.int .i64 q,.int .i64 r])|3=>Kd.val (.agg #[.int .i64 x2,.int .i64 y2,.int .i64 z2])|4=>Kd.val (uV x1 y1 z1 x2 y2 z2 (fpP x2 y2 z2 x1).1 (fpP x2 y2 z2 x1).2)|5=>Kd.val (.agg #[.int .i64 (x1*cpE x2 y2 z2 (fpP x2 y2 z2 x1).1 (fpP x2 y2 z2 x1).2),.int .i64 (uT x1 y1 (cpE x2 y2 z2 (fpP x2 y2 z2 x1).1 (fpP x2 y2 z2 x1).2) (cpB x2 y2 z2 (fpP x2 y2 z2 x1).1 (fpP x2 y2 z2 x1).2)),.int .i64 (uS x1 y1 z1 (cpE x2 y2 z2 (fpP x2 y2 z2 x1).1 (fpP x2 y2 z2 x1).2) (cpB x2 y2 z2 (fpP x2 y2 z2 x1).1 (fpP x2 y2 z2 x1).2))])|6=>Kd.val (.agg #[.int .i64 u,.int .i64 v,.int .i64 k])|7=>Kd.old (w.heap.size+1+1+1) [(⟨w.heap.size+1+1,0,none⟩,.int .i64 u),(⟨w.heap.size+1+1,1,none⟩,.int .i64 v),(⟨w.heap.size+1+1,2,none⟩,.int .i64 k)]|_=>Kd.any:Nat→Kd) j)) (Sy w (w.heap.size+1+1+1) [(⟨w.heap.size,0,none⟩,.int .i64 a),(⟨w.heap.size,1,none⟩,.int .i64 b),(⟨w.heap.size,2,none⟩,.int .i64 c),(⟨w.heap.size+1,0,none⟩,.int .i64 p),(⟨w.heap.size+1,1,none⟩,.int .i64 q),(⟨w.heap.size+1,2,none⟩,.int .i64 r)] [⟨w.heap.size+1+1,0,none⟩,⟨w.heap.size+1+1,1,none⟩,⟨w.heap.size+1+1,2,none⟩]) Vw Vw ?_ ?_ ?_ ?_
  ·intro j hj
   have hj2:j<8:=hj
   have: ∀j,j<8→(#[5,6,7,8,9,10,11,4]:Array Nat).getD j 0<12:=by decide
   exact this j hj2
  ·refine Sy.drew (Sy.mk_of ?_ ?_ ?_ ?_)
   ·first|rfl|(simp;done)|(simp;omega)
   ·intro c hc
    simp only[List.mem_cons,List.not_mem_nil,or_false] at hc
    rcases hc with rfl|rfl|rfl|rfl|rfl|rfl<;>exact byCT
   ·intro p hp
    simp only[List.mem_cons,List.not_mem_nil,or_false] at hp
    rcases hp with rfl|rfl|rfl<;>exact ⟨by first|((repeat' with_reducible (first|refine ex_set _ ?_|refine ex_al _ ?_|exact ⟨_,VV⟩));done)|first|exact ⟨_,VV⟩|assumption|(go_simp;done)|(go_simp;exact ⟨_,rfl⟩),by first|((repeat' first|with_reducible (first|assumption|refine frz_al _ ?_ ?_|refine frz_set _ ?_)|omega|(simp;omega));done)|assumption|(go_simp;done)⟩
   ·(repeat' first|with_reducible (first|exact Below.refl _ _|assumption|refine gr_alloc ?_ _|refine below_drewN ?_ _|refine below_drew ?_|refine gr_call ?_ VV|refine Below.setCell ?_ ?_ _)|go_size|omega|(simp;omega))
  ·clear h1 h2 h3
   refine ⟨?r17x0,?r17x1,?r17x2,?r17x3,?r17x4,?r17x5,?r17x6,?r17x7,trivial⟩
   all_goals intro _ aq wx Kq hf hS hdep ev1 ev2 hK
   case' r17x0=>
    have F2:aq.eval (.tmp 2)= .pointer (some ⟨w.heap.size,0,none⟩):=hf 2
    have c0:=hS.cells (⟨w.heap.size,0,none⟩,.int .i64 a) Vs
    have c1:=hS.cells (⟨w.heap.size,1,none⟩,.int .i64 b) Vs
    have c2:=hS.cells (⟨w.heap.size,2,none⟩,.int .i64 c) Vs
   case' r17x1=>
    have D0:aq.eval (.tmp 5)=_:=hdep 0
   case' r17x2=>
    have F3:aq.eval (.tmp 3)= .pointer (some ⟨w.heap.size+1,0,none⟩):=hf 3
    have c0:=hS.cells (⟨w.heap.size+1,0,none⟩,.int .i64 p) Vs
    have c1:=hS.cells (⟨w.heap.size+1,1,none⟩,.int .i64 q) Vs
    have c2:=hS.cells (⟨w.heap.size+1,2,none⟩,.int .i64 r) Vs
   case' r17x3=>
    have D2:aq.eval (.tmp 7)=_:=hdep 2
   case' r17x4=>
    have D1:aq.eval (.tmp 6)=_:=hdep 1
    have D3:aq.eval (.tmp 8)=_:=hdep 3
   case' r17x5=>
    have D4:aq.eval (.tmp 9)=_:=hdep 4
   case' r17x6=>
    have D5:aq.eval (.tmp 10)=_:=hdep 5
   case' r17x7=>
    have D6:aq.eval (.tmp 11)=_:=hdep 6
    have F4:aq.eval (.tmp 4)= .pointer (some ⟨w.heap.size+1+1,0,none⟩):=hf 4
    obtain ⟨⟨vx0,cx0⟩,cf0⟩:=hS.free ⟨w.heap.size+1+1,0,none⟩ Vs
    obtain ⟨⟨vx1,cx1⟩,cf1⟩:=hS.free ⟨w.heap.size+1+1,1,none⟩ Vs
    obtain ⟨⟨vx2,cx2⟩,cf2⟩:=hS.free ⟨w.heap.size+1+1,2,none⟩ Vs
   all_goals (clear hf hdep;unfold Oper.wp;generalize Act.eval _=ev at *;go_simp)
   case r17x1=>
    refine ((hr1 _)).mono ?_
    rintro e w2 ⟨rfl,hb⟩
    refine hK _ _ (hS.call hb) ?_ (fun j u _ h=>Kd.ok_below hb h)
    rw[if_pos VH]
    show (_:Value)=_
    first|rfl|(refine congrArg (Value.int .i64) ?_;first|rfl|exact int_in Vn|exact quo_in Vn Vn Vn|exact rem_in Vn Vn|omega)|(simp;done)|(simp [*];done)
   case r17x3=>
    refine ((hr2 _)).mono ?_
    rintro e w2 ⟨rfl,hb⟩
    refine hK _ _ (hS.call hb) ?_ (fun j u _ h=>Kd.ok_below hb h)
    rw[if_pos VH]
    show (_:Value)=_
    first|rfl|(refine congrArg (Value.int .i64) ?_;first|rfl|exact int_in Vn|exact quo_in Vn Vn Vn|exact rem_in Vn Vn|omega)|(simp;done)|(simp [*];done)
   case r17x4=>
    refine ((unite_u x1 y1 z1 x2 y2 z2 _ h1 h2 hD)).mono ?_
    rintro e w2 ⟨rfl,hb⟩
    refine hK _ _ (hS.call hb) ?_ (fun j u _ h=>Kd.ok_below hb h)
    rw[if_pos VH]
    show (_:Value)=_
    first|rfl|(refine congrArg (Value.int .i64) ?_;first|rfl|exact int_in Vn|exact quo_in Vn Vn Vn|exact rem_in Vn Vn|omega)|(simp;done)|(simp [*];done)
   case r17x5=>
    refine ((composite_v x1 y1 z1 x2 y2 z2 (fpP x2 y2 z2 x1).1 (fpP x2 y2 z2 x1).2 _ hae)).mono ?_
    rintro e w2 ⟨rfl,hb⟩
    refine hK _ _ (hS.call hb) ?_ (fun j u _ h=>Kd.ok_below hb h)
    rw[if_pos VH]
    show (_:Value)=_
    first|rfl|(refine congrArg (Value.int .i64) ?_;first|rfl|exact int_in Vn|exact quo_in Vn Vn Vn|exact rem_in Vn Vn|omega)|(simp;done)|(simp [*];done)
   case r17x6=>
    refine ((hr3 _)).mono ?_
    rintro e w2 ⟨rfl,hb⟩
    refine hK _ _ (hS.call hb) ?_ (fun j u _ h=>Kd.ok_below hb h)
    rw[if_pos VH]
    show (_:Value)=_
    first|rfl|(refine congrArg (Value.int .i64) ?_;first|rfl|exact int_in Vn|exact quo_in Vn Vn Vn|exact rem_in Vn Vn|omega)|(simp;done)|(simp [*];done)
   case r17x7=>
    refine hK undef (setAll (w.heap.size+1+1) 0 [.int .i64 u,.int .i64 v,.int .i64 k] wx) (Sy.setAll Vr (fa (far_blk Vm) (fa (far_blk Vm) (fa (far_blk Vm) (fa (far_blk Vm) (fa (far_blk Vm) (fa (far_blk Vm) (fa0))))))) hS) ?_ (fun j u hj h=> ?_)
    ·rw [if_neg VA]
     exact fa ⟨setAll_at (w.heap.size+1+1) [.int .i64 u,.int .i64 v,.int .i64 k] 0 wx 0 (show 0<3 by decide) ⟨vx0,cx0⟩,Vr⟩ (fa ⟨setAll_at (w.heap.size+1+1) [.int .i64 u,.int .i64 v,.int .i64 k] 0 wx 1 (show 1<3 by decide) ⟨vx1,cx1⟩,Vr⟩ (fa ⟨setAll_at (w.heap.size+1+1) [.int .i64 u,.int .i64 v,.int .i64 k] 0 wx 2 (show 2<3 by decide) ⟨vx2,cx2⟩,Vr⟩ (fa0)))
    ·match j,hj with
     |0,hj|1,hj|2,hj|3,hj|4,hj|5,hj|6,hj=>exact (show (u:Value)=_ from h)
     |7,hj=>exact absurd rfl hj
     |j+8,_=>trivial
   all_goals (refine hK _ _ hS ?_ (fun j u _ h=>h);rw [if_pos VH];show (_:Value)=_;(first|rfl|(refine congrArg (Value.int .i64) ?_;first|rfl|exact int_in Vn|exact quo_in Vn Vn Vn|exact rem_in Vn Vn|omega)|(simp;done)|(simp [*];done)))
  ·intro aq wx hd hw hf hS hg
   have haq:aq=⟨#[tau aq 0,tau aq 1,tau aq 2,tau aq 3,tau aq 4,tau aq 5,tau aq 6,tau aq 7,tau aq 8,tau aq 9,tau aq 10,tau aq 11],[]⟩:=by
    obtain ⟨tq,dq⟩:=aq
    have h5:=arr_eq (show tq.size=12 from hw)
    have h6:dq= []:=hd
    subst h6
    exact congrArg (fun z=>Act.mk z []) h5
   show K2 aq wx
   rw[haq,hf 0,hf 1,hf 2,hf 3,hf 4]
   clear haq hf hd hw
   try dsimp only
   refine h3 _ _ ?_
   go_meet
   refine ⟨Ri3.m ?_ ?_ ?_,Ri3.m ?_ ?_ ?_,Wi3.m (hg 7 VA (_,_) Vs).1 (hg 7 VA (_,_) Vs).1 (hg 7 VA (_,_) Vs).1 ?_ ?_ ?_,hS.below⟩
   all_goals first|exact hS.cells (_,_) Vs|exact (hS.free _ Vs).2
 obtain ⟨⟨c00,c01,c02,z0⟩,⟨c10,c11,c12,z1⟩,⟨c20,c21,c22,f20,f21,f22,z2⟩,hb0⟩:=hcut
 go_wp2
 refine bodyPost_ret (v:= .agg #[.int .i64 u,.int .i64 v,.int .i64 k]) (by simp [results,Tryz.results114,go_sem, *]) rfl ?_
 exact ⟨u,v,k,rfl,unhide HC,byGG⟩
end Go.Proofs.YtobkcnmlmmhpoaaGreatDoor
