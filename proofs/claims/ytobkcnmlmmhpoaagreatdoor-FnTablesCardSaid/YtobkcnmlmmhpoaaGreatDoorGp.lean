/- The completed form (spec). Plain facts of uniting two forms. Plain: forms as triples: reduced form, composite, powers as functions of triples. -/
import Derived.Test.YtobkcnmlmmhpoaaGreatDoorCpw
namespace Go.Proofs.YtobkcnmlmmhpoaaGreatDoor
set_option maxRecDepth 100000
set_option maxHeartbeats 80000000
open Go.RowKit
set_option linter.unusedVariables false
set_option linter.unusedSimpArgs false
attribute [local go_sem] q2 q3 q4 q5 q6 q7 q8 q9 q10 q11 q12

theorem vaComplete_c (a b c:Int) (x y:Nat) (w:World) (h0:RedC a b c) (hx:x≤5) (hy:y≤5) (hg:Int.gcd x y=1):
  Calls Tryz.prog 163 #[.agg #[.int .i64 a,.int .i64 b,.int .i64 c],.int .i64 (x:Int),.int .i64 (y:Int)] w (RetCpl a b c x y (cpE a b c x y) (cpB a b c x y) (cpC a b c x y) w):=by
 obtain ⟨s1,s2,s3,s4⟩:=red_small h0.cls.ok h0.red
 have a0:=h0.cls.ok.a0
 have c0:=h0.cls.ok.c0
 have d0:=h0.cls.ok.d0
 have d1:=h0.cls.ok.d1
 have hform:=red_form h0
 obtain ⟨b1,b2,b3,b4⟩:=bz_facts hx hy hg
 have hF:=cpl_facts h0 hx hy hg
 have hE:valI a b c x y=cpE a b c x y:=rfl
 have hP:polI a b c x y (-bzV x y) (bzS x y)=cpP a b c x y:=rfl
 have hQ:cpQ a b c x y= -bzV x y+cpT a b c x y*x:=rfl
 have hS:cpS a b c x y=bzS x y+cpT a b c x y*y:=rfl
 generalize cpE a b c x y=e at*
 generalize cpP a b c x y=P at*
 generalize cpT a b c x y=t at*
 generalize cpB a b c x y=B at*
 generalize cpC a b c x y=C at*
 obtain ⟨e0,e1,P0,P1,pd,tt,tx,ty,B0,B1,PB,dv,B2,et,C0,C1,cd,vq,pq,cb,dd⟩:=hF
 have A1:=at_wide (a:=a) (b:=b) (c:=c) (x:=x) (y:=y) Vn Vn Vn Vn Vn
 have A2:=po_wide (a:=a) (b:=b) (c:=c) (x:=x) (y:=y) (u:= -bzV x y) (v:=bzS x y) Vn Vn Vn Vn Vn Vn Vn
 rw[Int.mul_comm] at tx ty
 have HPM:Hid (CplM a b c x y x (-bzV x y+x*t) y (bzS x y+y*t)):=hide ⟨rfl,by rw[hQ,Int.mul_comm],rfl,by rw[hS,Int.mul_comm]⟩
 clear hQ hS
 have HX:IntKind.i64.wrap ((B*B-discI a b c).tdiv (4*e))=C:=by rw[cd];exact int_in Vn
 have m0:=Int.emod_nonneg P (show 2*e≠0 by omega)
 have m1:=Int.emod_lt_of_pos P (show 0<2*e by omega)
 have t0: -100000≤t∧t≤100000:=by omega
 clear tt cd cb dd b1 b4 pq vq
 go_enter Tryz.func163,Tryz.ntmps163
 go_wp2_with fail
 refine (nuBezout_z x y _ hx hy hg).mono ?_
 rintro e w1 ⟨rfl,hb1⟩
 have tq0:=Ri3.c hb1 w.heap.size a b c
 have tq1:=Wi3.c hb1 (w.heap.size+1) 0 0 0
 have tq2:=Wi4.c hb1 (w.heap.size+1+1) 0 0 0 0
 try clear c00 c01 c02
 try clear c10 c11 c12 f10 f11 f12
 try clear c20 c21 c22 c23 f20 f21 f22 f23
 obtain ⟨c00,c01,c02,z0⟩:=tq0
 obtain ⟨c10,c11,c12,f10,f11,f12,z1⟩:=tq1
 obtain ⟨c20,c21,c22,c23,f20,f21,f22,f23,z2⟩:=tq2
 have hs1:=hb1.size
 go_wp2_with fail
 refine (foValue_a a b c x y _ A1).mono ?_
 rintro e w2 ⟨rfl,hb2⟩
 have tq0:=Ri3.c hb2 w.heap.size a b c
 have tq1:=Wi3.c hb2 (w.heap.size+1) 0 0 0
 have tq2:=Wi4.c hb2 (w.heap.size+1+1) 0 0 0 0
 try clear c00 c01 c02
 try clear c10 c11 c12 f10 f11 f12
 try clear c20 c21 c22 c23 f20 f21 f22 f23
 obtain ⟨c00,c01,c02,z0⟩:=tq0
 obtain ⟨c10,c11,c12,f10,f11,f12,z1⟩:=tq1
 obtain ⟨c20,c21,c22,c23,f20,f21,f22,f23,z2⟩:=tq2
 have hs2:=hb2.size
 go_wp2_with fail
 refine (foPolar_a a b c x y (-bzV x y) (bzS x y) _ A2).mono ?_
 rintro e w3 ⟨rfl,hb3⟩
 have tq0:=Ri3.c hb3 w.heap.size a b c
 have tq1:=Wi3.c hb3 (w.heap.size+1) 0 0 0
 have tq2:=Wi4.c hb3 (w.heap.size+1+1) 0 0 0 0
 try clear c00 c01 c02
 try clear c10 c11 c12 f10 f11 f12
 try clear c20 c21 c22 c23 f20 f21 f22 f23
 obtain ⟨c00,c01,c02,z0⟩:=tq0
 obtain ⟨c10,c11,c12,f10,f11,f12,z1⟩:=tq1
 obtain ⟨c20,c21,c22,c23,f20,f21,f22,f23,z2⟩:=tq2
 have hs3:=hb3.size
 go_upto_region 7 with (go_at_call 77;refine (nuMod_a _ _ _ Vp Vp Vp).mono ?_;rintro e w' ⟨rfl,rfl⟩)
 go_cut [] (fun  wx=>Ri3 wx w.heap.size a b c∧Wi3 wx (w.heap.size+1) e B C∧Wi4 wx (w.heap.size+1+1) ((x:Int)) (-bzV x y+x*t) ((y:Int)) (bzS x y+y*t)∧Ri4 wx w3.heap.size ((x:Int)) (-bzV x y+x*t) ((y:Int)) (bzS x y+y*t)∧Below w.heap.size w wx)
 case first=>
  have h1:=trivial
  rename_i K2 h2 h3
  refine region_n0 Vw (fun j=> #[63,64,65,66,67,68,69,70,71,72,73,74,75,6,7].getD j 0) (fun j=>Kd.ok ((fun j=>match j with|0=>Kd.val (.int .i64 e)|1=>Kd.val (.int .i64 B)|2=>Kd.val (.int .i64 B)|3=>Kd.val (.int .i64 B)|4=>Kd.val (.int .i64 (B*B))|5=>Kd.val (.agg #[.int .i64 a,.int .i64 b,.int .i64 c])|6=>Kd.val (.int .i64 (discI a b c))|7=>Kd.val (.int .i64 ((B*B)-(discI a b c)))|8=>Kd.val (.int .i64 e)|9=>Kd.val (.int .i64 (4*e))|10=>Kd.val (.int .i64 C)|11=>Kd.val (.agg #[.int .i64 e,.int .i64 B,.int .i64 C])|12=>Kd.val (.agg #[.int .i64 ((x:Int)),.int .i64 (-bzV x y+x*t),.int .i64 ((y:Int)),.int .i64 (bzS x y+y*t)])|13=>Kd.old (w3.heap.size+1) [(⟨w.heap.size+1,0,none⟩,.int .i64 e),(⟨w.heap.size+1,1,none⟩,.int .i64 B),(⟨w.heap.size+1,2,none⟩,.int .i64 C)]|14=>Kd.old (w3.heap.size+1) [(⟨w.heap.size+1+1,0,none⟩,.int .i64 ((x:Int))),(⟨w.heap.size+1+1,1,none⟩,.int .i64 (-bzV x y+x*t)),(⟨w.heap.size+1+1,2,none⟩,.int .i64 ((y:Int))),(⟨w.heap.size+1+1,3,none⟩,.int .i64 (bzS x y+y*t))]|_=>Kd.any:Nat→Kd) j)) (Sy w (w3.heap.size+1) [(⟨w.heap.size,0,none⟩,.int .i64 a),(⟨w.heap.size,1,none⟩,.int .i64 b),(⟨w.heap.size,2,none⟩,.int .i64 c),(⟨w3.heap.size,0,none⟩,.int .i64 ((x:Int))),(⟨w3.heap.size,1,none⟩,.int .i64 (-bzV x y+x*t)),(⟨w3.heap.size,2,none⟩,.int .i64 ((y:Int))),(⟨w3.heap.size,3,none⟩,.int .i64 (bzS x y+y*t))] [⟨w.heap.size+1,0,none⟩,⟨w.heap.size+1,1,none⟩,⟨w.heap.size+1,2,none⟩,⟨w.heap.size+1+1,0,none⟩,⟨w.heap.size+1+1,1,none⟩,⟨w.heap.size+1+1,2,none⟩,⟨w.heap.size+1+1,3,none⟩]) Vw Vw ?_ ?_ ?_ ?_
  ·intro j hj
   have hj2:j<15:=hj
   have: ∀j,j<15→(#[63,64,65,66,67,68,69,70,71,72,73,74,75,6,7]:Array Nat).getD j 0<76:=by decide
   exact this j hj2
  ·refine Sy.drew (Sy.mk_of ?_ ?_ ?_ ?_)
   ·first|rfl|(simp;done)|(simp;omega)
   ·intro c hc
    simp only[List.mem_cons,List.not_mem_nil,or_false] at hc
    rcases hc with rfl|rfl|rfl|rfl|rfl|rfl|rfl<;>exact byCT
   ·intro p hp
    simp only[List.mem_cons,List.not_mem_nil,or_false] at hp
    rcases hp with rfl|rfl|rfl|rfl|rfl|rfl|rfl<;>exact ⟨by first|((repeat' with_reducible (first|refine ex_set _ ?_|refine ex_al _ ?_|exact ⟨_,VV⟩));done)|first|exact ⟨_,VV⟩|assumption|(go_simp;done)|(go_simp;exact ⟨_,rfl⟩),by first|((repeat' first|with_reducible (first|assumption|refine frz_al _ ?_ ?_|refine frz_set _ ?_)|omega|(simp;omega));done)|assumption|(go_simp;done)⟩
   ·(repeat' first|with_reducible (first|exact Below.refl _ _|assumption|refine gr_alloc ?_ _|refine below_drewN ?_ _|refine below_drew ?_|refine gr_call ?_ VV|refine Below.setCell ?_ ?_ _)|go_size|omega|(simp;omega))
  ·clear h1 h2 h3
   refine ⟨?r13x0,?r13x1,?r13x2,?r13x3,?r13x4,?r13x5,?r13x6,?r13x7,?r13x8,?r13x9,?r13x10,?r13x11,?r13x12,?r13x13,?r13x14,trivial⟩
   all_goals intro _ aq wx Kq hf hS hdep ev1 ev2 hK
   case' r13x0=>
    have F12:aq.eval (.tmp 12)= .int .i64 e:=hf 12
   case' r13x1=>
    have F13:aq.eval (.tmp 13)= .int .i64 B:=hf 13
   case' r13x2=>
    have F13:aq.eval (.tmp 13)= .int .i64 B:=hf 13
   case' r13x3=>
    have F13:aq.eval (.tmp 13)= .int .i64 B:=hf 13
   case' r13x4=>
    have D2:aq.eval (.tmp 65)=_:=hdep 2
    have D3:aq.eval (.tmp 66)=_:=hdep 3
   case' r13x5=>
    have F3:aq.eval (.tmp 3)= .pointer (some ⟨w.heap.size,0,none⟩):=hf 3
    have c0:=hS.cells (⟨w.heap.size,0,none⟩,.int .i64 a) Vs
    have c1:=hS.cells (⟨w.heap.size,1,none⟩,.int .i64 b) Vs
    have c2:=hS.cells (⟨w.heap.size,2,none⟩,.int .i64 c) Vs
   case' r13x6=>
    have D5:aq.eval (.tmp 68)=_:=hdep 5
   case' r13x7=>
    have D4:aq.eval (.tmp 67)=_:=hdep 4
    have D6:aq.eval (.tmp 69)=_:=hdep 6
   case' r13x8=>
    have F12:aq.eval (.tmp 12)= .int .i64 e:=hf 12
   case' r13x9=>
    have D8:aq.eval (.tmp 71)=_:=hdep 8
   case' r13x10=>
    have D7:aq.eval (.tmp 70)=_:=hdep 7
    have D9:aq.eval (.tmp 72)=_:=hdep 9
   case' r13x11=>
    have D0:aq.eval (.tmp 63)=_:=hdep 0
    have D1:aq.eval (.tmp 64)=_:=hdep 1
    have D10:aq.eval (.tmp 73)=_:=hdep 10
   case' r13x12=>
    have F15:aq.eval (.tmp 15)= .pointer (some ⟨w3.heap.size,0,none⟩):=hf 15
    have c0:=hS.cells (⟨w3.heap.size,0,none⟩,.int .i64 ((x:Int))) Vs
    have c1:=hS.cells (⟨w3.heap.size,1,none⟩,.int .i64 (-bzV x y+x*t)) Vs
    have c2:=hS.cells (⟨w3.heap.size,2,none⟩,.int .i64 ((y:Int))) Vs
    have c3:=hS.cells (⟨w3.heap.size,3,none⟩,.int .i64 (bzS x y+y*t)) Vs
   case' r13x13=>
    have D11:aq.eval (.tmp 74)=_:=hdep 11
    have F6:aq.eval (.tmp 6)= .pointer (some ⟨w.heap.size+1,0,none⟩):=hf 6
    obtain ⟨⟨vx0,cx0⟩,cf0⟩:=hS.free ⟨w.heap.size+1,0,none⟩ Vs
    obtain ⟨⟨vx1,cx1⟩,cf1⟩:=hS.free ⟨w.heap.size+1,1,none⟩ Vs
    obtain ⟨⟨vx2,cx2⟩,cf2⟩:=hS.free ⟨w.heap.size+1,2,none⟩ Vs
   case' r13x14=>
    have D12:aq.eval (.tmp 75)=_:=hdep 12
    have F7:aq.eval (.tmp 7)= .pointer (some ⟨w.heap.size+1+1,0,none⟩):=hf 7
    obtain ⟨⟨vx0,cx0⟩,cf0⟩:=hS.free ⟨w.heap.size+1+1,0,none⟩ Vs
    obtain ⟨⟨vx1,cx1⟩,cf1⟩:=hS.free ⟨w.heap.size+1+1,1,none⟩ Vs
    obtain ⟨⟨vx2,cx2⟩,cf2⟩:=hS.free ⟨w.heap.size+1+1,2,none⟩ Vs
    obtain ⟨⟨vx3,cx3⟩,cf3⟩:=hS.free ⟨w.heap.size+1+1,3,none⟩ Vs
   all_goals (clear hf hdep;unfold Oper.wp;generalize Act.eval _=ev at *;go_simp)
   case r13x6=>
    refine ((foDisc_a a b c _ hform)).mono ?_
    rintro e w2 ⟨rfl,hb⟩
    refine hK _ _ (hS.call hb) ?_ (fun j u _ h=>Kd.ok_below hb h)
    rw[if_pos VH]
    show (_:Value)=_
    first|rfl|(refine congrArg (Value.int .i64) ?_;first|rfl|exact int_in Vn|exact quo_in Vn Vn Vn|exact rem_in Vn Vn|omega|exact HX)|(simp;done)|(simp [*];done)
   case' r13x10=>
    try rw[if_neg Vn,Oper.upon_value]
   case r13x13=>
    refine hK undef (setAll (w.heap.size+1) 0 [.int .i64 e,.int .i64 B,.int .i64 C] wx) (Sy.setAll Vr (fa (far_blk Vm) (fa (far_blk Vm) (fa (far_blk Vm) (fa (far_blk Vm) (fa (far_blk Vm) (fa (far_blk Vm) (fa (far_blk Vm) (fa0)))))))) hS) ?_ (fun j u hj h=> ?_)
    ·rw [if_neg VA]
     exact fa ⟨setAll_at (w.heap.size+1) [.int .i64 e,.int .i64 B,.int .i64 C] 0 wx 0 (show 0<3 by decide) ⟨vx0,cx0⟩,Vr⟩ (fa ⟨setAll_at (w.heap.size+1) [.int .i64 e,.int .i64 B,.int .i64 C] 0 wx 1 (show 1<3 by decide) ⟨vx1,cx1⟩,Vr⟩ (fa ⟨setAll_at (w.heap.size+1) [.int .i64 e,.int .i64 B,.int .i64 C] 0 wx 2 (show 2<3 by decide) ⟨vx2,cx2⟩,Vr⟩ (fa0)))
    ·match j,hj with
     |0,hj|1,hj|2,hj|3,hj|4,hj|5,hj|6,hj|7,hj|8,hj|9,hj|10,hj|11,hj|12,hj=>exact (show (u:Value)=_ from h)
     |13,hj=>exact absurd rfl hj
     |14,hj=>exact Kd.ok_setAll_old (k:=Kd.old (w3.heap.size+1) [(⟨w.heap.size+1+1,0,none⟩,.int .i64 ((x:Int))),(⟨w.heap.size+1+1,1,none⟩,.int .i64 (-bzV x y+x*t)),(⟨w.heap.size+1+1,2,none⟩,.int .i64 ((y:Int))),(⟨w.heap.size+1+1,3,none⟩,.int .i64 (bzS x y+y*t))]) trivial (fa (far_blk Vm) (fa (far_blk Vm) (fa (far_blk Vm) (fa (far_blk Vm) (fa0))))) h
     |j+15,_=>trivial
   case r13x14=>
    refine hK undef (setAll (w.heap.size+1+1) 0 [.int .i64 ((x:Int)),.int .i64 (-bzV x y+x*t),.int .i64 ((y:Int)),.int .i64 (bzS x y+y*t)] wx) (Sy.setAll Vr (fa (far_blk Vm) (fa (far_blk Vm) (fa (far_blk Vm) (fa (far_blk Vm) (fa (far_blk Vm) (fa (far_blk Vm) (fa (far_blk Vm) (fa0)))))))) hS) ?_ (fun j u hj h=> ?_)
    ·rw [if_neg VA]
     exact fa ⟨setAll_at (w.heap.size+1+1) [.int .i64 ((x:Int)),.int .i64 (-bzV x y+x*t),.int .i64 ((y:Int)),.int .i64 (bzS x y+y*t)] 0 wx 0 (show 0<4 by decide) ⟨vx0,cx0⟩,Vr⟩ (fa ⟨setAll_at (w.heap.size+1+1) [.int .i64 ((x:Int)),.int .i64 (-bzV x y+x*t),.int .i64 ((y:Int)),.int .i64 (bzS x y+y*t)] 0 wx 1 (show 1<4 by decide) ⟨vx1,cx1⟩,Vr⟩ (fa ⟨setAll_at (w.heap.size+1+1) [.int .i64 ((x:Int)),.int .i64 (-bzV x y+x*t),.int .i64 ((y:Int)),.int .i64 (bzS x y+y*t)] 0 wx 2 (show 2<4 by decide) ⟨vx2,cx2⟩,Vr⟩ (fa ⟨setAll_at (w.heap.size+1+1) [.int .i64 ((x:Int)),.int .i64 (-bzV x y+x*t),.int .i64 ((y:Int)),.int .i64 (bzS x y+y*t)] 0 wx 3 (show 3<4 by decide) ⟨vx3,cx3⟩,Vr⟩ (fa0))))
    ·match j,hj with
     |0,hj|1,hj|2,hj|3,hj|4,hj|5,hj|6,hj|7,hj|8,hj|9,hj|10,hj|11,hj|12,hj=>exact (show (u:Value)=_ from h)
     |13,hj=>exact Kd.ok_setAll_old (k:=Kd.old (w3.heap.size+1) [(⟨w.heap.size+1,0,none⟩,.int .i64 e),(⟨w.heap.size+1,1,none⟩,.int .i64 B),(⟨w.heap.size+1,2,none⟩,.int .i64 C)]) trivial (fa (far_blk Vm) (fa (far_blk Vm) (fa (far_blk Vm) (fa0)))) h
     |14,hj=>exact absurd rfl hj
     |j+15,_=>trivial
   all_goals (refine hK _ _ hS ?_ (fun j u _ h=>h);rw [if_pos VH];show (_:Value)=_;(first|rfl|(refine congrArg (Value.int .i64) ?_;first|rfl|exact int_in Vn|exact quo_in Vn Vn Vn|exact rem_in Vn Vn|omega|exact HX)|(simp;done)|(simp [*];done)))
  ·intro aq wx hd hw hf hS hg
   have haq:aq=⟨#[tau aq 0,tau aq 1,tau aq 2,tau aq 3,tau aq 4,tau aq 5,tau aq 6,tau aq 7,tau aq 8,tau aq 9,tau aq 10,tau aq 11,tau aq 12,tau aq 13,tau aq 14,tau aq 15,tau aq 16,tau aq 17,tau aq 18,tau aq 19,tau aq 20,tau aq 21,tau aq 22,tau aq 23,tau aq 24,tau aq 25,tau aq 26,tau aq 27,tau aq 28,tau aq 29,tau aq 30,tau aq 31,tau aq 32,tau aq 33,tau aq 34,tau aq 35,tau aq 36,tau aq 37,tau aq 38,tau aq 39,tau aq 40,tau aq 41,tau aq 42,tau aq 43,tau aq 44,tau aq 45,tau aq 46,tau aq 47,tau aq 48,tau aq 49,tau aq 50,tau aq 51,tau aq 52,tau aq 53,tau aq 54,tau aq 55,tau aq 56,tau aq 57,tau aq 58,tau aq 59,tau aq 60,tau aq 61,tau aq 62,tau aq 63,tau aq 64,tau aq 65,tau aq 66,tau aq 67,tau aq 68,tau aq 69,tau aq 70,tau aq 71,tau aq 72,tau aq 73,tau aq 74,tau aq 75],[]⟩:=by
    obtain ⟨tq,dq⟩:=aq
    have h5:=arr_eq (show tq.size=76 from hw)
    have h6:dq= []:=hd
    subst h6
    exact congrArg (fun z=>Act.mk z []) h5
   show K2 aq wx
   rw[haq,hf 0,hf 1,hf 2,hf 3,hf 4,hf 5,hf 6,hf 7,hf 8,hf 9,hf 10,hf 11,hf 12,hf 13,hf 14,hf 15,hf 16,hf 17,hf 18,hf 19,hf 20,hf 21,hf 22,hf 23,hf 24,hf 25,hf 26,hf 27,hf 28,hf 29,hf 30,hf 31,hf 32,hf 33,hf 34,hf 35,hf 36,hf 37,hf 38,hf 39,hf 40,hf 41,hf 42,hf 43,hf 44,hf 45,hf 46,hf 47,hf 48,hf 49,hf 50,hf 51,hf 52,hf 53,hf 54,hf 55,hf 56,hf 57,hf 58,hf 59,hf 60,hf 61,hf 62]
   clear haq hf hd hw
   try dsimp only
   refine h3 _ _ ?_
   go_meet
   refine ⟨Ri3.m ?_ ?_ ?_,Wi3.m (hg 13 VA (_,_) Vs).1 (hg 13 VA (_,_) Vs).1 (hg 13 VA (_,_) Vs).1 ?_ ?_ ?_,Wi4.m (hg 14 VA (_,_) Vs).1 (hg 14 VA (_,_) Vs).1 (hg 14 VA (_,_) Vs).1 (hg 14 VA (_,_) Vs).1 ?_ ?_ ?_ ?_,Ri4.m ?_ ?_ ?_ ?_,hS.below⟩
   all_goals first|exact hS.cells (_,_) Vs|exact (hS.free _ Vs).2
 obtain ⟨⟨c00,c01,c02,z0⟩,⟨c10,c11,c12,f10,f11,f12,z1⟩,⟨c20,c21,c22,c23,f20,f21,f22,f23,z2⟩,⟨c30,c31,c32,c33,z3⟩,hb0⟩:=hcut
 go_wp2
 refine bodyPost_ret (v:= .tuple #[.agg #[.int .i64 e,.int .i64 B,.int .i64 C],.agg #[.int .i64 ((x:Int)),.int .i64 (-bzV x y+x*t),.int .i64 ((y:Int)),.int .i64 (bzS x y+y*t)]]) (by simp [results,Tryz.results163,go_sem, *]) rfl ?_
 exact ⟨_,_,_,_,rfl,unhide HPM,byGG⟩
end Go.Proofs.YtobkcnmlmmhpoaaGreatDoor
namespace Go.Proofs.YtobkcnmlmmhpoaaGreatDoor
open Go.RowKit
set_option linter.unusedVariables false
set_option linter.unusedSimpArgs false

theorem par_of {a b c e B C:Int} (h:discI e B C=discI a b c):2∣B-b:=by
 unfold discI at h
 have e1:4*e*C=4*(e*C):=Int.mul_assoc _ _ _
 have e2:4*a*c=4*(a*c):=Int.mul_assoc _ _ _
 have h2:(B*B)%2=(b*b)%2:=by omega
 rw[Int.mul_emod,Int.mul_emod b b] at h2
 rcases Int.emod_two_eq B with hB|hB<;>rcases Int.emod_two_eq b with hb|hb<;>rw[hB,hb] at h2<;>omega
noncomputable def uT (a b e B:Int):Int:=cmT (b%(2*a)) a B e
noncomputable def uS (a b c e B:Int):Int:=(uT a b e B*uT a b e B-discI a b c) / (4*a*e)
structure UniF (a b c p q r:Int) (x y:Nat) (e B C t s:Int):Prop where
 a0:1≤a
 a1:a≤26
 b0: -26≤b∧b≤26
 e0:1≤e
 e1:e≤20000
 B0:0≤B
 B1:B<2*e
 g1:Int.gcd e a=1
 par:2∣B-b%(2*a)
 t0:0≤t
 t1:t<2*a*e
 ae:0<a*e∧a*e≤520000
 ta:2*a∣t-b
 te:2*e∣t-B
 uni: ∀z,0≤z→z≤t→2*a∣z-b→2*e∣z-B→z=t
 tt:0≤t*t∧t*t≤1081600000000
 ss:(t*t-discI a b c).tdiv (4*a*e)=s
 s0:0<s
 s1:s≤100000000
 isu:IsU a b c p q r e t s
theorem uni_facts {a b c p q r:Int} {k x y:Nat} (h:RedC a b c) (h':RedC p q r) (hD:discI p q r=discI a b c) (hf:IsFirst p q r a k x y):
  (x≤5∧y≤5∧Int.gcd x y=1)∧UniF a b c p q r x y (cpE p q r x y) (cpB p q r x y) (cpC p q r x y) (uT a b (cpE p q r x y) (cpB p q r x y)) (uS a b c (cpE p q r x y) (cpB p q r x y)):=by
 obtain ⟨s1,s2,s3,s4⟩:=red_small h.cls.ok h.red
 have a0:=h.cls.ok.a0
 have hk:=first_le Vn Vn h'.cls.pr hf
 obtain ⟨f1,f2,f3⟩:=hit_facts hf.hit
 have hx:x≤5:=by omega
 have hy:y≤5:=by omega
 refine ⟨⟨hx,hy,f2⟩,?_⟩
 have hF:=cpl_facts h' hx hy f2
 have hcb:=hF.cb
 have hE:cpE p q r x y=valI p q r x y:=rfl
 have hS:uS a b c (cpE p q r x y) (cpB p q r x y)=(uT a b (cpE p q r x y) (cpB p q r x y)*uT a b (cpE p q r x y) (cpB p q r x y)-discI a b c) / (4*a*cpE p q r x y):=rfl
 have hT:uT a b (cpE p q r x y) (cpB p q r x y)=cmT (b%(2*a)) a (cpB p q r x y) (cpE p q r x y):=rfl
 have f4:Int.gcd (cpE p q r x y) a=1:=f3
 have e0:=hF.e0
 have e1:=hF.e1
 have B0:=hF.B0
 have B1:=hF.B1
 have dd:=hF.dd
 have mk: ∀t s,IsUB a b (cpE p q r x y) (cpB p q r x y) t→s=(t*t-discI a b c) / (4*a*cpE p q r x y)→IsU a b c p q r (cpE p q r x y) t s:=fun t s h1 h2=>⟨k,x,y,cpB p q r x y,hf,rfl,hcb,h1,h2⟩
 clear hF hcb hE f1 f3
 generalize uS a b c (cpE p q r x y) (cpB p q r x y)=s at*
 generalize uT a b (cpE p q r x y) (cpB p q r x y)=t at*
 generalize cpE p q r x y=e at*
 generalize cpB p q r x y=B at*
 generalize cpC p q r x y=C at*
 have g0:=Int.emod_add_mul_ediv b (2*a)
 have par:2∣B-b%(2*a):=by
  obtain ⟨z,hz⟩:=par_of (dd.trans hD)
  have e2:2*a*(b / (2*a))=2*(a*(b / (2*a))):=Int.mul_assoc _ _ _
  exact ⟨z+a*(b / (2*a)),Vn⟩
 obtain ⟨t0,t1,t2,t3⟩:=cm_facts (a0:=b%(2*a)) (p:=a) (b0:=B) (q:=e) Vn e0 f4 par
 rw[←hT] at t0 t1 t2 t3
 have t2':2*a∣t-b:=by
  obtain ⟨z,hz⟩:=t2
  exact ⟨z-b / (2*a),by rw[Int.mul_sub,←hz];omega⟩
 have hub:IsUB a b e B t:=⟨t0,t1,t2',t3⟩
 have g2:Int.gcd a e=1:=by rw[Int.gcd_comm];exact f4
 have hu:=mk t s hub hS
 obtain ⟨_,_,_,_,_,hc,hdd,_,_⟩:=hu.facts h h' hD
 obtain ⟨s',w1,w2,w3⟩:=ub_form a0 Vn g2 (dd.trans hD) hub
 rw[←w2] at hS
 subst hS
 have n0:=Int.mul_pos a0 (show 0<e by omega)
 have n1:a*e≤26*20000:=Int.mul_le_mul s1 e1 Vn Vn
 have e2:2*a*e=2*(a*e):=Int.mul_assoc _ _ _
 have tt0:0≤t*t:=Int.mul_nonneg t0 t0
 have tt1:t*t≤1040000*1040000:=Int.mul_le_mul Vn Vn t0 Vn
 have e4:4*a*e=4*(a*e):=Int.mul_assoc _ _ _
 refine ⟨Vn,s1,⟨s2,s3⟩,e0,e1,B0,B1,f4,par,t0,t1,⟨n0,Vn⟩,t2',t3,?_,⟨tt0,Vn⟩,?_,hc.ok.c0,hc.ok.c1,hu⟩
 ·intro z z0 z1 z2 z3
  exact ub_same a0 Vn g2 ⟨z0,Vn,z2,z3⟩ hub
 ·have:t*t-discI a b c=4*a*e*s:=by
   unfold discI at w1 ⊢
   have e5:4*(a*e)*s=4*a*e*s:=by rw[e4]
   omega
  rw[this,Int.mul_tdiv_cancel_left _ Vn]
theorem least {P:Nat→Prop} (h: ∃n,P n): ∃n,P n∧ ∀m,m<n→ ¬P m:=by
 obtain ⟨n,hn⟩:=h
 induction n using Nat.strongRecOn with
 |_ n ih=>
  by_cases q: ∃m,m<n∧P m
  ·obtain ⟨m,h1,h2⟩:=q
   exact ih m h1 h2
  ·exact ⟨n,hn,fun m h1 h2=>q ⟨m,h1,h2⟩⟩
theorem fp_ex {a b c m:Int} (hm:1≤m) (hm2:m≤30) (hp:Prim a b c): ∃k,IsFirst a b c m k (fpP a b c m).1 (fpP a b c m).2:=by
 obtain ⟨x',y',h1,h2,h3⟩:=exists_hit hm hm2 (gcd_prim (m:=m) hp)
 obtain ⟨k,⟨x1,y1,hx1,hy1,hh⟩,hk⟩:=least (P:=fun k=> ∃x y,x≤k∧y≤k∧hitB a b c m k x y=true) ⟨max x' y',x',y',Vn,Vn,h3⟩
 obtain ⟨x,⟨y2,hy2,hh2⟩,hx⟩:=least (P:=fun x=> ∃y,y≤k∧hitB a b c m k x y=true) ⟨x1,y1,hy1,hh⟩
 obtain ⟨y,hh3,hy⟩:=least (P:=fun y=>hitB a b c m k x y=true) ⟨y2,hh2⟩
 have hmx:=(hit_facts hh3).1
 have nf: ∀b:Bool,¬b=true→b=false:=fun b h=>by cases b<;>simp at h ⊢
 have hf:IsFirst a b c m k x y:=⟨hh3,Vn,Vn,fun k' h' x' y' hx' hy'=>nf _ (fun q=>hk k' h' ⟨x',y',hx',hy',q⟩),fun x' h' y' hy'=>nf _ (fun q=>hx x' h' ⟨y',hy',q⟩),fun y' h'=>nf _ (hy y' h')⟩
 obtain ⟨e1,e2⟩:=fp_of hf
 unfold fpX at e1
 unfold fpY at e2
 have e3:(fpP a b c m).1=x:=by omega
 have e4:(fpP a b c m).2=y:=by omega
 rw[e3,e4]
 exact ⟨k,hf⟩
theorem fp_eq {a b c m:Int} {k x y:Nat} (h:IsFirst a b c m k x y):(fpP a b c m).1=x∧(fpP a b c m).2=y:=by
 obtain ⟨e1,e2⟩:=fp_of h
 unfold fpX at e1
 unfold fpY at e2
 exact ⟨Vn,Vn⟩
def uV0 (a e t s m1 M1 M2 M3 M4:Int):Value:= .agg #[.int .i64 a,.int .i64 e,.int .i64 t,.int .i64 s,.int .i64 1,.int .i64 m1,.int .i64 0,.int .i64 1,.int .i64 M1,.int .i64 M2,.int .i64 M3,.int .i64 M4]
noncomputable def uV1 (a b c p q r:Int) (x y:Nat) (e B t s:Int):Value:=
 uV0 a e t s ((t-b).tdiv (2*a)) (mmP x (cpQ p q r x y) y (cpS p q r x y) 1 ((t-B).tdiv (2*e)) 0 1) (mmQ x (cpQ p q r x y) y (cpS p q r x y) 1 ((t-B).tdiv (2*e)) 0 1) (mmR x (cpQ p q r x y) y (cpS p q r x y) 1 ((t-B).tdiv (2*e)) 0 1) (mmS x (cpQ p q r x y) y (cpS p q r x y) 1 ((t-B).tdiv (2*e)) 0 1)
noncomputable def uV (a b c p q r:Int) (x y:Nat):Value:=
 uV1 a b c p q r x y (cpE p q r x y) (cpB p q r x y) (uT a b (cpE p q r x y) (cpB p q r x y)) (uS a b c (cpE p q r x y) (cpB p q r x y))
end Go.Proofs.YtobkcnmlmmhpoaaGreatDoor
namespace Go.Proofs.YtobkcnmlmmhpoaaGreatDoor
open Go.RowKit
set_option linter.unusedVariables false
set_option linter.unusedSimpArgs false

abbrev T3:=Int × Int × Int
abbrev frm (F:T3):Value:= .agg #[.int .i64 F.1,.int .i64 F.2.1,.int .i64 F.2.2]
def rdT (F:T3):T3:=redF F.1 F.2.1 F.2.2
def dT (F:T3):Int:=discI F.1 F.2.1 F.2.2
def ClT (F:T3):Prop:=Cls F.1 F.2.1 F.2.2
def RcT (F:T3):Prop:=RedC F.1 F.2.1 F.2.2
theorem RcT.cl {F:T3} (h:RcT F):ClT F:=h.cls
theorem rd_rc {F:T3} (h:ClT F):RcT (rdT F):=(rdr_of h).rc
theorem rd_cl {F:T3} (h:ClT F):ClT (rdT F):=(rd_rc h).cl
theorem rd_d {F:T3} (h:ClT F):dT (rdT F)=dT F:=(rdr_of h).dd
theorem rd_same {F:T3} (h:RcT F):rdT F=F:=h.same
theorem rd_rd {F:T3} (h:ClT F):rdT (rdT F)=rdT F:=rd_same (rd_rc h)
theorem rdr_T {F:T3} (h:ClT F):RdR F.1 F.2.1 F.2.2 (rdT F).1 (rdT F).2.1 (rdT F).2.2:=rdr_of h
theorem cpr_ex {F G:T3} (h1:ClT F) (h2:ClT G) (hd:dT G=dT F):CpR F.1 F.2.1 F.2.2 G.1 G.2.1 G.2.2 (cmp F G).1 (cmp F G).2.1 (cmp F G).2.2:=by
 have r1:=rdr_of h1
 have r2:=rdr_of h2
 have k1:RedC (redF F.1 F.2.1 F.2.2).1 (redF F.1 F.2.1 F.2.2).2.1 (redF F.1 F.2.1 F.2.2).2.2:=r1.rc
 have k2:RedC (redF G.1 G.2.1 G.2.2).1 (redF G.1 G.2.1 G.2.2).2.1 (redF G.1 G.2.1 G.2.2).2.2:=r2.rc
 have hD:=r2.dd.trans ((show discI G.1 G.2.1 G.2.2=discI F.1 F.2.1 F.2.2 from hd).trans r1.dd.symm)
 have hs:=red_small k1.cls.ok k1.red
 have ha:=k1.cls.ok.a0
 obtain ⟨kk,hf⟩:=fp_ex (m:=(redF F.1 F.2.1 F.2.2).1) Vn Vn k2.cls.pr
 obtain ⟨_,hU⟩:=uni_facts k1 k2 hD hf
 have hI:=hU.isu
 obtain ⟨_,_,_,_,_,hcl,hdd3,_,_⟩:=hI.facts k1 k2 hD
 have r3:=rdr_of hcl
 have hc:CpR F.1 F.2.1 F.2.2 G.1 G.2.1 G.2.2 _ _ _:=⟨_,_,_,_,_,_,_,_,_,r1,r2,hd,hI,r3⟩
 have e:=cmp_of hc
 have e2:cmp F G=_:=e
 rw[e2]
 exact hc
theorem cp_rc {F G:T3} (h1:ClT F) (h2:ClT G) (hd:dT G=dT F):RcT (cmp F G):=(cpr_ex h1 h2 hd).rc
theorem cp_cl {F G:T3} (h1:ClT F) (h2:ClT G) (hd:dT G=dT F):ClT (cmp F G):=(cp_rc h1 h2 hd).cl
theorem cp_d {F G:T3} (h1:ClT F) (h2:ClT G) (hd:dT G=dT F):dT (cmp F G)=dT F:=(cpr_ex h1 h2 hd).dd
theorem cp_of {F G:T3} {u v k:Int} (h:CpR F.1 F.2.1 F.2.2 G.1 G.2.1 G.2.2 u v k):cmp F G=(u,v,k):=cmp_of h
theorem cp_rd {F G:T3} (h1:ClT F) (h2:ClT G) (hd:dT G=dT F):cmp (rdT F) (rdT G)=cmp F G:=by
 obtain ⟨p,q,r,p',q',r',e,t,s,r1,r2,_,hI,r3⟩:=cpr_ex h1 h2 hd
 obtain ⟨rfl,rfl,rfl⟩:=r1.same (rdr_T h1)
 obtain ⟨rfl,rfl,rfl⟩:=r2.same (rdr_T h2)
 have s1:RdR (rdT F).1 (rdT F).2.1 (rdT F).2.2 (rdT F).1 (rdT F).2.1 (rdT F).2.2:=rdr_self (rd_rc h1)
 have s2:RdR (rdT G).1 (rdT G).2.1 (rdT G).2.2 (rdT G).1 (rdT G).2.1 (rdT G).2.2:=rdr_self (rd_rc h2)
 have hd2:discI (rdT G).1 (rdT G).2.1 (rdT G).2.2=discI (rdT F).1 (rdT F).2.1 (rdT F).2.2:=(rd_d h2).trans (hd.trans (rd_d h1).symm)
 have hc:CpR (rdT F).1 (rdT F).2.1 (rdT F).2.2 (rdT G).1 (rdT G).2.1 (rdT G).2.2 _ _ _:=⟨_,_,_,_,_,_,_,_,_,s1,s2,hd2,hI,r3⟩
 exact cp_of hc
theorem cp_rd1 {F G:T3} (h1:ClT F) (h2:ClT G) (hd:dT G=dT F):cmp (rdT F) G=cmp F G:=by
 have h3:=rd_cl h1
 have e:=cp_rd h3 h2 (hd.trans (rd_d h1).symm)
 rw[rd_rd h1] at e
 rw[←e,cp_rd h1 h2 hd]
structure InD (D:Int) (F:T3):Prop where
 cl:ClT F
 d:dT F=D
theorem InD.rd {D:Int} {F:T3} (h:InD D F):InD D (rdT F):=⟨rd_cl h.cl,(rd_d h.cl).trans h.d⟩
theorem InD.cp {D:Int} {F G:T3} (h:InD D F) (h2:InD D G):InD D (cmp F G):=⟨cp_cl h.cl h2.cl (h2.d.trans h.d.symm),(cp_d h.cl h2.cl (h2.d.trans h.d.symm)).trans h.d⟩
theorem InD.rc {D:Int} {F G:T3} (h:InD D F) (h2:InD D G):RcT (cmp F G):=cp_rc h.cl h2.cl (h2.d.trans h.d.symm)
def onT (D:Int):T3:=(1,D%2,(D%2-D) / 4)
noncomputable def pwL (p f:T3) (k:Nat):T3:=if h:k=0 then p else pwL (if k%2=1 then cmp p f else p) (cmp f f) (k / 2)
termination_by k
decreasing_by omega
theorem pwL_in {D:Int} (k:Nat): ∀{p f:T3},InD D p→InD D f→InD D (pwL p f k):=by
 induction k using Nat.strongRecOn with
 |_ k ih=>
  intro p f hp hf
  rw[pwL]
  split
  ·exact hp
  ·refine ih (k / 2) Vn ?_ (hf.cp hf)
   split
   ·exact hp.cp hf
   ·exact hp
theorem pwL_rc {D:Int} (k:Nat): ∀{p f:T3},InD D p→InD D f→RcT p→RcT (pwL p f k):=by
 induction k using Nat.strongRecOn with
 |_ k ih=>
  intro p f hp hf hr
  rw[pwL]
  split
  ·exact hr
  ·refine ih (k / 2) Vn ?_ (hf.cp hf) ?_
   ·split
    ·exact hp.cp hf
    ·exact hp
   ·split
    ·exact hp.rc hf
    ·exact hr
theorem on_facts {D:Int} (h0: -2000≤D) (h1:D<0) (h4:4∣D%2-D):InD D (onT D)∧RcT (onT D):=by
 obtain ⟨k,hk⟩:=h4
 have e:(D%2-D) / 4=k:=by omega
 have hd:discI 1 (D%2) k=D:=by
  unfold discI
  rcases Int.emod_two_eq D with q|q<;>rw[q] at hk ⊢ <;>omega
 have hc:Cls 1 (D%2) k:=⟨⟨Vn,Vn,Vn,Vn,Vn,Vn,by rw[hd];omega,by rw[hd];omega⟩,fun d h1 _ _=>h1⟩
 have hon:onT D=(1,D%2,k):=by unfold onT;rw [e]
 rw[hon]
 refine ⟨⟨hc,hd⟩,hc,?_⟩
 rcases Int.emod_two_eq D with q|q<;>rw[q] at hk ⊢ <;>simp [redB,normB]<;>omega
theorem disc_par (a b c:Int):4∣discI a b c%2-discI a b c:=by
 unfold discI
 have e:4*a*c=4*(a*c):=Int.mul_assoc _ _ _
 rw[e]
 generalize a*c=n
 rcases Int.emod_two_eq b with q|q
 ·obtain ⟨k,rfl⟩: ∃k,b=2*k:=⟨b / 2,Vn⟩
  have:2*k*(2*k)=4*(k*k):=by grind
  rw[this];generalize k*k=m;omega
 ·obtain ⟨k,rfl⟩: ∃k,b=2*k+1:=⟨b / 2,Vn⟩
  have:(2*k+1)*(2*k+1)=4*(k*k+k)+1:=by grind
  rw[this];generalize k*k+k=m;omega
theorem one_in {F:T3} (h:ClT F):InD (dT F) (onT (dT F))∧RcT (onT (dT F)):=by
 refine on_facts ?_ ?_ (disc_par _ _ _)
 ·have:=h.ok.d0;unfold dT;omega
 ·have:=h.ok.d1;unfold dT;omega
end Go.Proofs.YtobkcnmlmmhpoaaGreatDoor
