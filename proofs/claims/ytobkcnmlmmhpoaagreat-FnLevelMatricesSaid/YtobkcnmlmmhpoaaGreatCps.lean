/- The completed form (spec). -/
import Derived.Test.YtobkcnmlmmhpoaaGreatCpw
namespace Go.Proofs.YtobkcnmlmmhpoaaGreat
open Go.RowKit
set_option linter.unusedVariables false
set_option linter.unusedSimpArgs false
attribute [local go_sem] q2 q3 q4 q5 q6 q7 q8 q9 q10 q11 q12

set_option maxRecDepth 100000 in
set_option maxHeartbeats 8000000 in
theorem vaComplete_c (a b c:Int) (x y:Nat) (w:World) (h0:RedC a b c) (hx:x≤5) (hy:y≤5) (hg:Int.gcd x y=1):
  Calls Tryz.prog 79 #[.agg #[.int .i64 a,.int .i64 b,.int .i64 c],.int .i64 (x:Int),.int .i64 (y:Int)] w (RetCpl a b c x y (cpE a b c x y) (cpB a b c x y) (cpC a b c x y) w):=by
 obtain ⟨s1,s2,s3,s4⟩:=red_small h0.cls.ok h0.red
 have a0:=h0.cls.ok.a0
 have c0:=h0.cls.ok.c0
 have d0:=h0.cls.ok.d0
 have d1:=h0.cls.ok.d1
 have hform:=red_form h0
 obtain ⟨b1,b2,b3,b4⟩:=bz_facts hx hy hg
 have hF:=cpl_facts h0 hx hy hg
 have hE:valI a b c x y=cpE a b c x y:=rfl
 have hP:polI a b c x y (-bzV x y) (bzS x y)=cpP a b c x y:=rfl
 have hQ:cpQ a b c x y= -bzV x y+cpT a b c x y*x:=rfl
 have hS:cpS a b c x y=bzS x y+cpT a b c x y*y:=rfl
 generalize cpE a b c x y=e at*
 generalize cpP a b c x y=P at*
 generalize cpT a b c x y=t at*
 generalize cpB a b c x y=B at*
 generalize cpC a b c x y=C at*
 obtain ⟨e0,e1,P0,P1,pd,tt,tx,ty,B0,B1,PB,dv,B2,et,C0,C1,cd,vq,pq,cb,dd⟩:=hF
 have A1:=at_wide (a:=a) (b:=b) (c:=c) (x:=x) (y:=y) (by omega) (by omega) (by omega) (by omega) (by omega)
 have A2:=po_wide (a:=a) (b:=b) (c:=c) (x:=x) (y:=y) (u:= -bzV x y) (v:=bzS x y) (by omega) (by omega) (by omega) (by omega) (by omega) (by omega) (by omega)
 rw[Int.mul_comm] at tx ty
 have HPM:Hid (CplM a b c x y x (-bzV x y+x*t) y (bzS x y+y*t)):=hide ⟨rfl,by rw[hQ,Int.mul_comm],rfl,by rw[hS,Int.mul_comm]⟩
 clear hQ hS
 have HX:IntKind.i64.wrap ((B*B-discI a b c).tdiv (4*e))=C:=by rw[cd];exact int_in (by omega)
 have m0:=Int.emod_nonneg P (show 2*e≠0 by omega)
 have m1:=Int.emod_lt_of_pos P (show 0<2*e by omega)
 have t0: -100000≤t∧t≤100000:=by omega
 clear tt cd cb dd b1 b4 pq vq
 go_enter Tryz.func79,Tryz.ntmps79
 go_wp2_with fail
 refine (nuBezout_z x y _ hx hy hg).mono ?_
 rintro e w1 ⟨rfl,hb1⟩
 have tq0:=Ri3.c hb1 w.heap.size a b c
 have tq1:=Wi3.c hb1 (w.heap.size+1) 0 0 0
 have tq2:=Wi4.c hb1 (w.heap.size+1+1) 0 0 0 0
 try clear c00 c01 c02
 try clear c10 c11 c12 f10 f11 f12
 try clear c20 c21 c22 c23 f20 f21 f22 f23
 obtain ⟨c00,c01,c02,z0⟩:=tq0
 obtain ⟨c10,c11,c12,f10,f11,f12,z1⟩:=tq1
 obtain ⟨c20,c21,c22,c23,f20,f21,f22,f23,z2⟩:=tq2
 have hs1:=hb1.size
 go_wp2_with fail
 refine (foValue_a a b c x y _ A1).mono ?_
 rintro e w2 ⟨rfl,hb2⟩
 have tq0:=Ri3.c hb2 w.heap.size a b c
 have tq1:=Wi3.c hb2 (w.heap.size+1) 0 0 0
 have tq2:=Wi4.c hb2 (w.heap.size+1+1) 0 0 0 0
 try clear c00 c01 c02
 try clear c10 c11 c12 f10 f11 f12
 try clear c20 c21 c22 c23 f20 f21 f22 f23
 obtain ⟨c00,c01,c02,z0⟩:=tq0
 obtain ⟨c10,c11,c12,f10,f11,f12,z1⟩:=tq1
 obtain ⟨c20,c21,c22,c23,f20,f21,f22,f23,z2⟩:=tq2
 have hs2:=hb2.size
 go_wp2_with fail
 refine (foPolar_a a b c x y (-bzV x y) (bzS x y) _ A2).mono ?_
 rintro e w3 ⟨rfl,hb3⟩
 have tq0:=Ri3.c hb3 w.heap.size a b c
 have tq1:=Wi3.c hb3 (w.heap.size+1) 0 0 0
 have tq2:=Wi4.c hb3 (w.heap.size+1+1) 0 0 0 0
 try clear c00 c01 c02
 try clear c10 c11 c12 f10 f11 f12
 try clear c20 c21 c22 c23 f20 f21 f22 f23
 obtain ⟨c00,c01,c02,z0⟩:=tq0
 obtain ⟨c10,c11,c12,f10,f11,f12,z1⟩:=tq1
 obtain ⟨c20,c21,c22,c23,f20,f21,f22,f23,z2⟩:=tq2
 have hs3:=hb3.size
 go_upto_region 7 with (go_at_call 69;refine (nuMod_a _ _ _ (by first|assumption|omega) (by first|assumption|omega) (by first|assumption|omega)).mono ?_;rintro e w' ⟨rfl,rfl⟩)
 go_cut [] (fun  wx=>Ri3 wx w.heap.size a b c∧Wi3 wx (w.heap.size+1) e B C∧Wi4 wx (w.heap.size+1+1) ((x:Int)) (-bzV x y+x*t) ((y:Int)) (bzS x y+y*t)∧Ri4 wx w3.heap.size ((x:Int)) (-bzV x y+x*t) ((y:Int)) (bzS x y+y*t)∧Below w.heap.size w wx)
 case first=>
  have h1:=trivial
  rename_i K2 h2 h3
  refine region_n0 (by kernel_rfl) (fun j=> #[63,64,65,66,67,68,69,70,71,72,73,74,75,6,7].getD j 0) (fun j=>Kd.ok ((fun j=>match j with|0=>Kd.val (.int .i64 e)|1=>Kd.val (.int .i64 B)|2=>Kd.val (.int .i64 B)|3=>Kd.val (.int .i64 B)|4=>Kd.val (.int .i64 (B*B))|5=>Kd.val (.agg #[.int .i64 a,.int .i64 b,.int .i64 c])|6=>Kd.val (.int .i64 (discI a b c))|7=>Kd.val (.int .i64 ((B*B)-(discI a b c)))|8=>Kd.val (.int .i64 e)|9=>Kd.val (.int .i64 (4*e))|10=>Kd.val (.int .i64 C)|11=>Kd.val (.agg #[.int .i64 e,.int .i64 B,.int .i64 C])|12=>Kd.val (.agg #[.int .i64 ((x:Int)),.int .i64 (-bzV x y+x*t),.int .i64 ((y:Int)),.int .i64 (bzS x y+y*t)])|13=>Kd.old (w3.heap.size+1) [(⟨w.heap.size+1,0,none⟩,.int .i64 e),(⟨w.heap.size+1,1,none⟩,.int .i64 B),(⟨w.heap.size+1,2,none⟩,.int .i64 C)]|14=>Kd.old (w3.heap.size+1) [(⟨w.heap.size+1+1,0,none⟩,.int .i64 ((x:Int))),(⟨w.heap.size+1+1,1,none⟩,.int .i64 (-bzV x y+x*t)),(⟨w.heap.size+1+1,2,none⟩,.int .i64 ((y:Int))),(⟨w.heap.size+1+1,3,none⟩,.int .i64 (bzS x y+y*t))]|_=>Kd.any:Nat→Kd) j)) (Sy w (w3.heap.size+1) [(⟨w.heap.size,0,none⟩,.int .i64 a),(⟨w.heap.size,1,none⟩,.int .i64 b),(⟨w.heap.size,2,none⟩,.int .i64 c),(⟨w3.heap.size,0,none⟩,.int .i64 ((x:Int))),(⟨w3.heap.size,1,none⟩,.int .i64 (-bzV x y+x*t)),(⟨w3.heap.size,2,none⟩,.int .i64 ((y:Int))),(⟨w3.heap.size,3,none⟩,.int .i64 (bzS x y+y*t))] [⟨w.heap.size+1,0,none⟩,⟨w.heap.size+1,1,none⟩,⟨w.heap.size+1,2,none⟩,⟨w.heap.size+1+1,0,none⟩,⟨w.heap.size+1+1,1,none⟩,⟨w.heap.size+1+1,2,none⟩,⟨w.heap.size+1+1,3,none⟩]) (by kernel_rfl) (by kernel_rfl) ?_ ?_ ?_ ?_
  ·intro j hj
   have hj2:j<15:=hj
   have: ∀j,j<15→(#[63,64,65,66,67,68,69,70,71,72,73,74,75,6,7]:Array Nat).getD j 0<76:=by decide
   exact this j hj2
  ·refine Sy.drew (Sy.mk_of ?_ ?_ ?_ ?_)
   ·first|rfl|(simp;done)|(simp;omega)
   ·intro c hc
    simp only[List.mem_cons,List.not_mem_nil,or_false] at hc
    rcases hc with rfl|rfl|rfl|rfl|rfl|rfl|rfl<;>exact byCT
   ·intro p hp
    simp only[List.mem_cons,List.not_mem_nil,or_false] at hp
    rcases hp with rfl|rfl|rfl|rfl|rfl|rfl|rfl<;>exact ⟨by first|((repeat' with_reducible (first|refine ex_set _ ?_|refine ex_al _ ?_|exact ⟨_,by assumption⟩));done)|first|exact ⟨_,by assumption⟩|assumption|(go_simp;done)|(go_simp;exact ⟨_,rfl⟩),by first|((repeat' first|with_reducible (first|assumption|refine frz_al _ ?_ ?_|refine frz_set _ ?_)|omega|(simp;omega));done)|assumption|(go_simp;done)⟩
   ·(repeat' first|with_reducible (first|exact Below.refl _ _|assumption|refine gr_alloc ?_ _|refine below_drewN ?_ _|refine below_drew ?_|refine gr_call ?_ (by assumption)|refine Below.setCell ?_ ?_ _)|go_size|omega|(simp;omega))
  ·clear h1 h2 h3
   refine ⟨?r13x0,?r13x1,?r13x2,?r13x3,?r13x4,?r13x5,?r13x6,?r13x7,?r13x8,?r13x9,?r13x10,?r13x11,?r13x12,?r13x13,?r13x14,trivial⟩
   all_goals intro _ aq wx Kq hf hS hdep ev1 ev2 hK
   case' r13x0=>
    have F12:aq.eval (.tmp 12)= .int .i64 e:=hf 12
   case' r13x1=>
    have F13:aq.eval (.tmp 13)= .int .i64 B:=hf 13
   case' r13x2=>
    have F13:aq.eval (.tmp 13)= .int .i64 B:=hf 13
   case' r13x3=>
    have F13:aq.eval (.tmp 13)= .int .i64 B:=hf 13
   case' r13x4=>
    have D2:aq.eval (.tmp 65)=_:=hdep 2
    have D3:aq.eval (.tmp 66)=_:=hdep 3
   case' r13x5=>
    have F3:aq.eval (.tmp 3)= .pointer (some ⟨w.heap.size,0,none⟩):=hf 3
    have c0:=hS.cells (⟨w.heap.size,0,none⟩,.int .i64 a) (by simp)
    have c1:=hS.cells (⟨w.heap.size,1,none⟩,.int .i64 b) (by simp)
    have c2:=hS.cells (⟨w.heap.size,2,none⟩,.int .i64 c) (by simp)
   case' r13x6=>
    have D5:aq.eval (.tmp 68)=_:=hdep 5
   case' r13x7=>
    have D4:aq.eval (.tmp 67)=_:=hdep 4
    have D6:aq.eval (.tmp 69)=_:=hdep 6
   case' r13x8=>
    have F12:aq.eval (.tmp 12)= .int .i64 e:=hf 12
   case' r13x9=>
    have D8:aq.eval (.tmp 71)=_:=hdep 8
   case' r13x10=>
    have D7:aq.eval (.tmp 70)=_:=hdep 7
    have D9:aq.eval (.tmp 72)=_:=hdep 9
   case' r13x11=>
    have D0:aq.eval (.tmp 63)=_:=hdep 0
    have D1:aq.eval (.tmp 64)=_:=hdep 1
    have D10:aq.eval (.tmp 73)=_:=hdep 10
   case' r13x12=>
    have F15:aq.eval (.tmp 15)= .pointer (some ⟨w3.heap.size,0,none⟩):=hf 15
    have c0:=hS.cells (⟨w3.heap.size,0,none⟩,.int .i64 ((x:Int))) (by simp)
    have c1:=hS.cells (⟨w3.heap.size,1,none⟩,.int .i64 (-bzV x y+x*t)) (by simp)
    have c2:=hS.cells (⟨w3.heap.size,2,none⟩,.int .i64 ((y:Int))) (by simp)
    have c3:=hS.cells (⟨w3.heap.size,3,none⟩,.int .i64 (bzS x y+y*t)) (by simp)
   case' r13x13=>
    have D11:aq.eval (.tmp 74)=_:=hdep 11
    have F6:aq.eval (.tmp 6)= .pointer (some ⟨w.heap.size+1,0,none⟩):=hf 6
    obtain ⟨⟨vx0,cx0⟩,cf0⟩:=hS.free ⟨w.heap.size+1,0,none⟩ (by simp)
    obtain ⟨⟨vx1,cx1⟩,cf1⟩:=hS.free ⟨w.heap.size+1,1,none⟩ (by simp)
    obtain ⟨⟨vx2,cx2⟩,cf2⟩:=hS.free ⟨w.heap.size+1,2,none⟩ (by simp)
   case' r13x14=>
    have D12:aq.eval (.tmp 75)=_:=hdep 12
    have F7:aq.eval (.tmp 7)= .pointer (some ⟨w.heap.size+1+1,0,none⟩):=hf 7
    obtain ⟨⟨vx0,cx0⟩,cf0⟩:=hS.free ⟨w.heap.size+1+1,0,none⟩ (by simp)
    obtain ⟨⟨vx1,cx1⟩,cf1⟩:=hS.free ⟨w.heap.size+1+1,1,none⟩ (by simp)
    obtain ⟨⟨vx2,cx2⟩,cf2⟩:=hS.free ⟨w.heap.size+1+1,2,none⟩ (by simp)
    obtain ⟨⟨vx3,cx3⟩,cf3⟩:=hS.free ⟨w.heap.size+1+1,3,none⟩ (by simp)
   all_goals (clear hf hdep;unfold Oper.wp;generalize Act.eval _=ev at *;go_simp)
   case r13x6=>
    refine ((foDisc_a a b c _ hform)).mono ?_
    rintro e w2 ⟨rfl,hb⟩
    refine hK _ _ (hS.call hb) ?_ (fun j u _ h=>Kd.ok_below hb h)
    rw[if_pos (by rfl)]
    show (_:Value)=_
    first|rfl|(refine congrArg (Value.int .i64) ?_;first|rfl|exact int_in (by omega)|exact quo_in (by omega) (by omega) (by omega)|exact rem_in (by omega) (by omega)|omega|exact HX)|(simp;done)|(simp [*];done)
   case' r13x10=>
    try rw[if_neg (by omega),Oper.upon_value]
   case r13x13=>
    refine hK undef (setAll (w.heap.size+1) 0 [.int .i64 e,.int .i64 B,.int .i64 C] wx) (Sy.setAll (by first|omega|(simp;omega)|(simp;done)) (fa (far_blk (by first|(with_reducible assumption)|omega)) (fa (far_blk (by first|(with_reducible assumption)|omega)) (fa (far_blk (by first|(with_reducible assumption)|omega)) (fa (far_blk (by first|(with_reducible assumption)|omega)) (fa (far_blk (by first|(with_reducible assumption)|omega)) (fa (far_blk (by first|(with_reducible assumption)|omega)) (fa (far_blk (by first|(with_reducible assumption)|omega)) (fa0)))))))) hS) ?_ (fun j u hj h=> ?_)
    ·rw [if_neg (by decide)]
     exact fa ⟨setAll_at (w.heap.size+1) [.int .i64 e,.int .i64 B,.int .i64 C] 0 wx 0 (show 0<3 by decide) ⟨vx0,cx0⟩,(by first|omega|(simp;omega)|(simp;done))⟩ (fa ⟨setAll_at (w.heap.size+1) [.int .i64 e,.int .i64 B,.int .i64 C] 0 wx 1 (show 1<3 by decide) ⟨vx1,cx1⟩,(by first|omega|(simp;omega)|(simp;done))⟩ (fa ⟨setAll_at (w.heap.size+1) [.int .i64 e,.int .i64 B,.int .i64 C] 0 wx 2 (show 2<3 by decide) ⟨vx2,cx2⟩,(by first|omega|(simp;omega)|(simp;done))⟩ (fa0)))
    ·match j,hj with
     |0,hj|1,hj|2,hj|3,hj|4,hj|5,hj|6,hj|7,hj|8,hj|9,hj|10,hj|11,hj|12,hj=>exact (show (u:Value)=_ from h)
     |13,hj=>exact absurd rfl hj
     |14,hj=>exact Kd.ok_setAll_old (k:=Kd.old (w3.heap.size+1) [(⟨w.heap.size+1+1,0,none⟩,.int .i64 ((x:Int))),(⟨w.heap.size+1+1,1,none⟩,.int .i64 (-bzV x y+x*t)),(⟨w.heap.size+1+1,2,none⟩,.int .i64 ((y:Int))),(⟨w.heap.size+1+1,3,none⟩,.int .i64 (bzS x y+y*t))]) trivial (fa (far_blk (by first|(with_reducible assumption)|omega)) (fa (far_blk (by first|(with_reducible assumption)|omega)) (fa (far_blk (by first|(with_reducible assumption)|omega)) (fa (far_blk (by first|(with_reducible assumption)|omega)) (fa0))))) h
     |j+15,_=>trivial
   case r13x14=>
    refine hK undef (setAll (w.heap.size+1+1) 0 [.int .i64 ((x:Int)),.int .i64 (-bzV x y+x*t),.int .i64 ((y:Int)),.int .i64 (bzS x y+y*t)] wx) (Sy.setAll (by first|omega|(simp;omega)|(simp;done)) (fa (far_blk (by first|(with_reducible assumption)|omega)) (fa (far_blk (by first|(with_reducible assumption)|omega)) (fa (far_blk (by first|(with_reducible assumption)|omega)) (fa (far_blk (by first|(with_reducible assumption)|omega)) (fa (far_blk (by first|(with_reducible assumption)|omega)) (fa (far_blk (by first|(with_reducible assumption)|omega)) (fa (far_blk (by first|(with_reducible assumption)|omega)) (fa0)))))))) hS) ?_ (fun j u hj h=> ?_)
    ·rw [if_neg (by decide)]
     exact fa ⟨setAll_at (w.heap.size+1+1) [.int .i64 ((x:Int)),.int .i64 (-bzV x y+x*t),.int .i64 ((y:Int)),.int .i64 (bzS x y+y*t)] 0 wx 0 (show 0<4 by decide) ⟨vx0,cx0⟩,(by first|omega|(simp;omega)|(simp;done))⟩ (fa ⟨setAll_at (w.heap.size+1+1) [.int .i64 ((x:Int)),.int .i64 (-bzV x y+x*t),.int .i64 ((y:Int)),.int .i64 (bzS x y+y*t)] 0 wx 1 (show 1<4 by decide) ⟨vx1,cx1⟩,(by first|omega|(simp;omega)|(simp;done))⟩ (fa ⟨setAll_at (w.heap.size+1+1) [.int .i64 ((x:Int)),.int .i64 (-bzV x y+x*t),.int .i64 ((y:Int)),.int .i64 (bzS x y+y*t)] 0 wx 2 (show 2<4 by decide) ⟨vx2,cx2⟩,(by first|omega|(simp;omega)|(simp;done))⟩ (fa ⟨setAll_at (w.heap.size+1+1) [.int .i64 ((x:Int)),.int .i64 (-bzV x y+x*t),.int .i64 ((y:Int)),.int .i64 (bzS x y+y*t)] 0 wx 3 (show 3<4 by decide) ⟨vx3,cx3⟩,(by first|omega|(simp;omega)|(simp;done))⟩ (fa0))))
    ·match j,hj with
     |0,hj|1,hj|2,hj|3,hj|4,hj|5,hj|6,hj|7,hj|8,hj|9,hj|10,hj|11,hj|12,hj=>exact (show (u:Value)=_ from h)
     |13,hj=>exact Kd.ok_setAll_old (k:=Kd.old (w3.heap.size+1) [(⟨w.heap.size+1,0,none⟩,.int .i64 e),(⟨w.heap.size+1,1,none⟩,.int .i64 B),(⟨w.heap.size+1,2,none⟩,.int .i64 C)]) trivial (fa (far_blk (by first|(with_reducible assumption)|omega)) (fa (far_blk (by first|(with_reducible assumption)|omega)) (fa (far_blk (by first|(with_reducible assumption)|omega)) (fa0)))) h
     |14,hj=>exact absurd rfl hj
     |j+15,_=>trivial
   all_goals (refine hK _ _ hS ?_ (fun j u _ h=>h);rw [if_pos (by rfl)];show (_:Value)=_;(first|rfl|(refine congrArg (Value.int .i64) ?_;first|rfl|exact int_in (by omega)|exact quo_in (by omega) (by omega) (by omega)|exact rem_in (by omega) (by omega)|omega|exact HX)|(simp;done)|(simp [*];done)))
  ·intro aq wx hd hw hf hS hg
   have haq:aq=⟨#[tau aq 0,tau aq 1,tau aq 2,tau aq 3,tau aq 4,tau aq 5,tau aq 6,tau aq 7,tau aq 8,tau aq 9,tau aq 10,tau aq 11,tau aq 12,tau aq 13,tau aq 14,tau aq 15,tau aq 16,tau aq 17,tau aq 18,tau aq 19,tau aq 20,tau aq 21,tau aq 22,tau aq 23,tau aq 24,tau aq 25,tau aq 26,tau aq 27,tau aq 28,tau aq 29,tau aq 30,tau aq 31,tau aq 32,tau aq 33,tau aq 34,tau aq 35,tau aq 36,tau aq 37,tau aq 38,tau aq 39,tau aq 40,tau aq 41,tau aq 42,tau aq 43,tau aq 44,tau aq 45,tau aq 46,tau aq 47,tau aq 48,tau aq 49,tau aq 50,tau aq 51,tau aq 52,tau aq 53,tau aq 54,tau aq 55,tau aq 56,tau aq 57,tau aq 58,tau aq 59,tau aq 60,tau aq 61,tau aq 62,tau aq 63,tau aq 64,tau aq 65,tau aq 66,tau aq 67,tau aq 68,tau aq 69,tau aq 70,tau aq 71,tau aq 72,tau aq 73,tau aq 74,tau aq 75],[]⟩:=by
    obtain ⟨tq,dq⟩:=aq
    have h5:=arr_eq (show tq.size=76 from hw)
    have h6:dq= []:=hd
    subst h6
    exact congrArg (fun z=>Act.mk z []) h5
   show K2 aq wx
   rw[haq,hf 0,hf 1,hf 2,hf 3,hf 4,hf 5,hf 6,hf 7,hf 8,hf 9,hf 10,hf 11,hf 12,hf 13,hf 14,hf 15,hf 16,hf 17,hf 18,hf 19,hf 20,hf 21,hf 22,hf 23,hf 24,hf 25,hf 26,hf 27,hf 28,hf 29,hf 30,hf 31,hf 32,hf 33,hf 34,hf 35,hf 36,hf 37,hf 38,hf 39,hf 40,hf 41,hf 42,hf 43,hf 44,hf 45,hf 46,hf 47,hf 48,hf 49,hf 50,hf 51,hf 52,hf 53,hf 54,hf 55,hf 56,hf 57,hf 58,hf 59,hf 60,hf 61,hf 62]
   clear haq hf hd hw
   try dsimp only
   refine h3 _ _ ?_
   go_meet
   refine ⟨Ri3.m ?_ ?_ ?_,Wi3.m (hg 13 (by decide) (_,_) (by simp)).1 (hg 13 (by decide) (_,_) (by simp)).1 (hg 13 (by decide) (_,_) (by simp)).1 ?_ ?_ ?_,Wi4.m (hg 14 (by decide) (_,_) (by simp)).1 (hg 14 (by decide) (_,_) (by simp)).1 (hg 14 (by decide) (_,_) (by simp)).1 (hg 14 (by decide) (_,_) (by simp)).1 ?_ ?_ ?_ ?_,Ri4.m ?_ ?_ ?_ ?_,hS.below⟩
   all_goals first|exact hS.cells (_,_) (by simp)|exact (hS.free _ (by simp)).2
 obtain ⟨⟨c00,c01,c02,z0⟩,⟨c10,c11,c12,f10,f11,f12,z1⟩,⟨c20,c21,c22,c23,f20,f21,f22,f23,z2⟩,⟨c30,c31,c32,c33,z3⟩,hb0⟩:=hcut
 go_wp2
 refine bodyPost_ret (v:= .tuple #[.agg #[.int .i64 e,.int .i64 B,.int .i64 C],.agg #[.int .i64 ((x:Int)),.int .i64 (-bzV x y+x*t),.int .i64 ((y:Int)),.int .i64 (bzS x y+y*t)]]) (by simp [results,Tryz.results79,go_sem, *]) rfl ?_
 exact ⟨_,_,_,_,rfl,unhide HPM,byGG⟩
end Go.Proofs.YtobkcnmlmmhpoaaGreat
