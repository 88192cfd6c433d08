/- The completed form on both sides. -/
import Derived.Test.YtobkcnmlmmhpoaaGreatDoorCpl
import Derived.Outline
namespace Go.Proofs.YtobkcnmlmmhpoaaGreatDoor
set_option maxRecDepth 100000
set_option maxHeartbeats 80000000
open Go.RowKit
set_option linter.unusedVariables false
set_option linter.unusedSimpArgs false
attribute [local go_sem] q2 q3 q4 q5 q6 q7 q8 q9 q10 q11 q12

def CplM (a b c:Int) (x y:Nat) (P Q R S:Int):Prop:=P=x∧Q=cpQ a b c x y∧R=y∧S=cpS a b c x y
def RetCpl (a b c:Int) (x y:Nat) (e B C:Int) (w:World) (en:Ending) (w':World):Prop:= ∃P Q R S:Int,en= .returned (.tuple #[.agg #[.int .i64 e,.int .i64 B,.int .i64 C],.agg #[.int .i64 P,.int .i64 Q,.int .i64 R,.int .i64 S]])∧CplM a b c x y P Q R S∧Below w.heap.size w w'

theorem complete_c (a b c:Int) (x y:Nat) (w:World) (h0:RedC a b c) (hx:x≤5) (hy:y≤5) (hg:Int.gcd x y=1):
  Calls Tryz.prog 171 #[.agg #[.int .i64 a,.int .i64 b,.int .i64 c],.int .i64 (x:Int),.int .i64 (y:Int)] w (RetCpl a b c x y (cpE a b c x y) (cpB a b c x y) (cpC a b c x y) w):=by
 obtain ⟨s1,s2,s3,s4⟩:=red_small h0.cls.ok h0.red
 have a0:=h0.cls.ok.a0
 have c0:=h0.cls.ok.c0
 obtain ⟨b1,b2,b3,b4⟩:=bz_facts hx hy hg
 have hF:=cpl_facts h0 hx hy hg
 have hE:valI a b c x y=cpE a b c x y:=rfl
 have hP:polI a b c x y (-bzV x y) (bzS x y)=cpP a b c x y:=rfl
 have hQ:cpQ a b c x y= -bzV x y+cpT a b c x y*x:=rfl
 have hS:cpS a b c x y=bzS x y+cpT a b c x y*y:=rfl
 generalize cpE a b c x y=e at*
 generalize cpP a b c x y=P at*
 generalize cpT a b c x y=t at*
 generalize cpB a b c x y=B at*
 generalize cpC a b c x y=C at*
 obtain ⟨e0,e1,P0,P1,pd,tt,tx,ty,B0,B1,PB,dv,B2,et,C0,C1,cd,vq,pq,cb,dd⟩:=hF
 have A1:=at_wide (a:=a) (b:=b) (c:=c) (x:=x) (y:=y) Vn Vn Vn Vn Vn
 have A2:=po_wide (a:=a) (b:=b) (c:=c) (x:=x) (y:=y) (u:= -bzV x y) (v:=bzS x y) Vn Vn Vn Vn Vn Vn Vn
 have A3:=at_wide (a:=a) (b:=b) (c:=c) (x:= -bzV x y) (y:=bzS x y) Vn Vn Vn Vn Vn
 have A5:=po_wide (a:=a) (b:=b) (c:=c) (x:=x) (y:=y) (u:= -bzV x y+t*x) (v:=bzS x y+t*y) Vn Vn Vn Vn Vn Vn Vn
 have A6:=at_wide (a:=a) (b:=b) (c:=c) (x:= -bzV x y+t*x) (y:=bzS x y+t*y) Vn Vn Vn Vn Vn
 have HT:=tt.symm
 clear tt dv cd cb dd PB et h0 b1
 by_cases q:y=0
 ·subst q
  have hx1:x=1:=by simpa using hg
  subst hx1
  have q1:bzS 1 0=1:=by simp [bzS]
  have q2:bzV 1 0=0:=by simp [bzV]
  have HPM:Hid (CplM a b c 1 0 1 t 0 1):=hide ⟨rfl,by rw[hQ,q2];simp,rfl,by rw[hS,q1];simp⟩
  clear hQ hS
  have hE':valI a b c 1 0=e:=hE
  have hP':polI a b c 1 0 0 1=P:=by rw[←hP,q1,q2];rfl
  have vq':valI a b c t 1=C:=by rw[←vq,q1,q2];simp
  have pq':polI a b c 1 0 t 1=B:=by rw[←pq,q1,q2];simp
  have A1':AtOk a b c 1 0:=A1
  have A2':PoOk a b c 1 0 0 1:=by rw[q1,q2] at A2;exact A2
  have A3':AtOk a b c 0 1:=by rw[q1,q2] at A3;exact A3
  have A5':PoOk a b c 1 0 t 1:=by rw[q1,q2] at A5;simpa using A5
  have A6':AtOk a b c t 1:=by rw[q1,q2] at A6;simpa using A6
  clear A1 A2 A3 A5 A6 hE hP vq pq q1 q2 tx ty b2 b3 b4 hg
  have A1:=A1'
  clear A1'
  have A2:=A2'
  clear A2'
  have A3:=A3'
  clear A3'
  have A5:=A5'
  clear A5'
  have A6:=A6'
  clear A6'
  have hE:=hE'
  clear hE'
  have hP:=hP'
  clear hP'
  have vq:=vq'
  clear vq'
  have pq:=pq'
  clear pq'
  go_enter Tryz.func171,Tryz.ntmps171
  go_wp2_with (first|(go_at_call 58;refine (abs_a _ _ Vp).mono ?_;rintro e w' ⟨rfl,rfl⟩)|(go_at_call 189;refine (inverse_i _ _ _ Vp Vp Vp Vp).mono ?_;rintro e w' ⟨rfl,rfl⟩))
  refine (subst_a _ _ _ _ _ _ _ _ Vp Vp Vp).mono ?_
  rintro e w1 ⟨rfl,hb1⟩
  have tq0:=Ri3.c hb1 w.heap.size a b c
  have tq1:=Wi3.c hb1 (w.heap.size+1) 0 0 0
  have tq2:=Wi4.c hb1 (w.heap.size+1+1) 0 0 0 0
  have tq3:=Wi4.c hb1 (w.heap.size+1+1+1) 1 0 0 1
  try clear c00 c01 c02
  try clear c10 c11 c12 f10 f11 f12
  try clear c20 c21 c22 c23 f20 f21 f22 f23
  try clear c30 c31 c32 c33 f30 f31 f32 f33
  obtain ⟨c00,c01,c02,z0⟩:=tq0
  obtain ⟨c10,c11,c12,f10,f11,f12,z1⟩:=tq1
  obtain ⟨c20,c21,c22,c23,f20,f21,f22,f23,z2⟩:=tq2
  obtain ⟨c30,c31,c32,c33,f30,f31,f32,f33,z3⟩:=tq3
  have hs1:=hb1.size
  go_upto_region 10 with (go_at_call 181;refine (floorDiv_a _ _ _ Vp Vp Vp).mono ?_;rintro e w' ⟨rfl,rfl⟩)
  go_cut [] (fun  wx=>Ri3 wx w.heap.size a b c∧Wi3 wx (w.heap.size+1) e B C∧Wi4 wx (w.heap.size+1+1) 1 t 0 1∧Wi4 wx (w.heap.size+1+1+1) 1 t 0 1∧Below w.heap.size w wx)
  case first=>
   have h1:=trivial
   rename_i K2 h2 h3
   refine region_n0 Vw (fun j=> #[55,56,57,58,6,7].getD j 0) (fun j=>Kd.ok ((fun j=>match j with|0=>Kd.val (.agg #[.int .i64 a,.int .i64 b,.int .i64 c])|1=>Kd.val (.agg #[.int .i64 1,.int .i64 t,.int .i64 0,.int .i64 1])|2=>Kd.val (.agg #[.int .i64 e,.int .i64 B,.int .i64 C])|3=>Kd.val (.agg #[.int .i64 1,.int .i64 t,.int .i64 0,.int .i64 1])|4=>Kd.old (w1.heap.size+1) [(⟨w.heap.size+1,0,none⟩,.int .i64 e),(⟨w.heap.size+1,1,none⟩,.int .i64 B),(⟨w.heap.size+1,2,none⟩,.int .i64 C)]|5=>Kd.old (w1.heap.size+1) [(⟨w.heap.size+1+1,0,none⟩,.int .i64 1),(⟨w.heap.size+1+1,1,none⟩,.int .i64 t),(⟨w.heap.size+1+1,2,none⟩,.int .i64 0),(⟨w.heap.size+1+1,3,none⟩,.int .i64 1)]|_=>Kd.any:Nat→Kd) j)) (Sy w (w1.heap.size+1) [(⟨w.heap.size,0,none⟩,.int .i64 a),(⟨w.heap.size,1,none⟩,.int .i64 b),(⟨w.heap.size,2,none⟩,.int .i64 c),(⟨w.heap.size+1+1+1,0,none⟩,.int .i64 1),(⟨w.heap.size+1+1+1,1,none⟩,.int .i64 t),(⟨w.heap.size+1+1+1,2,none⟩,.int .i64 0),(⟨w.heap.size+1+1+1,3,none⟩,.int .i64 1)] [⟨w.heap.size+1,0,none⟩,⟨w.heap.size+1,1,none⟩,⟨w.heap.size+1,2,none⟩,⟨w.heap.size+1+1,0,none⟩,⟨w.heap.size+1+1,1,none⟩,⟨w.heap.size+1+1,2,none⟩,⟨w.heap.size+1+1,3,none⟩,⟨w.heap.size+1+1+1,0,none⟩,⟨w.heap.size+1+1+1,1,none⟩,⟨w.heap.size+1+1+1,2,none⟩,⟨w.heap.size+1+1+1,3,none⟩]) Vw Vw ?_ ?_ ?_ ?_
   ·intro j hj
    have hj2:j<6:=hj
    have: ∀j,j<6→(#[55,56,57,58,6,7]:Array Nat).getD j 0<59:=by decide
    exact this j hj2
   ·refine Sy.drew (Sy.mk_of ?_ ?_ ?_ ?_)
    ·first|rfl|(simp;done)|(simp;omega)
    ·intro c hc
     simp only[List.mem_cons,List.not_mem_nil,or_false] at hc
     rcases hc with rfl|rfl|rfl|rfl|rfl|rfl|rfl<;>exact byCT
    ·intro p hp
     simp only[List.mem_cons,List.not_mem_nil,or_false] at hp
     rcases hp with rfl|rfl|rfl|rfl|rfl|rfl|rfl|rfl|rfl|rfl|rfl<;>exact ⟨by first|((repeat' with_reducible (first|refine ex_set _ ?_|refine ex_al _ ?_|exact ⟨_,VV⟩));done)|first|exact ⟨_,VV⟩|assumption|(go_simp;done)|(go_simp;exact ⟨_,rfl⟩),by first|((repeat' first|with_reducible (first|assumption|refine frz_al _ ?_ ?_|refine frz_set _ ?_)|omega|(simp;omega));done)|assumption|(go_simp;done)⟩
    ·(repeat' first|with_reducible (first|exact Below.refl _ _|assumption|refine gr_alloc ?_ _|refine below_drewN ?_ _|refine below_drew ?_|refine gr_call ?_ VV|refine Below.setCell ?_ ?_ _)|go_size|omega|(simp;omega))
   ·clear h1 h2 h3
    refine ⟨?r11x0,?r11x1,?r11x2,?r11x3,?r11x4,?r11x5,trivial⟩
    all_goals intro _ aq wx Kq hf hS hdep ev1 ev2 hK
    case' r11x0=>
     have F3:aq.eval (.tmp 3)= .pointer (some ⟨w.heap.size,0,none⟩):=hf 3
     have c0:=hS.cells (⟨w.heap.size,0,none⟩,.int .i64 a) Vs
     have c1:=hS.cells (⟨w.heap.size,1,none⟩,.int .i64 b) Vs
     have c2:=hS.cells (⟨w.heap.size,2,none⟩,.int .i64 c) Vs
    case' r11x1=>
     have F8:aq.eval (.tmp 8)= .pointer (some ⟨w.heap.size+1+1+1,0,none⟩):=hf 8
     have c0:=hS.cells (⟨w.heap.size+1+1+1,0,none⟩,.int .i64 1) Vs
     have c1:=hS.cells (⟨w.heap.size+1+1+1,1,none⟩,.int .i64 t) Vs
     have c2:=hS.cells (⟨w.heap.size+1+1+1,2,none⟩,.int .i64 0) Vs
     have c3:=hS.cells (⟨w.heap.size+1+1+1,3,none⟩,.int .i64 1) Vs
    case' r11x2=>
     have D0:aq.eval (.tmp 55)=_:=hdep 0
     have D1:aq.eval (.tmp 56)=_:=hdep 1
    case' r11x3=>
     have F8:aq.eval (.tmp 8)= .pointer (some ⟨w.heap.size+1+1+1,0,none⟩):=hf 8
     have c0:=hS.cells (⟨w.heap.size+1+1+1,0,none⟩,.int .i64 1) Vs
     have c1:=hS.cells (⟨w.heap.size+1+1+1,1,none⟩,.int .i64 t) Vs
     have c2:=hS.cells (⟨w.heap.size+1+1+1,2,none⟩,.int .i64 0) Vs
     have c3:=hS.cells (⟨w.heap.size+1+1+1,3,none⟩,.int .i64 1) Vs
    case' r11x4=>
     have D2:aq.eval (.tmp 57)=_:=hdep 2
     have F6:aq.eval (.tmp 6)= .pointer (some ⟨w.heap.size+1,0,none⟩):=hf 6
     obtain ⟨⟨vx0,cx0⟩,cf0⟩:=hS.free ⟨w.heap.size+1,0,none⟩ Vs
     obtain ⟨⟨vx1,cx1⟩,cf1⟩:=hS.free ⟨w.heap.size+1,1,none⟩ Vs
     obtain ⟨⟨vx2,cx2⟩,cf2⟩:=hS.free ⟨w.heap.size+1,2,none⟩ Vs
    case' r11x5=>
     have D3:aq.eval (.tmp 58)=_:=hdep 3
     have F7:aq.eval (.tmp 7)= .pointer (some ⟨w.heap.size+1+1,0,none⟩):=hf 7
     obtain ⟨⟨vx0,cx0⟩,cf0⟩:=hS.free ⟨w.heap.size+1+1,0,none⟩ Vs
     obtain ⟨⟨vx1,cx1⟩,cf1⟩:=hS.free ⟨w.heap.size+1+1,1,none⟩ Vs
     obtain ⟨⟨vx2,cx2⟩,cf2⟩:=hS.free ⟨w.heap.size+1+1,2,none⟩ Vs
     obtain ⟨⟨vx3,cx3⟩,cf3⟩:=hS.free ⟨w.heap.size+1+1,3,none⟩ Vs
    all_goals (clear hf hdep;unfold Oper.wp;generalize Act.eval _=ev at *;go_simp)
    case r11x2=>
     refine ((subst_a a b c (1) (t) (0) (1) _ A1 A5 A6)).mono ?_
     rintro e w2 ⟨rfl,hb⟩
     refine hK _ _ (hS.call hb) ?_ (fun j u _ h=>Kd.ok_below hb h)
     rw[if_pos VH]
     show (_:Value)=_
     first|rfl|(refine congrArg (Value.int .i64) ?_;first|rfl|exact int_in Vn|exact quo_in Vn Vn Vn|exact rem_in Vn Vn|omega|(simp only[hE,vq,pq];done))|(simp;done)|(simp [*];done)
    case r11x4=>
     refine hK undef (setAll (w.heap.size+1) 0 [.int .i64 e,.int .i64 B,.int .i64 C] wx) (Sy.setAll Vr (fa (far_blk Vm) (fa (far_blk Vm) (fa (far_blk Vm) (fa (far_blk Vm) (fa (far_blk Vm) (fa (far_blk Vm) (fa (far_blk Vm) (fa0)))))))) hS) ?_ (fun j u hj h=> ?_)
     ·rw [if_neg VA]
      exact fa ⟨setAll_at (w.heap.size+1) [.int .i64 e,.int .i64 B,.int .i64 C] 0 wx 0 (show 0<3 by decide) ⟨vx0,cx0⟩,Vr⟩ (fa ⟨setAll_at (w.heap.size+1) [.int .i64 e,.int .i64 B,.int .i64 C] 0 wx 1 (show 1<3 by decide) ⟨vx1,cx1⟩,Vr⟩ (fa ⟨setAll_at (w.heap.size+1) [.int .i64 e,.int .i64 B,.int .i64 C] 0 wx 2 (show 2<3 by decide) ⟨vx2,cx2⟩,Vr⟩ (fa0)))
     ·match j,hj with
      |0,hj|1,hj|2,hj|3,hj=>exact (show (u:Value)=_ from h)
      |4,hj=>exact absurd rfl hj
      |5,hj=>exact Kd.ok_setAll_old (k:=Kd.old (w1.heap.size+1) [(⟨w.heap.size+1+1,0,none⟩,.int .i64 1),(⟨w.heap.size+1+1,1,none⟩,.int .i64 t),(⟨w.heap.size+1+1,2,none⟩,.int .i64 0),(⟨w.heap.size+1+1,3,none⟩,.int .i64 1)]) trivial (fa (far_blk Vm) (fa (far_blk Vm) (fa (far_blk Vm) (fa (far_blk Vm) (fa0))))) h
      |j+6,_=>trivial
    case r11x5=>
     refine hK undef (setAll (w.heap.size+1+1) 0 [.int .i64 1,.int .i64 t,.int .i64 0,.int .i64 1] wx) (Sy.setAll Vr (fa (far_blk Vm) (fa (far_blk Vm) (fa (far_blk Vm) (fa (far_blk Vm) (fa (far_blk Vm) (fa (far_blk Vm) (fa (far_blk Vm) (fa0)))))))) hS) ?_ (fun j u hj h=> ?_)
     ·rw [if_neg VA]
      exact fa ⟨setAll_at (w.heap.size+1+1) [.int .i64 1,.int .i64 t,.int .i64 0,.int .i64 1] 0 wx 0 (show 0<4 by decide) ⟨vx0,cx0⟩,Vr⟩ (fa ⟨setAll_at (w.heap.size+1+1) [.int .i64 1,.int .i64 t,.int .i64 0,.int .i64 1] 0 wx 1 (show 1<4 by decide) ⟨vx1,cx1⟩,Vr⟩ (fa ⟨setAll_at (w.heap.size+1+1) [.int .i64 1,.int .i64 t,.int .i64 0,.int .i64 1] 0 wx 2 (show 2<4 by decide) ⟨vx2,cx2⟩,Vr⟩ (fa ⟨setAll_at (w.heap.size+1+1) [.int .i64 1,.int .i64 t,.int .i64 0,.int .i64 1] 0 wx 3 (show 3<4 by decide) ⟨vx3,cx3⟩,Vr⟩ (fa0))))
     ·match j,hj with
      |0,hj|1,hj|2,hj|3,hj=>exact (show (u:Value)=_ from h)
      |4,hj=>exact Kd.ok_setAll_old (k:=Kd.old (w1.heap.size+1) [(⟨w.heap.size+1,0,none⟩,.int .i64 e),(⟨w.heap.size+1,1,none⟩,.int .i64 B),(⟨w.heap.size+1,2,none⟩,.int .i64 C)]) trivial (fa (far_blk Vm) (fa (far_blk Vm) (fa (far_blk Vm) (fa0)))) h
      |5,hj=>exact absurd rfl hj
      |j+6,_=>trivial
    all_goals (refine hK _ _ hS ?_ (fun j u _ h=>h);rw [if_pos VH];show (_:Value)=_;(first|rfl|(refine congrArg (Value.int .i64) ?_;first|rfl|exact int_in Vn|exact quo_in Vn Vn Vn|exact rem_in Vn Vn|omega|(simp only[hE,vq,pq];done))|(simp;done)|(simp [*];done)))
   ·intro aq wx hd hw hf hS hg
    have haq:aq=⟨#[tau aq 0,tau aq 1,tau aq 2,tau aq 3,tau aq 4,tau aq 5,tau aq 6,tau aq 7,tau aq 8,tau aq 9,tau aq 10,tau aq 11,tau aq 12,tau aq 13,tau aq 14,tau aq 15,tau aq 16,tau aq 17,tau aq 18,tau aq 19,tau aq 20,tau aq 21,tau aq 22,tau aq 23,tau aq 24,tau aq 25,tau aq 26,tau aq 27,tau aq 28,tau aq 29,tau aq 30,tau aq 31,tau aq 32,tau aq 33,tau aq 34,tau aq 35,tau aq 36,tau aq 37,tau aq 38,tau aq 39,tau aq 40,tau aq 41,tau aq 42,tau aq 43,tau aq 44,tau aq 45,tau aq 46,tau aq 47,tau aq 48,tau aq 49,tau aq 50,tau aq 51,tau aq 52,tau aq 53,tau aq 54,tau aq 55,tau aq 56,tau aq 57,tau aq 58],[]⟩:=by
     obtain ⟨tq,dq⟩:=aq
     have h5:=arr_eq (show tq.size=59 from hw)
     have h6:dq= []:=hd
     subst h6
     exact congrArg (fun z=>Act.mk z []) h5
    show K2 aq wx
    rw[haq,hf 0,hf 1,hf 2,hf 3,hf 4,hf 5,hf 6,hf 7,hf 8,hf 9,hf 10,hf 11,hf 12,hf 13,hf 14,hf 15,hf 16,hf 17,hf 18,hf 19,hf 20,hf 21,hf 22,hf 23,hf 24,hf 25,hf 26,hf 27,hf 28,hf 29,hf 30,hf 31,hf 32,hf 33,hf 34,hf 35,hf 36,hf 37,hf 38,hf 39,hf 40,hf 41,hf 42,hf 43,hf 44,hf 45,hf 46,hf 47,hf 48,hf 49,hf 50,hf 51,hf 52,hf 53,hf 54]
    clear haq hf hd hw
    try dsimp only
    refine h3 _ _ ?_
    go_meet
    refine ⟨Ri3.m ?_ ?_ ?_,Wi3.m (hg 4 VA (_,_) Vs).1 (hg 4 VA (_,_) Vs).1 (hg 4 VA (_,_) Vs).1 ?_ ?_ ?_,Wi4.m (hg 5 VA (_,_) Vs).1 (hg 5 VA (_,_) Vs).1 (hg 5 VA (_,_) Vs).1 (hg 5 VA (_,_) Vs).1 ?_ ?_ ?_ ?_,Wi4.m ?_ ?_ ?_ ?_ ?_ ?_ ?_ ?_,hS.below⟩
    all_goals first|exact hS.cells (_,_) Vs|exact (hS.free _ Vs).2
  obtain ⟨⟨c00,c01,c02,z0⟩,⟨c10,c11,c12,f10,f11,f12,z1⟩,⟨c20,c21,c22,c23,f20,f21,f22,f23,z2⟩,⟨c30,c31,c32,c33,f30,f31,f32,f33,z3⟩,hb0⟩:=hcut
  go_wp2
  refine bodyPost_ret (v:= .tuple #[.agg #[.int .i64 e,.int .i64 B,.int .i64 C],.agg #[.int .i64 1,.int .i64 t,.int .i64 0,.int .i64 1]]) (by simp [results,Tryz.results171,go_sem, *]) rfl ?_
  exact ⟨_,_,_,_,rfl,unhide HPM,byGG⟩
 ·obtain ⟨b5,b6⟩:=b4 q
  have HX3:invI (x:Int) (y:Int)=bzS x y:=by unfold bzS;rw [if_neg q]
  have HPM:Hid (CplM a b c x y x (-bzV x y+t*x) y (bzS x y+t*y)):=hide ⟨rfl,hQ.symm,rfl,hS.symm⟩
  clear hQ hS
  have HG2:Int.gcd (y:Int) (x:Int)=1:=by rw[Int.gcd_comm];exact hg
  have hxs: -50≤(x:Int)*bzS x y∧(x:Int)*bzS x y≤50:=mul_bd (A:=5) (B:=10) Vn Vn Vn
  have hy0: ¬(y:Int)=0:=by omega
  clear b4 b5
  go_enter Tryz.func171,Tryz.ntmps171
  go_wp2_with (first|(go_at_call 58;refine (abs_a _ _ Vp).mono ?_;rintro e w' ⟨rfl,rfl⟩)|(go_at_call 189;refine (inverse_i _ _ _ Vp Vp Vp Vp).mono ?_;rintro e w' ⟨rfl,rfl⟩))
  refine (subst_a _ _ _ _ _ _ _ _ Vp Vp Vp).mono ?_
  rintro e w1 ⟨rfl,hb1⟩
  have tq0:=Ri3.c hb1 w.heap.size a b c
  have tq1:=Wi3.c hb1 (w.heap.size+1) 0 0 0
  have tq2:=Wi4.c hb1 (w.heap.size+1+1) 0 0 0 0
  have tq3:=Wi4.c hb1 (w.heap.size+1+1+1) (x:Int) (-bzV x y) (y:Int) (bzS x y)
  try clear c00 c01 c02
  try clear c10 c11 c12 f10 f11 f12
  try clear c20 c21 c22 c23 f20 f21 f22 f23
  try clear c30 c31 c32 c33 f30 f31 f32 f33
  obtain ⟨c00,c01,c02,z0⟩:=tq0
  obtain ⟨c10,c11,c12,f10,f11,f12,z1⟩:=tq1
  obtain ⟨c20,c21,c22,c23,f20,f21,f22,f23,z2⟩:=tq2
  obtain ⟨c30,c31,c32,c33,f30,f31,f32,f33,z3⟩:=tq3
  have hs1:=hb1.size
  go_upto_region 10 with (go_at_call 181;refine (floorDiv_a _ _ _ Vp Vp Vp).mono ?_;rintro e w' ⟨rfl,rfl⟩)
  go_cut [] (fun  wx=>Ri3 wx w.heap.size a b c∧Wi3 wx (w.heap.size+1) e B C∧Wi4 wx (w.heap.size+1+1) ((x:Int)) (-bzV x y+t*x) ((y:Int)) (bzS x y+t*y)∧Wi4 wx (w.heap.size+1+1+1) ((x:Int)) (-bzV x y+t*x) ((y:Int)) (bzS x y+t*y)∧Below w.heap.size w wx)
  case first=>
   have h1:=trivial
   rename_i K2 h2 h3
   refine region_n0 Vw (fun j=> #[55,56,57,58,6,7].getD j 0) (fun j=>Kd.ok ((fun j=>match j with|0=>Kd.val (.agg #[.int .i64 a,.int .i64 b,.int .i64 c])|1=>Kd.val (.agg #[.int .i64 ((x:Int)),.int .i64 (-bzV x y+t*x),.int .i64 ((y:Int)),.int .i64 (bzS x y+t*y)])|2=>Kd.val (.agg #[.int .i64 e,.int .i64 B,.int .i64 C])|3=>Kd.val (.agg #[.int .i64 ((x:Int)),.int .i64 (-bzV x y+t*x),.int .i64 ((y:Int)),.int .i64 (bzS x y+t*y)])|4=>Kd.old (w1.heap.size+1) [(⟨w.heap.size+1,0,none⟩,.int .i64 e),(⟨w.heap.size+1,1,none⟩,.int .i64 B),(⟨w.heap.size+1,2,none⟩,.int .i64 C)]|5=>Kd.old (w1.heap.size+1) [(⟨w.heap.size+1+1,0,none⟩,.int .i64 ((x:Int))),(⟨w.heap.size+1+1,1,none⟩,.int .i64 (-bzV x y+t*x)),(⟨w.heap.size+1+1,2,none⟩,.int .i64 ((y:Int))),(⟨w.heap.size+1+1,3,none⟩,.int .i64 (bzS x y+t*y))]|_=>Kd.any:Nat→Kd) j)) (Sy w (w1.heap.size+1) [(⟨w.heap.size,0,none⟩,.int .i64 a),(⟨w.heap.size,1,none⟩,.int .i64 b),(⟨w.heap.size,2,none⟩,.int .i64 c),(⟨w.heap.size+1+1+1,0,none⟩,.int .i64 ((x:Int))),(⟨w.heap.size+1+1+1,1,none⟩,.int .i64 (-bzV x y+t*x)),(⟨w.heap.size+1+1+1,2,none⟩,.int .i64 ((y:Int))),(⟨w.heap.size+1+1+1,3,none⟩,.int .i64 (bzS x y+t*y))] [⟨w.heap.size+1,0,none⟩,⟨w.heap.size+1,1,none⟩,⟨w.heap.size+1,2,none⟩,⟨w.heap.size+1+1,0,none⟩,⟨w.heap.size+1+1,1,none⟩,⟨w.heap.size+1+1,2,none⟩,⟨w.heap.size+1+1,3,none⟩,⟨w.heap.size+1+1+1,0,none⟩,⟨w.heap.size+1+1+1,1,none⟩,⟨w.heap.size+1+1+1,2,none⟩,⟨w.heap.size+1+1+1,3,none⟩]) Vw Vw ?_ ?_ ?_ ?_
   ·intro j hj
    have hj2:j<6:=hj
    have: ∀j,j<6→(#[55,56,57,58,6,7]:Array Nat).getD j 0<59:=by decide
    exact this j hj2
   ·refine Sy.drew (Sy.mk_of ?_ ?_ ?_ ?_)
    ·first|rfl|(simp;done)|(simp;omega)
    ·intro c hc
     simp only[List.mem_cons,List.not_mem_nil,or_false] at hc
     rcases hc with rfl|rfl|rfl|rfl|rfl|rfl|rfl<;>exact byCT
    ·intro p hp
     simp only[List.mem_cons,List.not_mem_nil,or_false] at hp
     rcases hp with rfl|rfl|rfl|rfl|rfl|rfl|rfl|rfl|rfl|rfl|rfl<;>exact ⟨by first|((repeat' with_reducible (first|refine ex_set _ ?_|refine ex_al _ ?_|exact ⟨_,VV⟩));done)|first|exact ⟨_,VV⟩|assumption|(go_simp;done)|(go_simp;exact ⟨_,rfl⟩),by first|((repeat' first|with_reducible (first|assumption|refine frz_al _ ?_ ?_|refine frz_set _ ?_)|omega|(simp;omega));done)|assumption|(go_simp;done)⟩
    ·(repeat' first|with_reducible (first|exact Below.refl _ _|assumption|refine gr_alloc ?_ _|refine below_drewN ?_ _|refine below_drew ?_|refine gr_call ?_ VV|refine Below.setCell ?_ ?_ _)|go_size|omega|(simp;omega))
   ·clear h1 h2 h3
    refine ⟨?r12x0,?r12x1,?r12x2,?r12x3,?r12x4,?r12x5,trivial⟩
    all_goals intro _ aq wx Kq hf hS hdep ev1 ev2 hK
    case' r12x0=>
     have F3:aq.eval (.tmp 3)= .pointer (some ⟨w.heap.size,0,none⟩):=hf 3
     have c0:=hS.cells (⟨w.heap.size,0,none⟩,.int .i64 a) Vs
     have c1:=hS.cells (⟨w.heap.size,1,none⟩,.int .i64 b) Vs
     have c2:=hS.cells (⟨w.heap.size,2,none⟩,.int .i64 c) Vs
    case' r12x1=>
     have F8:aq.eval (.tmp 8)= .pointer (some ⟨w.heap.size+1+1+1,0,none⟩):=hf 8
     have c0:=hS.cells (⟨w.heap.size+1+1+1,0,none⟩,.int .i64 ((x:Int))) Vs
     have c1:=hS.cells (⟨w.heap.size+1+1+1,1,none⟩,.int .i64 (-bzV x y+t*x)) Vs
     have c2:=hS.cells (⟨w.heap.size+1+1+1,2,none⟩,.int .i64 ((y:Int))) Vs
     have c3:=hS.cells (⟨w.heap.size+1+1+1,3,none⟩,.int .i64 (bzS x y+t*y)) Vs
    case' r12x2=>
     have D0:aq.eval (.tmp 55)=_:=hdep 0
     have D1:aq.eval (.tmp 56)=_:=hdep 1
    case' r12x3=>
     have F8:aq.eval (.tmp 8)= .pointer (some ⟨w.heap.size+1+1+1,0,none⟩):=hf 8
     have c0:=hS.cells (⟨w.heap.size+1+1+1,0,none⟩,.int .i64 ((x:Int))) Vs
     have c1:=hS.cells (⟨w.heap.size+1+1+1,1,none⟩,.int .i64 (-bzV x y+t*x)) Vs
     have c2:=hS.cells (⟨w.heap.size+1+1+1,2,none⟩,.int .i64 ((y:Int))) Vs
     have c3:=hS.cells (⟨w.heap.size+1+1+1,3,none⟩,.int .i64 (bzS x y+t*y)) Vs
    case' r12x4=>
     have D2:aq.eval (.tmp 57)=_:=hdep 2
     have F6:aq.eval (.tmp 6)= .pointer (some ⟨w.heap.size+1,0,none⟩):=hf 6
     obtain ⟨⟨vx0,cx0⟩,cf0⟩:=hS.free ⟨w.heap.size+1,0,none⟩ Vs
     obtain ⟨⟨vx1,cx1⟩,cf1⟩:=hS.free ⟨w.heap.size+1,1,none⟩ Vs
     obtain ⟨⟨vx2,cx2⟩,cf2⟩:=hS.free ⟨w.heap.size+1,2,none⟩ Vs
    case' r12x5=>
     have D3:aq.eval (.tmp 58)=_:=hdep 3
     have F7:aq.eval (.tmp 7)= .pointer (some ⟨w.heap.size+1+1,0,none⟩):=hf 7
     obtain ⟨⟨vx0,cx0⟩,cf0⟩:=hS.free ⟨w.heap.size+1+1,0,none⟩ Vs
     obtain ⟨⟨vx1,cx1⟩,cf1⟩:=hS.free ⟨w.heap.size+1+1,1,none⟩ Vs
     obtain ⟨⟨vx2,cx2⟩,cf2⟩:=hS.free ⟨w.heap.size+1+1,2,none⟩ Vs
     obtain ⟨⟨vx3,cx3⟩,cf3⟩:=hS.free ⟨w.heap.size+1+1,3,none⟩ Vs
    all_goals (clear hf hdep;unfold Oper.wp;generalize Act.eval _=ev at *;go_simp)
    case r12x2=>
     refine ((subst_a a b c ((x:Int)) (-bzV x y+t*x) ((y:Int)) (bzS x y+t*y) _ A1 A5 A6)).mono ?_
     rintro e w2 ⟨rfl,hb⟩
     refine hK _ _ (hS.call hb) ?_ (fun j u _ h=>Kd.ok_below hb h)
     rw[if_pos VH]
     show (_:Value)=_
     first|rfl|(refine congrArg (Value.int .i64) ?_;first|rfl|exact int_in Vn|exact quo_in Vn Vn Vn|exact rem_in Vn Vn|omega|(simp only[hE,vq,pq];done))|(simp;done)|(simp [*];done)
    case r12x4=>
     refine hK undef (setAll (w.heap.size+1) 0 [.int .i64 e,.int .i64 B,.int .i64 C] wx) (Sy.setAll Vr (fa (far_blk Vm) (fa (far_blk Vm) (fa (far_blk Vm) (fa (far_blk Vm) (fa (far_blk Vm) (fa (far_blk Vm) (fa (far_blk Vm) (fa0)))))))) hS) ?_ (fun j u hj h=> ?_)
     ·rw [if_neg VA]
      exact fa ⟨setAll_at (w.heap.size+1) [.int .i64 e,.int .i64 B,.int .i64 C] 0 wx 0 (show 0<3 by decide) ⟨vx0,cx0⟩,Vr⟩ (fa ⟨setAll_at (w.heap.size+1) [.int .i64 e,.int .i64 B,.int .i64 C] 0 wx 1 (show 1<3 by decide) ⟨vx1,cx1⟩,Vr⟩ (fa ⟨setAll_at (w.heap.size+1) [.int .i64 e,.int .i64 B,.int .i64 C] 0 wx 2 (show 2<3 by decide) ⟨vx2,cx2⟩,Vr⟩ (fa0)))
     ·match j,hj with
      |0,hj|1,hj|2,hj|3,hj=>exact (show (u:Value)=_ from h)
      |4,hj=>exact absurd rfl hj
      |5,hj=>exact Kd.ok_setAll_old (k:=Kd.old (w1.heap.size+1) [(⟨w.heap.size+1+1,0,none⟩,.int .i64 ((x:Int))),(⟨w.heap.size+1+1,1,none⟩,.int .i64 (-bzV x y+t*x)),(⟨w.heap.size+1+1,2,none⟩,.int .i64 ((y:Int))),(⟨w.heap.size+1+1,3,none⟩,.int .i64 (bzS x y+t*y))]) trivial (fa (far_blk Vm) (fa (far_blk Vm) (fa (far_blk Vm) (fa (far_blk Vm) (fa0))))) h
      |j+6,_=>trivial
    case r12x5=>
     refine hK undef (setAll (w.heap.size+1+1) 0 [.int .i64 ((x:Int)),.int .i64 (-bzV x y+t*x),.int .i64 ((y:Int)),.int .i64 (bzS x y+t*y)] wx) (Sy.setAll Vr (fa (far_blk Vm) (fa (far_blk Vm) (fa (far_blk Vm) (fa (far_blk Vm) (fa (far_blk Vm) (fa (far_blk Vm) (fa (far_blk Vm) (fa0)))))))) hS) ?_ (fun j u hj h=> ?_)
     ·rw [if_neg VA]
      exact fa ⟨setAll_at (w.heap.size+1+1) [.int .i64 ((x:Int)),.int .i64 (-bzV x y+t*x),.int .i64 ((y:Int)),.int .i64 (bzS x y+t*y)] 0 wx 0 (show 0<4 by decide) ⟨vx0,cx0⟩,Vr⟩ (fa ⟨setAll_at (w.heap.size+1+1) [.int .i64 ((x:Int)),.int .i64 (-bzV x y+t*x),.int .i64 ((y:Int)),.int .i64 (bzS x y+t*y)] 0 wx 1 (show 1<4 by decide) ⟨vx1,cx1⟩,Vr⟩ (fa ⟨setAll_at (w.heap.size+1+1) [.int .i64 ((x:Int)),.int .i64 (-bzV x y+t*x),.int .i64 ((y:Int)),.int .i64 (bzS x y+t*y)] 0 wx 2 (show 2<4 by decide) ⟨vx2,cx2⟩,Vr⟩ (fa ⟨setAll_at (w.heap.size+1+1) [.int .i64 ((x:Int)),.int .i64 (-bzV x y+t*x),.int .i64 ((y:Int)),.int .i64 (bzS x y+t*y)] 0 wx 3 (show 3<4 by decide) ⟨vx3,cx3⟩,Vr⟩ (fa0))))
     ·match j,hj with
      |0,hj|1,hj|2,hj|3,hj=>exact (show (u:Value)=_ from h)
      |4,hj=>exact Kd.ok_setAll_old (k:=Kd.old (w1.heap.size+1) [(⟨w.heap.size+1,0,none⟩,.int .i64 e),(⟨w.heap.size+1,1,none⟩,.int .i64 B),(⟨w.heap.size+1,2,none⟩,.int .i64 C)]) trivial (fa (far_blk Vm) (fa (far_blk Vm) (fa (far_blk Vm) (fa0)))) h
      |5,hj=>exact absurd rfl hj
      |j+6,_=>trivial
    all_goals (refine hK _ _ hS ?_ (fun j u _ h=>h);rw [if_pos VH];show (_:Value)=_;(first|rfl|(refine congrArg (Value.int .i64) ?_;first|rfl|exact int_in Vn|exact quo_in Vn Vn Vn|exact rem_in Vn Vn|omega|(simp only[hE,vq,pq];done))|(simp;done)|(simp [*];done)))
   ·intro aq wx hd hw hf hS hg
    have haq:aq=⟨#[tau aq 0,tau aq 1,tau aq 2,tau aq 3,tau aq 4,tau aq 5,tau aq 6,tau aq 7,tau aq 8,tau aq 9,tau aq 10,tau aq 11,tau aq 12,tau aq 13,tau aq 14,tau aq 15,tau aq 16,tau aq 17,tau aq 18,tau aq 19,tau aq 20,tau aq 21,tau aq 22,tau aq 23,tau aq 24,tau aq 25,tau aq 26,tau aq 27,tau aq 28,tau aq 29,tau aq 30,tau aq 31,tau aq 32,tau aq 33,tau aq 34,tau aq 35,tau aq 36,tau aq 37,tau aq 38,tau aq 39,tau aq 40,tau aq 41,tau aq 42,tau aq 43,tau aq 44,tau aq 45,tau aq 46,tau aq 47,tau aq 48,tau aq 49,tau aq 50,tau aq 51,tau aq 52,tau aq 53,tau aq 54,tau aq 55,tau aq 56,tau aq 57,tau aq 58],[]⟩:=by
     obtain ⟨tq,dq⟩:=aq
     have h5:=arr_eq (show tq.size=59 from hw)
     have h6:dq= []:=hd
     subst h6
     exact congrArg (fun z=>Act.mk z []) h5
    show K2 aq wx
    rw[haq,hf 0,hf 1,hf 2,hf 3,hf 4,hf 5,hf 6,hf 7,hf 8,hf 9,hf 10,hf 11,hf 12,hf 13,hf 14,hf 15,hf 16,hf 17,hf 18,hf 19,hf 20,hf 21,hf 22,hf 23,hf 24,hf 25,hf 26,hf 27,hf 28,hf 29,hf 30,hf 31,hf 32,hf 33,hf 34,hf 35,hf 36,hf 37,hf 38,hf 39,hf 40,hf 41,hf 42,hf 43,hf 44,hf 45,hf 46,hf 47,hf 48,hf 49,hf 50,hf 51,hf 52,hf 53,hf 54]
    clear haq hf hd hw
    try dsimp only
    refine h3 _ _ ?_
    go_meet
    refine ⟨Ri3.m ?_ ?_ ?_,Wi3.m (hg 4 VA (_,_) Vs).1 (hg 4 VA (_,_) Vs).1 (hg 4 VA (_,_) Vs).1 ?_ ?_ ?_,Wi4.m (hg 5 VA (_,_) Vs).1 (hg 5 VA (_,_) Vs).1 (hg 5 VA (_,_) Vs).1 (hg 5 VA (_,_) Vs).1 ?_ ?_ ?_ ?_,Wi4.m ?_ ?_ ?_ ?_ ?_ ?_ ?_ ?_,hS.below⟩
    all_goals first|exact hS.cells (_,_) Vs|exact (hS.free _ Vs).2
  obtain ⟨⟨c00,c01,c02,z0⟩,⟨c10,c11,c12,f10,f11,f12,z1⟩,⟨c20,c21,c22,c23,f20,f21,f22,f23,z2⟩,⟨c30,c31,c32,c33,f30,f31,f32,f33,z3⟩,hb0⟩:=hcut
  go_wp2
  refine bodyPost_ret (v:= .tuple #[.agg #[.int .i64 e,.int .i64 B,.int .i64 C],.agg #[.int .i64 ((x:Int)),.int .i64 (-bzV x y+t*x),.int .i64 ((y:Int)),.int .i64 (bzS x y+t*y)]]) (by simp [results,Tryz.results171,go_sem, *]) rfl ?_
  exact ⟨_,_,_,_,rfl,unhide HPM,byGG⟩
end Go.Proofs.YtobkcnmlmmhpoaaGreatDoor
