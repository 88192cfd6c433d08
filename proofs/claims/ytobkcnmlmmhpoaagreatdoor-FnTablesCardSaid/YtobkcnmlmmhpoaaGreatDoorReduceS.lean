/- The reduction of a form: spec. -/
import Derived.Test.YtobkcnmlmmhpoaaGreatDoorReduceI
namespace Go.Proofs.YtobkcnmlmmhpoaaGreatDoor
set_option maxRecDepth 100000
set_option maxHeartbeats 80000000
open Go.RowKit
set_option linter.unusedVariables false
set_option linter.unusedSimpArgs false
attribute [local go_sem] q2 q3 q4 q5 q6 q7 q8 q9 q10 q11 q12

theorem reReduce_a (a b c:Int) (w:World) (h0:OkF a b c):
  Calls Tryz.prog 139 #[.agg #[.int .i64 a,.int .i64 b,.int .i64 c]] w fun e w'=>e= .returned (.tuple #[.agg #[.int .i64 (rfA a b c),.int .i64 (rfB a b c),.int .i64 (rfC a b c)],.agg #[.int .i64 (rmP a b c),.int .i64 (rmQ a b c),.int .i64 (rmR a b c),.int .i64 (rmS a b c)]])∧Below w.heap.size w w':=by
 go_enter Tryz.func139,Tryz.ntmps139
 go_wp2_with fail
 generalize hGW:w.heap.size+1+1+1=gw
 have g0:w.heap.size+1+1<gw:=by omega
 have n0: ¬w.heap.size=gw:=by omega
 have n1: ¬w.heap.size+1=gw:=by omega
 have n2: ¬w.heap.size+1+1=gw:=by omega
 have n3: ¬gw=w.heap.size:=by omega
 have n4: ¬gw=w.heap.size+1:=by omega
 have n5: ¬gw=w.heap.size+1+1:=by omega
 have HGW:=hide hGW
 clear hGW
 go_loopg [5] (muF a b c) (fun g s5 wr=> ∃(x y z p q r s:Int),g=muF x y z∧OkF x y z∧redF x y z=redF a b c∧redM x y z p q r s=redM a b c 1 0 0 1∧Below w.heap.size w wr∧wr.cell? ⟨w.heap.size,0,none⟩=some (.int .i64 x)∧wr.cell? ⟨w.heap.size,1,none⟩=some (.int .i64 y)∧wr.cell? ⟨w.heap.size,2,none⟩=some (.int .i64 z)∧wr.cell? ⟨w.heap.size+1,0,none⟩=some (.int .i64 0)∧wr.cell? ⟨w.heap.size+1,1,none⟩=some (.int .i64 0)∧wr.cell? ⟨w.heap.size+1,2,none⟩=some (.int .i64 0)∧wr.cell? ⟨w.heap.size+1+1,0,none⟩=some (.int .i64 0)∧wr.cell? ⟨w.heap.size+1+1,1,none⟩=some (.int .i64 0)∧wr.cell? ⟨w.heap.size+1+1,2,none⟩=some (.int .i64 0)∧wr.cell? ⟨w.heap.size+1+1,3,none⟩=some (.int .i64 0)∧wr.cell? ⟨gw,0,none⟩=some (.int .i64 p)∧wr.cell? ⟨gw,1,none⟩=some (.int .i64 q)∧wr.cell? ⟨gw,2,none⟩=some (.int .i64 r)∧wr.cell? ⟨gw,3,none⟩=some (.int .i64 s)∧wr.frozen? ⟨w.heap.size,0,none⟩=false∧wr.frozen? ⟨w.heap.size,1,none⟩=false∧wr.frozen? ⟨w.heap.size,2,none⟩=false∧wr.frozen? ⟨w.heap.size+1,0,none⟩=false∧wr.frozen? ⟨w.heap.size+1,1,none⟩=false∧wr.frozen? ⟨w.heap.size+1,2,none⟩=false∧wr.frozen? ⟨w.heap.size+1+1,0,none⟩=false∧wr.frozen? ⟨w.heap.size+1+1,1,none⟩=false∧wr.frozen? ⟨w.heap.size+1+1,2,none⟩=false∧wr.frozen? ⟨w.heap.size+1+1,3,none⟩=false∧wr.frozen? ⟨gw,0,none⟩=false∧wr.frozen? ⟨gw,1,none⟩=false∧wr.frozen? ⟨gw,2,none⟩=false∧wr.frozen? ⟨gw,3,none⟩=false)
 case atStart=>
  have hGW:=unhide HGW
  clear g0 n0 n1 n2 n3 n4 n5
  subst hGW
  refine ⟨a,b,c,1,0,0,1,rfl,h0,rfl,rfl,?_,?_,?_,?_,?_,?_,?_,?_,?_,?_,?_,?_,?_,?_,?_,?_,?_,?_,?_,?_,?_,?_,?_,?_,?_,?_,?_,?_,?_⟩
  all_goals first|(go_simp;done)|(repeat' first|with_reducible (first|exact Below.refl _ _|assumption|refine gr_alloc ?_ _|refine below_drewN ?_ _|refine below_drew ?_|refine gr_call ?_ VV|refine Below.setCell ?_ ?_ _)|go_size|omega|(simp;omega))
 case round=>
  obtain ⟨x,y,z,p,q,r,s,hn,hok,hrf,hrm,hb0,c00,c01,c02,c10,c11,c12,c20,c21,c22,c23,c30,c31,c32,c33,f00,f01,f02,f10,f11,f12,f20,f21,f22,f23,f30,f31,f32,f33⟩:=hrel
  have HR:=hide hrf
  have HM:=hide hrm
  have HN:=hide hn
  clear hrf hrm hn
  have z0:=World.block_lt_of_cell? _ _ c00
  have z1:=World.block_lt_of_cell? _ _ c10
  have z2:=World.block_lt_of_cell? _ _ c20
  have z3:=World.block_lt_of_cell? _ _ c30
  change w.heap.size<wr.heap.size at z0
  change w.heap.size+1<wr.heap.size at z1
  change w.heap.size+1+1<wr.heap.size at z2
  change gw<wr.heap.size at z3
  have xa:=hok.a0
  have xb:=hok.a1
  cases hrd:redB x y z
  ·cases hnm:normB x y
   ·obtain ⟨R1,R2,R3,R4⟩:=redF_tr hok hnm
    obtain ⟨A0,A1,A2,-,-,-,-,-⟩:=at_tr hok
    have S1:=hide (R1.trans (unhide HR))
    have S4:=hide ((R4 p q r s).trans (unhide HM))
    have S3:=hide R3
    clear R1 R3 R4
    go_wp2_with (go_at_call 109;refine (reIs_x _ _ _ _ Vp).mono ?_;rintro e w' ⟨rfl,rfl⟩)
    refine (reMove_tr _ _ _ _ Vp Vp Vp).mono ?_
    rintro e w1 ⟨rfl,hb1⟩
    have tq0:=Wi3.c hb1 w.heap.size x y z
    have tq1:=Wi3.c hb1 (w.heap.size+1) 0 0 0
    have tq2:=Wi4.c hb1 (w.heap.size+1+1) 0 0 0 0
    have tq3:=Wi4.c hb1 gw p q r s
    try clear c00 c01 c02 f00 f01 f02
    try clear c10 c11 c12 f10 f11 f12
    try clear c20 c21 c22 c23 f20 f21 f22 f23
    try clear c30 c31 c32 c33 f30 f31 f32 f33
    obtain ⟨c00,c01,c02,f00,f01,f02,z0⟩:=tq0
    obtain ⟨c10,c11,c12,f10,f11,f12,z1⟩:=tq1
    obtain ⟨c20,c21,c22,c23,f20,f21,f22,f23,z2⟩:=tq2
    obtain ⟨c30,c31,c32,c33,f30,f31,f32,f33,z3⟩:=tq3
    have hs1:=hb1.size
    go_upto_region 4 with fail
    skip
    refine region_n3 Vw (fun j=> #[12,13,14,15,16,17,1,4].getD j 0) (fun j=>Kd.ok ((fun j=>match j with|0=>Kd.val (.agg #[.int .i64 x,.int .i64 y,.int .i64 z])|1=>Kd.val (.agg #[.int .i64 1,.int .i64 (trT x y),.int .i64 0,.int .i64 1])|2=>Kd.val (.agg #[.int .i64 (valI x y z 1 0),.int .i64 (polI x y z 1 0 (trT x y) 1),.int .i64 (valI x y z (trT x y) 1)])|3=>Kd.val (.agg #[.int .i64 p,.int .i64 q,.int .i64 r,.int .i64 s])|4=>Kd.val (.agg #[.int .i64 1,.int .i64 (trT x y),.int .i64 0,.int .i64 1])|5=>Kd.val (.agg #[.int .i64 (mmP p q r s 1 (trT x y) 0 1),.int .i64 (mmQ p q r s 1 (trT x y) 0 1),.int .i64 (mmR p q r s 1 (trT x y) 0 1),.int .i64 (mmS p q r s 1 (trT x y) 0 1)])|6=>Kd.old (w1.heap.size+1) [(⟨w.heap.size,0,none⟩,.int .i64 (valI x y z 1 0)),(⟨w.heap.size,1,none⟩,.int .i64 (polI x y z 1 0 (trT x y) 1)),(⟨w.heap.size,2,none⟩,.int .i64 (valI x y z (trT x y) 1))]|7=>Kd.old (w1.heap.size+1) [(⟨gw,0,none⟩,.int .i64 (mmP p q r s 1 (trT x y) 0 1)),(⟨gw,1,none⟩,.int .i64 (mmQ p q r s 1 (trT x y) 0 1)),(⟨gw,2,none⟩,.int .i64 (mmR p q r s 1 (trT x y) 0 1)),(⟨gw,3,none⟩,.int .i64 (mmS p q r s 1 (trT x y) 0 1))]|_=>Kd.any:Nat→Kd) j)) (Sy w (w1.heap.size+1) [(⟨w.heap.size+1,0,none⟩,.int .i64 0),(⟨w.heap.size+1,1,none⟩,.int .i64 0),(⟨w.heap.size+1,2,none⟩,.int .i64 0),(⟨w.heap.size+1+1,0,none⟩,.int .i64 0),(⟨w.heap.size+1+1,1,none⟩,.int .i64 0),(⟨w.heap.size+1+1,2,none⟩,.int .i64 0),(⟨w.heap.size+1+1,3,none⟩,.int .i64 0),(⟨w1.heap.size,0,none⟩,.int .i64 1),(⟨w1.heap.size,1,none⟩,.int .i64 (trT x y)),(⟨w1.heap.size,2,none⟩,.int .i64 0),(⟨w1.heap.size,3,none⟩,.int .i64 1)] [⟨w.heap.size,0,none⟩,⟨w.heap.size,1,none⟩,⟨w.heap.size,2,none⟩,⟨w.heap.size+1,0,none⟩,⟨w.heap.size+1,1,none⟩,⟨w.heap.size+1,2,none⟩,⟨w.heap.size+1+1,0,none⟩,⟨w.heap.size+1+1,1,none⟩,⟨w.heap.size+1+1,2,none⟩,⟨w.heap.size+1+1,3,none⟩,⟨gw,0,none⟩,⟨gw,1,none⟩,⟨gw,2,none⟩,⟨gw,3,none⟩]) (fun j wq9=>Kd.ok ((fun j=>match j with|0=>Kd.any|1=>Kd.any|2=>Kd.any|3=>Kd.any|4=>Kd.any|5=>Kd.any|6=>Kd.old (w1.heap.size+1) [(⟨w.heap.size,0,none⟩,.int .i64 x),(⟨w.heap.size,1,none⟩,.int .i64 y),(⟨w.heap.size,2,none⟩,.int .i64 z)]|7=>Kd.old (w1.heap.size+1) [(⟨gw,0,none⟩,.int .i64 p),(⟨gw,1,none⟩,.int .i64 q),(⟨gw,2,none⟩,.int .i64 r),(⟨gw,3,none⟩,.int .i64 s)]|_=>Kd.any:Nat→Kd) j) wq9 undef) (fun _=>true) Vw ?_ (hrun_none Vw) (fun i o ho h=>by cases h) ?_ ?_ ?_ ?_
    ·intro j hj
     have hj2:j<8:=hj
     have: ∀j,j<8→(#[12,13,14,15,16,17,1,4]:Array Nat).getD j 0<20:=by decide
     exact this j hj2
    ·refine Sy.drew (Sy.mk_of ?_ ?_ ?_ ?_)
     ·first|rfl|(simp;done)|(simp;omega)
     ·intro c hc
      simp only[List.mem_cons,List.not_mem_nil,or_false] at hc
      rcases hc with rfl|rfl|rfl|rfl|rfl|rfl|rfl|rfl|rfl|rfl|rfl<;>exact byCT
     ·intro p hp
      simp only[List.mem_cons,List.not_mem_nil,or_false] at hp
      rcases hp with rfl|rfl|rfl|rfl|rfl|rfl|rfl|rfl|rfl|rfl|rfl|rfl|rfl|rfl<;>exact ⟨by first|((repeat' with_reducible (first|refine ex_set _ ?_|refine ex_al _ ?_|exact ⟨_,VV⟩));done)|first|exact ⟨_,VV⟩|assumption|(go_simp;done)|(go_simp;exact ⟨_,rfl⟩),by first|((repeat' first|with_reducible (first|assumption|refine frz_al _ ?_ ?_|refine frz_set _ ?_)|omega|(simp;omega));done)|assumption|(go_simp;done)⟩
     ·(repeat' first|with_reducible (first|exact Below.refl _ _|assumption|refine gr_alloc ?_ _|refine below_drewN ?_ _|refine below_drew ?_|refine gr_call ?_ VV|refine Below.setCell ?_ ?_ _)|go_size|omega|(simp;omega))
    ·intro j hj
     match j,hj with
     |0,_=>trivial
     |1,_=>trivial
     |2,_=>trivial
     |3,_=>trivial
     |4,_=>trivial
     |5,_=>trivial
     |6,_=>
      intro c hc
      simp only[List.mem_cons,List.not_mem_nil,or_false] at hc
      rcases hc with rfl|rfl|rfl<;>exact ⟨byCT,Vr⟩
     |7,_=>
      intro c hc
      simp only[List.mem_cons,List.not_mem_nil,or_false] at hc
      rcases hc with rfl|rfl|rfl|rfl<;>exact ⟨byCT,Vr⟩
     |j+8,hj=>exact absurd (show j+8<8 from hj) Vn
    ·skip
     try clear c00
     try clear c01
     try clear c02
     try clear c10
     try clear c11
     try clear c12
     try clear c20
     try clear c21
     try clear c22
     try clear c23
     try clear c30
     try clear c31
     try clear c32
     try clear c33
     try clear f00
     try clear f01
     try clear f02
     try clear f10
     try clear f11
     try clear f12
     try clear f20
     try clear f21
     try clear f22
     try clear f23
     try clear f30
     try clear f31
     try clear f32
     try clear f33
     try clear c40
     try clear c41
     try clear c42
     try clear c43
     try clear R2
     try clear HR
     try clear HM
     try clear HN
     try clear S1
     try clear S3
     try clear S4
     try clear hrd
     try clear hnm
     try clear xa
     try clear xb
     try clear hs1
     try clear Q1
     try clear K1
     try clear J1
     try clear K2
     refine ⟨?r6x0,?r6x1,?r6x2,?r6x3,?r6x4,?r6x5,?r6x6,?r6x7,trivial⟩
     all_goals intro _ aq wx Kq hf hS hdep ev1 ev2 _ hpr hK
     case' r6x0=>
      have F1:aq.eval (.tmp 1)= .pointer (some ⟨w.heap.size,0,none⟩):=hf 1
      have c0:=(hpr 6 VZ (⟨w.heap.size,0,none⟩,.int .i64 x) Vs).1
      have c1:=(hpr 6 VZ (⟨w.heap.size,1,none⟩,.int .i64 y) Vs).1
      have c2:=(hpr 6 VZ (⟨w.heap.size,2,none⟩,.int .i64 z) Vs).1
     case' r6x1=>
      have F5:aq.eval (.tmp 5)= .pointer (some ⟨w1.heap.size,0,none⟩):=hf 5
      have c0:=hS.cells (⟨w1.heap.size,0,none⟩,.int .i64 1) Vs
      have c1:=hS.cells (⟨w1.heap.size,1,none⟩,.int .i64 (trT x y)) Vs
      have c2:=hS.cells (⟨w1.heap.size,2,none⟩,.int .i64 0) Vs
      have c3:=hS.cells (⟨w1.heap.size,3,none⟩,.int .i64 1) Vs
     case' r6x2=>
      have D0:aq.eval (.tmp 12)=_:=hdep 0
      have D1:aq.eval (.tmp 13)=_:=hdep 1
     case' r6x3=>
      have F4:aq.eval (.tmp 4)= .pointer (some ⟨gw,0,none⟩):=hf 4
      have c0:=(hpr 7 VZ (⟨gw,0,none⟩,.int .i64 p) Vs).1
      have c1:=(hpr 7 VZ (⟨gw,1,none⟩,.int .i64 q) Vs).1
      have c2:=(hpr 7 VZ (⟨gw,2,none⟩,.int .i64 r) Vs).1
      have c3:=(hpr 7 VZ (⟨gw,3,none⟩,.int .i64 s) Vs).1
     case' r6x4=>
      have F5:aq.eval (.tmp 5)= .pointer (some ⟨w1.heap.size,0,none⟩):=hf 5
      have c0:=hS.cells (⟨w1.heap.size,0,none⟩,.int .i64 1) Vs
      have c1:=hS.cells (⟨w1.heap.size,1,none⟩,.int .i64 (trT x y)) Vs
      have c2:=hS.cells (⟨w1.heap.size,2,none⟩,.int .i64 0) Vs
      have c3:=hS.cells (⟨w1.heap.size,3,none⟩,.int .i64 1) Vs
     case' r6x5=>
      have D3:aq.eval (.tmp 15)=_:=hdep 3
      have D4:aq.eval (.tmp 16)=_:=hdep 4
     case' r6x6=>
      have D2:aq.eval (.tmp 14)=_:=hdep 2
      have F1:aq.eval (.tmp 1)= .pointer (some ⟨w.heap.size,0,none⟩):=hf 1
      obtain ⟨⟨vx0,cx0⟩,cf0⟩:=hS.free ⟨w.heap.size,0,none⟩ Vs
      obtain ⟨⟨vx1,cx1⟩,cf1⟩:=hS.free ⟨w.heap.size,1,none⟩ Vs
      obtain ⟨⟨vx2,cx2⟩,cf2⟩:=hS.free ⟨w.heap.size,2,none⟩ Vs
     case' r6x7=>
      have D5:aq.eval (.tmp 17)=_:=hdep 5
      have F4:aq.eval (.tmp 4)= .pointer (some ⟨gw,0,none⟩):=hf 4
      obtain ⟨⟨vx0,cx0⟩,cf0⟩:=hS.free ⟨gw,0,none⟩ Vs
      obtain ⟨⟨vx1,cx1⟩,cf1⟩:=hS.free ⟨gw,1,none⟩ Vs
      obtain ⟨⟨vx2,cx2⟩,cf2⟩:=hS.free ⟨gw,2,none⟩ Vs
      obtain ⟨⟨vx3,cx3⟩,cf3⟩:=hS.free ⟨gw,3,none⟩ Vs
     all_goals (clear hf hdep hpr;unfold Oper.wp;generalize Act.eval _=ev at *;go_simp)
     case r6x2=>
      refine ((foAct_a x y z (1) (trT x y) (0) (1) _ A0 A1 A2)).mono ?_
      rintro e w2 ⟨rfl,hb⟩
      refine hK _ _ (hS.call hb) ?_ (fun j u _ h=>Kd.ok_below hb h) (fun j _ h=>Kd.ok_below hb h)
      rw[if_pos VH]
      show (_:Value)=_
      first|rfl|(refine congrArg (Value.int .i64) ?_;first|rfl|exact int_in Vn|exact quo_in Vn Vn Vn|exact rem_in Vn Vn|omega)|(simp;done)|(simp [*];done)
     case r6x5=>
      refine ((foMul_a p q r s (1) (trT x y) (0) (1) _)).mono ?_
      rintro e w2 ⟨rfl,hb⟩
      refine hK _ _ (hS.call hb) ?_ (fun j u _ h=>Kd.ok_below hb h) (fun j _ h=>Kd.ok_below hb h)
      rw[if_pos VH]
      show (_:Value)=_
      first|rfl|(refine congrArg (Value.int .i64) ?_;first|rfl|exact int_in Vn|exact quo_in Vn Vn Vn|exact rem_in Vn Vn|omega)|(simp;done)|(simp [*];done)
     case r6x6=>
      refine hK undef (setAll w.heap.size 0 [.int .i64 (valI x y z 1 0),.int .i64 (polI x y z 1 0 (trT x y) 1),.int .i64 (valI x y z (trT x y) 1)] wx) (Sy.setAll Vr (fa (far_blk Vm) (fa (far_blk Vm) (fa (far_blk Vm) (fa (far_blk Vm) (fa (far_blk Vm) (fa (far_blk Vm) (fa (far_blk Vm) (fa (far_blk Vm) (fa (far_blk Vm) (fa (far_blk Vm) (fa (far_blk Vm) (fa0)))))))))))) hS) ?_ (fun j u hj h=> ?_) (fun j hj h=> ?_)
      ·rw [if_neg VA]
       exact fa ⟨setAll_at w.heap.size [.int .i64 (valI x y z 1 0),.int .i64 (polI x y z 1 0 (trT x y) 1),.int .i64 (valI x y z (trT x y) 1)] 0 wx 0 (show 0<3 by decide) ⟨vx0,cx0⟩,Vr⟩ (fa ⟨setAll_at w.heap.size [.int .i64 (valI x y z 1 0),.int .i64 (polI x y z 1 0 (trT x y) 1),.int .i64 (valI x y z (trT x y) 1)] 0 wx 1 (show 1<3 by decide) ⟨vx1,cx1⟩,Vr⟩ (fa ⟨setAll_at w.heap.size [.int .i64 (valI x y z 1 0),.int .i64 (polI x y z 1 0 (trT x y) 1),.int .i64 (valI x y z (trT x y) 1)] 0 wx 2 (show 2<3 by decide) ⟨vx2,cx2⟩,Vr⟩ (fa0)))
      ·match j,hj with
       |0,hj|1,hj|2,hj|3,hj|4,hj|5,hj=>exact (show (u:Value)=_ from h)
       |6,hj=>exact absurd rfl hj
       |7,hj=>exact Kd.ok_setAll_old (k:=Kd.old (w1.heap.size+1) [(⟨gw,0,none⟩,.int .i64 (mmP p q r s 1 (trT x y) 0 1)),(⟨gw,1,none⟩,.int .i64 (mmQ p q r s 1 (trT x y) 0 1)),(⟨gw,2,none⟩,.int .i64 (mmR p q r s 1 (trT x y) 0 1)),(⟨gw,3,none⟩,.int .i64 (mmS p q r s 1 (trT x y) 0 1))]) trivial (fa (far_blk Vm) (fa (far_blk Vm) (fa (far_blk Vm) (fa (far_blk Vm) (fa0))))) h
       |j+8,_=>trivial
      ·match j,hj with
       |0,hj|1,hj|2,hj|3,hj|4,hj|5,hj=>trivial
       |6,hj=>exact absurd rfl hj
       |7,hj=>exact Kd.ok_setAll_old (k:=Kd.old (w1.heap.size+1) [(⟨gw,0,none⟩,.int .i64 p),(⟨gw,1,none⟩,.int .i64 q),(⟨gw,2,none⟩,.int .i64 r),(⟨gw,3,none⟩,.int .i64 s)]) trivial (fa (far_blk Vm) (fa (far_blk Vm) (fa (far_blk Vm) (fa (far_blk Vm) (fa0))))) h
       |j+8,_=>exact h
     case r6x7=>
      refine hK undef (setAll gw 0 [.int .i64 (mmP p q r s 1 (trT x y) 0 1),.int .i64 (mmQ p q r s 1 (trT x y) 0 1),.int .i64 (mmR p q r s 1 (trT x y) 0 1),.int .i64 (mmS p q r s 1 (trT x y) 0 1)] wx) (Sy.setAll Vr (fa (far_blk Vm) (fa (far_blk Vm) (fa (far_blk Vm) (fa (far_blk Vm) (fa (far_blk Vm) (fa (far_blk Vm) (fa (far_blk Vm) (fa (far_blk Vm) (fa (far_blk Vm) (fa (far_blk Vm) (fa (far_blk Vm) (fa0)))))))))))) hS) ?_ (fun j u hj h=> ?_) (fun j hj h=> ?_)
      ·rw [if_neg VA]
       exact fa ⟨setAll_at gw [.int .i64 (mmP p q r s 1 (trT x y) 0 1),.int .i64 (mmQ p q r s 1 (trT x y) 0 1),.int .i64 (mmR p q r s 1 (trT x y) 0 1),.int .i64 (mmS p q r s 1 (trT x y) 0 1)] 0 wx 0 (show 0<4 by decide) ⟨vx0,cx0⟩,Vr⟩ (fa ⟨setAll_at gw [.int .i64 (mmP p q r s 1 (trT x y) 0 1),.int .i64 (mmQ p q r s 1 (trT x y) 0 1),.int .i64 (mmR p q r s 1 (trT x y) 0 1),.int .i64 (mmS p q r s 1 (trT x y) 0 1)] 0 wx 1 (show 1<4 by decide) ⟨vx1,cx1⟩,Vr⟩ (fa ⟨setAll_at gw [.int .i64 (mmP p q r s 1 (trT x y) 0 1),.int .i64 (mmQ p q r s 1 (trT x y) 0 1),.int .i64 (mmR p q r s 1 (trT x y) 0 1),.int .i64 (mmS p q r s 1 (trT x y) 0 1)] 0 wx 2 (show 2<4 by decide) ⟨vx2,cx2⟩,Vr⟩ (fa ⟨setAll_at gw [.int .i64 (mmP p q r s 1 (trT x y) 0 1),.int .i64 (mmQ p q r s 1 (trT x y) 0 1),.int .i64 (mmR p q r s 1 (trT x y) 0 1),.int .i64 (mmS p q r s 1 (trT x y) 0 1)] 0 wx 3 (show 3<4 by decide) ⟨vx3,cx3⟩,Vr⟩ (fa0))))
      ·match j,hj with
       |0,hj|1,hj|2,hj|3,hj|4,hj|5,hj=>exact (show (u:Value)=_ from h)
       |6,hj=>exact Kd.ok_setAll_old (k:=Kd.old (w1.heap.size+1) [(⟨w.heap.size,0,none⟩,.int .i64 (valI x y z 1 0)),(⟨w.heap.size,1,none⟩,.int .i64 (polI x y z 1 0 (trT x y) 1)),(⟨w.heap.size,2,none⟩,.int .i64 (valI x y z (trT x y) 1))]) trivial (fa (far_blk Vm) (fa (far_blk Vm) (fa (far_blk Vm) (fa0)))) h
       |7,hj=>exact absurd rfl hj
       |j+8,_=>trivial
      ·match j,hj with
       |0,hj|1,hj|2,hj|3,hj|4,hj|5,hj=>trivial
       |6,hj=>exact Kd.ok_setAll_old (k:=Kd.old (w1.heap.size+1) [(⟨w.heap.size,0,none⟩,.int .i64 x),(⟨w.heap.size,1,none⟩,.int .i64 y),(⟨w.heap.size,2,none⟩,.int .i64 z)]) trivial (fa (far_blk Vm) (fa (far_blk Vm) (fa (far_blk Vm) (fa0)))) h
       |7,hj=>exact absurd rfl hj
       |j+8,_=>exact h
     all_goals (refine hK _ _ hS ?_ (fun j u _ h=>h) (fun j _ h=>h);rw [if_pos VH];show (_:Value)=_;(first|rfl|(refine congrArg (Value.int .i64) ?_;first|rfl|exact int_in Vn|exact quo_in Vn Vn Vn|exact rem_in Vn Vn|omega)|(simp;done)|(simp [*];done)))
    ·intro aq wx hd hw hf hS hg
     have haq:aq=⟨#[tau aq 0,tau aq 1,tau aq 2,tau aq 3,tau aq 4,tau aq 5,tau aq 6,tau aq 7,tau aq 8,tau aq 9,tau aq 10,tau aq 11,tau aq 12,tau aq 13,tau aq 14,tau aq 15,tau aq 16,tau aq 17,tau aq 18,tau aq 19],[]⟩:=by
      obtain ⟨tq,dq⟩:=aq
      have h5:=arr_eq (show tq.size=20 from hw)
      have h6:dq= []:=hd
      subst h6
      exact congrArg (fun z=>Act.mk z []) h5
     rw[haq,hf 0,hf 1,hf 2,hf 3,hf 4,hf 5,hf 6,hf 7,hf 8,hf 9,hf 10,hf 11,hf 18,hf 19]
     clear haq hf hd hw
     try dsimp only
     have c00:wx.cell? ⟨w.heap.size,0,none⟩=some (.int .i64 (valI x y z 1 0)):=(hg 6 VA (⟨w.heap.size,0,none⟩,.int .i64 (valI x y z 1 0)) Vs).1
     have f00:wx.frozen? ⟨w.heap.size,0,none⟩=false:=(hS.free ⟨w.heap.size,0,none⟩ Vs).2
     have c01:wx.cell? ⟨w.heap.size,1,none⟩=some (.int .i64 (polI x y z 1 0 (trT x y) 1)):=(hg 6 VA (⟨w.heap.size,1,none⟩,.int .i64 (polI x y z 1 0 (trT x y) 1)) Vs).1
     have f01:wx.frozen? ⟨w.heap.size,1,none⟩=false:=(hS.free ⟨w.heap.size,1,none⟩ Vs).2
     have c02:wx.cell? ⟨w.heap.size,2,none⟩=some (.int .i64 (valI x y z (trT x y) 1)):=(hg 6 VA (⟨w.heap.size,2,none⟩,.int .i64 (valI x y z (trT x y) 1)) Vs).1
     have f02:wx.frozen? ⟨w.heap.size,2,none⟩=false:=(hS.free ⟨w.heap.size,2,none⟩ Vs).2
     have c10:wx.cell? ⟨w.heap.size+1,0,none⟩=some (.int .i64 0):=hS.cells (⟨w.heap.size+1,0,none⟩,.int .i64 0) Vs
     have f10:wx.frozen? ⟨w.heap.size+1,0,none⟩=false:=(hS.free ⟨w.heap.size+1,0,none⟩ Vs).2
     have c11:wx.cell? ⟨w.heap.size+1,1,none⟩=some (.int .i64 0):=hS.cells (⟨w.heap.size+1,1,none⟩,.int .i64 0) Vs
     have f11:wx.frozen? ⟨w.heap.size+1,1,none⟩=false:=(hS.free ⟨w.heap.size+1,1,none⟩ Vs).2
     have c12:wx.cell? ⟨w.heap.size+1,2,none⟩=some (.int .i64 0):=hS.cells (⟨w.heap.size+1,2,none⟩,.int .i64 0) Vs
     have f12:wx.frozen? ⟨w.heap.size+1,2,none⟩=false:=(hS.free ⟨w.heap.size+1,2,none⟩ Vs).2
     have c20:wx.cell? ⟨w.heap.size+1+1,0,none⟩=some (.int .i64 0):=hS.cells (⟨w.heap.size+1+1,0,none⟩,.int .i64 0) Vs
     have f20:wx.frozen? ⟨w.heap.size+1+1,0,none⟩=false:=(hS.free ⟨w.heap.size+1+1,0,none⟩ Vs).2
     have c21:wx.cell? ⟨w.heap.size+1+1,1,none⟩=some (.int .i64 0):=hS.cells (⟨w.heap.size+1+1,1,none⟩,.int .i64 0) Vs
     have f21:wx.frozen? ⟨w.heap.size+1+1,1,none⟩=false:=(hS.free ⟨w.heap.size+1+1,1,none⟩ Vs).2
     have c22:wx.cell? ⟨w.heap.size+1+1,2,none⟩=some (.int .i64 0):=hS.cells (⟨w.heap.size+1+1,2,none⟩,.int .i64 0) Vs
     have f22:wx.frozen? ⟨w.heap.size+1+1,2,none⟩=false:=(hS.free ⟨w.heap.size+1+1,2,none⟩ Vs).2
     have c23:wx.cell? ⟨w.heap.size+1+1,3,none⟩=some (.int .i64 0):=hS.cells (⟨w.heap.size+1+1,3,none⟩,.int .i64 0) Vs
     have f23:wx.frozen? ⟨w.heap.size+1+1,3,none⟩=false:=(hS.free ⟨w.heap.size+1+1,3,none⟩ Vs).2
     have c30:wx.cell? ⟨gw,0,none⟩=some (.int .i64 (mmP p q r s 1 (trT x y) 0 1)):=(hg 7 VA (⟨gw,0,none⟩,.int .i64 (mmP p q r s 1 (trT x y) 0 1)) Vs).1
     have f30:wx.frozen? ⟨gw,0,none⟩=false:=(hS.free ⟨gw,0,none⟩ Vs).2
     have c31:wx.cell? ⟨gw,1,none⟩=some (.int .i64 (mmQ p q r s 1 (trT x y) 0 1)):=(hg 7 VA (⟨gw,1,none⟩,.int .i64 (mmQ p q r s 1 (trT x y) 0 1)) Vs).1
     have f31:wx.frozen? ⟨gw,1,none⟩=false:=(hS.free ⟨gw,1,none⟩ Vs).2
     have c32:wx.cell? ⟨gw,2,none⟩=some (.int .i64 (mmR p q r s 1 (trT x y) 0 1)):=(hg 7 VA (⟨gw,2,none⟩,.int .i64 (mmR p q r s 1 (trT x y) 0 1)) Vs).1
     have f32:wx.frozen? ⟨gw,2,none⟩=false:=(hS.free ⟨gw,2,none⟩ Vs).2
     have c33:wx.cell? ⟨gw,3,none⟩=some (.int .i64 (mmS p q r s 1 (trT x y) 0 1)):=(hg 7 VA (⟨gw,3,none⟩,.int .i64 (mmS p q r s 1 (trT x y) 0 1)) Vs).1
     have f33:wx.frozen? ⟨gw,3,none⟩=false:=(hS.free ⟨gw,3,none⟩ Vs).2
     have c40:wx.cell? ⟨w1.heap.size,0,none⟩=some (.int .i64 1):=hS.cells (⟨w1.heap.size,0,none⟩,.int .i64 1) Vs
     have c41:wx.cell? ⟨w1.heap.size,1,none⟩=some (.int .i64 (trT x y)):=hS.cells (⟨w1.heap.size,1,none⟩,.int .i64 (trT x y)) Vs
     have c42:wx.cell? ⟨w1.heap.size,2,none⟩=some (.int .i64 0):=hS.cells (⟨w1.heap.size,2,none⟩,.int .i64 0) Vs
     have c43:wx.cell? ⟨w1.heap.size,3,none⟩=some (.int .i64 1):=hS.cells (⟨w1.heap.size,3,none⟩,.int .i64 1) Vs
     have hb0:Below w.heap.size w wx:=hS.below
     have z0:=World.block_lt_of_cell? _ _ c00
     change w.heap.size<wx.heap.size at z0
     have z1:=World.block_lt_of_cell? _ _ c10
     change w.heap.size+1<wx.heap.size at z1
     have z2:=World.block_lt_of_cell? _ _ c20
     change w.heap.size+1+1<wx.heap.size at z2
     have z3:=World.block_lt_of_cell? _ _ c30
     change gw<wx.heap.size at z3
     have z4:=World.block_lt_of_cell? _ _ c40
     change w1.heap.size<wx.heap.size at z4
     clear hS hg
     unfold tau
     go_wp2
     go_roundg (muF (valI x y z 1 0) (polI x y z 1 0 (trT x y) 1) (valI x y z (trT x y) 1))
     case rel=>
      refine ⟨valI x y z 1 0,polI x y z 1 0 (trT x y) 1,valI x y z (trT x y) 1,mmP p q r s 1 (trT x y) 0 1,mmQ p q r s 1 (trT x y) 0 1,mmR p q r s 1 (trT x y) 0 1,mmS p q r s 1 (trT x y) 0 1,rfl,R2,unhide S1,unhide S4,?_,?_,?_,?_,?_,?_,?_,?_,?_,?_,?_,?_,?_,?_,?_,?_,?_,?_,?_,?_,?_,?_,?_,?_,?_,?_,?_,?_,?_⟩
      all_goals first|(with_reducible assumption)|((repeat' (first|(with_reducible assumption)|(with_reducible refine cell_al _ ?_)|(with_reducible refine cell_eq _ ?_)|(with_reducible refine cell_ne _ ?_ ?_)|(with_reducible refine ex_set _ ?_)|(with_reducible refine ex_al _ ?_)|(exact ⟨_,by with_reducible assumption⟩)|(with_reducible refine frz_al _ ?_ ?_)|(with_reducible refine frz_set _ ?_)|(intro hh;injection hh with hh1 hh2;omega)));done)|(repeat' first|with_reducible (first|exact Below.refl _ _|assumption|refine gr_alloc ?_ _|refine below_drewN ?_ _|refine below_drew ?_|refine gr_call ?_ VV|refine Below.setCell ?_ ?_ _)|go_size|omega|(simp;omega))
     case measure=>(have:=unhide S3;have:=unhide HN;omega)
   ·obtain ⟨R1,R2,R3,R4⟩:=redF_sw hok hnm hrd
    obtain ⟨A0,A1,A2,-,-,-⟩:=at_sw hok
    have S1:=hide (R1.trans (unhide HR))
    have S4:=hide ((R4 p q r s).trans (unhide HM))
    have S3:=hide R3
    clear R1 R3 R4
    go_wp2_with (go_at_call 109;refine (reIs_x _ _ _ _ Vp).mono ?_;rintro e w' ⟨rfl,rfl⟩)
    refine (reMove_sw _ _ _ _ Vp Vp Vp).mono ?_
    rintro e w1 ⟨rfl,hb1⟩
    have tq0:=Wi3.c hb1 w.heap.size x y z
    have tq1:=Wi3.c hb1 (w.heap.size+1) 0 0 0
    have tq2:=Wi4.c hb1 (w.heap.size+1+1) 0 0 0 0
    have tq3:=Wi4.c hb1 gw p q r s
    try clear c00 c01 c02 f00 f01 f02
    try clear c10 c11 c12 f10 f11 f12
    try clear c20 c21 c22 c23 f20 f21 f22 f23
    try clear c30 c31 c32 c33 f30 f31 f32 f33
    obtain ⟨c00,c01,c02,f00,f01,f02,z0⟩:=tq0
    obtain ⟨c10,c11,c12,f10,f11,f12,z1⟩:=tq1
    obtain ⟨c20,c21,c22,c23,f20,f21,f22,f23,z2⟩:=tq2
    obtain ⟨c30,c31,c32,c33,f30,f31,f32,f33,z3⟩:=tq3
    have hs1:=hb1.size
    go_upto_region 4 with fail
    skip
    refine region_n3 Vw (fun j=> #[12,13,14,15,16,17,1,4].getD j 0) (fun j=>Kd.ok ((fun j=>match j with|0=>Kd.val (.agg #[.int .i64 x,.int .i64 y,.int .i64 z])|1=>Kd.val (.agg #[.int .i64 0,.int .i64 ((-1)),.int .i64 1,.int .i64 0])|2=>Kd.val (.agg #[.int .i64 (valI x y z 0 1),.int .i64 (polI x y z 0 1 (-1) 0),.int .i64 (valI x y z (-1) 0)])|3=>Kd.val (.agg #[.int .i64 p,.int .i64 q,.int .i64 r,.int .i64 s])|4=>Kd.val (.agg #[.int .i64 0,.int .i64 ((-1)),.int .i64 1,.int .i64 0])|5=>Kd.val (.agg #[.int .i64 (mmP p q r s 0 (-1) 1 0),.int .i64 (mmQ p q r s 0 (-1) 1 0),.int .i64 (mmR p q r s 0 (-1) 1 0),.int .i64 (mmS p q r s 0 (-1) 1 0)])|6=>Kd.old (w1.heap.size+1) [(⟨w.heap.size,0,none⟩,.int .i64 (valI x y z 0 1)),(⟨w.heap.size,1,none⟩,.int .i64 (polI x y z 0 1 (-1) 0)),(⟨w.heap.size,2,none⟩,.int .i64 (valI x y z (-1) 0))]|7=>Kd.old (w1.heap.size+1) [(⟨gw,0,none⟩,.int .i64 (mmP p q r s 0 (-1) 1 0)),(⟨gw,1,none⟩,.int .i64 (mmQ p q r s 0 (-1) 1 0)),(⟨gw,2,none⟩,.int .i64 (mmR p q r s 0 (-1) 1 0)),(⟨gw,3,none⟩,.int .i64 (mmS p q r s 0 (-1) 1 0))]|_=>Kd.any:Nat→Kd) j)) (Sy w (w1.heap.size+1) [(⟨w.heap.size+1,0,none⟩,.int .i64 0),(⟨w.heap.size+1,1,none⟩,.int .i64 0),(⟨w.heap.size+1,2,none⟩,.int .i64 0),(⟨w.heap.size+1+1,0,none⟩,.int .i64 0),(⟨w.heap.size+1+1,1,none⟩,.int .i64 0),(⟨w.heap.size+1+1,2,none⟩,.int .i64 0),(⟨w.heap.size+1+1,3,none⟩,.int .i64 0),(⟨w1.heap.size,0,none⟩,.int .i64 0),(⟨w1.heap.size,1,none⟩,.int .i64 ((-1))),(⟨w1.heap.size,2,none⟩,.int .i64 1),(⟨w1.heap.size,3,none⟩,.int .i64 0)] [⟨w.heap.size,0,none⟩,⟨w.heap.size,1,none⟩,⟨w.heap.size,2,none⟩,⟨w.heap.size+1,0,none⟩,⟨w.heap.size+1,1,none⟩,⟨w.heap.size+1,2,none⟩,⟨w.heap.size+1+1,0,none⟩,⟨w.heap.size+1+1,1,none⟩,⟨w.heap.size+1+1,2,none⟩,⟨w.heap.size+1+1,3,none⟩,⟨gw,0,none⟩,⟨gw,1,none⟩,⟨gw,2,none⟩,⟨gw,3,none⟩]) (fun j wq9=>Kd.ok ((fun j=>match j with|0=>Kd.any|1=>Kd.any|2=>Kd.any|3=>Kd.any|4=>Kd.any|5=>Kd.any|6=>Kd.old (w1.heap.size+1) [(⟨w.heap.size,0,none⟩,.int .i64 x),(⟨w.heap.size,1,none⟩,.int .i64 y),(⟨w.heap.size,2,none⟩,.int .i64 z)]|7=>Kd.old (w1.heap.size+1) [(⟨gw,0,none⟩,.int .i64 p),(⟨gw,1,none⟩,.int .i64 q),(⟨gw,2,none⟩,.int .i64 r),(⟨gw,3,none⟩,.int .i64 s)]|_=>Kd.any:Nat→Kd) j) wq9 undef) (fun _=>true) Vw ?_ (hrun_none Vw) (fun i o ho h=>by cases h) ?_ ?_ ?_ ?_
    ·intro j hj
     have hj2:j<8:=hj
     have: ∀j,j<8→(#[12,13,14,15,16,17,1,4]:Array Nat).getD j 0<20:=by decide
     exact this j hj2
    ·refine Sy.drew (Sy.mk_of ?_ ?_ ?_ ?_)
     ·first|rfl|(simp;done)|(simp;omega)
     ·intro c hc
      simp only[List.mem_cons,List.not_mem_nil,or_false] at hc
      rcases hc with rfl|rfl|rfl|rfl|rfl|rfl|rfl|rfl|rfl|rfl|rfl<;>exact byCT
     ·intro p hp
      simp only[List.mem_cons,List.not_mem_nil,or_false] at hp
      rcases hp with rfl|rfl|rfl|rfl|rfl|rfl|rfl|rfl|rfl|rfl|rfl|rfl|rfl|rfl<;>exact ⟨by first|((repeat' with_reducible (first|refine ex_set _ ?_|refine ex_al _ ?_|exact ⟨_,VV⟩));done)|first|exact ⟨_,VV⟩|assumption|(go_simp;done)|(go_simp;exact ⟨_,rfl⟩),by first|((repeat' first|with_reducible (first|assumption|refine frz_al _ ?_ ?_|refine frz_set _ ?_)|omega|(simp;omega));done)|assumption|(go_simp;done)⟩
     ·(repeat' first|with_reducible (first|exact Below.refl _ _|assumption|refine gr_alloc ?_ _|refine below_drewN ?_ _|refine below_drew ?_|refine gr_call ?_ VV|refine Below.setCell ?_ ?_ _)|go_size|omega|(simp;omega))
    ·intro j hj
     match j,hj with
     |0,_=>trivial
     |1,_=>trivial
     |2,_=>trivial
     |3,_=>trivial
     |4,_=>trivial
     |5,_=>trivial
     |6,_=>
      intro c hc
      simp only[List.mem_cons,List.not_mem_nil,or_false] at hc
      rcases hc with rfl|rfl|rfl<;>exact ⟨byCT,Vr⟩
     |7,_=>
      intro c hc
      simp only[List.mem_cons,List.not_mem_nil,or_false] at hc
      rcases hc with rfl|rfl|rfl|rfl<;>exact ⟨byCT,Vr⟩
     |j+8,hj=>exact absurd (show j+8<8 from hj) Vn
    ·skip
     try clear c00
     try clear c01
     try clear c02
     try clear c10
     try clear c11
     try clear c12
     try clear c20
     try clear c21
     try clear c22
     try clear c23
     try clear c30
     try clear c31
     try clear c32
     try clear c33
     try clear f00
     try clear f01
     try clear f02
     try clear f10
     try clear f11
     try clear f12
     try clear f20
     try clear f21
     try clear f22
     try clear f23
     try clear f30
     try clear f31
     try clear f32
     try clear f33
     try clear c40
     try clear c41
     try clear c42
     try clear c43
     try clear R2
     try clear HR
     try clear HM
     try clear HN
     try clear S1
     try clear S3
     try clear S4
     try clear hrd
     try clear hnm
     try clear xa
     try clear xb
     try clear hs1
     try clear Q1
     try clear K1
     try clear J1
     try clear K2
     refine ⟨?r7x0,?r7x1,?r7x2,?r7x3,?r7x4,?r7x5,?r7x6,?r7x7,trivial⟩
     all_goals intro _ aq wx Kq hf hS hdep ev1 ev2 _ hpr hK
     case' r7x0=>
      have F1:aq.eval (.tmp 1)= .pointer (some ⟨w.heap.size,0,none⟩):=hf 1
      have c0:=(hpr 6 VZ (⟨w.heap.size,0,none⟩,.int .i64 x) Vs).1
      have c1:=(hpr 6 VZ (⟨w.heap.size,1,none⟩,.int .i64 y) Vs).1
      have c2:=(hpr 6 VZ (⟨w.heap.size,2,none⟩,.int .i64 z) Vs).1
     case' r7x1=>
      have F5:aq.eval (.tmp 5)= .pointer (some ⟨w1.heap.size,0,none⟩):=hf 5
      have c0:=hS.cells (⟨w1.heap.size,0,none⟩,.int .i64 0) Vs
      have c1:=hS.cells (⟨w1.heap.size,1,none⟩,.int .i64 ((-1))) Vs
      have c2:=hS.cells (⟨w1.heap.size,2,none⟩,.int .i64 1) Vs
      have c3:=hS.cells (⟨w1.heap.size,3,none⟩,.int .i64 0) Vs
     case' r7x2=>
      have D0:aq.eval (.tmp 12)=_:=hdep 0
      have D1:aq.eval (.tmp 13)=_:=hdep 1
     case' r7x3=>
      have F4:aq.eval (.tmp 4)= .pointer (some ⟨gw,0,none⟩):=hf 4
      have c0:=(hpr 7 VZ (⟨gw,0,none⟩,.int .i64 p) Vs).1
      have c1:=(hpr 7 VZ (⟨gw,1,none⟩,.int .i64 q) Vs).1
      have c2:=(hpr 7 VZ (⟨gw,2,none⟩,.int .i64 r) Vs).1
      have c3:=(hpr 7 VZ (⟨gw,3,none⟩,.int .i64 s) Vs).1
     case' r7x4=>
      have F5:aq.eval (.tmp 5)= .pointer (some ⟨w1.heap.size,0,none⟩):=hf 5
      have c0:=hS.cells (⟨w1.heap.size,0,none⟩,.int .i64 0) Vs
      have c1:=hS.cells (⟨w1.heap.size,1,none⟩,.int .i64 ((-1))) Vs
      have c2:=hS.cells (⟨w1.heap.size,2,none⟩,.int .i64 1) Vs
      have c3:=hS.cells (⟨w1.heap.size,3,none⟩,.int .i64 0) Vs
     case' r7x5=>
      have D3:aq.eval (.tmp 15)=_:=hdep 3
      have D4:aq.eval (.tmp 16)=_:=hdep 4
     case' r7x6=>
      have D2:aq.eval (.tmp 14)=_:=hdep 2
      have F1:aq.eval (.tmp 1)= .pointer (some ⟨w.heap.size,0,none⟩):=hf 1
      obtain ⟨⟨vx0,cx0⟩,cf0⟩:=hS.free ⟨w.heap.size,0,none⟩ Vs
      obtain ⟨⟨vx1,cx1⟩,cf1⟩:=hS.free ⟨w.heap.size,1,none⟩ Vs
      obtain ⟨⟨vx2,cx2⟩,cf2⟩:=hS.free ⟨w.heap.size,2,none⟩ Vs
     case' r7x7=>
      have D5:aq.eval (.tmp 17)=_:=hdep 5
      have F4:aq.eval (.tmp 4)= .pointer (some ⟨gw,0,none⟩):=hf 4
      obtain ⟨⟨vx0,cx0⟩,cf0⟩:=hS.free ⟨gw,0,none⟩ Vs
      obtain ⟨⟨vx1,cx1⟩,cf1⟩:=hS.free ⟨gw,1,none⟩ Vs
      obtain ⟨⟨vx2,cx2⟩,cf2⟩:=hS.free ⟨gw,2,none⟩ Vs
      obtain ⟨⟨vx3,cx3⟩,cf3⟩:=hS.free ⟨gw,3,none⟩ Vs
     all_goals (clear hf hdep hpr;unfold Oper.wp;generalize Act.eval _=ev at *;go_simp)
     case r7x2=>
      refine ((foAct_a x y z (0) ((-1)) (1) (0) _ A0 A1 A2)).mono ?_
      rintro e w2 ⟨rfl,hb⟩
      refine hK _ _ (hS.call hb) ?_ (fun j u _ h=>Kd.ok_below hb h) (fun j _ h=>Kd.ok_below hb h)
      rw[if_pos VH]
      show (_:Value)=_
      first|rfl|(refine congrArg (Value.int .i64) ?_;first|rfl|exact int_in Vn|exact quo_in Vn Vn Vn|exact rem_in Vn Vn|omega)|(simp;done)|(simp [*];done)
     case r7x5=>
      refine ((foMul_a p q r s (0) ((-1)) (1) (0) _)).mono ?_
      rintro e w2 ⟨rfl,hb⟩
      refine hK _ _ (hS.call hb) ?_ (fun j u _ h=>Kd.ok_below hb h) (fun j _ h=>Kd.ok_below hb h)
      rw[if_pos VH]
      show (_:Value)=_
      first|rfl|(refine congrArg (Value.int .i64) ?_;first|rfl|exact int_in Vn|exact quo_in Vn Vn Vn|exact rem_in Vn Vn|omega)|(simp;done)|(simp [*];done)
     case r7x6=>
      refine hK undef (setAll w.heap.size 0 [.int .i64 (valI x y z 0 1),.int .i64 (polI x y z 0 1 (-1) 0),.int .i64 (valI x y z (-1) 0)] wx) (Sy.setAll Vr (fa (far_blk Vm) (fa (far_blk Vm) (fa (far_blk Vm) (fa (far_blk Vm) (fa (far_blk Vm) (fa (far_blk Vm) (fa (far_blk Vm) (fa (far_blk Vm) (fa (far_blk Vm) (fa (far_blk Vm) (fa (far_blk Vm) (fa0)))))))))))) hS) ?_ (fun j u hj h=> ?_) (fun j hj h=> ?_)
      ·rw [if_neg VA]
       exact fa ⟨setAll_at w.heap.size [.int .i64 (valI x y z 0 1),.int .i64 (polI x y z 0 1 (-1) 0),.int .i64 (valI x y z (-1) 0)] 0 wx 0 (show 0<3 by decide) ⟨vx0,cx0⟩,Vr⟩ (fa ⟨setAll_at w.heap.size [.int .i64 (valI x y z 0 1),.int .i64 (polI x y z 0 1 (-1) 0),.int .i64 (valI x y z (-1) 0)] 0 wx 1 (show 1<3 by decide) ⟨vx1,cx1⟩,Vr⟩ (fa ⟨setAll_at w.heap.size [.int .i64 (valI x y z 0 1),.int .i64 (polI x y z 0 1 (-1) 0),.int .i64 (valI x y z (-1) 0)] 0 wx 2 (show 2<3 by decide) ⟨vx2,cx2⟩,Vr⟩ (fa0)))
      ·match j,hj with
       |0,hj|1,hj|2,hj|3,hj|4,hj|5,hj=>exact (show (u:Value)=_ from h)
       |6,hj=>exact absurd rfl hj
       |7,hj=>exact Kd.ok_setAll_old (k:=Kd.old (w1.heap.size+1) [(⟨gw,0,none⟩,.int .i64 (mmP p q r s 0 (-1) 1 0)),(⟨gw,1,none⟩,.int .i64 (mmQ p q r s 0 (-1) 1 0)),(⟨gw,2,none⟩,.int .i64 (mmR p q r s 0 (-1) 1 0)),(⟨gw,3,none⟩,.int .i64 (mmS p q r s 0 (-1) 1 0))]) trivial (fa (far_blk Vm) (fa (far_blk Vm) (fa (far_blk Vm) (fa (far_blk Vm) (fa0))))) h
       |j+8,_=>trivial
      ·match j,hj with
       |0,hj|1,hj|2,hj|3,hj|4,hj|5,hj=>trivial
       |6,hj=>exact absurd rfl hj
       |7,hj=>exact Kd.ok_setAll_old (k:=Kd.old (w1.heap.size+1) [(⟨gw,0,none⟩,.int .i64 p),(⟨gw,1,none⟩,.int .i64 q),(⟨gw,2,none⟩,.int .i64 r),(⟨gw,3,none⟩,.int .i64 s)]) trivial (fa (far_blk Vm) (fa (far_blk Vm) (fa (far_blk Vm) (fa (far_blk Vm) (fa0))))) h
       |j+8,_=>exact h
     case r7x7=>
      refine hK undef (setAll gw 0 [.int .i64 (mmP p q r s 0 (-1) 1 0),.int .i64 (mmQ p q r s 0 (-1) 1 0),.int .i64 (mmR p q r s 0 (-1) 1 0),.int .i64 (mmS p q r s 0 (-1) 1 0)] wx) (Sy.setAll Vr (fa (far_blk Vm) (fa (far_blk Vm) (fa (far_blk Vm) (fa (far_blk Vm) (fa (far_blk Vm) (fa (far_blk Vm) (fa (far_blk Vm) (fa (far_blk Vm) (fa (far_blk Vm) (fa (far_blk Vm) (fa (far_blk Vm) (fa0)))))))))))) hS) ?_ (fun j u hj h=> ?_) (fun j hj h=> ?_)
      ·rw [if_neg VA]
       exact fa ⟨setAll_at gw [.int .i64 (mmP p q r s 0 (-1) 1 0),.int .i64 (mmQ p q r s 0 (-1) 1 0),.int .i64 (mmR p q r s 0 (-1) 1 0),.int .i64 (mmS p q r s 0 (-1) 1 0)] 0 wx 0 (show 0<4 by decide) ⟨vx0,cx0⟩,Vr⟩ (fa ⟨setAll_at gw [.int .i64 (mmP p q r s 0 (-1) 1 0),.int .i64 (mmQ p q r s 0 (-1) 1 0),.int .i64 (mmR p q r s 0 (-1) 1 0),.int .i64 (mmS p q r s 0 (-1) 1 0)] 0 wx 1 (show 1<4 by decide) ⟨vx1,cx1⟩,Vr⟩ (fa ⟨setAll_at gw [.int .i64 (mmP p q r s 0 (-1) 1 0),.int .i64 (mmQ p q r s 0 (-1) 1 0),.int .i64 (mmR p q r s 0 (-1) 1 0),.int .i64 (mmS p q r s 0 (-1) 1 0)] 0 wx 2 (show 2<4 by decide) ⟨vx2,cx2⟩,Vr⟩ (fa ⟨setAll_at gw [.int .i64 (mmP p q r s 0 (-1) 1 0),.int .i64 (mmQ p q r s 0 (-1) 1 0),.int .i64 (mmR p q r s 0 (-1) 1 0),.int .i64 (mmS p q r s 0 (-1) 1 0)] 0 wx 3 (show 3<4 by decide) ⟨vx3,cx3⟩,Vr⟩ (fa0))))
      ·match j,hj with
       |0,hj|1,hj|2,hj|3,hj|4,hj|5,hj=>exact (show (u:Value)=_ from h)
       |6,hj=>exact Kd.ok_setAll_old (k:=Kd.old (w1.heap.size+1) [(⟨w.heap.size,0,none⟩,.int .i64 (valI x y z 0 1)),(⟨w.heap.size,1,none⟩,.int .i64 (polI x y z 0 1 (-1) 0)),(⟨w.heap.size,2,none⟩,.int .i64 (valI x y z (-1) 0))]) trivial (fa (far_blk Vm) (fa (far_blk Vm) (fa (far_blk Vm) (fa0)))) h
       |7,hj=>exact absurd rfl hj
       |j+8,_=>trivial
      ·match j,hj with
       |0,hj|1,hj|2,hj|3,hj|4,hj|5,hj=>trivial
       |6,hj=>exact Kd.ok_setAll_old (k:=Kd.old (w1.heap.size+1) [(⟨w.heap.size,0,none⟩,.int .i64 x),(⟨w.heap.size,1,none⟩,.int .i64 y),(⟨w.heap.size,2,none⟩,.int .i64 z)]) trivial (fa (far_blk Vm) (fa (far_blk Vm) (fa (far_blk Vm) (fa0)))) h
       |7,hj=>exact absurd rfl hj
       |j+8,_=>exact h
     all_goals (refine hK _ _ hS ?_ (fun j u _ h=>h) (fun j _ h=>h);rw [if_pos VH];show (_:Value)=_;(first|rfl|(refine congrArg (Value.int .i64) ?_;first|rfl|exact int_in Vn|exact quo_in Vn Vn Vn|exact rem_in Vn Vn|omega)|(simp;done)|(simp [*];done)))
    ·intro aq wx hd hw hf hS hg
     have haq:aq=⟨#[tau aq 0,tau aq 1,tau aq 2,tau aq 3,tau aq 4,tau aq 5,tau aq 6,tau aq 7,tau aq 8,tau aq 9,tau aq 10,tau aq 11,tau aq 12,tau aq 13,tau aq 14,tau aq 15,tau aq 16,tau aq 17,tau aq 18,tau aq 19],[]⟩:=by
      obtain ⟨tq,dq⟩:=aq
      have h5:=arr_eq (show tq.size=20 from hw)
      have h6:dq= []:=hd
      subst h6
      exact congrArg (fun z=>Act.mk z []) h5
     rw[haq,hf 0,hf 1,hf 2,hf 3,hf 4,hf 5,hf 6,hf 7,hf 8,hf 9,hf 10,hf 11,hf 18,hf 19]
     clear haq hf hd hw
     try dsimp only
     have c00:wx.cell? ⟨w.heap.size,0,none⟩=some (.int .i64 (valI x y z 0 1)):=(hg 6 VA (⟨w.heap.size,0,none⟩,.int .i64 (valI x y z 0 1)) Vs).1
     have f00:wx.frozen? ⟨w.heap.size,0,none⟩=false:=(hS.free ⟨w.heap.size,0,none⟩ Vs).2
     have c01:wx.cell? ⟨w.heap.size,1,none⟩=some (.int .i64 (polI x y z 0 1 (-1) 0)):=(hg 6 VA (⟨w.heap.size,1,none⟩,.int .i64 (polI x y z 0 1 (-1) 0)) Vs).1
     have f01:wx.frozen? ⟨w.heap.size,1,none⟩=false:=(hS.free ⟨w.heap.size,1,none⟩ Vs).2
     have c02:wx.cell? ⟨w.heap.size,2,none⟩=some (.int .i64 (valI x y z (-1) 0)):=(hg 6 VA (⟨w.heap.size,2,none⟩,.int .i64 (valI x y z (-1) 0)) Vs).1
     have f02:wx.frozen? ⟨w.heap.size,2,none⟩=false:=(hS.free ⟨w.heap.size,2,none⟩ Vs).2
     have c10:wx.cell? ⟨w.heap.size+1,0,none⟩=some (.int .i64 0):=hS.cells (⟨w.heap.size+1,0,none⟩,.int .i64 0) Vs
     have f10:wx.frozen? ⟨w.heap.size+1,0,none⟩=false:=(hS.free ⟨w.heap.size+1,0,none⟩ Vs).2
     have c11:wx.cell? ⟨w.heap.size+1,1,none⟩=some (.int .i64 0):=hS.cells (⟨w.heap.size+1,1,none⟩,.int .i64 0) Vs
     have f11:wx.frozen? ⟨w.heap.size+1,1,none⟩=false:=(hS.free ⟨w.heap.size+1,1,none⟩ Vs).2
     have c12:wx.cell? ⟨w.heap.size+1,2,none⟩=some (.int .i64 0):=hS.cells (⟨w.heap.size+1,2,none⟩,.int .i64 0) Vs
     have f12:wx.frozen? ⟨w.heap.size+1,2,none⟩=false:=(hS.free ⟨w.heap.size+1,2,none⟩ Vs).2
     have c20:wx.cell? ⟨w.heap.size+1+1,0,none⟩=some (.int .i64 0):=hS.cells (⟨w.heap.size+1+1,0,none⟩,.int .i64 0) Vs
     have f20:wx.frozen? ⟨w.heap.size+1+1,0,none⟩=false:=(hS.free ⟨w.heap.size+1+1,0,none⟩ Vs).2
     have c21:wx.cell? ⟨w.heap.size+1+1,1,none⟩=some (.int .i64 0):=hS.cells (⟨w.heap.size+1+1,1,none⟩,.int .i64 0) Vs
     have f21:wx.frozen? ⟨w.heap.size+1+1,1,none⟩=false:=(hS.free ⟨w.heap.size+1+1,1,none⟩ Vs).2
     have c22:wx.cell? ⟨w.heap.size+1+1,2,none⟩=some (.int .i64 0):=hS.cells (⟨w.heap.size+1+1,2,none⟩,.int .i64 0) Vs
     have f22:wx.frozen? ⟨w.heap.size+1+1,2,none⟩=false:=(hS.free ⟨w.heap.size+1+1,2,none⟩ Vs).2
     have c23:wx.cell? ⟨w.heap.size+1+1,3,none⟩=some (.int .i64 0):=hS.cells (⟨w.heap.size+1+1,3,none⟩,.int .i64 0) Vs
     have f23:wx.frozen? ⟨w.heap.size+1+1,3,none⟩=false:=(hS.free ⟨w.heap.size+1+1,3,none⟩ Vs).2
     have c30:wx.cell? ⟨gw,0,none⟩=some (.int .i64 (mmP p q r s 0 (-1) 1 0)):=(hg 7 VA (⟨gw,0,none⟩,.int .i64 (mmP p q r s 0 (-1) 1 0)) Vs).1
     have f30:wx.frozen? ⟨gw,0,none⟩=false:=(hS.free ⟨gw,0,none⟩ Vs).2
     have c31:wx.cell? ⟨gw,1,none⟩=some (.int .i64 (mmQ p q r s 0 (-1) 1 0)):=(hg 7 VA (⟨gw,1,none⟩,.int .i64 (mmQ p q r s 0 (-1) 1 0)) Vs).1
     have f31:wx.frozen? ⟨gw,1,none⟩=false:=(hS.free ⟨gw,1,none⟩ Vs).2
     have c32:wx.cell? ⟨gw,2,none⟩=some (.int .i64 (mmR p q r s 0 (-1) 1 0)):=(hg 7 VA (⟨gw,2,none⟩,.int .i64 (mmR p q r s 0 (-1) 1 0)) Vs).1
     have f32:wx.frozen? ⟨gw,2,none⟩=false:=(hS.free ⟨gw,2,none⟩ Vs).2
     have c33:wx.cell? ⟨gw,3,none⟩=some (.int .i64 (mmS p q r s 0 (-1) 1 0)):=(hg 7 VA (⟨gw,3,none⟩,.int .i64 (mmS p q r s 0 (-1) 1 0)) Vs).1
     have f33:wx.frozen? ⟨gw,3,none⟩=false:=(hS.free ⟨gw,3,none⟩ Vs).2
     have c40:wx.cell? ⟨w1.heap.size,0,none⟩=some (.int .i64 0):=hS.cells (⟨w1.heap.size,0,none⟩,.int .i64 0) Vs
     have c41:wx.cell? ⟨w1.heap.size,1,none⟩=some (.int .i64 ((-1))):=hS.cells (⟨w1.heap.size,1,none⟩,.int .i64 ((-1))) Vs
     have c42:wx.cell? ⟨w1.heap.size,2,none⟩=some (.int .i64 1):=hS.cells (⟨w1.heap.size,2,none⟩,.int .i64 1) Vs
     have c43:wx.cell? ⟨w1.heap.size,3,none⟩=some (.int .i64 0):=hS.cells (⟨w1.heap.size,3,none⟩,.int .i64 0) Vs
     have hb0:Below w.heap.size w wx:=hS.below
     have z0:=World.block_lt_of_cell? _ _ c00
     change w.heap.size<wx.heap.size at z0
     have z1:=World.block_lt_of_cell? _ _ c10
     change w.heap.size+1<wx.heap.size at z1
     have z2:=World.block_lt_of_cell? _ _ c20
     change w.heap.size+1+1<wx.heap.size at z2
     have z3:=World.block_lt_of_cell? _ _ c30
     change gw<wx.heap.size at z3
     have z4:=World.block_lt_of_cell? _ _ c40
     change w1.heap.size<wx.heap.size at z4
     clear hS hg
     unfold tau
     go_wp2
     go_roundg (muF (valI x y z 0 1) (polI x y z 0 1 (-1) 0) (valI x y z (-1) 0))
     case rel=>
      refine ⟨valI x y z 0 1,polI x y z 0 1 (-1) 0,valI x y z (-1) 0,mmP p q r s 0 (-1) 1 0,mmQ p q r s 0 (-1) 1 0,mmR p q r s 0 (-1) 1 0,mmS p q r s 0 (-1) 1 0,rfl,R2,unhide S1,unhide S4,?_,?_,?_,?_,?_,?_,?_,?_,?_,?_,?_,?_,?_,?_,?_,?_,?_,?_,?_,?_,?_,?_,?_,?_,?_,?_,?_,?_,?_⟩
      all_goals first|(with_reducible assumption)|((repeat' (first|(with_reducible assumption)|(with_reducible refine cell_al _ ?_)|(with_reducible refine cell_eq _ ?_)|(with_reducible refine cell_ne _ ?_ ?_)|(with_reducible refine ex_set _ ?_)|(with_reducible refine ex_al _ ?_)|(exact ⟨_,by with_reducible assumption⟩)|(with_reducible refine frz_al _ ?_ ?_)|(with_reducible refine frz_set _ ?_)|(intro hh;injection hh with hh1 hh2;omega)));done)|(repeat' first|with_reducible (first|exact Below.refl _ _|assumption|refine gr_alloc ?_ _|refine below_drewN ?_ _|refine below_drew ?_|refine gr_call ?_ VV|refine Below.setCell ?_ ?_ _)|go_size|omega|(simp;omega))
     case measure=>(have:=unhide S3;have:=unhide HN;omega)
  ·have e30:=cell_al (.cells #[.int .i64 x,.int .i64 y,.int .i64 z] 81) c30
   have e31:=cell_al (.cells #[.int .i64 x,.int .i64 y,.int .i64 z] 81) c31
   have e32:=cell_al (.cells #[.int .i64 x,.int .i64 y,.int .i64 z] 81) c32
   have e33:=cell_al (.cells #[.int .i64 x,.int .i64 y,.int .i64 z] 81) c33
   go_wp2_with (go_at_call 109;refine (reIs_x _ _ _ _ Vp).mono ?_;rintro e w' ⟨rfl,rfl⟩)
   go_region
   all_goals
    refine at_world (fun wy=>wy.cell? ⟨w.heap.size+1,0,none⟩=some (.int .i64 x)∧wy.cell? ⟨w.heap.size+1,1,none⟩=some (.int .i64 y)∧wy.cell? ⟨w.heap.size+1,2,none⟩=some (.int .i64 z)∧wy.cell? ⟨w.heap.size+1+1,0,none⟩=some (.int .i64 p)∧wy.cell? ⟨w.heap.size+1+1,1,none⟩=some (.int .i64 q)∧wy.cell? ⟨w.heap.size+1+1,2,none⟩=some (.int .i64 r)∧wy.cell? ⟨w.heap.size+1+1,3,none⟩=some (.int .i64 s)∧Below w.heap.size w wy) ?_ ?_
    ·refine ⟨?_,?_,?_,?_,?_,?_,?_,?_⟩
     all_goals first|((first|with_reducible assumption|((repeat' first|with_reducible (first|assumption|refine cell_al _ ?_|refine cell_eq _ ?_|refine cell_ne _ ?_ ?_|refine ex_set _ ?_|refine ex_al _ ?_|exact ⟨_,VV⟩)|(intro hh;injection hh with hh1 hh2;omega));done)|go_simp);done)|(repeat' first|with_reducible (first|exact Below.refl _ _|assumption|refine gr_alloc ?_ _|refine below_drewN ?_ _|refine below_drew ?_|refine gr_call ?_ VV|refine Below.setCell ?_ ?_ _)|go_size|omega|(simp;omega))
    ·rintro wy ⟨k0,k1,k2,k3,k4,k5,k6,k7⟩
     clear HGW g0 n0 n1 n2 n3 n4 n5 z0 z1 z2 z3 hb0 c00 c01 c02 c10 c11 c12 c20 c21 c22 c23 c30 c31 c32 c33 f00 f01 f02 f10 f11 f12 f20 f21 f22 f23 f30 f31 f32 f33
     go_wp2
     first|go_returns|(refine bodyPost_ret (v:= .tuple #[.agg #[.int .i64 x,.int .i64 y,.int .i64 z],.agg #[.int .i64 p,.int .i64 q,.int .i64 r,.int .i64 s]]) (by simp [results,Tryz.results139,go_sem, *]) rfl ?_)
     refine ⟨by unfold rfA rfB rfC rmP rmQ rmR rmS;rw [←unhide HR,redF_yes hrd,←unhide HM,redM_yes hrd],?_⟩
     (repeat' first|with_reducible (first|exact Below.refl _ _|assumption|refine gr_alloc ?_ _|refine below_drewN ?_ _|refine below_drew ?_|refine gr_call ?_ VV|refine Below.setCell ?_ ?_ _)|go_size|omega|(simp;omega))
end Go.Proofs.YtobkcnmlmmhpoaaGreatDoor
