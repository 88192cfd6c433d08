/- big, sameInts. The law of level matrices. -/
import Derived.Test.YtobkcnmlmmhpoaaGreatDlc
import Derived.Test.YtobkcnmlmmhpoaaGreatLxp
import Derived.Test.YtobkcnmlmmhpoaaGreatDld
import Derived.Deep.DeepCutAuto
namespace Go.Proofs.YtobkcnmlmmhpoaaGreat
open Go.RowKit
set_option linter.unusedVariables false
set_option linter.unusedSimpArgs false
attribute [local go_sem] q2 q3 q4 q5 q6 q7 q8 q9 q10 q11 q12

theorem big_a (v1 v2:Value) (n1 n2:Nat) (w:World) (h1:ArgB w v1 n1) (h2:ArgB w v2 n2) (m1:n1≤9223372036854775807) (m2:n2≤9223372036854775807):
  Calls Tryz.prog 4 #[v1,v2] w fun e w'=> ∃t:Bool,e= .returned (.bool t)∧w=w':=by
 obtain ⟨a1,c1,rfl⟩:=h1.len
 obtain ⟨a2,c2,rfl⟩:=h2.len
 by_cases q:1048576<(n1:Int)
 ·go_enter Tryz.func4,Tryz.ntmps4
  go_wp2
  go_ret
  first|exact ⟨_,rfl,rfl⟩|exact rfl|simp
 ·by_cases q2:1048576-(n1:Int)<(n2:Int)
  ·go_enter Tryz.func4,Tryz.ntmps4
   go_wp2
   go_ret
   first|exact ⟨_,rfl,rfl⟩|exact rfl|simp
  ·go_enter Tryz.func4,Tryz.ntmps4
   go_wp2
   go_ret
   first|exact ⟨_,rfl,rfl⟩|exact rfl|simp
end Go.Proofs.YtobkcnmlmmhpoaaGreat
namespace Go.Proofs.YtobkcnmlmmhpoaaGreat
open Go.RowKit
set_option linter.unusedVariables false
set_option linter.unusedSimpArgs false
attribute [local go_sem] q2 q3 q4 q5 q6 q7 q8 q9 q10 q11 q12

theorem leM_i64 (a b c p q r n:Int):I64 (leM a b c p q r n).1.1∧I64 (leM a b c p q r n).1.2.1∧I64 (leM a b c p q r n).1.2.2.1∧I64 (leM a b c p q r n).1.2.2.2:=by
 have hd:leM a b c p q r n=if leA a b c p q r n&&matB (lmG a b c p q r n).1.1 (lmG a b c p q r n).1.2.1 (lmG a b c p q r n).1.2.2.1 (lmG a b c p q r n).1.2.2.2 then ((lmG a b c p q r n).1,true) else ((0,0,0,0),false):=rfl
 split at hd
 ·rename_i q9
  rw[Bool.and_eq_true] at q9
  rw[hd]
  obtain ⟨h0,h1,h2,h3⟩:=mat_true q9.2
  exact ⟨i64_n h0,i64_n h1,i64_n h2,i64_n h3⟩
 ·rw [hd]
  have z:I64 0:=⟨by omega,by omega⟩
  exact ⟨z,z,z,z⟩

set_option maxRecDepth 100000 in
set_option maxHeartbeats 16000000 in
theorem lawLevelMatrices (v1 v2:Value) (n1 n2:Nat) (w:World) (h1:ArgB w v1 n1) (h2:ArgB w v2 n2) (l1:n1≤9223372036854775807) (l2:n2≤9223372036854775807):
  Calls Tryz.prog 3 #[v1,v2] w fun e w'=>e= .returned (.bool true)∧Below w.heap.size w w':=by
 have HA1:=hide h1
 have HA2:=hide h2
 go_enter Tryz.func3,Tryz.ntmps3
 go_wp2_with fail
 refine (big_a v1 v2 n1 n2 w h1 h2 l1 l2).mono ?_
 rintro e0 w0 ⟨tbg,rfl,rfl⟩
 clear h1 h2
 cases tbg
 rotate_left
 ·go_wp2
  go_ret
  exact ⟨rfl,Below.refl _ _⟩
 ·go_wp2_with fail
  refine (drawLX_a v1 n1 w (unhide HA1)).mono ?_
  rintro e1 w1 ⟨x0,x1,x2,y0,y1,y2,n,rfl,p1,p2,p3,gw1⟩
  have IX:Hid (I64 x0∧I64 x1∧I64 x2):=hide p1
  have IY:Hid (I64 y0∧I64 y1∧I64 y2):=hide p2
  clear p1 p2 p3
  obtain ⟨⟨⟨m0,m1,m2,m3⟩,tb⟩,hR⟩: ∃R,leM x0 x1 x2 y0 y1 y2 n=R:=⟨_,rfl⟩
  obtain ⟨ta,hTA⟩: ∃t,leA x0 x1 x2 y0 y1 y2 n=t:=⟨_,rfl⟩
  obtain ⟨tq,hTO⟩: ∃t,leOk x0 x1 x2 y0 y1 y2 n=t:=⟨_,rfl⟩
  have HR:=hide hR
  have HTA:=hide hTA
  have HTO:=hide hTO
  have HIM:Hid (I64 m0∧I64 m1∧I64 m2∧I64 m3):=hide (by
   have:=leM_i64 x0 x1 x2 y0 y1 y2 n
   rw[hR] at this
   exact this)
  have HOK:Hid (tb=true→LxOk x0 x1 x2 y0 y1 y2 n m0 m1 m2 m3):=hide (fun h=>by subst h;exact (lx_ok hR).1)
  have hkey:tb=true→ta=true∧tq=true:=fun h=>by
   subst h
   obtain ⟨-,k1,k2⟩:=lx_ok hR
   exact ⟨hTA.symm.trans k1,hTO.symm.trans k2⟩
  clear hR hTA hTO
  go_wp2_with fail
  refine (lxI x0 x1 x2 y0 y1 y2 n m0 m1 m2 m3 tb _ (unhide IX).1 (unhide IX).2.1 (unhide IX).2.2 (unhide IY).1 (unhide IY).2.1 (unhide IY).2.2 (unhide HR)).mono ?_
  rintro en w2 ⟨rfl,hb2⟩
  have tq0:=Ri3.c hb2 w1.heap.size x0 x1 x2
  have tq1:=Ri3.c hb2 (w1.heap.size+1) y0 y1 y2
  try clear c00 c01 c02
  try clear c10 c11 c12
  obtain ⟨c00,c01,c02,z0⟩:=tq0
  obtain ⟨c10,c11,c12,z1⟩:=tq1
  have gw2:Below w.heap.size w w2:=byGG
  clear hb2
  go_wp2_with fail
  refine (lxS x0 x1 x2 y0 y1 y2 n m0 m1 m2 m3 tb _ (unhide HR)).mono ?_
  rintro en w3 ⟨rfl,hb3⟩
  have tq0:=Ri3.c hb3 w1.heap.size x0 x1 x2
  have tq1:=Ri3.c hb3 (w1.heap.size+1) y0 y1 y2
  have tq2:=Ri4.c hb3 w2.heap.size m0 m1 m2 m3
  try clear c00 c01 c02
  try clear c10 c11 c12
  try clear c20 c21 c22 c23
  obtain ⟨c00,c01,c02,z0⟩:=tq0
  obtain ⟨c10,c11,c12,z1⟩:=tq1
  obtain ⟨c20,c21,c22,c23,z2⟩:=tq2
  have gw3:Below w.heap.size w w3:=byGG
  clear hb3
  go_wp2_with fail
  refine (lxA x0 x1 x2 y0 y1 y2 n ta tq _ (unhide IX).1 (unhide IX).2.1 (unhide IX).2.2 (unhide IY).1 (unhide IY).2.1 (unhide IY).2.2 (unhide HTA) (unhide HTO)).mono ?_
  rintro en w4 ⟨rfl,hb4⟩
  have tq0:=Ri3.c hb4 w1.heap.size x0 x1 x2
  have tq1:=Ri3.c hb4 (w1.heap.size+1) y0 y1 y2
  have tq2:=Ri4.c hb4 w2.heap.size m0 m1 m2 m3
  have tq3:=Ri4.c hb4 w3.heap.size m0 m1 m2 m3
  try clear c00 c01 c02
  try clear c10 c11 c12
  try clear c20 c21 c22 c23
  try clear c30 c31 c32 c33
  obtain ⟨c00,c01,c02,z0⟩:=tq0
  obtain ⟨c10,c11,c12,z1⟩:=tq1
  obtain ⟨c20,c21,c22,c23,z2⟩:=tq2
  obtain ⟨c30,c31,c32,c33,z3⟩:=tq3
  have gw4:Below w.heap.size w w4:=byGG
  clear hb4
  clear HR HTA HTO
  go_upto_region 7 with fail
  go_cut [93] (fun s93 wx=>s93= .bool false∧Ri3 wx w1.heap.size x0 x1 x2∧Ri3 wx (w1.heap.size+1) y0 y1 y2∧Ri4 wx w2.heap.size m0 m1 m2 m3∧Hid (Below w.heap.size w wx))
  case first=>as_aux_lemma=>
   have hmm:(tb != tb)=false:=by cases tb<;>rfl
   cases tb
   ·go_wp2_with fail
    go_meet
    exact ⟨by first|rfl|(simp;done),⟨byCT,byCT,byCT,by first|assumption|(simp;omega)⟩,⟨byCT,byCT,byCT,by first|assumption|(simp;omega)⟩,⟨byCT,byCT,byCT,byCT,by first|assumption|(simp;omega)⟩,hide byGG⟩
   ·obtain ⟨rfl,rfl⟩:=hkey rfl
    go_wp2_with fail
    go_meet
    exact ⟨by first|rfl|(simp;done),⟨byCT,byCT,byCT,by first|assumption|(simp;omega)⟩,⟨byCT,byCT,byCT,by first|assumption|(simp;omega)⟩,⟨byCT,byCT,byCT,byCT,by first|assumption|(simp;omega)⟩,hide byGG⟩
  obtain ⟨rfl,rA,rB,rC,hgb⟩:=hcut
  obtain ⟨w4b,rfl⟩: ∃w4b:World,w4b=wc:=⟨_,rfl⟩
  have gw4b:=unhide hgb
  clear gw2 gw3 gw4 hgb c00 c01 c02 c10 c11 c12 c20 c21 c22 c23 z0 z1 z2
  obtain ⟨c00,c01,c02,z0⟩:=rA
  obtain ⟨c10,c11,c12,z1⟩:=rB
  obtain ⟨c20,c21,c22,c23,z2⟩:=rC
  go_upto_if 94 with fail
  go_cut [] (fun wx=>Ri3 wx w1.heap.size x0 x1 x2∧Hid (Below w.heap.size w wx))
  case first=>as_aux_lemma=>
   cases tb
   ·go_wp2_with fail
    go_meet
    exact ⟨⟨byCT,byCT,byCT,by first|assumption|(simp;omega)⟩,hide byGG⟩
   ·obtain ⟨rfl,rfl⟩:=hkey rfl
    clear hkey
    have hO:=(unhide HOK) rfl
    have HO:=hide hO
    clear hO HOK
    go_wp2_with fail
    refine (implSubstitute_y x0 x1 x2 m0 m1 m2 m3 y0 y1 y2 _ (unhide HO).f (unhide HO).m (unhide HO).g (unhide HO).e1 (unhide HO).e2 (unhide HO).e3).mono ?_
    rintro en w5 ⟨rfl,hb5⟩
    have tq0:=Ri3.c hb5 w1.heap.size x0 x1 x2
    have tq1:=Ri3.c hb5 (w1.heap.size+1) y0 y1 y2
    have tq2:=Ri4.c hb5 w2.heap.size m0 m1 m2 m3
    try clear c00 c01 c02
    try clear c10 c11 c12
    try clear c20 c21 c22 c23
    obtain ⟨c00,c01,c02,z0⟩:=tq0
    obtain ⟨c10,c11,c12,z1⟩:=tq1
    obtain ⟨c20,c21,c22,c23,z2⟩:=tq2
    have gw5:Below w.heap.size w w5:=byGG
    clear hb5
    go_wp2_with fail
    refine (lxM m0 m1 m2 m3 n true true _ (unhide HIM).1 (unhide HIM).2.1 (unhide HIM).2.2.1 (unhide HIM).2.2.2 (unhide HO).l1 (unhide HO).l2).mono ?_
    rintro en w6 ⟨rfl,hb6⟩
    have tq0:=Ri3.c hb6 w1.heap.size x0 x1 x2
    have tq1:=Ri3.c hb6 (w1.heap.size+1) y0 y1 y2
    have tq2:=Ri4.c hb6 w2.heap.size m0 m1 m2 m3
    have tq3:=Ri3.c hb6 w5.heap.size y0 y1 y2
    try clear c00 c01 c02
    try clear c10 c11 c12
    try clear c20 c21 c22 c23
    try clear c30 c31 c32
    obtain ⟨c00,c01,c02,z0⟩:=tq0
    obtain ⟨c10,c11,c12,z1⟩:=tq1
    obtain ⟨c20,c21,c22,c23,z2⟩:=tq2
    obtain ⟨c30,c31,c32,z3⟩:=tq3
    have gw6:Below w.heap.size w w6:=byGG
    clear hb6
    clear HO HIM
    go_wp2_with fail
    go_meet
    exact ⟨⟨byCT,byCT,byCT,by first|assumption|(simp;omega)⟩,hide byGG⟩
  obtain ⟨rA,hgb⟩:=hcut
  obtain ⟨w7,rfl⟩: ∃w7:World,w7=wc:=⟨_,rfl⟩
  have gw7:=unhide hgb
  clear gw4b hgb c00 c01 c02 c10 c11 c12 c20 c21 c22 c23 z0 z1 z2 HOK HIM hkey
  obtain ⟨c00,c01,c02,z0⟩:=rA
  go_upto_if 122 with fail
  go_cut [] (fun wx=>Hid (Below w.heap.size w wx))
  case first=>as_aux_lemma=>
   cases tq
   ·go_wp2_with fail
    go_meet
    exact hide byGG
   ·obtain ⟨u0,e0⟩: ∃u,frA x0 x1 x2 n=u:=⟨_,rfl⟩
    obtain ⟨u1,e1⟩: ∃u,frB x0 x1 x2 n=u:=⟨_,rfl⟩
    obtain ⟨u2,e2⟩: ∃u,frC x0 x1 x2 n=u:=⟨_,rfl⟩
    obtain ⟨tf,e3⟩: ∃t,frOk x0 x1 x2 n=t:=⟨_,rfl⟩
    have E0:=hide e0
    have E1:=hide e1
    have E2:=hide e2
    have E3:=hide e3
    clear e0 e1 e2 e3
    go_wp2_with fail
    refine (lxF x0 x1 x2 n u0 u1 u2 tf _ (unhide IX).1 (unhide IX).2.1 (unhide IX).2.2 (unhide E0) (unhide E1) (unhide E2) (unhide E3)).mono ?_
    rintro en w8 ⟨rfl,hb8⟩
    have tq0:=Ri3.c hb8 w1.heap.size x0 x1 x2
    try clear c00 c01 c02
    obtain ⟨c00,c01,c02,z0⟩:=tq0
    have gw8:Below w.heap.size w w8:=byGG
    clear hb8
    cases tf
    ·go_wp2_with fail
     go_meet
     exact hide byGG
    ·have hf:=lx_fr (unhide E3) (unhide E0) (unhide E1) (unhide E2)
     have HF:=hide hf
     clear hf E0 E1 E2 E3
     go_wp2_with fail
     refine (lxF u0 u1 u2 n x0 x1 x2 true _ (unhide HF).2.2.2.1 (unhide HF).2.2.2.2.1 (unhide HF).2.2.2.2.2 (unhide HF).1.1 (unhide HF).1.2.1 (unhide HF).1.2.2.1 (unhide HF).1.2.2.2).mono ?_
     rintro en w9 ⟨rfl,hb9⟩
     have tq0:=Ri3.c hb9 w1.heap.size x0 x1 x2
     have tq1:=Ri3.c hb9 w8.heap.size u0 u1 u2
     try clear c00 c01 c02
     try clear c10 c11 c12
     obtain ⟨c00,c01,c02,z0⟩:=tq0
     obtain ⟨c10,c11,c12,z1⟩:=tq1
     have gw9:Below w.heap.size w w9:=byGG
     clear hb9
     go_wp2_with fail
     refine (lxL u0 u1 u2 n true true _ (unhide HF).2.2.2.1 (unhide HF).2.2.2.2.1 (unhide HF).2.2.2.2.2 (unhide HF).2.1 (unhide HF).2.2.1).mono ?_
     rintro en w10 ⟨rfl,hb10⟩
     have tq0:=Ri3.c hb10 w1.heap.size x0 x1 x2
     have tq1:=Ri3.c hb10 w8.heap.size u0 u1 u2
     have tq2:=Ri3.c hb10 w9.heap.size x0 x1 x2
     try clear c00 c01 c02
     try clear c10 c11 c12
     try clear c20 c21 c22
     obtain ⟨c00,c01,c02,z0⟩:=tq0
     obtain ⟨c10,c11,c12,z1⟩:=tq1
     obtain ⟨c20,c21,c22,z2⟩:=tq2
     have gw10:Below w.heap.size w w10:=byGG
     clear hb10
     clear HF
     go_wp2_with fail
     go_meet
     exact hide byGG
  have gw10:=unhide hcut
  obtain ⟨w10,rfl⟩: ∃w10:World,w10=wc:=⟨_,rfl⟩
  clear gw7 hcut c00 c01 c02 z0 IX IY
  go_wp2_with fail
  refine (drawPP_a v2 n2 _ ((unhide HA2).below byGG)).mono ?_
  rintro en w11 ⟨a0,a1,a2,a3,k,rfl,p1,p2,hb11⟩

  have gw11:Below w.heap.size w w11:=byGG
  have IA:Hid (I64 a0∧I64 a1∧I64 a2∧I64 a3):=hide p1
  clear hb11 p1 p2
  obtain ⟨x,hpx⟩: ∃z,ppX a0 a1 a2 a3 k=z:=⟨_,rfl⟩
  have HPX:=hide hpx
  clear hpx
  obtain ⟨y,hpy⟩: ∃z,ppY a0 a1 a2 a3 k=z:=⟨_,rfl⟩
  have HPY:=hide hpy
  clear hpy
  obtain ⟨b1,hpb⟩: ∃z,lmB a0 a1 a2 a3 k=z:=⟨_,rfl⟩
  have HPB:=hide hpb
  clear hpb
  go_wp2_with fail
  refine (lxP a0 a1 a2 a3 k x y b1 _ (unhide IA).1 (unhide IA).2.1 (unhide IA).2.2.1 (unhide IA).2.2.2 (unhide HPX) (unhide HPY) (unhide HPB)).mono ?_
  rintro en w12 ⟨rfl,hb12⟩
  have tq0:=Ri4.c hb12 w11.heap.size a0 a1 a2 a3
  try clear c00 c01 c02 c03
  obtain ⟨c00,c01,c02,c03,z0⟩:=tq0
  have gw12:Below w.heap.size w w12:=byGG
  clear hb12
  go_wp2_with fail
  refine (lxQ a0 a1 a2 a3 k x y b1 _ (unhide HPX) (unhide HPY) (unhide HPB)).mono ?_
  rintro en w13 ⟨rfl,hb13⟩
  have tq0:=Ri4.c hb13 w11.heap.size a0 a1 a2 a3
  have tq1:=Ri2.c hb13 w12.heap.size x y
  try clear c00 c01 c02 c03
  try clear c10 c11
  obtain ⟨c00,c01,c02,c03,z0⟩:=tq0
  obtain ⟨c10,c11,z1⟩:=tq1
  have gw13:Below w.heap.size w w13:=byGG
  clear hb13
  go_upto_region 24 with fail
  go_cut [181] (fun s181 wx=>s181= .bool false∧Ri4 wx w11.heap.size a0 a1 a2 a3∧(wx.cell? ⟨w12.heap.size,0,none⟩=some (.int .i64 x)∧wx.cell? ⟨w12.heap.size,1,none⟩=some (.int .i64 y)∧w12.heap.size<wx.heap.size)∧Hid (Below w.heap.size w wx))
  case first=>as_aux_lemma=>
   cases b1
   ·go_wp2_with fail
    go_meet
    exact ⟨by first|rfl|(simp;done),⟨byCT,byCT,byCT,byCT,by first|assumption|(simp;omega)⟩,⟨byCT,byCT,by first|assumption|(simp;omega)⟩,hide byGG⟩
   ·go_wp2_with fail
    go_meet
    exact ⟨by first|rfl|(simp;done),⟨byCT,byCT,byCT,byCT,by first|assumption|(simp;omega)⟩,⟨byCT,byCT,by first|assumption|(simp;omega)⟩,hide byGG⟩
  obtain ⟨rfl,rN,rP,hgb⟩:=hcut
  obtain ⟨w13b,rfl⟩: ∃w13b:World,w13b=wc:=⟨_,rfl⟩
  have gw13b:=unhide hgb
  clear gw12 gw13 hgb c00 c01 c02 c03 c10 c11 z0 z1
  obtain ⟨c00,c01,c02,c03,z0⟩:=rN
  obtain ⟨c10,c11,z1⟩:=rP
  go_wp2_with fail
  refine (drawPP_a v1 n1 _ ((unhide HA1).below byGG)).mono ?_
  rintro en w14 ⟨b0,bb1,b2,b3,kk,rfl,p1,p2,hb14⟩
  have tq0:=Ri4.c hb14 w11.heap.size a0 a1 a2 a3
  have tq1:=Ri2.c hb14 w12.heap.size x y
  try clear c00 c01 c02 c03
  try clear c10 c11
  obtain ⟨c00,c01,c02,c03,z0⟩:=tq0
  obtain ⟨c10,c11,z1⟩:=tq1
  have gw14:Below w.heap.size w w14:=byGG
  have IB:Hid (I64 b0∧I64 bb1∧I64 b2∧I64 b3):=hide p1
  clear hb14 p1 p2
  obtain ⟨u,hqx⟩: ∃z,ppX b0 bb1 b2 b3 k=z:=⟨_,rfl⟩
  have HQX:=hide hqx
  clear hqx
  obtain ⟨v,hqy⟩: ∃z,ppY b0 bb1 b2 b3 k=z:=⟨_,rfl⟩
  have HQY:=hide hqy
  clear hqy
  obtain ⟨t2,hqb⟩: ∃z,lmB b0 bb1 b2 b3 k=z:=⟨_,rfl⟩
  have HQB:=hide hqb
  clear hqb
  go_wp2_with fail
  refine (lxP b0 bb1 b2 b3 k u v t2 _ (unhide IB).1 (unhide IB).2.1 (unhide IB).2.2.1 (unhide IB).2.2.2 (unhide HQX) (unhide HQY) (unhide HQB)).mono ?_
  rintro en w15 ⟨rfl,hb15⟩
  have tq0:=Ri4.c hb15 w11.heap.size a0 a1 a2 a3
  have tq1:=Ri2.c hb15 w12.heap.size x y
  have tq2:=Ri4.c hb15 w14.heap.size b0 bb1 b2 b3
  try clear c00 c01 c02 c03
  try clear c10 c11
  try clear c20 c21 c22 c23
  obtain ⟨c00,c01,c02,c03,z0⟩:=tq0
  obtain ⟨c10,c11,z1⟩:=tq1
  obtain ⟨c20,c21,c22,c23,z2⟩:=tq2
  have gw15:Below w.heap.size w w15:=byGG
  clear hb15
  go_wp2_with fail
  refine (implMatrixInverse_c b0 bb1 b2 b3 _ (unhide IB).1 (unhide IB).2.1 (unhide IB).2.2.1 (unhide IB).2.2.2).mono ?_
  rintro en w16 ⟨j0,j1,j2,j3,t5,rfl,hj,hjp,hb16⟩
  have tq0:=Ri4.c hb16 w11.heap.size a0 a1 a2 a3
  have tq1:=Ri2.c hb16 w12.heap.size x y
  have tq2:=Ri4.c hb16 w14.heap.size b0 bb1 b2 b3
  have tq3:=Ri2.c hb16 w15.heap.size u v
  try clear c00 c01 c02 c03
  try clear c10 c11
  try clear c20 c21 c22 c23
  try clear c30 c31
  obtain ⟨c00,c01,c02,c03,z0⟩:=tq0
  obtain ⟨c10,c11,z1⟩:=tq1
  obtain ⟨c20,c21,c22,c23,z2⟩:=tq2
  obtain ⟨c30,c31,z3⟩:=tq3
  have gw16:Below w.heap.size w w16:=byGG
  clear hb16
  have IJ:Hid (I64 j0∧I64 j1∧I64 j2∧I64 j3):=hide hj
  have HJP:=hide hjp
  clear hj hjp
  go_wp2_with fail
  refine (implMatrixProduct_c a0 a1 a2 a3 j0 j1 j2 j3 _ (unhide IA).1 (unhide IA).2.1 (unhide IA).2.2.1 (unhide IA).2.2.2 (unhide IJ).1 (unhide IJ).2.1 (unhide IJ).2.2.1 (unhide IJ).2.2.2).mono ?_
  rintro en w17 ⟨c0,c1,c2,c3,t6,rfl,hc,hcp,hb17⟩
  have tq0:=Ri4.c hb17 w11.heap.size a0 a1 a2 a3
  have tq1:=Ri2.c hb17 w12.heap.size x y
  have tq2:=Ri4.c hb17 w14.heap.size b0 bb1 b2 b3
  have tq3:=Ri2.c hb17 w15.heap.size u v
  have tq4:=Ri4.c hb17 w16.heap.size j0 j1 j2 j3
  try clear c00 c01 c02 c03
  try clear c10 c11
  try clear c20 c21 c22 c23
  try clear c30 c31
  try clear c40 c41 c42 c43
  obtain ⟨c00,c01,c02,c03,z0⟩:=tq0
  obtain ⟨c10,c11,z1⟩:=tq1
  obtain ⟨c20,c21,c22,c23,z2⟩:=tq2
  obtain ⟨c30,c31,z3⟩:=tq3
  obtain ⟨c40,c41,c42,c43,z4⟩:=tq4
  have gw17:Below w.heap.size w w17:=byGG
  clear hb17
  have IC:Hid (I64 c0∧I64 c1∧I64 c2∧I64 c3):=hide hc
  have HCP:=hide hcp
  clear hc hcp
  cases b1
  ·go_wp2
   go_ret
   exact ⟨rfl,byGG⟩
  ·cases t2
   ·go_wp2
    go_ret
    exact ⟨rfl,byGG⟩
   ·cases t5
    ·go_wp2
     go_ret
     exact ⟨rfl,byGG⟩
    ·cases t6
     ·go_wp2
      go_ret
      exact ⟨rfl,byGG⟩
     ·have hpr:properB b0 bb1 b2 b3=true:=by
       have:=unhide HQB
       unfold lmB at this
       rw[Bool.and_eq_true] at this
       exact this.1
      have hpt:=lx_pt (unhide HPB) (unhide HQB) (unhide HPX) (unhide HPY) (unhide HQX) (unhide HQY) ((unhide HJP) hpr).2 ((unhide HCP) rfl).1 ((unhide HCP) rfl).2.1
      have HPT:=hide hpt
      clear hpt hpr HPX HPY HPB HQX HQY HQB HJP HCP
      obtain ⟨tl,htl⟩: ∃z,(lmB c0 c1 c2 c3 k&&(c2.tmod k==0))=z:=⟨_,rfl⟩
      have HTL:=hide htl
      have HTP:Hid (tl=true↔(x=u∧y=v)):=hide (by
       have h9:=unhide HPT
       rw[←htl,h9.1,Bool.true_and,beq_iff_eq]
       exact h9.2.1)
      clear htl
      go_wp2_with fail
      refine (lxM c0 c1 c2 c3 k true tl _ (unhide IC).1 (unhide IC).2.1 (unhide IC).2.2.1 (unhide IC).2.2.2 (unhide HPT).1 (unhide HTL)).mono ?_
      rintro en w18 ⟨rfl,hb18⟩
      have tq0:=Ri4.c hb18 w11.heap.size a0 a1 a2 a3
      have tq1:=Ri2.c hb18 w12.heap.size x y
      have tq2:=Ri4.c hb18 w14.heap.size b0 bb1 b2 b3
      have tq3:=Ri2.c hb18 w15.heap.size u v
      have tq4:=Ri4.c hb18 w16.heap.size j0 j1 j2 j3
      have tq5:=Ri4.c hb18 w17.heap.size c0 c1 c2 c3
      try clear c00 c01 c02 c03
      try clear c10 c11
      try clear c20 c21 c22 c23
      try clear c30 c31
      try clear c40 c41 c42 c43
      try clear c50 c51 c52 c53
      obtain ⟨c00,c01,c02,c03,z0⟩:=tq0
      obtain ⟨c10,c11,z1⟩:=tq1
      obtain ⟨c20,c21,c22,c23,z2⟩:=tq2
      obtain ⟨c30,c31,z3⟩:=tq3
      obtain ⟨c40,c41,c42,c43,z4⟩:=tq4
      obtain ⟨c50,c51,c52,c53,z5⟩:=tq5
      have gw18:Below w.heap.size w w18:=byGG
      clear hb18
      go_wp2_with fail
      refine (implProjectivePoints_a k _).mono ?_
      rintro en w19 ⟨pa,pc,rfl,hpa,hb19⟩
      rw[(unhide HPT).2.2.1]
      have tq0:=Ri4.c hb19 w11.heap.size a0 a1 a2 a3
      have tq1:=Ri2.c hb19 w12.heap.size x y
      have tq2:=Ri4.c hb19 w14.heap.size b0 bb1 b2 b3
      have tq3:=Ri2.c hb19 w15.heap.size u v
      have tq4:=Ri4.c hb19 w16.heap.size j0 j1 j2 j3
      have tq5:=Ri4.c hb19 w17.heap.size c0 c1 c2 c3
      try clear c00 c01 c02 c03
      try clear c10 c11
      try clear c20 c21 c22 c23
      try clear c30 c31
      try clear c40 c41 c42 c43
      try clear c50 c51 c52 c53
      obtain ⟨c00,c01,c02,c03,z0⟩:=tq0
      obtain ⟨c10,c11,z1⟩:=tq1
      obtain ⟨c20,c21,c22,c23,z2⟩:=tq2
      obtain ⟨c30,c31,z3⟩:=tq3
      obtain ⟨c40,c41,c42,c43,z4⟩:=tq4
      obtain ⟨c50,c51,c52,c53,z5⟩:=tq5
      have gw19:Below w.heap.size w w19:=byGG
      clear hb19
      have hN:=ppN_le k
      have HFN:Hid (fndB (ppF k) x y (ppN k)=true):=hide (unhide HPT).2.2.2
      obtain ⟨N,hNe⟩: ∃N,ppN k=N:=⟨_,rfl⟩
      obtain ⟨F,hFe⟩: ∃F,ppF k=F:=⟨_,rfl⟩
      rw[hNe,hFe] at hpa HFN
      rw[hNe] at hN ⊢
      clear hNe hFe HPT HTL
      as_aux_lemma=>
       have zP:w12.heap.size<w19.heap.size:=z1
       have zQ:w15.heap.size<w19.heap.size:=z3
       obtain ⟨PB,hPB⟩: ∃z,w12.heap.size=z:=⟨_,rfl⟩
       obtain ⟨QB,hQB⟩: ∃z,w15.heap.size=z:=⟨_,rfl⟩
       rw[hPB] at zP c10 c11 ⊢
       rw[hQB] at zQ c30 c31 ⊢
       go_wp2_with fail
       go_loopw [42,227] (fun fs is wr=> ∃i:Nat,fs= .bool (fndB F x y i)∧is= .int .i64 (i:Int)∧i≤N∧Hid (Below w19.heap.size w19 wr)) (fun _ is _=>N-(intOf is).toNat)
       case atStart=>exact ⟨0,rfl,rfl,by omega,hide (Below.refl _ _)⟩
       case round=>
        obtain ⟨i,rfl,rfl,hi,hbr⟩:=hrel
        obtain ⟨wl,rfl⟩: ∃wl:World,wl=wr:=⟨_,rfl⟩
        have hb:=unhide hbr
        have d10:=cell_call hb c10
        have d11:=cell_call hb c11
        have d30:=cell_call hb c30
        have d31:=cell_call hb c31
        have hzl:=hb.size
        have zl1:PB<wl.heap.size:=by omega
        have zl4:QB<wl.heap.size:=by omega
        clear c10 c11 c30 c31
        by_cases ci:i<N
        ·have hci:(i:Int)<(N:Int):=by omega
         rcases hpa with h0|⟨g,cap,G,rfl,hg1,hg2,hcap,hrow,hG⟩
         ·omega
         ·have r1:=hrow.of_block (hb.block g hrow.lt)
          have e0:=r1.cell (i:=i*2) (by omega)
          rw[hG (i*2) (by omega)] at e0
          have e1:=r1.cell (i:=i*2+1) (by omega)
          rw[hG (i*2+1) (by omega)] at e1
          have zg:g<wl.heap.size:=World.block_lt_of_cell? _ _ e0
          have HNX:Hid (fndB F x y (i+1)=(fndB F x y i || (F (i*2)==x&&F (i*2+1)==y))):=hide rfl
          generalize F (i*2)=s0 at*
          generalize F (i*2+1)=s1 at*
          obtain ⟨fb,hfb⟩: ∃b,fndB F x y i=b:=⟨_,rfl⟩
          rw[hfb] at HNX ⊢
          clear hfb hG hrow r1
          cases fb
          ·by_cases q0:s0=x
           ·by_cases q1:s1=y
            ·subst q0 q1
             have hnx:=unhide HNX
             clear HNX
             go_wp2
             go_roundw
             case rel=>exact ⟨i+1,by rw[hnx];first|rfl|(simp;done)|(simp [*];done),by first|rfl|go_num,by omega,hide byGG⟩
             case measure=>simp [intOf];omega
            ·have hnx:=unhide HNX
             clear HNX
             go_wp2
             go_roundw
             case rel=>exact ⟨i+1,by rw[hnx];first|rfl|(simp;done)|(simp [*];done),by first|rfl|go_num,by omega,hide byGG⟩
             case measure=>simp [intOf];omega
           ·have hnx:=unhide HNX
            clear HNX
            go_wp2
            go_roundw
            case rel=>exact ⟨i+1,by rw[hnx];first|rfl|(simp;done)|(simp [*];done),by first|rfl|go_num,by omega,hide byGG⟩
            case measure=>simp [intOf];omega
          ·have hnx:=unhide HNX
           clear HNX
           go_wp2
           go_roundw
           case rel=>exact ⟨i+1,by rw[hnx];first|rfl|(simp;done)|(simp [*];done),by first|rfl|go_num,by omega,hide byGG⟩
           case measure=>simp [intOf];omega
        ·obtain rfl:i=N:=by omega
         have hfn:=unhide HFN
         rw[hfn]
         have htp:=unhide HTP
         have HB:=hbr
         clear HFN HTP hbr hpa
         cases tl
         ·have hne: ¬(x=u∧y=v):=fun h=>by have:=htp.2 h;cases this
          clear htp
          by_cases q0:x=u
          ·have q1: ¬y=v:=fun h=>hne ⟨q0,h⟩
           clear hne
           go_wp2
           go_ret
           exact ⟨rfl,byGG⟩
          ·clear hne
           go_wp2
           go_ret
           exact ⟨rfl,byGG⟩
         ·have hee:=htp.1 rfl
          obtain ⟨rfl,rfl⟩:=hee
          clear htp
          go_wp2
          go_ret
          exact ⟨rfl,byGG⟩
end Go.Proofs.YtobkcnmlmmhpoaaGreat
