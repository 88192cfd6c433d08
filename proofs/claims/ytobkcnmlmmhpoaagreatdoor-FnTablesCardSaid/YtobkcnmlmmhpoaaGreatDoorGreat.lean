/- The composite (spec). The composite over triples, on both sides. Predicates of a world and a value that every callee keeps. A list that a loop builds beside a source that stays. GreatestNumber on both sides, and the law's walk. -/
import Derived.Test.YtobkcnmlmmhpoaaGreatDoorCou
import Derived.Test.YtobkcnmlmmhpoaaGreatDoorRfl
import Derived.Test.YtobkcnmlmmhpoaaGreatDoorRule
import Derived.Test.YtobkcnmlmmhpoaaGreatDoorConv
import Derived.Test.YtobkcnmlmmhpoaaGreatDoorPrim
namespace Go.Proofs.YtobkcnmlmmhpoaaGreatDoor
set_option maxRecDepth 100000
set_option maxHeartbeats 80000000
open Go.RowKit
set_option linter.unusedVariables false
set_option linter.unusedSimpArgs false
attribute [local go_sem] q2 q3 q4 q5 q6 q7 q8 q9 q10 q11 q12

theorem coJoined_a (a t x e y s:Int) (w:World) (h0: -1000000≤a*e∧a*e≤1000000) (he:1≤e) (hq:(e*s).tdiv e=s) (hs:0≤s∧s≤100000000):
  Calls Tryz.prog 134 #[.agg #[.int .i64 a,.int .i64 t,.int .i64 (e*s)],.agg #[.int .i64 e,.int .i64 x,.int .i64 y]] w fun e' w'=>e'= .returned (.agg #[.int .i64 (a*e),.int .i64 t,.int .i64 s])∧Below w.heap.size w w':=by
 have HX1:IntKind.i64.wrap ((e*s).tdiv e)=s:=by rw[hq];exact int_in Vn
 have hne: ¬e=0:=by omega
 go_enter Tryz.func134,Tryz.ntmps134
 go_upto_region 1 with fail
 go_cut [] (fun  wx=>Ri3 wx w.heap.size a t (e*s)∧Ri3 wx (w.heap.size+1) e x y∧Wi3 wx (w.heap.size+1+1) (a*e) t s∧Below w.heap.size w wx)
 case first=>
  have h1:=trivial
  rename_i K2 h2 h3
  refine region_n0 Vw (fun j=> #[5,6,7,8,9,10,11,12,13,14,15,16,17,4].getD j 0) (fun j=>Kd.ok ((fun j=>match j with|0=>Kd.val (.pointer (some ⟨w.heap.size,0,none⟩))|1=>Kd.val (.int .i64 a)|2=>Kd.val (.pointer (some ⟨w.heap.size+1,0,none⟩))|3=>Kd.val (.int .i64 e)|4=>Kd.val (.int .i64 (a*e))|5=>Kd.val (.pointer (some ⟨w.heap.size,1,none⟩))|6=>Kd.val (.int .i64 t)|7=>Kd.val (.pointer (some ⟨w.heap.size,2,none⟩))|8=>Kd.val (.int .i64 (e*s))|9=>Kd.val (.pointer (some ⟨w.heap.size+1,0,none⟩))|10=>Kd.val (.int .i64 e)|11=>Kd.val (.int .i64 s)|12=>Kd.val (.agg #[.int .i64 (a*e),.int .i64 t,.int .i64 s])|13=>Kd.old (w.heap.size+1+1+1) [(⟨w.heap.size+1+1,0,none⟩,.int .i64 (a*e)),(⟨w.heap.size+1+1,1,none⟩,.int .i64 t),(⟨w.heap.size+1+1,2,none⟩,.int .i64 s)]|_=>Kd.any:Nat→Kd) j)) (Sy w (w.heap.size+1+1+1) [(⟨w.heap.size,0,none⟩,.int .i64 a),(⟨w.heap.size,1,none⟩,.int .i64 t),(⟨w.heap.size,2,none⟩,.int .i64 (e*s)),(⟨w.heap.size+1,0,none⟩,.int .i64 e),(⟨w.heap.size+1,1,none⟩,.int .i64 x),(⟨w.heap.size+1,2,none⟩,.int .i64 y)] [⟨w.heap.size+1+1,0,none⟩,⟨w.heap.size+1+1,1,none⟩,⟨w.heap.size+1+1,2,none⟩]) Vw Vw ?_ ?_ ?_ ?_
  ·intro j hj
   have hj2:j<14:=hj
   have: ∀j,j<14→(#[5,6,7,8,9,10,11,12,13,14,15,16,17,4]:Array Nat).getD j 0<18:=by decide
   exact this j hj2
  ·refine Sy.drew (Sy.mk_of ?_ ?_ ?_ ?_)
   ·first|rfl|(simp;done)|(simp;omega)
   ·intro c hc
    simp only[List.mem_cons,List.not_mem_nil,or_false] at hc
    rcases hc with rfl|rfl|rfl|rfl|rfl|rfl<;>exact byCT
   ·intro p hp
    simp only[List.mem_cons,List.not_mem_nil,or_false] at hp
    rcases hp with rfl|rfl|rfl<;>exact ⟨by first|((repeat' with_reducible (first|refine ex_set _ ?_|refine ex_al _ ?_|exact ⟨_,VV⟩));done)|first|exact ⟨_,VV⟩|assumption|(go_simp;done)|(go_simp;exact ⟨_,rfl⟩),by first|((repeat' first|with_reducible (first|assumption|refine frz_al _ ?_ ?_|refine frz_set _ ?_)|omega|(simp;omega));done)|assumption|(go_simp;done)⟩
   ·(repeat' first|with_reducible (first|exact Below.refl _ _|assumption|refine gr_alloc ?_ _|refine below_drewN ?_ _|refine below_drew ?_|refine gr_call ?_ VV|refine Below.setCell ?_ ?_ _)|go_size|omega|(simp;omega))
  ·clear h1 h2 h3
   refine ⟨?r22x0,?r22x1,?r22x2,?r22x3,?r22x4,?r22x5,?r22x6,?r22x7,?r22x8,?r22x9,?r22x10,?r22x11,?r22x12,?r22x13,trivial⟩
   all_goals intro _ aq wx Kq hf hS hdep ev1 ev2 hK
   case' r22x0=>
    have F2:aq.eval (.tmp 2)= .pointer (some ⟨w.heap.size,0,none⟩):=hf 2
   case' r22x1=>
    have D0:aq.eval (.tmp 5)=_:=hdep 0
    have c0:=hS.cells (⟨w.heap.size,0,none⟩,.int .i64 a) Vs
   case' r22x2=>
    have F3:aq.eval (.tmp 3)= .pointer (some ⟨w.heap.size+1,0,none⟩):=hf 3
   case' r22x3=>
    have D2:aq.eval (.tmp 7)=_:=hdep 2
    have c0:=hS.cells (⟨w.heap.size+1,0,none⟩,.int .i64 e) Vs
   case' r22x4=>
    have D1:aq.eval (.tmp 6)=_:=hdep 1
    have D3:aq.eval (.tmp 8)=_:=hdep 3
   case' r22x5=>
    have F2:aq.eval (.tmp 2)= .pointer (some ⟨w.heap.size,0,none⟩):=hf 2
   case' r22x6=>
    have D5:aq.eval (.tmp 10)=_:=hdep 5
    have c0:=hS.cells (⟨w.heap.size,1,none⟩,.int .i64 t) Vs
   case' r22x7=>
    have F2:aq.eval (.tmp 2)= .pointer (some ⟨w.heap.size,0,none⟩):=hf 2
   case' r22x8=>
    have D7:aq.eval (.tmp 12)=_:=hdep 7
    have c0:=hS.cells (⟨w.heap.size,2,none⟩,.int .i64 (e*s)) Vs
   case' r22x9=>
    have F3:aq.eval (.tmp 3)= .pointer (some ⟨w.heap.size+1,0,none⟩):=hf 3
   case' r22x10=>
    have D9:aq.eval (.tmp 14)=_:=hdep 9
    have c0:=hS.cells (⟨w.heap.size+1,0,none⟩,.int .i64 e) Vs
   case' r22x11=>
    have D8:aq.eval (.tmp 13)=_:=hdep 8
    have D10:aq.eval (.tmp 15)=_:=hdep 10
   case' r22x12=>
    have D4:aq.eval (.tmp 9)=_:=hdep 4
    have D6:aq.eval (.tmp 11)=_:=hdep 6
    have D11:aq.eval (.tmp 16)=_:=hdep 11
   case' r22x13=>
    have D12:aq.eval (.tmp 17)=_:=hdep 12
    have F4:aq.eval (.tmp 4)= .pointer (some ⟨w.heap.size+1+1,0,none⟩):=hf 4
    obtain ⟨⟨vx0,cx0⟩,cf0⟩:=hS.free ⟨w.heap.size+1+1,0,none⟩ Vs
    obtain ⟨⟨vx1,cx1⟩,cf1⟩:=hS.free ⟨w.heap.size+1+1,1,none⟩ Vs
    obtain ⟨⟨vx2,cx2⟩,cf2⟩:=hS.free ⟨w.heap.size+1+1,2,none⟩ Vs
   all_goals (clear hf hdep;unfold Oper.wp;generalize Act.eval _=ev at *;go_simp)
   case' r22x11=>
    try rw[if_neg Vn,Oper.upon_value]
   case r22x13=>
    refine hK undef (setAll (w.heap.size+1+1) 0 [.int .i64 (a*e),.int .i64 t,.int .i64 s] wx) (Sy.setAll Vr (fa (far_blk Vm) (fa (far_blk Vm) (fa (far_blk Vm) (fa (far_blk Vm) (fa (far_blk Vm) (fa (far_blk Vm) (fa0))))))) hS) ?_ (fun j u hj h=> ?_)
    ·rw [if_neg VA]
     exact fa ⟨setAll_at (w.heap.size+1+1) [.int .i64 (a*e),.int .i64 t,.int .i64 s] 0 wx 0 (show 0<3 by decide) ⟨vx0,cx0⟩,Vr⟩ (fa ⟨setAll_at (w.heap.size+1+1) [.int .i64 (a*e),.int .i64 t,.int .i64 s] 0 wx 1 (show 1<3 by decide) ⟨vx1,cx1⟩,Vr⟩ (fa ⟨setAll_at (w.heap.size+1+1) [.int .i64 (a*e),.int .i64 t,.int .i64 s] 0 wx 2 (show 2<3 by decide) ⟨vx2,cx2⟩,Vr⟩ (fa0)))
    ·match j,hj with
     |0,hj|1,hj|2,hj|3,hj|4,hj|5,hj|6,hj|7,hj|8,hj|9,hj|10,hj|11,hj|12,hj=>exact (show (u:Value)=_ from h)
     |13,hj=>exact absurd rfl hj
     |j+14,_=>trivial
   all_goals (refine hK _ _ hS ?_ (fun j u _ h=>h);rw [if_pos VH];show (_:Value)=_;(first|rfl|(refine congrArg (Value.int .i64) ?_;first|rfl|exact int_in Vn|exact quo_in Vn Vn Vn|exact rem_in Vn Vn|omega|exact HX1)|(simp;done)|(simp [*];done)))
  ·intro aq wx hd hw hf hS hg
   have haq:aq=⟨#[tau aq 0,tau aq 1,tau aq 2,tau aq 3,tau aq 4,tau aq 5,tau aq 6,tau aq 7,tau aq 8,tau aq 9,tau aq 10,tau aq 11,tau aq 12,tau aq 13,tau aq 14,tau aq 15,tau aq 16,tau aq 17],[]⟩:=by
    obtain ⟨tq,dq⟩:=aq
    have h5:=arr_eq (show tq.size=18 from hw)
    have h6:dq= []:=hd
    subst h6
    exact congrArg (fun z=>Act.mk z []) h5
   show K2 aq wx
   rw[haq,hf 0,hf 1,hf 2,hf 3,hf 4]
   clear haq hf hd hw
   try dsimp only
   refine h3 _ _ ?_
   go_meet
   refine ⟨Ri3.m ?_ ?_ ?_,Ri3.m ?_ ?_ ?_,Wi3.m (hg 13 VA (_,_) Vs).1 (hg 13 VA (_,_) Vs).1 (hg 13 VA (_,_) Vs).1 ?_ ?_ ?_,hS.below⟩
   all_goals first|exact hS.cells (_,_) Vs|exact (hS.free _ Vs).2
 obtain ⟨⟨c00,c01,c02,z0⟩,⟨c10,c11,c12,z1⟩,⟨c20,c21,c22,f20,f21,f22,z2⟩,hb0⟩:=hcut
 go_wp2
 refine bodyPost_ret (v:= .agg #[.int .i64 (a*e),.int .i64 t,.int .i64 s]) (by simp [results,Tryz.results134,go_sem, *]) rfl ?_
 exact ⟨rfl,hb0⟩

theorem coMul_r (a b c p q r:Int) (w:World) (hc1:Cls a b c) (hc2:Cls p q r) (hdd:discI p q r=discI a b c):
  Calls Tryz.prog 107 #[.agg #[.int .i64 a,.int .i64 b,.int .i64 c],.agg #[.int .i64 p,.int .i64 q,.int .i64 r]] w fun e' w'=> ∃u v k,e'= .returned (.agg #[.int .i64 u,.int .i64 v,.int .i64 k])∧CpR a b c p q r u v k∧Below w.heap.size w w':=by
 go_enter Tryz.func107,Tryz.ntmps107
 go_wp2_with fail
 refine (coUnite_r a b c p q r _ hc1 hc2 hdd).mono ?_
 rintro en w1 ⟨x1,y1,zz1,x2,y2,zz2,e,t,s,g0,gg1,g2,g3,l0,l1,l2,l3,rfl,r1,r2,hu,hb1⟩
 have tq0:=lt_c hb1 w.heap.size
 have tq1:=lt_c hb1 (w.heap.size+1)
 have tq2:=Wi3.c hb1 (w.heap.size+1+1) 0 0 0
 try clear c20 c21 c22 f20 f21 f22
 have z0:=tq0
 clear tq0
 have z1:=tq1
 clear tq1
 obtain ⟨c20,c21,c22,f20,f21,f22,z2⟩:=tq2
 have hs1:=hb1.size
 have hD:discI x2 y2 zz2=discI x1 y1 zz1:=by rw[r2.dd,hdd,r1.dd]
 obtain ⟨f1,f2,f3,f4,f5,f6,f7,f8,f9⟩:=hu.facts r1.rc r2.rc hD
 have hc:=f6.ok
 have r3:=rdr_of f6
 obtain ⟨u,v,k,E⟩: ∃u v k,rfA (x1*e) t s=u∧rfB (x1*e) t s=v∧rfC (x1*e) t s=k:=⟨_,_,_,rfl,rfl,rfl⟩
 have r3':RdR (x1*e) t s u v k:=by obtain ⟨rfl,rfl,rfl⟩:=E;exact r3
 have HC:Hid (CpR a b c p q r u v k):=hide ⟨_,_,_,_,_,_,_,_,_,r1,r2,hdd,hu,r3'⟩
 have q1:(e*s).tdiv e=s:=Int.mul_tdiv_cancel_left _ Vn
 have q2: -1000000≤x1*e∧x1*e≤1000000:=by
  have n0:=Int.mul_pos f1 f3
  have n1:x1*e≤26*20000:=Int.mul_le_mul f2 f4 Vn Vn
  omega
 have q3:0≤s∧s≤100000000:=⟨by have:=hc.c0;omega,hc.c1⟩
 clear r3 r3' r1 r2 hu hD f6 f7 f8 f9 f5
 go_wp2_with fail
 refine (coJoined_a x1 t t e (x1*s) s _ q2 Vn q1 q3).mono ?_
 rintro en w2 ⟨rfl,hb2⟩
 have tq0:=lt_c hb2 w.heap.size
 have tq1:=lt_c hb2 (w.heap.size+1)
 have tq2:=Wi3.c hb2 (w.heap.size+1+1) 0 0 0
 try clear c20 c21 c22 f20 f21 f22
 have z0:=tq0
 clear tq0
 have z1:=tq1
 clear tq1
 obtain ⟨c20,c21,c22,f20,f21,f22,z2⟩:=tq2
 have hs2:=hb2.size
 go_wp2_with fail
 refine (reClass_rw (x1*e) t s u v k hc E _).mono ?_
 rintro en w3 ⟨rfl,hb3⟩
 have tq0:=lt_c hb3 w.heap.size
 have tq1:=lt_c hb3 (w.heap.size+1)
 have tq2:=Wi3.c hb3 (w.heap.size+1+1) 0 0 0
 try clear c20 c21 c22 f20 f21 f22
 have z0:=tq0
 clear tq0
 have z1:=tq1
 clear tq1
 obtain ⟨c20,c21,c22,f20,f21,f22,z2⟩:=tq2
 have hs3:=hb3.size
 go_wp2
 refine bodyPost_ret (v:= .agg #[.int .i64 u,.int .i64 v,.int .i64 k]) (by simp [results,Tryz.results107,go_sem, *]) rfl ?_
 exact ⟨u,v,k,rfl,unhide HC,byGG⟩
end Go.Proofs.YtobkcnmlmmhpoaaGreatDoor
namespace Go.Proofs.YtobkcnmlmmhpoaaGreatDoor
open Go.RowKit
set_option linter.unusedVariables false
set_option linter.unusedSimpArgs false
attribute [local go_sem] q2 q3 q4 q5 q6 q7 q8 q9 q10 q11 q12

theorem compose_D {D:Int} (F G:T3) (w:World) (h:InD D F) (h2:InD D G):Calls Tryz.prog 114 #[frm F,frm G] w fun e w'=>e= .returned (frm (cmp F G))∧Below w.heap.size w w':=
 (compose_r F.1 F.2.1 F.2.2 G.1 G.2.1 G.2.2 w h.cl h2.cl (h2.d.trans h.d.symm)).mono fun e w' ⟨u,v,k,he,hc,hb⟩=>⟨by rw[cp_of hc];exact he,hb⟩
theorem coMul_D {D:Int} (F G:T3) (w:World) (h:InD D F) (h2:InD D G):Calls Tryz.prog 107 #[frm F,frm G] w fun e w'=>e= .returned (frm (cmp F G))∧Below w.heap.size w w':=
 (coMul_r F.1 F.2.1 F.2.2 G.1 G.2.1 G.2.2 w h.cl h2.cl (h2.d.trans h.d.symm)).mono fun e w' ⟨u,v,k,he,hc,hb⟩=>⟨by rw[cp_of hc];exact he,hb⟩
end Go.Proofs.YtobkcnmlmmhpoaaGreatDoor
namespace Go.Proofs.YtobkcnmlmmhpoaaGreatDoor
open Go.RowKit
set_option linter.unusedVariables false
set_option linter.unusedSimpArgs false

def StB (P:World→Value→Prop):Prop:= ∀W w' v,Below W.heap.size W w'→P W v→P w' v
theorem Kd.st (k:Kd):StB k.ok:=fun W w' v hb h=>Kd.ok_below hb h
end Go.Proofs.YtobkcnmlmmhpoaaGreatDoor
namespace Go.Proofs.YtobkcnmlmmhpoaaGreatDoor
open Go.RowKit
set_option linter.unusedVariables false
set_option linter.unusedSimpArgs false
attribute [local go_sem] q2 q3 q4 q5 q6 q7 q8 q9 q10 q11 q12

theorem IL.some9 {w:World} {lo n c:Nat} {a:Option Addr} {zs:List Int} (h:IL w lo (.slice a n c) zs) (hz:0<zs.length): ∃g,a=some ⟨g,0,none⟩∧lo≤g:=by
 rcases h.2 with ⟨h1,h2⟩|⟨g,cap,cur,h1,h2,_⟩
 ·omega
 ·simp only[Value.slice.injEq] at h1
  exact ⟨g,h1.1,h2⟩
theorem IL.cell9 {w:World} {lo g n c:Nat} {zs:List Int} (h:IL w lo (.slice (some ⟨g,0,none⟩) n c) zs) {j:Nat} (hj:j<zs.length):w.cell? ⟨g,j,none⟩=some (.int .i64 (zs.getD j 0)):=by
 have hn:n=zs.length:=h.ints.1
 subst hn
 rw[World.ownsRow.cellAt h j Vn,List.getElem?_map,List.getElem?_eq_getElem hj,List.getD_eq_getElem?_getD,List.getElem?_eq_getElem hj]
 rfl
def Kept (LO HI:Nat) (S:World→Prop):Prop:= ∀w w':World,(∀k,LO≤k→k<HI→w'.heap[k]? =w.heap[k]?)→S w→S w'
structure SD (T:TypeId) (sz:Nat) (w:World) (LO HI:Nat) (S:World→Prop) (wr:World) (v:Value) (n:Nat) (vs:List Value):Prop where
 own:wr.ownsRow w.heap.size T sz v n vs
 far: ∀b,v.ownBlock=some b→b<LO∨HI≤b
 bel:Below w.heap.size w wr
 src:S wr
 hi:HI≤wr.heap.size
theorem bel_grown {w w':World} (hb:Below w.heap.size w w'):w.grownBy w' none:=⟨hb.os,hb.tape,hb.output,hb.size,fun k hk _=>hb.block k hk⟩
theorem SD.call {T:TypeId} {sz LO HI n:Nat} {w wr w2:World} {S:World→Prop} {v:Value} {vs:List Value} (h:SD T sz w LO HI S wr v n vs) (hK:Kept LO HI S) (hb:Below wr.heap.size wr w2):SD T sz w LO HI S w2 v n vs:=
 ⟨World.ownsRow.kept (row:=none) h.own (bel_grown hb) (by cases v.ownBlock<;>simp),h.far,h.bel.trans (hb.mono h.bel.size),hK _ _ (fun k _ h2=>hb.block k (Nat.lt_of_lt_of_le h2 h.hi)) h.src,Nat.le_trans h.hi hb.size⟩
theorem SD.alloc {T:TypeId} {sz LO HI n:Nat} {w wr:World} {S:World→Prop} {v:Value} {vs:List Value} (h:SD T sz w LO HI S wr v n vs) (hK:Kept LO HI S) (o:Obj):SD T sz w LO HI S (wr.alloc o) v n vs:=
 h.call hK ((Below.refl _ _).alloc (Nat.le_refl _) o)
theorem SD.app {T:TypeId} {sz LO HI n m g cap:Nat} {w wr w2:World} {S:World→Prop} {v:Value} {vs vs':List Value} (h:SD T sz w LO HI S wr v n vs) (hK:Kept LO HI S)
  (hown:w2.ownsRow w.heap.size T sz (.slice (some ⟨g,0,none⟩) m cap) m vs') (hgrow:wr.grownBy w2 v.ownBlock) (hat:v.ownBlock=some g∨g=wr.heap.size):SD T sz w LO HI S w2 (.slice (some ⟨g,0,none⟩) m cap) m vs':=by
 refine ⟨hown,fun b hb=> ?_,h.bel.grown hgrow h.bel.size (fun k hk=>(World.ownsRow.lt h.own k hk).1),hK _ _ (fun k h1 h2=>hgrow.block k (Nat.lt_of_lt_of_le h2 h.hi) (fun e=> ?_)) h.src,Nat.le_trans h.hi hgrow.size⟩
 ·have e9:b=g:=by simp [Value.ownBlock] at hb;omega
  subst e9
  rcases hat with q|q
  ·exact h.far b q
  ·right;rw [q];exact h.hi
 ·have:=h.far k e.symm;omega
theorem SD.put {T:TypeId} {sz LO HI n m g cap:Nat} {w wr w2:World} {S:World→Prop} {v:Value} {vs vs':List Value} (h:SD T sz w LO HI S wr v n vs) (hK:Kept LO HI S)
  (hown:w2.ownsRow wr.heap.size T sz (.slice (some ⟨g,0,none⟩) m cap) m vs') (hb:Below wr.heap.size wr w2):SD T sz w LO HI S w2 (.slice (some ⟨g,0,none⟩) m cap) m vs':=by
 have h2:=h.call hK hb
 refine ⟨⟨hown.1,?_⟩,fun b hb9=> ?_,h2.bel,h2.src,h2.hi⟩
 ·rcases hown.2 with q|⟨g1,cap1,cur,r1,r2,r3⟩
  ·exact .inl q
  ·exact .inr ⟨g1,cap1,cur,r1,Nat.le_trans h.bel.size r2,r3⟩
 ·have:=(World.ownsRow.lt hown b hb9).1
  have:=h.hi
  right;omega
theorem SD.startN {T:TypeId} {sz:Nat} {w wA:World} {LO HI:Nat} {S:World→Prop} (hb:Below w.heap.size w wA) (hs:S wA) (hH:HI≤wA.heap.size):SD T sz w LO HI S wA (.slice none 0 0) 0 []:=
 ⟨World.ownsRow_nil _ _ _ _,fun b h=>by simp [Value.ownBlock] at h,hb,hs,hH⟩
theorem SD.startM {T:TypeId} {sz:Nat} {w wA:World} {HI:Nat} {S:World→Prop} (hb:Below (w.alloc (.cells #[] T)).heap.size (w.alloc (.cells #[] T)) wA) (hs:S wA) (hH:HI≤wA.heap.size):SD T sz w (w.heap.size+1) HI S wA (.slice (some ⟨w.heap.size,0,none⟩) 0 0) 0 []:=by
 have h0:(w.alloc (.cells #[] T)).ownsRow w.heap.size T sz (.slice (some ⟨w.heap.size,0,none⟩) 0 0) 0 []:=World.ownsRow_made w #[] 0 (Nat.le_refl _) VA Vs
 refine ⟨World.ownsRow.kept (row:=none) h0 (bel_grown hb) (.inr (by simp [Value.ownBlock])),fun b h=> ?_,((Below.refl w.heap.size w).alloc (Nat.le_refl _) _).trans (hb.mono Vs),hs,hH⟩
 simp [Value.ownBlock] at h;omega
theorem gdm {α:Type} {l:List α} {i:Nat} {d:α} (h:i<l.length):l.getD i d ∈ l:=by rw[List.getD_eq_getElem?_getD,List.getElem?_eq_getElem h];exact List.getElem_mem h
def srcI (LO HI:Nat) (a:Option Addr) (n:Nat) (f:Nat→Int) (W:World):Prop:=IntsAt W LO HI a n f
theorem ints_kept {LO HI n:Nat} {a:Option Addr} {f:Nat→Int} :Kept LO HI (srcI LO HI a n f):=fun w w' hk h=>IntsAt.keep h hk
structure SI (w:World) (LO HI:Nat) (S:World→Prop) (wr:World) (a:Option Addr) (n c:Nat) (l:List Int):Prop where
 len:Hid (n=l.length)
 sd:SD 3 1 w LO HI S wr (.slice a n c) n (l.map (Value.int .i64))
theorem SI.il {w wr:World} {LO HI n c:Nat} {S:World→Prop} {a:Option Addr} {l:List Int} (h:SI w LO HI S wr a n c l):IL wr w.heap.size (.slice a n c) l:=by
 have:=h.sd.own
 have hn:=unhide h.len
 unfold IL;rw [←hn];exact this
theorem SI.call {w wr w2:World} {LO HI n c:Nat} {S:World→Prop} {a:Option Addr} {l:List Int} (h:SI w LO HI S wr a n c l) (hK:Kept LO HI S) (hb:Below wr.heap.size wr w2):SI w LO HI S w2 a n c l:=⟨h.len,h.sd.call hK hb⟩
theorem SI.alloc {w wr:World} {LO HI n c:Nat} {S:World→Prop} {a:Option Addr} {l:List Int} (h:SI w LO HI S wr a n c l) (hK:Kept LO HI S) (o:Obj):SI w LO HI S (wr.alloc o) a n c l:=⟨h.len,h.sd.alloc hK o⟩
theorem SI.app {w wr w2:World} {LO HI n c g cap:Nat} {S:World→Prop} {a:Option Addr} {l:List Int} {z:Int} (h:SI w LO HI S wr a n c l) (hK:Kept LO HI S)
  (hown:IL w2 w.heap.size (.slice (some ⟨g,0,none⟩) (l.length+1) cap) (l++ [z])) (hgrow:wr.grownBy w2 (Value.slice a n c).ownBlock) (hat:(Value.slice a n c).ownBlock=some g∨g=wr.heap.size):SI w LO HI S w2 (some ⟨g,0,none⟩) (l.length+1) cap (l++ [z]):=by
 refine ⟨hide Vs,h.sd.app hK ?_ hgrow hat⟩
 have:=hown
 unfold IL at this
 rw[List.length_append] at this
 exact this
theorem SI.ptr {w wr:World} {LO HI n c:Nat} {S:World→Prop} {a:Option Addr} {l:List Int} (h:SI w LO HI S wr a n c l) (hn:0<n): ∃g,a=some ⟨g,0,none⟩∧g<wr.heap.size∧ ∀j,j<n→wr.cell? ⟨g,j,none⟩=some (.int .i64 (l.getD j 0)):=by
 have hl:=unhide h.len
 obtain ⟨g,hg,hg2⟩:=h.il.some9 Vn
 subst hg
 refine ⟨g,rfl,(World.ownsRow.lt h.sd.own g rfl).2,fun j hj=>IL.cell9 h.il Vn⟩
theorem SI.startN {w wA:World} {LO HI:Nat} {S:World→Prop} (hb:Below w.heap.size w wA) (hs:S wA) (hH:HI≤wA.heap.size):SI w LO HI S wA none 0 0 []:=⟨hide rfl,SD.startN hb hs hH⟩
theorem SI.startM {w wA:World} {HI:Nat} {S:World→Prop} (hb:Below (w.alloc (.cells #[] 3)).heap.size (w.alloc (.cells #[] 3)) wA) (hs:S wA) (hH:HI≤wA.heap.size):SI w (w.heap.size+1) HI S wA (some ⟨w.heap.size,0,none⟩) 0 0 []:=⟨hide rfl,SD.startM hb hs hH⟩
theorem SI.ret {w wr:World} {LO HI n c:Nat} {S:World→Prop} {a:Option Addr} {l:List Int} (h:SI w LO HI S wr a n c l) {zs:List Int} (e:l=zs) {en:Ending} (he:en= .returned (.slice a n c)):RetIL w zs en wr:=by
 subst e
 have hn:=unhide h.len
 refine ⟨a,c,?_,?_,h.sd.bel⟩
 ·rw [he,←hn]
 ·have:=h.il;rw [←hn];exact this
theorem IL.raise {w:World} {lo lo':Nat} {v:Value} {zs:List Int} (h:IL w lo v zs) (hle:lo'≤lo):IL w lo' v zs:=by
 refine ⟨h.1,?_⟩
 rcases h.2 with q|⟨g1,cap1,cur,r1,r2,r3⟩
 ·exact .inl q
 ·exact .inr ⟨g1,cap1,cur,r1,Nat.le_trans hle r2,r3⟩
end Go.Proofs.YtobkcnmlmmhpoaaGreatDoor
namespace Go.Proofs.YtobkcnmlmmhpoaaGreatDoor
open Go.RowKit
set_option linter.unusedVariables false
set_option linter.unusedSimpArgs false
attribute [local go_sem] q2 q3 q4 q5 q6 q7 q8 q9 q10 q11 q12

theorem IntsAt.cell {w:World} {lo hi n:Nat} {a:Option Addr} {f:Nat→Int} (h:IntsAt w lo hi a n f) {i:Nat} (hi':i<n): ∃g,a=some ⟨g,0,none⟩∧g<w.heap.size∧w.cell? ⟨g,i,none⟩=some (.int .i64 (f i)):=by
 rcases h with h|⟨g,cap,F,ha,h1,h2,h3,r,e⟩
 ·omega
 ·exact ⟨g,ha,r.lt,by rw[r.cell (i:=i) Vn,e i hi']⟩
def rgB (lo hi:Int):Bool:=inB lo (-2000) hi&&decide (hi≤ -3)
theorem rg_true {lo hi:Int} (h:rgB lo hi=true): -2000≤lo∧lo≤hi∧hi≤ -3:=by
 unfold rgB at h;simp at h
 have:=inB_true h.1
 exact ⟨this.1,this.2,h.2⟩
def hN (d:Int):Int:=((rfL d).length:Int)
theorem getD_mem {ds:List Int} {k:Nat} (h:k<ds.length):ds.getD k 0 ∈ ds:=by
 rw[List.getD_eq_getElem?_getD,List.getElem?_eq_getElem h];exact List.getElem_mem h
theorem isRange_a (lo hi:Int) (w:World):
  Calls Tryz.prog 24 #[.int .i64 lo,.int .i64 hi] w fun e w'=>e= .returned (.bool (rgB lo hi))∧w=w':=by
 by_cases k0: -2000≤lo
 ·by_cases k1:lo≤hi
  ·by_cases k2:hi≤ -3
   ·go_enter Tryz.func24,Tryz.ntmps24
    go_wp2
    go_returns
    exact ⟨ret_bool (by simp [rgB,inB,k0,k1,k2]<;>(try (intros;omega))),rfl⟩
   ·go_enter Tryz.func24,Tryz.ntmps24
    go_wp2
    go_returns
    exact ⟨ret_bool (by simp [rgB,inB,k0,k1,k2]<;>(try (intros;omega))),rfl⟩
  ·go_enter Tryz.func24,Tryz.ntmps24
   go_wp2
   go_returns
   exact ⟨ret_bool (by simp [rgB,inB,k0,k1]<;>(try (intros;omega))),rfl⟩
 ·go_enter Tryz.func24,Tryz.ntmps24
  go_wp2
  go_returns
  exact ⟨ret_bool (by simp [rgB,inB,k0]<;>(try (intros;omega))),rfl⟩

theorem tbRange_a (lo hi:Int) (w:World):
  Calls Tryz.prog 27 #[.int .i64 lo,.int .i64 hi] w fun e w'=>e= .returned (.bool (rgB lo hi))∧w=w':=by
 cases k0:inB lo (-2000) hi
 ·go_enter Tryz.func27,Tryz.ntmps27
  go_wp2_with (go_at_call 48;refine (l1In_any _ _ _ _).mono ?_;rintro e w' ⟨rfl,rfl⟩)
  go_returns
  exact ⟨ret_bool (by simp [rgB,k0]<;>(try (intros;omega))),rfl⟩
 ·by_cases k1:hi≤ -3
  ·go_enter Tryz.func27,Tryz.ntmps27
   go_wp2_with (go_at_call 48;refine (l1In_any _ _ _ _).mono ?_;rintro e w' ⟨rfl,rfl⟩)
   go_returns
   exact ⟨ret_bool (by simp [rgB,k0,k1]<;>(try (intros;omega))),rfl⟩
  ·go_enter Tryz.func27,Tryz.ntmps27
   go_wp2_with (go_at_call 48;refine (l1In_any _ _ _ _).mono ?_;rintro e w' ⟨rfl,rfl⟩)
   go_returns
   exact ⟨ret_bool (by simp [rgB,k0,k1]<;>(try (intros;omega))),rfl⟩

end Go.Proofs.YtobkcnmlmmhpoaaGreatDoor
