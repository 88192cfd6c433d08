/- The reduction of a form: impl. -/
import Derived.Test.YtobkcnmlmmhpoaaGreatDoorStep
import Derived.Deep.LoopGhost
import Derived.RegionTactic
import Derived.ChangeAlike
namespace Go.Proofs.YtobkcnmlmmhpoaaGreatDoor
set_option maxRecDepth 100000
set_option maxHeartbeats 80000000
open Go.RowKit
set_option linter.unusedVariables false
set_option linter.unusedSimpArgs false
attribute [local go_sem] q2 q3 q4 q5 q6 q7 q8 q9 q10 q11 q12

theorem at_world {K:Act→World→Prop} {Q:Exit→Act→World→Prop} {A:Act} {W:World} (F:World→Prop) (h:F W) (H: ∀wy,F wy→Exit.then K Q .normal A wy):Exit.then K Q .normal A W:=H W h
def rfA (a b c:Int):Int:=(redF a b c).1
def rfB (a b c:Int):Int:=(redF a b c).2.1
def rfC (a b c:Int):Int:=(redF a b c).2.2
def rmP (a b c:Int):Int:=(redM a b c 1 0 0 1).1
def rmQ (a b c:Int):Int:=(redM a b c 1 0 0 1).2.1
def rmR (a b c:Int):Int:=(redM a b c 1 0 0 1).2.2.1
def rmS (a b c:Int):Int:=(redM a b c 1 0 0 1).2.2.2

theorem reduce_a (a b c:Int) (w:World) (h0:OkF a b c):
  Calls Tryz.prog 128 #[.agg #[.int .i64 a,.int .i64 b,.int .i64 c]] w fun e w'=>e= .returned (.tuple #[.agg #[.int .i64 (rfA a b c),.int .i64 (rfB a b c),.int .i64 (rfC a b c)],.agg #[.int .i64 (rmP a b c),.int .i64 (rmQ a b c),.int .i64 (rmR a b c),.int .i64 (rmS a b c)]])∧Below w.heap.size w w':=by
 go_enter Tryz.func128,Tryz.ntmps128
 go_wp2_with (go_at_call 156;refine (one_x  _).mono ?_;rintro e w' ⟨rfl,rfl⟩)
 generalize hGW:w.heap.size+1+1+1+1=gw
 have g0:w.heap.size+1+1<gw:=by omega
 have n0: ¬w.heap.size=gw:=by omega
 have n1: ¬w.heap.size+1=gw:=by omega
 have n2: ¬w.heap.size+1+1=gw:=by omega
 have n3: ¬gw=w.heap.size:=by omega
 have n4: ¬gw=w.heap.size+1:=by omega
 have n5: ¬gw=w.heap.size+1+1:=by omega
 have HGW:=hide hGW
 clear hGW
 go_loopg [5] (muF a b c) (fun g s5 wr=> ∃(x y z p q r s:Int),g=muF x y z∧OkF x y z∧redF x y z=redF a b c∧redM x y z p q r s=redM a b c 1 0 0 1∧Below w.heap.size w wr∧wr.cell? ⟨w.heap.size,0,none⟩=some (.int .i64 x)∧wr.cell? ⟨w.heap.size,1,none⟩=some (.int .i64 y)∧wr.cell? ⟨w.heap.size,2,none⟩=some (.int .i64 z)∧wr.cell? ⟨w.heap.size+1,0,none⟩=some (.int .i64 0)∧wr.cell? ⟨w.heap.size+1,1,none⟩=some (.int .i64 0)∧wr.cell? ⟨w.heap.size+1,2,none⟩=some (.int .i64 0)∧wr.cell? ⟨w.heap.size+1+1,0,none⟩=some (.int .i64 0)∧wr.cell? ⟨w.heap.size+1+1,1,none⟩=some (.int .i64 0)∧wr.cell? ⟨w.heap.size+1+1,2,none⟩=some (.int .i64 0)∧wr.cell? ⟨w.heap.size+1+1,3,none⟩=some (.int .i64 0)∧wr.cell? ⟨gw,0,none⟩=some (.int .i64 p)∧wr.cell? ⟨gw,1,none⟩=some (.int .i64 q)∧wr.cell? ⟨gw,2,none⟩=some (.int .i64 r)∧wr.cell? ⟨gw,3,none⟩=some (.int .i64 s)∧wr.frozen? ⟨w.heap.size,0,none⟩=false∧wr.frozen? ⟨w.heap.size,1,none⟩=false∧wr.frozen? ⟨w.heap.size,2,none⟩=false∧wr.frozen? ⟨w.heap.size+1,0,none⟩=false∧wr.frozen? ⟨w.heap.size+1,1,none⟩=false∧wr.frozen? ⟨w.heap.size+1,2,none⟩=false∧wr.frozen? ⟨w.heap.size+1+1,0,none⟩=false∧wr.frozen? ⟨w.heap.size+1+1,1,none⟩=false∧wr.frozen? ⟨w.heap.size+1+1,2,none⟩=false∧wr.frozen? ⟨w.heap.size+1+1,3,none⟩=false∧wr.frozen? ⟨gw,0,none⟩=false∧wr.frozen? ⟨gw,1,none⟩=false∧wr.frozen? ⟨gw,2,none⟩=false∧wr.frozen? ⟨gw,3,none⟩=false)
 case atStart=>
  have hGW:=unhide HGW
  clear g0 n0 n1 n2 n3 n4 n5
  subst hGW
  refine ⟨a,b,c,1,0,0,1,rfl,h0,rfl,rfl,?_,?_,?_,?_,?_,?_,?_,?_,?_,?_,?_,?_,?_,?_,?_,?_,?_,?_,?_,?_,?_,?_,?_,?_,?_,?_,?_,?_,?_⟩
  all_goals first|(go_simp;done)|(repeat' first|with_reducible (first|exact Below.refl _ _|assumption|refine gr_alloc ?_ _|refine below_drewN ?_ _|refine below_drew ?_|refine gr_call ?_ VV|refine Below.setCell ?_ ?_ _)|go_size|omega|(simp;omega))
 case round=>
  obtain ⟨x,y,z,p,q,r,s,hn,hok,hrf,hrm,hb0,c00,c01,c02,c10,c11,c12,c20,c21,c22,c23,c30,c31,c32,c33,f00,f01,f02,f10,f11,f12,f20,f21,f22,f23,f30,f31,f32,f33⟩:=hrel
  have HR:=hide hrf
  have HM:=hide hrm
  have HN:=hide hn
  clear hrf hrm hn
  have z0:=World.block_lt_of_cell? _ _ c00
  have z1:=World.block_lt_of_cell? _ _ c10
  have z2:=World.block_lt_of_cell? _ _ c20
  have z3:=World.block_lt_of_cell? _ _ c30
  change w.heap.size<wr.heap.size at z0
  change w.heap.size+1<wr.heap.size at z1
  change w.heap.size+1+1<wr.heap.size at z2
  change gw<wr.heap.size at z3
  have xa:=hok.a0
  have xb:=hok.a1
  cases hrd:redB x y z
  ·cases hnm:normB x y
   ·obtain ⟨R1,R2,R3,R4⟩:=redF_tr hok hnm
    obtain ⟨A0,A1,A2,_,_,_,_,_⟩:=at_tr hok
    have S1:=hide (R1.trans (unhide HR))
    have S4:=hide ((R4 p q r s).trans (unhide HM))
    have S3:=hide R3
    clear R1 R3 R4
    go_wp2_with (go_at_call 96;refine (isReduced_x _ _ _ _ Vp).mono ?_;rintro e w' ⟨rfl,rfl⟩)
    refine (step_tr _ _ _ _ Vp Vp Vp).mono ?_
    rintro e w1 ⟨rfl,hb1⟩
    have tq0:=Wi3.c hb1 w.heap.size x y z
    have tq1:=Wi3.c hb1 (w.heap.size+1) 0 0 0
    have tq2:=Wi4.c hb1 (w.heap.size+1+1) 0 0 0 0
    have tq3:=Wi4.c hb1 gw p q r s
    try clear c00 c01 c02 f00 f01 f02
    try clear c10 c11 c12 f10 f11 f12
    try clear c20 c21 c22 c23 f20 f21 f22 f23
    try clear c30 c31 c32 c33 f30 f31 f32 f33
    obtain ⟨c00,c01,c02,f00,f01,f02,z0⟩:=tq0
    obtain ⟨c10,c11,c12,f10,f11,f12,z1⟩:=tq1
    obtain ⟨c20,c21,c22,c23,f20,f21,f22,f23,z2⟩:=tq2
    obtain ⟨c30,c31,c32,c33,f30,f31,f32,f33,z3⟩:=tq3
    have hs1:=hb1.size
    go_wp2_with fail
    refine (subst_a _ _ _ _ _ _ _ _ Vp Vp Vp).mono ?_
    rintro e w2 ⟨rfl,hb2⟩
    have tq0:=Wi3.c hb2 w.heap.size x y z
    have tq1:=Wi3.c hb2 (w.heap.size+1) 0 0 0
    have tq2:=Wi4.c hb2 (w.heap.size+1+1) 0 0 0 0
    have tq3:=Wi4.c hb2 gw p q r s
    have tq4:=Ri4.c hb2 w1.heap.size 1 (trT x y) 0 1
    try clear c00 c01 c02 f00 f01 f02
    try clear c10 c11 c12 f10 f11 f12
    try clear c20 c21 c22 c23 f20 f21 f22 f23
    try clear c30 c31 c32 c33 f30 f31 f32 f33
    try clear c40 c41 c42 c43
    obtain ⟨c00,c01,c02,f00,f01,f02,z0⟩:=tq0
    obtain ⟨c10,c11,c12,f10,f11,f12,z1⟩:=tq1
    obtain ⟨c20,c21,c22,c23,f20,f21,f22,f23,z2⟩:=tq2
    obtain ⟨c30,c31,c32,c33,f30,f31,f32,f33,z3⟩:=tq3
    obtain ⟨c40,c41,c42,c43,z4⟩:=tq4
    have hs2:=hb2.size
    go_wp2_with fail
    refine (times_a _ _ _ _ _ _ _ _ _).mono ?_
    rintro e w3 ⟨rfl,hb3⟩
    have tq0:=Wi3.c hb3 w.heap.size (valI x y z 1 0) (polI x y z 1 0 (trT x y) 1) (valI x y z (trT x y) 1)
    have tq1:=Wi3.c hb3 (w.heap.size+1) 0 0 0
    have tq2:=Wi4.c hb3 (w.heap.size+1+1) 0 0 0 0
    have tq3:=Wi4.c hb3 gw p q r s
    have tq4:=Ri4.c hb3 w1.heap.size 1 (trT x y) 0 1
    try clear c00 c01 c02 f00 f01 f02
    try clear c10 c11 c12 f10 f11 f12
    try clear c20 c21 c22 c23 f20 f21 f22 f23
    try clear c30 c31 c32 c33 f30 f31 f32 f33
    try clear c40 c41 c42 c43
    obtain ⟨c00,c01,c02,f00,f01,f02,z0⟩:=tq0
    obtain ⟨c10,c11,c12,f10,f11,f12,z1⟩:=tq1
    obtain ⟨c20,c21,c22,c23,f20,f21,f22,f23,z2⟩:=tq2
    obtain ⟨c30,c31,c32,c33,f30,f31,f32,f33,z3⟩:=tq3
    obtain ⟨c40,c41,c42,c43,z4⟩:=tq4
    have hs3:=hb3.size
    go_wp2
    go_roundg (muF (valI x y z 1 0) (polI x y z 1 0 (trT x y) 1) (valI x y z (trT x y) 1))
    case rel=>
     refine ⟨valI x y z 1 0,polI x y z 1 0 (trT x y) 1,valI x y z (trT x y) 1,mmP p q r s 1 (trT x y) 0 1,mmQ p q r s 1 (trT x y) 0 1,mmR p q r s 1 (trT x y) 0 1,mmS p q r s 1 (trT x y) 0 1,rfl,R2,unhide S1,unhide S4,?_,?_,?_,?_,?_,?_,?_,?_,?_,?_,?_,?_,?_,?_,?_,?_,?_,?_,?_,?_,?_,?_,?_,?_,?_,?_,?_,?_,?_⟩
     all_goals first|(with_reducible assumption)|((repeat' (first|(with_reducible assumption)|(with_reducible refine cell_al _ ?_)|(with_reducible refine cell_eq _ ?_)|(with_reducible refine cell_ne _ ?_ ?_)|(with_reducible refine ex_set _ ?_)|(with_reducible refine ex_al _ ?_)|(exact ⟨_,by with_reducible assumption⟩)|(with_reducible refine frz_al _ ?_ ?_)|(with_reducible refine frz_set _ ?_)|(intro hh;injection hh with hh1 hh2;omega)));done)|(repeat' first|with_reducible (first|exact Below.refl _ _|assumption|refine gr_alloc ?_ _|refine below_drewN ?_ _|refine below_drew ?_|refine gr_call ?_ VV|refine Below.setCell ?_ ?_ _)|go_size|omega|(simp;omega))
    case measure=>(have:=unhide S3;have:=unhide HN;omega)
   ·obtain ⟨R1,R2,R3,R4⟩:=redF_sw hok hnm hrd
    obtain ⟨A0,A1,A2,_,_,_⟩:=at_sw hok
    have S1:=hide (R1.trans (unhide HR))
    have S4:=hide ((R4 p q r s).trans (unhide HM))
    have S3:=hide R3
    clear R1 R3 R4
    go_wp2_with (go_at_call 96;refine (isReduced_x _ _ _ _ Vp).mono ?_;rintro e w' ⟨rfl,rfl⟩)
    refine (step_sw _ _ _ _ Vp Vp Vp).mono ?_
    rintro e w1 ⟨rfl,hb1⟩
    have tq0:=Wi3.c hb1 w.heap.size x y z
    have tq1:=Wi3.c hb1 (w.heap.size+1) 0 0 0
    have tq2:=Wi4.c hb1 (w.heap.size+1+1) 0 0 0 0
    have tq3:=Wi4.c hb1 gw p q r s
    try clear c00 c01 c02 f00 f01 f02
    try clear c10 c11 c12 f10 f11 f12
    try clear c20 c21 c22 c23 f20 f21 f22 f23
    try clear c30 c31 c32 c33 f30 f31 f32 f33
    obtain ⟨c00,c01,c02,f00,f01,f02,z0⟩:=tq0
    obtain ⟨c10,c11,c12,f10,f11,f12,z1⟩:=tq1
    obtain ⟨c20,c21,c22,c23,f20,f21,f22,f23,z2⟩:=tq2
    obtain ⟨c30,c31,c32,c33,f30,f31,f32,f33,z3⟩:=tq3
    have hs1:=hb1.size
    go_wp2_with fail
    refine (subst_a _ _ _ _ _ _ _ _ Vp Vp Vp).mono ?_
    rintro e w2 ⟨rfl,hb2⟩
    have tq0:=Wi3.c hb2 w.heap.size x y z
    have tq1:=Wi3.c hb2 (w.heap.size+1) 0 0 0
    have tq2:=Wi4.c hb2 (w.heap.size+1+1) 0 0 0 0
    have tq3:=Wi4.c hb2 gw p q r s
    have tq4:=Ri4.c hb2 w1.heap.size 0 (-1) 1 0
    try clear c00 c01 c02 f00 f01 f02
    try clear c10 c11 c12 f10 f11 f12
    try clear c20 c21 c22 c23 f20 f21 f22 f23
    try clear c30 c31 c32 c33 f30 f31 f32 f33
    try clear c40 c41 c42 c43
    obtain ⟨c00,c01,c02,f00,f01,f02,z0⟩:=tq0
    obtain ⟨c10,c11,c12,f10,f11,f12,z1⟩:=tq1
    obtain ⟨c20,c21,c22,c23,f20,f21,f22,f23,z2⟩:=tq2
    obtain ⟨c30,c31,c32,c33,f30,f31,f32,f33,z3⟩:=tq3
    obtain ⟨c40,c41,c42,c43,z4⟩:=tq4
    have hs2:=hb2.size
    go_wp2_with fail
    refine (times_a _ _ _ _ _ _ _ _ _).mono ?_
    rintro e w3 ⟨rfl,hb3⟩
    have tq0:=Wi3.c hb3 w.heap.size (valI x y z 0 1) (polI x y z 0 1 (-1) 0) (valI x y z (-1) 0)
    have tq1:=Wi3.c hb3 (w.heap.size+1) 0 0 0
    have tq2:=Wi4.c hb3 (w.heap.size+1+1) 0 0 0 0
    have tq3:=Wi4.c hb3 gw p q r s
    have tq4:=Ri4.c hb3 w1.heap.size 0 (-1) 1 0
    try clear c00 c01 c02 f00 f01 f02
    try clear c10 c11 c12 f10 f11 f12
    try clear c20 c21 c22 c23 f20 f21 f22 f23
    try clear c30 c31 c32 c33 f30 f31 f32 f33
    try clear c40 c41 c42 c43
    obtain ⟨c00,c01,c02,f00,f01,f02,z0⟩:=tq0
    obtain ⟨c10,c11,c12,f10,f11,f12,z1⟩:=tq1
    obtain ⟨c20,c21,c22,c23,f20,f21,f22,f23,z2⟩:=tq2
    obtain ⟨c30,c31,c32,c33,f30,f31,f32,f33,z3⟩:=tq3
    obtain ⟨c40,c41,c42,c43,z4⟩:=tq4
    have hs3:=hb3.size
    go_wp2
    go_roundg (muF (valI x y z 0 1) (polI x y z 0 1 (-1) 0) (valI x y z (-1) 0))
    case rel=>
     refine ⟨valI x y z 0 1,polI x y z 0 1 (-1) 0,valI x y z (-1) 0,mmP p q r s 0 (-1) 1 0,mmQ p q r s 0 (-1) 1 0,mmR p q r s 0 (-1) 1 0,mmS p q r s 0 (-1) 1 0,rfl,R2,unhide S1,unhide S4,?_,?_,?_,?_,?_,?_,?_,?_,?_,?_,?_,?_,?_,?_,?_,?_,?_,?_,?_,?_,?_,?_,?_,?_,?_,?_,?_,?_,?_⟩
     all_goals first|(with_reducible assumption)|((repeat' (first|(with_reducible assumption)|(with_reducible refine cell_al _ ?_)|(with_reducible refine cell_eq _ ?_)|(with_reducible refine cell_ne _ ?_ ?_)|(with_reducible refine ex_set _ ?_)|(with_reducible refine ex_al _ ?_)|(exact ⟨_,by with_reducible assumption⟩)|(with_reducible refine frz_al _ ?_ ?_)|(with_reducible refine frz_set _ ?_)|(intro hh;injection hh with hh1 hh2;omega)));done)|(repeat' first|with_reducible (first|exact Below.refl _ _|assumption|refine gr_alloc ?_ _|refine below_drewN ?_ _|refine below_drew ?_|refine gr_call ?_ VV|refine Below.setCell ?_ ?_ _)|go_size|omega|(simp;omega))
    case measure=>(have:=unhide S3;have:=unhide HN;omega)
  ·have e30:=cell_al (.cells #[.int .i64 x,.int .i64 y,.int .i64 z] 81) (cell_al (.cells #[.int .i64 x,.int .i64 y,.int .i64 z] 81) c30)
   have e31:=cell_al (.cells #[.int .i64 x,.int .i64 y,.int .i64 z] 81) (cell_al (.cells #[.int .i64 x,.int .i64 y,.int .i64 z] 81) c31)
   have e32:=cell_al (.cells #[.int .i64 x,.int .i64 y,.int .i64 z] 81) (cell_al (.cells #[.int .i64 x,.int .i64 y,.int .i64 z] 81) c32)
   have e33:=cell_al (.cells #[.int .i64 x,.int .i64 y,.int .i64 z] 81) (cell_al (.cells #[.int .i64 x,.int .i64 y,.int .i64 z] 81) c33)
   go_wp2_with (go_at_call 96;refine (isReduced_x _ _ _ _ Vp).mono ?_;rintro e w' ⟨rfl,rfl⟩)
   go_region
   all_goals
    refine at_world (fun wy=>wy.cell? ⟨w.heap.size+1,0,none⟩=some (.int .i64 x)∧wy.cell? ⟨w.heap.size+1,1,none⟩=some (.int .i64 y)∧wy.cell? ⟨w.heap.size+1,2,none⟩=some (.int .i64 z)∧wy.cell? ⟨w.heap.size+1+1,0,none⟩=some (.int .i64 p)∧wy.cell? ⟨w.heap.size+1+1,1,none⟩=some (.int .i64 q)∧wy.cell? ⟨w.heap.size+1+1,2,none⟩=some (.int .i64 r)∧wy.cell? ⟨w.heap.size+1+1,3,none⟩=some (.int .i64 s)∧Below w.heap.size w wy) ?_ ?_
    ·refine ⟨?_,?_,?_,?_,?_,?_,?_,?_⟩
     all_goals first|((first|with_reducible assumption|((repeat' first|with_reducible (first|assumption|refine cell_al _ ?_|refine cell_eq _ ?_|refine cell_ne _ ?_ ?_|refine ex_set _ ?_|refine ex_al _ ?_|exact ⟨_,VV⟩)|(intro hh;injection hh with hh1 hh2;omega));done)|go_simp);done)|(repeat' first|with_reducible (first|exact Below.refl _ _|assumption|refine gr_alloc ?_ _|refine below_drewN ?_ _|refine below_drew ?_|refine gr_call ?_ VV|refine Below.setCell ?_ ?_ _)|go_size|omega|(simp;omega))
    ·rintro wy ⟨k0,k1,k2,k3,k4,k5,k6,k7⟩
     clear HGW g0 n0 n1 n2 n3 n4 n5 z0 z1 z2 z3 hb0 c00 c01 c02 c10 c11 c12 c20 c21 c22 c23 c30 c31 c32 c33 f00 f01 f02 f10 f11 f12 f20 f21 f22 f23 f30 f31 f32 f33
     go_wp2
     first|go_returns|(refine bodyPost_ret (v:= .tuple #[.agg #[.int .i64 x,.int .i64 y,.int .i64 z],.agg #[.int .i64 p,.int .i64 q,.int .i64 r,.int .i64 s]]) (by simp [results,Tryz.results128,go_sem, *]) rfl ?_)
     refine ⟨by unfold rfA rfB rfC rmP rmQ rmR rmS;rw [←unhide HR,redF_yes hrd,←unhide HM,redM_yes hrd],?_⟩
     (repeat' first|with_reducible (first|exact Below.refl _ _|assumption|refine gr_alloc ?_ _|refine below_drewN ?_ _|refine below_drew ?_|refine gr_call ?_ VV|refine Below.setCell ?_ ?_ _)|go_size|omega|(simp;omega))
end Go.Proofs.YtobkcnmlmmhpoaaGreatDoor
