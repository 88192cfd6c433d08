/- Forms drawn. -/
import Derived.Test.YtobkcnmlmmhpoaaGreatDra
import Derived.Test.YtobkcnmlmmhpoaaGreatSub
namespace Go.Proofs.YtobkcnmlmmhpoaaGreat
open Go.RowKit
set_option linter.unusedVariables false
set_option linter.unusedSimpArgs false
attribute [local go_sem] q2 q3 q4 q5 q6 q7 q8 q9 q10 q11 q12

variable {B:Nat}
def DrewF (B:Nat) (w:World) (b:Nat) (K:Int) (P:Int→Int→Int→Prop) (e:Ending) (w':World):Prop:= ∃x y z:Int,e= .returned (.agg #[.int .i64 x,.int .i64 y,.int .i64 z])∧P x y z∧Cur B w' b K∧w.grownBy w' (some b)
def DrewM (B:Nat) (w:World) (b:Nat) (K:Int) (P:Int→Int→Int→Int→Prop) (e:Ending) (w':World):Prop:= ∃p q r s:Int,e= .returned (.agg #[.int .i64 p,.int .i64 q,.int .i64 r,.int .i64 s])∧P p q r s∧Cur B w' b K∧w.grownBy w' (some b)
def In (M x:Int):Prop:= -M≤x∧x≤M
def InM (M p q r s:Int):Prop:=In M p∧In M q∧In M r∧In M s
def pB:Nat→Int
 |0=>3125|1=>625|2=>125|3=>25|4=>5|_=>1
theorem inM_one: ∀k,k≤5→InM (pB k) 1 0 0 1
 |0,_=>by unfold InM In;decide
 |1,_=>by unfold InM In;decide
 |2,_=>by unfold InM In;decide
 |3,_=>by unfold InM In;decide
 |4,_=>by unfold InM In;decide
 |5,_=>by unfold InM In;decide
 |n+6,h=>by omega
theorem pB_step: ∀k,k<5→5*pB (k+1)=pB k∧1≤pB (k+1)∧pB (k+1)≤625
 |0,_=>by decide
 |1,_=>by decide
 |2,_=>by decide
 |3,_=>by decide
 |4,_=>by decide
 |n+5,h=>by omega
theorem mm5 {p q r s a b c d:Int} {M:Int} (hM:1≤M∧M≤625) (h:InM M p q r s) (h2:(a=1∧b=0∧d=1∧In 4 c)∨(a=1∧c=0∧d=1∧In 4 b)∨(a=0∧b= -1∧c=1∧d=0)):
  InM (5*M) (mmP p q r s a b c d) (mmQ p q r s a b c d) (mmR p q r s a b c d) (mmS p q r s a b c d):=by
 obtain ⟨hp,hq,hr,hs⟩:=h
 unfold In at hp hq hr hs
 unfold InM In mmP mmQ mmR mmS wrap64
 rcases h2 with ⟨rfl,rfl,rfl,hc⟩|⟨rfl,rfl,rfl,hb⟩|⟨rfl,rfl,rfl,rfl⟩
 ·unfold In at hc
  have m1:=mul_bd (A:=M) (B:=4) (by omega) hq hc
  have m2:=mul_bd (A:=M) (B:=4) (by omega) hs hc
  generalize q*c=u at*
  generalize s*c=v at*
  simp only[Int.mul_one,Int.mul_zero]
  omega
 ·unfold In at hb
  have m1:=mul_bd (A:=M) (B:=4) (by omega) hp hb
  have m2:=mul_bd (A:=M) (B:=4) (by omega) hr hb
  generalize p*b=u at*
  generalize r*b=v at*
  simp only[Int.mul_one,Int.mul_zero]
  omega
 ·simp only[Int.mul_one,Int.mul_zero,Int.mul_neg]
  omega

set_option maxRecDepth 100000 in
set_option maxHeartbeats 8000000 in
theorem form_d (b:Nat) (K:Int) (w:World) (h0:Cur B w b K) (hK:K≤9000000000):Calls Tryz.prog 112 #[.pointer (some ⟨b,0,none⟩)] w (DrewF B w b (K+26) (fun x y z=>R64 x∧R64 y∧R64 z)):=by
 have hs0:=h0.lt
 have nb0:w.heap.size≠b:=by omega
 go_enter Tryz.func112,Tryz.ntmps112
 go_wp2_with fail
 refine (pick_a (B:=B) b K 14 _ (by repeat' with_reducible first|assumption|refine Cur.alc ?_ _|refine Cur.drw ?_|refine Cur.setN ?_ (by first|with_reducible assumption|omega)) (by omega) (by omega)).mono ?_
 rintro e1 w1 ⟨v1,rfl,p1,h1,g1⟩
 have hs1:=h1.lt
 have hz1:w.heap.size≤w1.heap.size:=Nat.le_trans (by first|exact Nat.le_refl _|with_reducible assumption|(simp;done)|(simp;omega)) g1.size
 have tq0:=Wi3.d g1 w.heap.size 0 0 0 nb0
 try clear c00 c01 c02 f00 f01 f02 z0
 obtain ⟨c00,c01,c02,f00,f01,f02,z0⟩:=tq0
 by_cases q0:v1=0
 ·subst q0
  go_wp2_with fail
  refine (number_d (B:=B) b (K+2)  _ (by repeat' with_reducible first|assumption|refine Cur.alc ?_ _|refine Cur.drw ?_|refine Cur.setN ?_ (by first|with_reducible assumption|omega)) (by omega)).mono ?_
  rintro e2 w2 ⟨v2,rfl,p2,h2,g2⟩
  have hs2:=h2.lt
  have hz2:w.heap.size≤w2.heap.size:=Nat.le_trans (by first|exact Nat.le_refl _|with_reducible assumption|(simp;done)|(simp;omega)) g2.size
  have tq0:=Wi3.d g2 w.heap.size 0 0 0 nb0
  try clear c00 c01 c02 f00 f01 f02 z0
  obtain ⟨c00,c01,c02,f00,f01,f02,z0⟩:=tq0
  go_wp2_with fail
  refine (number_d (B:=B) b ((K+2)+8)  _ (by repeat' with_reducible first|assumption|refine Cur.alc ?_ _|refine Cur.drw ?_|refine Cur.setN ?_ (by first|with_reducible assumption|omega)) (by omega)).mono ?_
  rintro e3 w3 ⟨v3,rfl,p3,h3,g3⟩
  have hs3:=h3.lt
  have hz3:w.heap.size≤w3.heap.size:=Nat.le_trans (by first|exact Nat.le_refl _|with_reducible assumption|(simp;done)|(simp;omega)) g3.size
  have tq0:=Wi3.d g3 w.heap.size 0 0 0 nb0
  try clear c00 c01 c02 f00 f01 f02 z0
  obtain ⟨c00,c01,c02,f00,f01,f02,z0⟩:=tq0
  go_wp2_with fail
  refine (number_d (B:=B) b (((K+2)+8)+8)  _ (by repeat' with_reducible first|assumption|refine Cur.alc ?_ _|refine Cur.drw ?_|refine Cur.setN ?_ (by first|with_reducible assumption|omega)) (by omega)).mono ?_
  rintro e4 w4 ⟨v4,rfl,p4,h4,g4⟩
  have hs4:=h4.lt
  have hz4:w.heap.size≤w4.heap.size:=Nat.le_trans (by first|exact Nat.le_refl _|with_reducible assumption|(simp;done)|(simp;omega)) g4.size
  have tq0:=Wi3.d g4 w.heap.size 0 0 0 nb0
  try clear c00 c01 c02 f00 f01 f02 z0
  obtain ⟨c00,c01,c02,f00,f01,f02,z0⟩:=tq0
  go_wp2
  refine bodyPost_ret (v:= .agg #[.int .i64 v2,.int .i64 v3,.int .i64 v4]) (by simp [results,Tryz.results112,go_sem, *]) rfl ?_
  exact ⟨_,_,_,rfl,by unfold R64 at *;first|exact ⟨by omega,by omega,by omega⟩|exact ⟨by assumption,by assumption,by assumption⟩,Cur.le (K:=((((K+2)+8)+8)+8)) (by repeat' with_reducible first|assumption|refine Cur.alc ?_ _|refine Cur.drw ?_|refine Cur.setN ?_ (by first|with_reducible assumption|omega)) (by omega),(by repeat' first|exact World.grownBy.refl' _ _|refine World.grownBy.setNew ?_ (by first|omega|(simp;omega)) _ _|refine World.grownBy.alloc' ?_ _|refine World.grownBy.drewN' ?_ _|refine World.grownBy.drew' ?_|refine World.grownBy.trans' ?_ (by assumption)|refine World.grownBy.below' ?_ (by assumption))⟩
 ·skip
  by_cases q1:v1=1
  ·subst q1
   go_wp2_with fail
   refine (among_a (B:=B) b (K+2) _ 0 5 5 (fun x=> -1≤x∧x≤1000) _ (by repeat' with_reducible first|assumption|refine Cur.alc ?_ _|refine Cur.drw ?_|refine Cur.setN ?_ (by first|with_reducible assumption|omega)) (by omega) (by omega) ⟨by omega,fun i hi=>by rcases (show i=0∨i=1∨i=2∨i=3∨i=4 by omega) with rfl|rfl|rfl|rfl|rfl<;>exact ⟨_,by go_simp;rfl,by first|trivial|(constructor<;>omega)⟩⟩).mono ?_
   rintro e2 w2 ⟨v2,rfl,p2,h2,g2⟩
   have hs2:=h2.lt
   have hz2:w.heap.size≤w2.heap.size:=Nat.le_trans (by first|exact Nat.le_refl _|with_reducible assumption|(simp;done)|(simp;omega)) g2.size
   have tq0:=Wi3.d g2 w.heap.size 0 0 0 nb0
   try clear c00 c01 c02 f00 f01 f02 z0
   obtain ⟨c00,c01,c02,f00,f01,f02,z0⟩:=tq0
   go_wp2_with fail
   refine (pick_a (B:=B) b ((K+2)+2) 20 _ (by repeat' with_reducible first|assumption|refine Cur.alc ?_ _|refine Cur.drw ?_|refine Cur.setN ?_ (by first|with_reducible assumption|omega)) (by omega) (by omega)).mono ?_
   rintro e3 w3 ⟨v3,rfl,p3,h3,g3⟩
   have hs3:=h3.lt
   have hz3:w.heap.size≤w3.heap.size:=Nat.le_trans (by first|exact Nat.le_refl _|with_reducible assumption|(simp;done)|(simp;omega)) g3.size
   have tq0:=Wi3.d g3 w.heap.size 0 0 0 nb0
   try clear c00 c01 c02 f00 f01 f02 z0
   obtain ⟨c00,c01,c02,f00,f01,f02,z0⟩:=tq0
   have m1:=mul_bd (A:=1000) (B:=20) (by omega) (show -1000≤v2∧v2≤1000 by omega) (show -20≤v3∧v3≤20 by omega)
   go_wp2_with fail
   refine (pick_a (B:=B) b (((K+2)+2)+2) 21 _ (by repeat' with_reducible first|assumption|refine Cur.alc ?_ _|refine Cur.drw ?_|refine Cur.setN ?_ (by first|with_reducible assumption|omega)) (by omega) (by omega)).mono ?_
   rintro e4 w4 ⟨v4,rfl,p4,h4,g4⟩
   have hs4:=h4.lt
   have hz4:w.heap.size≤w4.heap.size:=Nat.le_trans (by first|exact Nat.le_refl _|with_reducible assumption|(simp;done)|(simp;omega)) g4.size
   have tq0:=Wi3.d g4 w.heap.size 0 0 0 nb0
   try clear c00 c01 c02 f00 f01 f02 z0
   obtain ⟨c00,c01,c02,f00,f01,f02,z0⟩:=tq0
   have m2:=mul_bd (A:=1000) (B:=20) (by omega) (show -1000≤v2∧v2≤1000 by omega) (show -20≤v4-10∧v4-10≤20 by omega)
   go_wp2_with fail
   refine (pick_a (B:=B) b ((((K+2)+2)+2)+2) 20 _ (by repeat' with_reducible first|assumption|refine Cur.alc ?_ _|refine Cur.drw ?_|refine Cur.setN ?_ (by first|with_reducible assumption|omega)) (by omega) (by omega)).mono ?_
   rintro e5 w5 ⟨v5,rfl,p5,h5,g5⟩
   have hs5:=h5.lt
   have hz5:w.heap.size≤w5.heap.size:=Nat.le_trans (by first|exact Nat.le_refl _|with_reducible assumption|(simp;done)|(simp;omega)) g5.size
   have tq0:=Wi3.d g5 w.heap.size 0 0 0 nb0
   try clear c00 c01 c02 f00 f01 f02 z0
   obtain ⟨c00,c01,c02,f00,f01,f02,z0⟩:=tq0
   have m3:=mul_bd (A:=1000) (B:=20) (by omega) (show -1000≤v2∧v2≤1000 by omega) (show -20≤v5∧v5≤20 by omega)
   go_wp2
   refine bodyPost_ret (v:= .agg #[.int .i64 (v2*v3),.int .i64 (v2*(v4-10)),.int .i64 (v2*v5)]) (by simp [results,Tryz.results112,go_sem, *]) rfl ?_
   exact ⟨_,_,_,rfl,by unfold R64 at *;first|exact ⟨by omega,by omega,by omega⟩|exact ⟨by assumption,by assumption,by assumption⟩,Cur.le (K:=(((((K+2)+2)+2)+2)+2)) (by repeat' with_reducible first|assumption|refine Cur.alc ?_ _|refine Cur.drw ?_|refine Cur.setN ?_ (by first|with_reducible assumption|omega)) (by omega),(by repeat' first|exact World.grownBy.refl' _ _|refine World.grownBy.setNew ?_ (by first|omega|(simp;omega)) _ _|refine World.grownBy.alloc' ?_ _|refine World.grownBy.drewN' ?_ _|refine World.grownBy.drew' ?_|refine World.grownBy.trans' ?_ (by assumption)|refine World.grownBy.below' ?_ (by assumption))⟩
  ·skip
   by_cases q2:v1=2
   ·subst q2
    go_wp2_with fail
    refine (pick_a (B:=B) b (K+2) 2000 _ (by repeat' with_reducible first|assumption|refine Cur.alc ?_ _|refine Cur.drw ?_|refine Cur.setN ?_ (by first|with_reducible assumption|omega)) (by omega) (by omega)).mono ?_
    rintro e2 w2 ⟨v2,rfl,p2,h2,g2⟩
    have hs2:=h2.lt
    have hz2:w.heap.size≤w2.heap.size:=Nat.le_trans (by first|exact Nat.le_refl _|with_reducible assumption|(simp;done)|(simp;omega)) g2.size
    have tq0:=Wi3.d g2 w.heap.size 0 0 0 nb0
    try clear c00 c01 c02 f00 f01 f02 z0
    obtain ⟨c00,c01,c02,f00,f01,f02,z0⟩:=tq0
    go_wp2_with fail
    refine (pick_a (B:=B) b ((K+2)+2) 3000 _ (by repeat' with_reducible first|assumption|refine Cur.alc ?_ _|refine Cur.drw ?_|refine Cur.setN ?_ (by first|with_reducible assumption|omega)) (by omega) (by omega)).mono ?_
    rintro e3 w3 ⟨v3,rfl,p3,h3,g3⟩
    have hs3:=h3.lt
    have hz3:w.heap.size≤w3.heap.size:=Nat.le_trans (by first|exact Nat.le_refl _|with_reducible assumption|(simp;done)|(simp;omega)) g3.size
    have tq0:=Wi3.d g3 w.heap.size 0 0 0 nb0
    try clear c00 c01 c02 f00 f01 f02 z0
    obtain ⟨c00,c01,c02,f00,f01,f02,z0⟩:=tq0
    go_wp2_with fail
    refine (pick_a (B:=B) b (((K+2)+2)+2) 2000 _ (by repeat' with_reducible first|assumption|refine Cur.alc ?_ _|refine Cur.drw ?_|refine Cur.setN ?_ (by first|with_reducible assumption|omega)) (by omega) (by omega)).mono ?_
    rintro e4 w4 ⟨v4,rfl,p4,h4,g4⟩
    have hs4:=h4.lt
    have hz4:w.heap.size≤w4.heap.size:=Nat.le_trans (by first|exact Nat.le_refl _|with_reducible assumption|(simp;done)|(simp;omega)) g4.size
    have tq0:=Wi3.d g4 w.heap.size 0 0 0 nb0
    try clear c00 c01 c02 f00 f01 f02 z0
    obtain ⟨c00,c01,c02,f00,f01,f02,z0⟩:=tq0
    go_wp2
    refine bodyPost_ret (v:= .agg #[.int .i64 v2,.int .i64 (v3-1500),.int .i64 v4]) (by simp [results,Tryz.results112,go_sem, *]) rfl ?_
    exact ⟨_,_,_,rfl,by unfold R64 at *;first|exact ⟨by omega,by omega,by omega⟩|exact ⟨by assumption,by assumption,by assumption⟩,Cur.le (K:=((((K+2)+2)+2)+2)) (by repeat' with_reducible first|assumption|refine Cur.alc ?_ _|refine Cur.drw ?_|refine Cur.setN ?_ (by first|with_reducible assumption|omega)) (by omega),(by repeat' first|exact World.grownBy.refl' _ _|refine World.grownBy.setNew ?_ (by first|omega|(simp;omega)) _ _|refine World.grownBy.alloc' ?_ _|refine World.grownBy.drewN' ?_ _|refine World.grownBy.drew' ?_|refine World.grownBy.trans' ?_ (by assumption)|refine World.grownBy.below' ?_ (by assumption))⟩
   ·skip
    by_cases q3:v1=3
    ·subst q3
     go_wp2_with fail
     refine (pick_a (B:=B) b (K+2) 21 _ (by repeat' with_reducible first|assumption|refine Cur.alc ?_ _|refine Cur.drw ?_|refine Cur.setN ?_ (by first|with_reducible assumption|omega)) (by omega) (by omega)).mono ?_
     rintro e2 w2 ⟨v2,rfl,p2,h2,g2⟩
     have hs2:=h2.lt
     have hz2:w.heap.size≤w2.heap.size:=Nat.le_trans (by first|exact Nat.le_refl _|with_reducible assumption|(simp;done)|(simp;omega)) g2.size
     have tq0:=Wi3.d g2 w.heap.size 0 0 0 nb0
     try clear c00 c01 c02 f00 f01 f02 z0
     obtain ⟨c00,c01,c02,f00,f01,f02,z0⟩:=tq0
     go_wp2_with fail
     refine (pick_a (B:=B) b ((K+2)+2) 21 _ (by repeat' with_reducible first|assumption|refine Cur.alc ?_ _|refine Cur.drw ?_|refine Cur.setN ?_ (by first|with_reducible assumption|omega)) (by omega) (by omega)).mono ?_
     rintro e3 w3 ⟨v3,rfl,p3,h3,g3⟩
     have hs3:=h3.lt
     have hz3:w.heap.size≤w3.heap.size:=Nat.le_trans (by first|exact Nat.le_refl _|with_reducible assumption|(simp;done)|(simp;omega)) g3.size
     have tq0:=Wi3.d g3 w.heap.size 0 0 0 nb0
     try clear c00 c01 c02 f00 f01 f02 z0
     obtain ⟨c00,c01,c02,f00,f01,f02,z0⟩:=tq0
     go_wp2_with fail
     refine (pick_a (B:=B) b (((K+2)+2)+2) 21 _ (by repeat' with_reducible first|assumption|refine Cur.alc ?_ _|refine Cur.drw ?_|refine Cur.setN ?_ (by first|with_reducible assumption|omega)) (by omega) (by omega)).mono ?_
     rintro e4 w4 ⟨v4,rfl,p4,h4,g4⟩
     have hs4:=h4.lt
     have hz4:w.heap.size≤w4.heap.size:=Nat.le_trans (by first|exact Nat.le_refl _|with_reducible assumption|(simp;done)|(simp;omega)) g4.size
     have tq0:=Wi3.d g4 w.heap.size 0 0 0 nb0
     try clear c00 c01 c02 f00 f01 f02 z0
     obtain ⟨c00,c01,c02,f00,f01,f02,z0⟩:=tq0
     go_wp2
     refine bodyPost_ret (v:= .agg #[.int .i64 (v2-10),.int .i64 (v3-10),.int .i64 (v4-10)]) (by simp [results,Tryz.results112,go_sem, *]) rfl ?_
     exact ⟨_,_,_,rfl,by unfold R64 at *;first|exact ⟨by omega,by omega,by omega⟩|exact ⟨by assumption,by assumption,by assumption⟩,Cur.le (K:=((((K+2)+2)+2)+2)) (by repeat' with_reducible first|assumption|refine Cur.alc ?_ _|refine Cur.drw ?_|refine Cur.setN ?_ (by first|with_reducible assumption|omega)) (by omega),(by repeat' first|exact World.grownBy.refl' _ _|refine World.grownBy.setNew ?_ (by first|omega|(simp;omega)) _ _|refine World.grownBy.alloc' ?_ _|refine World.grownBy.drewN' ?_ _|refine World.grownBy.drew' ?_|refine World.grownBy.trans' ?_ (by assumption)|refine World.grownBy.below' ?_ (by assumption))⟩
    ·skip
     go_wp2_with fail
     refine (pick_a (B:=B) b (K+2) 25 _ (by repeat' with_reducible first|assumption|refine Cur.alc ?_ _|refine Cur.drw ?_|refine Cur.setN ?_ (by first|with_reducible assumption|omega)) (by omega) (by omega)).mono ?_
     rintro e2 w2 ⟨v2,rfl,p2,h2,g2⟩
     have hs2:=h2.lt
     have hz2:w.heap.size≤w2.heap.size:=Nat.le_trans (by first|exact Nat.le_refl _|with_reducible assumption|(simp;done)|(simp;omega)) g2.size
     have tq0:=Wi3.d g2 w.heap.size 0 0 0 nb0
     try clear c00 c01 c02 f00 f01 f02 z0
     obtain ⟨c00,c01,c02,f00,f01,f02,z0⟩:=tq0
     go_wp2_with fail
     refine (pick_a (B:=B) b ((K+2)+2) 40 _ (by repeat' with_reducible first|assumption|refine Cur.alc ?_ _|refine Cur.drw ?_|refine Cur.setN ?_ (by first|with_reducible assumption|omega)) (by omega) (by omega)).mono ?_
     rintro e3 w3 ⟨v3,rfl,p3,h3,g3⟩
     have hs3:=h3.lt
     have hz3:w.heap.size≤w3.heap.size:=Nat.le_trans (by first|exact Nat.le_refl _|with_reducible assumption|(simp;done)|(simp;omega)) g3.size
     have tq0:=Wi3.d g3 w.heap.size 0 0 0 nb0
     try clear c00 c01 c02 f00 f01 f02 z0
     obtain ⟨c00,c01,c02,f00,f01,f02,z0⟩:=tq0
     go_upto_region 12 with fail
     go_cut [4,5,6] (fun s4 s5 s6 wx=> ∃a k q:Int,s4= .int .i64 a∧s5= .int .i64 k∧s6= .int .i64 q∧(1≤a∧a≤25)∧(0≤k∧k≤40)∧(-25≤q∧q≤25)∧Cur B wx b ((((K+2)+2)+2)+2)∧w.grownBy wx (some b)∧wx.cell? ⟨w.heap.size,0,none⟩=some (.int .i64 0)∧wx.frozen? ⟨w.heap.size,0,none⟩=false∧wx.cell? ⟨w.heap.size,1,none⟩=some (.int .i64 0)∧wx.frozen? ⟨w.heap.size,1,none⟩=false∧wx.cell? ⟨w.heap.size,2,none⟩=some (.int .i64 0)∧wx.frozen? ⟨w.heap.size,2,none⟩=false)
     case first=>
      go_wp2_with fail
      refine (pick_a (B:=B) b (((K+2)+2)+2) (2*(1+v2)) _ (by repeat' with_reducible first|assumption|refine Cur.alc ?_ _|refine Cur.drw ?_|refine Cur.setN ?_ (by first|with_reducible assumption|omega)) (by omega) (by omega)).mono ?_
      rintro e4 w4 ⟨v4,rfl,p4,h4,g4⟩
      have hs4:=h4.lt
      have hz4:w.heap.size≤w4.heap.size:=Nat.le_trans (by first|exact Nat.le_refl _|with_reducible assumption|(simp;done)|(simp;omega)) g4.size
      have tq0:=Wi3.d g4 w.heap.size 0 0 0 nb0
      try clear c00 c01 c02 f00 f01 f02 z0
      obtain ⟨c00,c01,c02,f00,f01,f02,z0⟩:=tq0
      go_wp2
      go_meet
      exact ⟨_,_,_,rfl,rfl,rfl,by omega,by omega,by omega,(by repeat' with_reducible first|assumption|refine Cur.alc ?_ _|refine Cur.drw ?_|refine Cur.setN ?_ (by first|with_reducible assumption|omega)),(by repeat' first|exact World.grownBy.refl' _ _|refine World.grownBy.setNew ?_ (by first|omega|(simp;omega)) _ _|refine World.grownBy.alloc' ?_ _|refine World.grownBy.drewN' ?_ _|refine World.grownBy.drew' ?_|refine World.grownBy.trans' ?_ (by assumption)|refine World.grownBy.below' ?_ (by assumption)),c00,f00,c01,f01,c02,f02⟩
     obtain ⟨a,k,q,rfl,rfl,rfl,ha,hk,hq,h9,g9,c00,f00,c01,f01,c02,f02⟩:=hcut
     obtain ⟨N,hN⟩: ∃N,q*q=N:=⟨_,rfl⟩
     have hN0:0≤N∧N≤625:=by
      rw[←hN]
      have:=mul_bd (A:=25) (B:=25) (by omega) hq hq
      by_cases q5:0≤q
      ·have:=Int.mul_nonneg q5 q5;omega
      ·have:=Int.mul_nonneg_of_nonpos_of_nonpos (a:=q) (b:=q) (by omega) (by omega);omega
     obtain ⟨Q,hQ⟩: ∃Q,(N+4*a) / (4*a)=Q:=⟨_,rfl⟩
     have hQ0:0≤Q∧Q≤725:=by
      rw[←hQ]
      exact ⟨Int.ediv_nonneg (by omega) (by omega),Int.le_trans (Int.ediv_le_self _ (by omega)) (by omega)⟩
     have hQt:(N+4*a).tdiv (4*a)=Q:=by rw[Int.tdiv_eq_ediv_of_nonneg (by omega)];exact hQ
     have hnz: ¬4*a=0:=by omega
     have hnz2: ¬a=0:=by omega
     have hs9:=h9.lt
     have hz9:=g9.size
     go_wp2
     refine bodyPost_ret (v:= .agg #[.int .i64 a,.int .i64 q,.int .i64 (Q+k)]) (by simp [results,Tryz.results112,go_sem, *]) rfl ?_
     exact ⟨_,_,_,rfl,by unfold R64 at *;first|exact ⟨by omega,by omega,by omega⟩|exact ⟨by assumption,by assumption,by assumption⟩,Cur.le (K:=((((K+2)+2)+2)+2)) (by repeat' with_reducible first|assumption|refine Cur.alc ?_ _|refine Cur.drw ?_|refine Cur.setN ?_ (by first|with_reducible assumption|omega)) (by omega),(by repeat' first|exact World.grownBy.refl' _ _|refine World.grownBy.setNew ?_ (by first|omega|(simp;omega)) _ _|refine World.grownBy.alloc' ?_ _|refine World.grownBy.drewN' ?_ _|refine World.grownBy.drew' ?_|refine World.grownBy.trans' ?_ (by assumption)|refine World.grownBy.below' ?_ (by assumption))⟩
end Go.Proofs.YtobkcnmlmmhpoaaGreat
