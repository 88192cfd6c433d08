/- Forms drawn: reduced, definite, class forms. -/
import Derived.Test.YtobkcnmlmmhpoaaGreatDrq
namespace Go.Proofs.YtobkcnmlmmhpoaaGreat
open Go.RowKit
set_option linter.unusedVariables false
set_option linter.unusedSimpArgs false
attribute [local go_sem] q2 q3 q4 q5 q6 q7 q8 q9 q10 q11 q12

variable {B:Nat}

set_option maxRecDepth 100000 in
set_option maxHeartbeats 8000000 in
theorem reduced_d (b:Nat) (K:Int) (d:Int) (w:World) (h0:Cur B w b K) (hK:K≤9000000000) (hd:negB d=true):Calls Tryz.prog 47 #[.pointer (some ⟨b,0,none⟩),.int .i64 d] w (DrewF B w b (K+2) (fun x y z=>RfOk d x y z)):=by
 have hs0:=h0.lt
 have nb0:w.heap.size≠b:=by omega
 go_enter Tryz.func47,Tryz.ntmps47
 go_wp2_with fail
 refine (reList_a d _ (neg_true hd).1 (neg_true hd).2).mono ?_
 rintro e1 w1 ⟨a1,c1,rfl,hl1,b1⟩
 have tq0:=Wi3.c b1 w.heap.size 0 0 0
 try clear c00 c01 c02 f00 f01 f02
 obtain ⟨c00,c01,c02,f00,f01,f02,z0⟩:=tq0
 have hlen:=rfL_len (neg_true hd).1 (neg_true hd).2
 have hpos:=rf_pos hd
 obtain ⟨L,hL⟩: ∃L,rfL d=L:=⟨_,rfl⟩
 have HL:=hide hL
 rw[hL] at hl1 hlen hpos ⊢
 clear hL
 have hat:=hl1.at.2
 obtain ⟨g,hga,hgl,-,-,-⟩:=hat.cells hpos
 subst hga
 have hg0:w.heap.size<g:=by
  have:=hl1.lt g rfl
  simp at this
  omega
 have hs1:=h0.lt
 have h1:Cur B w1 b K:=Cur.below (B:=B) (K:=K) (by repeat' with_reducible first|assumption|refine Cur.alc ?_ _) b1
 have hgb:g≠b:=by omega
 have z0:w.heap.size<w1.heap.size:=by omega
 have hz1:w.heap.size≤w1.heap.size:=by omega
 have hln:1≤(L.length:Int)∧(L.length:Int)≤1000000000:=by omega
 go_wp2_with fail
 refine (pick_a (B:=B) b K (L.length:Int) _ h1 (by omega) hln).mono ?_
 rintro e2 w2 ⟨v2,rfl,p2,h2,g2⟩
 have hs2:=h2.lt
 have tq0:=Wi3.d g2 w.heap.size 0 0 0 nb0
 try clear c00 c01 c02 f00 f01 f02 z0
 obtain ⟨c00,c01,c02,f00,f01,f02,z0⟩:=tq0
 obtain ⟨k,rfl⟩:=Int.eq_ofNat_of_zero_le p2.1
 have hk:k<L.length:=by omega
 obtain ⟨g',hga',-,d0,d1,d2⟩:=hat.cells hk
 cases hga'
 have d0:=far_cell g2 d0 hgb
 have d1:=far_cell g2 d1 hgb
 have d2:=far_cell g2 d2 hgb
 have hmem:L.getD k (0,0,0) ∈ rfL d:=by rw[unhide HL,List.getD_eq_getElem?_getD,List.getElem?_eq_getElem hk];exact List.getElem_mem hk
 have HOK:=hide (rf_ok hd hmem)
 obtain ⟨F,hF⟩: ∃F,L.getD k (0,0,0)=F:=⟨_,rfl⟩
 rw[hF] at d0 d1 d2 HOK
 clear hF hmem hat hl1
 obtain ⟨x,y,z⟩:=F
 go_wp2
 refine bodyPost_ret (v:= .agg #[.int .i64 x,.int .i64 y,.int .i64 z]) (by simp [results,Tryz.results47,go_sem, *]) rfl ?_
 exact ⟨x,y,z,rfl,unhide HOK,(by repeat' with_reducible first|assumption|refine Cur.alc ?_ _|refine Cur.drw ?_|refine Cur.setN ?_ (by first|with_reducible assumption|omega)),(by repeat' first|exact World.grownBy.refl' _ _|refine World.grownBy.setNew ?_ (by first|omega|(simp;omega)) _ _|refine World.grownBy.alloc' ?_ _|refine World.grownBy.drewN' ?_ _|refine World.grownBy.drew' ?_|refine World.grownBy.trans' ?_ (by assumption)|refine World.grownBy.below' ?_ (by assumption))⟩

set_option maxRecDepth 100000 in
set_option maxHeartbeats 8000000 in
theorem definite_d (b:Nat) (K:Int) (w:World) (h0:Cur B w b K) (hK:K≤7000000000):Calls Tryz.prog 100 #[.pointer (some ⟨b,0,none⟩)] w (DrewF B w b (K+40) (fun x y z=>R64 x∧R64 y∧R64 z)):=by
 have hs0:=h0.lt
 have nb0:w.heap.size≠b:=by omega
 go_enter Tryz.func100,Tryz.ntmps100
 go_wp2_with fail
 refine (pick_a (B:=B) b K 12 _ (by repeat' with_reducible first|assumption|refine Cur.alc ?_ _|refine Cur.drw ?_|refine Cur.setN ?_ (by first|with_reducible assumption|omega)) (by omega) (by omega)).mono ?_
 rintro e1 w1 ⟨v1,rfl,p1,h1,g1⟩
 have hs1:=h1.lt
 have hz1:w.heap.size≤w1.heap.size:=Nat.le_trans (by first|exact Nat.le_refl _|with_reducible assumption|(simp;done)|(simp;omega)) g1.size
 have tq0:=Wi3.d g1 w.heap.size 0 0 0 nb0
 try clear c00 c01 c02 f00 f01 f02 z0
 obtain ⟨c00,c01,c02,f00,f01,f02,z0⟩:=tq0
 by_cases q0:v1=0
 ·subst q0
  go_wp2_with fail
  refine (form_d (B:=B) b (K+2)  _ (by repeat' with_reducible first|assumption|refine Cur.alc ?_ _|refine Cur.drw ?_|refine Cur.setN ?_ (by first|with_reducible assumption|omega)) (by omega)).mono ?_
  rintro e2 w2 ⟨x2,y2,z2,rfl,p2,h2,g2⟩
  have hs2:=h2.lt
  have hz2:w.heap.size≤w2.heap.size:=Nat.le_trans (by first|exact Nat.le_refl _|with_reducible assumption|(simp;done)|(simp;omega)) g2.size
  have tq0:=Wi3.d g2 w.heap.size 0 0 0 nb0
  try clear c00 c01 c02 f00 f01 f02 z0
  obtain ⟨c00,c01,c02,f00,f01,f02,z0⟩:=tq0
  go_wp2
  refine bodyPost_ret (v:= .agg #[.int .i64 x2,.int .i64 y2,.int .i64 z2]) (by simp [results,Tryz.results100,go_sem, *]) rfl ?_
  exact ⟨_,_,_,rfl,p2,Cur.le (K:=((K+2)+26)) (by repeat' with_reducible first|assumption|refine Cur.alc ?_ _|refine Cur.drw ?_|refine Cur.setN ?_ (by first|with_reducible assumption|omega)) (by omega),(by repeat' first|exact World.grownBy.refl' _ _|refine World.grownBy.setNew ?_ (by first|omega|(simp;omega)) _ _|refine World.grownBy.alloc' ?_ _|refine World.grownBy.drewN' ?_ _|refine World.grownBy.drew' ?_|refine World.grownBy.trans' ?_ (by assumption)|refine World.grownBy.below' ?_ (by assumption))⟩
 ·skip
  by_cases q1:v1=1
  ·subst q1
   go_wp2_with fail
   refine (goodDisc_d (B:=B) b (K+2)  _ (by repeat' with_reducible first|assumption|refine Cur.alc ?_ _|refine Cur.drw ?_|refine Cur.setN ?_ (by first|with_reducible assumption|omega)) (by omega)).mono ?_
   rintro e2 w2 ⟨v2,rfl,p2,h2,g2⟩
   have hs2:=h2.lt
   have hz2:w.heap.size≤w2.heap.size:=Nat.le_trans (by first|exact Nat.le_refl _|with_reducible assumption|(simp;done)|(simp;omega)) g2.size
   have tq0:=Wi3.d g2 w.heap.size 0 0 0 nb0
   try clear c00 c01 c02 f00 f01 f02 z0
   obtain ⟨c00,c01,c02,f00,f01,f02,z0⟩:=tq0
   go_wp2_with fail
   refine (reduced_d (B:=B) b ((K+2)+4) v2 _ (by repeat' with_reducible first|assumption|refine Cur.alc ?_ _|refine Cur.drw ?_|refine Cur.setN ?_ (by first|with_reducible assumption|omega)) (by omega) p2).mono ?_
   rintro e3 w3 ⟨x3,y3,z3,rfl,p3,h3,g3⟩
   have hs3:=h3.lt
   have hz3:w.heap.size≤w3.heap.size:=Nat.le_trans (by first|exact Nat.le_refl _|with_reducible assumption|(simp;done)|(simp;omega)) g3.size
   have tq0:=Wi3.d g3 w.heap.size 0 0 0 nb0
   try clear c00 c01 c02 f00 f01 f02 z0
   obtain ⟨c00,c01,c02,f00,f01,f02,z0⟩:=tq0
   obtain ⟨s31,s32,s33⟩:=p3.small
   unfold In at s31 s32 s33
   have nb1:w3.heap.size≠b:=by omega
   go_wp2_with fail
   refine (pick_a (B:=B) b (((K+2)+4)+2) 5 _ (by repeat' with_reducible first|assumption|refine Cur.alc ?_ _|refine Cur.drw ?_|refine Cur.setN ?_ (by first|with_reducible assumption|omega)) (by omega) (by omega)).mono ?_
   rintro e4 w4 ⟨v4,rfl,p4,h4,g4⟩
   have hs4:=h4.lt
   have hz4:w.heap.size≤w4.heap.size:=Nat.le_trans (by first|exact Nat.le_refl _|with_reducible assumption|(simp;done)|(simp;omega)) g4.size
   have tq0:=Wi3.d g4 w.heap.size 0 0 0 nb0
   have tq1:=Ri3.d g4 w3.heap.size x3 y3 z3 nb1
   try clear c00 c01 c02 f00 f01 f02 z0
   try clear c10 c11 c12 z1
   obtain ⟨c00,c01,c02,f00,f01,f02,z0⟩:=tq0
   obtain ⟨c10,c11,c12,z1⟩:=tq1
   have m1:=mul_bd (A:=5) (B:=1000) (by omega) (show -5≤1+v4∧1+v4≤5 by omega) s31
   have m2:=mul_bd (A:=5) (B:=1000) (by omega) (show -5≤1+v4∧1+v4≤5 by omega) s32
   have m3:=mul_bd (A:=5) (B:=1000) (by omega) (show -5≤1+v4∧1+v4≤5 by omega) s33
   go_wp2_with fail
   refine (moved_d (B:=B) b ((((K+2)+4)+2)+2) ((1+v4)*x3) ((1+v4)*y3) ((1+v4)*z3) _ (by repeat' with_reducible first|assumption|refine Cur.alc ?_ _|refine Cur.drw ?_|refine Cur.setN ?_ (by first|with_reducible assumption|omega)) (by omega) (by unfold In;omega) (by unfold In;omega) (by unfold In;omega)).mono ?_
   rintro e5 w5 ⟨x5,y5,z5,rfl,p5,h5,g5⟩
   have hs5:=h5.lt
   have hz5:w.heap.size≤w5.heap.size:=Nat.le_trans (by first|exact Nat.le_refl _|with_reducible assumption|(simp;done)|(simp;omega)) g5.size
   have tq0:=Wi3.d g5 w.heap.size 0 0 0 nb0
   try clear c00 c01 c02 f00 f01 f02 z0
   obtain ⟨c00,c01,c02,f00,f01,f02,z0⟩:=tq0
   go_wp2
   refine bodyPost_ret (v:= .agg #[.int .i64 x5,.int .i64 y5,.int .i64 z5]) (by simp [results,Tryz.results100,go_sem, *]) rfl ?_
   exact ⟨_,_,_,rfl,p5,Cur.le (K:=(((((K+2)+4)+2)+2)+22)) (by repeat' with_reducible first|assumption|refine Cur.alc ?_ _|refine Cur.drw ?_|refine Cur.setN ?_ (by first|with_reducible assumption|omega)) (by omega),(by repeat' first|exact World.grownBy.refl' _ _|refine World.grownBy.setNew ?_ (by first|omega|(simp;omega)) _ _|refine World.grownBy.alloc' ?_ _|refine World.grownBy.drewN' ?_ _|refine World.grownBy.drew' ?_|refine World.grownBy.trans' ?_ (by assumption)|refine World.grownBy.below' ?_ (by assumption))⟩
  ·skip
   by_cases q2:v1=2
   ·subst q2
    go_wp2_with fail
    refine (pick_a (B:=B) b (K+2) 1000000 _ (by repeat' with_reducible first|assumption|refine Cur.alc ?_ _|refine Cur.drw ?_|refine Cur.setN ?_ (by first|with_reducible assumption|omega)) (by omega) (by omega)).mono ?_
    rintro e2 w2 ⟨v2,rfl,p2,h2,g2⟩
    have hs2:=h2.lt
    have hz2:w.heap.size≤w2.heap.size:=Nat.le_trans (by first|exact Nat.le_refl _|with_reducible assumption|(simp;done)|(simp;omega)) g2.size
    have tq0:=Wi3.d g2 w.heap.size 0 0 0 nb0
    try clear c00 c01 c02 f00 f01 f02 z0
    obtain ⟨c00,c01,c02,f00,f01,f02,z0⟩:=tq0
    go_wp2_with fail
    refine (pick_a (B:=B) b ((K+2)+2) 1000001 _ (by repeat' with_reducible first|assumption|refine Cur.alc ?_ _|refine Cur.drw ?_|refine Cur.setN ?_ (by first|with_reducible assumption|omega)) (by omega) (by omega)).mono ?_
    rintro e3 w3 ⟨v3,rfl,p3,h3,g3⟩
    have hs3:=h3.lt
    have hz3:w.heap.size≤w3.heap.size:=Nat.le_trans (by first|exact Nat.le_refl _|with_reducible assumption|(simp;done)|(simp;omega)) g3.size
    have tq0:=Wi3.d g3 w.heap.size 0 0 0 nb0
    try clear c00 c01 c02 f00 f01 f02 z0
    obtain ⟨c00,c01,c02,f00,f01,f02,z0⟩:=tq0
    go_wp2_with fail
    refine (pick_a (B:=B) b (((K+2)+2)+2) 750001 _ (by repeat' with_reducible first|assumption|refine Cur.alc ?_ _|refine Cur.drw ?_|refine Cur.setN ?_ (by first|with_reducible assumption|omega)) (by omega) (by omega)).mono ?_
    rintro e4 w4 ⟨v4,rfl,p4,h4,g4⟩
    have hs4:=h4.lt
    have hz4:w.heap.size≤w4.heap.size:=Nat.le_trans (by first|exact Nat.le_refl _|with_reducible assumption|(simp;done)|(simp;omega)) g4.size
    have tq0:=Wi3.d g4 w.heap.size 0 0 0 nb0
    try clear c00 c01 c02 f00 f01 f02 z0
    obtain ⟨c00,c01,c02,f00,f01,f02,z0⟩:=tq0
    go_wp2
    refine bodyPost_ret (v:= .agg #[.int .i64 (1+v2),.int .i64 v3,.int .i64 (250000+v4)]) (by simp [results,Tryz.results100,go_sem, *]) rfl ?_
    exact ⟨_,_,_,rfl,by unfold R64 at *;first|exact ⟨by omega,by omega,by omega⟩|exact ⟨by assumption,by assumption,by assumption⟩,Cur.le (K:=((((K+2)+2)+2)+2)) (by repeat' with_reducible first|assumption|refine Cur.alc ?_ _|refine Cur.drw ?_|refine Cur.setN ?_ (by first|with_reducible assumption|omega)) (by omega),(by repeat' first|exact World.grownBy.refl' _ _|refine World.grownBy.setNew ?_ (by first|omega|(simp;omega)) _ _|refine World.grownBy.alloc' ?_ _|refine World.grownBy.drewN' ?_ _|refine World.grownBy.drew' ?_|refine World.grownBy.trans' ?_ (by assumption)|refine World.grownBy.below' ?_ (by assumption))⟩
   ·skip
    go_wp2_with fail
    refine (goodDisc_d (B:=B) b (K+2)  _ (by repeat' with_reducible first|assumption|refine Cur.alc ?_ _|refine Cur.drw ?_|refine Cur.setN ?_ (by first|with_reducible assumption|omega)) (by omega)).mono ?_
    rintro e2 w2 ⟨v2,rfl,p2,h2,g2⟩
    have hs2:=h2.lt
    have hz2:w.heap.size≤w2.heap.size:=Nat.le_trans (by first|exact Nat.le_refl _|with_reducible assumption|(simp;done)|(simp;omega)) g2.size
    have tq0:=Wi3.d g2 w.heap.size 0 0 0 nb0
    try clear c00 c01 c02 f00 f01 f02 z0
    obtain ⟨c00,c01,c02,f00,f01,f02,z0⟩:=tq0
    go_wp2_with fail
    refine (reduced_d (B:=B) b ((K+2)+4) v2 _ (by repeat' with_reducible first|assumption|refine Cur.alc ?_ _|refine Cur.drw ?_|refine Cur.setN ?_ (by first|with_reducible assumption|omega)) (by omega) p2).mono ?_
    rintro e3 w3 ⟨x3,y3,z3,rfl,p3,h3,g3⟩
    have hs3:=h3.lt
    have hz3:w.heap.size≤w3.heap.size:=Nat.le_trans (by first|exact Nat.le_refl _|with_reducible assumption|(simp;done)|(simp;omega)) g3.size
    have tq0:=Wi3.d g3 w.heap.size 0 0 0 nb0
    try clear c00 c01 c02 f00 f01 f02 z0
    obtain ⟨c00,c01,c02,f00,f01,f02,z0⟩:=tq0
    obtain ⟨s31,s32,s33⟩:=p3.small
    go_wp2_with fail
    refine (moved_d (B:=B) b (((K+2)+4)+2) x3 y3 z3 _ (by repeat' with_reducible first|assumption|refine Cur.alc ?_ _|refine Cur.drw ?_|refine Cur.setN ?_ (by first|with_reducible assumption|omega)) (by omega) (by unfold In at *;omega) (by unfold In at *;omega) (by unfold In at *;omega)).mono ?_
    rintro e4 w4 ⟨x4,y4,z4,rfl,p4,h4,g4⟩
    have hs4:=h4.lt
    have hz4:w.heap.size≤w4.heap.size:=Nat.le_trans (by first|exact Nat.le_refl _|with_reducible assumption|(simp;done)|(simp;omega)) g4.size
    have tq0:=Wi3.d g4 w.heap.size 0 0 0 nb0
    try clear c00 c01 c02 f00 f01 f02 z0
    obtain ⟨c00,c01,c02,f00,f01,f02,z0⟩:=tq0
    go_wp2
    refine bodyPost_ret (v:= .agg #[.int .i64 x4,.int .i64 y4,.int .i64 z4]) (by simp [results,Tryz.results100,go_sem, *]) rfl ?_
    exact ⟨_,_,_,rfl,p4,Cur.le (K:=((((K+2)+4)+2)+22)) (by repeat' with_reducible first|assumption|refine Cur.alc ?_ _|refine Cur.drw ?_|refine Cur.setN ?_ (by first|with_reducible assumption|omega)) (by omega),(by repeat' first|exact World.grownBy.refl' _ _|refine World.grownBy.setNew ?_ (by first|omega|(simp;omega)) _ _|refine World.grownBy.alloc' ?_ _|refine World.grownBy.drewN' ?_ _|refine World.grownBy.drew' ?_|refine World.grownBy.trans' ?_ (by assumption)|refine World.grownBy.below' ?_ (by assumption))⟩

set_option maxRecDepth 100000 in
set_option maxHeartbeats 8000000 in
theorem classForm_d (b:Nat) (K:Int) (w:World) (h0:Cur B w b K) (hK:K≤6000000000):Calls Tryz.prog 72 #[.pointer (some ⟨b,0,none⟩)] w (DrewF B w b (K+50) (fun x y z=>R64 x∧R64 y∧R64 z)):=by
 have hs0:=h0.lt
 have nb0:w.heap.size≠b:=by omega
 go_enter Tryz.func72,Tryz.ntmps72
 go_wp2_with fail
 refine (one_a (B:=B) b K 12 _ (by repeat' with_reducible first|assumption|refine Cur.alc ?_ _|refine Cur.drw ?_|refine Cur.setN ?_ (by first|with_reducible assumption|omega)) (by omega) (by omega)).mono ?_
 rintro e1 w1 ⟨t1,rfl,h1,g1⟩
 have hs1:=h1.lt
 have hz1:w.heap.size≤w1.heap.size:=Nat.le_trans (by first|exact Nat.le_refl _|with_reducible assumption|(simp;done)|(simp;omega)) g1.size
 have tq0:=Wi3.d g1 w.heap.size 0 0 0 nb0
 try clear c00 c01 c02 f00 f01 f02 z0
 obtain ⟨c00,c01,c02,f00,f01,f02,z0⟩:=tq0
 cases t1
 ·go_wp2_with fail
  refine (goodDisc_d (B:=B) b (K+2)  _ (by repeat' with_reducible first|assumption|refine Cur.alc ?_ _|refine Cur.drw ?_|refine Cur.setN ?_ (by first|with_reducible assumption|omega)) (by omega)).mono ?_
  rintro e2 w2 ⟨v2,rfl,p2,h2,g2⟩
  have hs2:=h2.lt
  have hz2:w.heap.size≤w2.heap.size:=Nat.le_trans (by first|exact Nat.le_refl _|with_reducible assumption|(simp;done)|(simp;omega)) g2.size
  have tq0:=Wi3.d g2 w.heap.size 0 0 0 nb0
  try clear c00 c01 c02 f00 f01 f02 z0
  obtain ⟨c00,c01,c02,f00,f01,f02,z0⟩:=tq0
  go_wp2_with fail
  refine (reduced_d (B:=B) b ((K+2)+4) v2 _ (by repeat' with_reducible first|assumption|refine Cur.alc ?_ _|refine Cur.drw ?_|refine Cur.setN ?_ (by first|with_reducible assumption|omega)) (by omega) p2).mono ?_
  rintro e3 w3 ⟨x3,y3,z3,rfl,p3,h3,g3⟩
  have hs3:=h3.lt
  have hz3:w.heap.size≤w3.heap.size:=Nat.le_trans (by first|exact Nat.le_refl _|with_reducible assumption|(simp;done)|(simp;omega)) g3.size
  have tq0:=Wi3.d g3 w.heap.size 0 0 0 nb0
  try clear c00 c01 c02 f00 f01 f02 z0
  obtain ⟨c00,c01,c02,f00,f01,f02,z0⟩:=tq0
  obtain ⟨s31,s32,s33⟩:=p3.small
  have nb1:w3.heap.size≠b:=by omega
  go_wp2_with fail
  refine (one_a (B:=B) b (((K+2)+4)+2) 2 _ (by repeat' with_reducible first|assumption|refine Cur.alc ?_ _|refine Cur.drw ?_|refine Cur.setN ?_ (by first|with_reducible assumption|omega)) (by omega) (by omega)).mono ?_
  rintro e4 w4 ⟨t4,rfl,h4,g4⟩
  have hs4:=h4.lt
  have hz4:w.heap.size≤w4.heap.size:=Nat.le_trans (by first|exact Nat.le_refl _|with_reducible assumption|(simp;done)|(simp;omega)) g4.size
  have tq0:=Wi3.d g4 w.heap.size 0 0 0 nb0
  have tq1:=Ri3.d g4 w3.heap.size x3 y3 z3 nb1
  try clear c00 c01 c02 f00 f01 f02 z0
  try clear c10 c11 c12 z1
  obtain ⟨c00,c01,c02,f00,f01,f02,z0⟩:=tq0
  obtain ⟨c10,c11,c12,z1⟩:=tq1
  cases t4
  ·go_wp2
   refine bodyPost_ret (v:= .agg #[.int .i64 x3,.int .i64 y3,.int .i64 z3]) (by simp [results,Tryz.results72,go_sem, *]) rfl ?_
   exact ⟨_,_,_,rfl,by unfold In at *;unfold R64;omega,Cur.le (K:=((((K+2)+4)+2)+2)) (by repeat' with_reducible first|assumption|refine Cur.alc ?_ _|refine Cur.drw ?_|refine Cur.setN ?_ (by first|with_reducible assumption|omega)) (by omega),(by repeat' first|exact World.grownBy.refl' _ _|refine World.grownBy.setNew ?_ (by first|omega|(simp;omega)) _ _|refine World.grownBy.alloc' ?_ _|refine World.grownBy.drewN' ?_ _|refine World.grownBy.drew' ?_|refine World.grownBy.trans' ?_ (by assumption)|refine World.grownBy.below' ?_ (by assumption))⟩
  ·go_wp2_with fail
   refine (moved_d (B:=B) b ((((K+2)+4)+2)+2) x3 y3 z3 _ (by repeat' with_reducible first|assumption|refine Cur.alc ?_ _|refine Cur.drw ?_|refine Cur.setN ?_ (by first|with_reducible assumption|omega)) (by omega) (by unfold In at *;omega) (by unfold In at *;omega) (by unfold In at *;omega)).mono ?_
   rintro e5 w5 ⟨x5,y5,z5,rfl,p5,h5,g5⟩
   have hs5:=h5.lt
   have hz5:w.heap.size≤w5.heap.size:=Nat.le_trans (by first|exact Nat.le_refl _|with_reducible assumption|(simp;done)|(simp;omega)) g5.size
   have tq0:=Wi3.d g5 w.heap.size 0 0 0 nb0
   try clear c00 c01 c02 f00 f01 f02 z0
   obtain ⟨c00,c01,c02,f00,f01,f02,z0⟩:=tq0
   go_wp2
   refine bodyPost_ret (v:= .agg #[.int .i64 x5,.int .i64 y5,.int .i64 z5]) (by simp [results,Tryz.results72,go_sem, *]) rfl ?_
   exact ⟨_,_,_,rfl,p5,Cur.le (K:=(((((K+2)+4)+2)+2)+22)) (by repeat' with_reducible first|assumption|refine Cur.alc ?_ _|refine Cur.drw ?_|refine Cur.setN ?_ (by first|with_reducible assumption|omega)) (by omega),(by repeat' first|exact World.grownBy.refl' _ _|refine World.grownBy.setNew ?_ (by first|omega|(simp;omega)) _ _|refine World.grownBy.alloc' ?_ _|refine World.grownBy.drewN' ?_ _|refine World.grownBy.drew' ?_|refine World.grownBy.trans' ?_ (by assumption)|refine World.grownBy.below' ?_ (by assumption))⟩
 ·go_wp2_with fail
  refine (definite_d (B:=B) b (K+2)  _ (by repeat' with_reducible first|assumption|refine Cur.alc ?_ _|refine Cur.drw ?_|refine Cur.setN ?_ (by first|with_reducible assumption|omega)) (by omega)).mono ?_
  rintro e2 w2 ⟨x2,y2,z2,rfl,p2,h2,g2⟩
  have hs2:=h2.lt
  have hz2:w.heap.size≤w2.heap.size:=Nat.le_trans (by first|exact Nat.le_refl _|with_reducible assumption|(simp;done)|(simp;omega)) g2.size
  have tq0:=Wi3.d g2 w.heap.size 0 0 0 nb0
  try clear c00 c01 c02 f00 f01 f02 z0
  obtain ⟨c00,c01,c02,f00,f01,f02,z0⟩:=tq0
  go_wp2
  refine bodyPost_ret (v:= .agg #[.int .i64 x2,.int .i64 y2,.int .i64 z2]) (by simp [results,Tryz.results72,go_sem, *]) rfl ?_
  exact ⟨_,_,_,rfl,p2,Cur.le (K:=((K+2)+40)) (by repeat' with_reducible first|assumption|refine Cur.alc ?_ _|refine Cur.drw ?_|refine Cur.setN ?_ (by first|with_reducible assumption|omega)) (by omega),(by repeat' first|exact World.grownBy.refl' _ _|refine World.grownBy.setNew ?_ (by first|omega|(simp;omega)) _ _|refine World.grownBy.alloc' ?_ _|refine World.grownBy.drewN' ?_ _|refine World.grownBy.drew' ?_|refine World.grownBy.trans' ?_ (by assumption)|refine World.grownBy.below' ?_ (by assumption))⟩
end Go.Proofs.YtobkcnmlmmhpoaaGreat
