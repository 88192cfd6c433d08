/- Matrices drawn. -/
import Derived.Test.YtobkcnmlmmhpoaaGreatDrb
namespace Go.Proofs.YtobkcnmlmmhpoaaGreat
open Go.RowKit
set_option linter.unusedVariables false
set_option linter.unusedSimpArgs false
attribute [local go_sem] q2 q3 q4 q5 q6 q7 q8 q9 q10 q11 q12

variable {B:Nat}

set_option maxRecDepth 100000 in
set_option maxHeartbeats 8000000 in
theorem proper_d (b:Nat) (K:Int) (w:World) (h0:Cur B w b K) (hK:K≤9000000000):Calls Tryz.prog 97 #[.pointer (some ⟨b,0,none⟩)] w (DrewM B w b (K+22) (InM 3125)):=by
 have hs0:=h0.lt
 have nb0:w.heap.size≠b:=by omega
 have nb1:w.heap.size+1≠b:=by omega
 go_enter Tryz.func97,Tryz.ntmps97
 go_wp2_with fail
 refine (pick_a (B:=B) b K 6 _ (by repeat' with_reducible first|assumption|refine Cur.alc ?_ _|refine Cur.drw ?_|refine Cur.setN ?_ (by first|with_reducible assumption|omega)) (by omega) (by omega)).mono ?_
 rintro e1 w1 ⟨v1,rfl,p1,h1,g1⟩
 have hs1:=h1.lt
 have hz1:w.heap.size≤w1.heap.size:=Nat.le_trans (by first|exact Nat.le_refl _|with_reducible assumption|(simp;done)|(simp;omega)) g1.size
 have tq0:=Wi4.d g1 w.heap.size 0 0 0 0 nb0
 have tq1:=Wi4.d g1 (w.heap.size+1) 1 0 0 1 nb1
 try clear c00 c01 c02 c03 f00 f01 f02 f03 z0
 try clear c10 c11 c12 c13 f10 f11 f12 f13 z1
 obtain ⟨c00,c01,c02,c03,f00,f01,f02,f03,z0⟩:=tq0
 obtain ⟨c10,c11,c12,c13,f10,f11,f12,f13,z1⟩:=tq1
 go_wp2
 obtain ⟨k0,hk0⟩:=Int.eq_ofNat_of_zero_le p1.1
 subst hk0
 have h1':Cur B (w1) b (K+2):=h1
 go_loopw [4] (fun ks wr=> ∃(k:Nat) (p q r s:Int),k≤5∧ks= .int .i64 (k:Int)∧InM (pB k) p q r s∧Cur B wr b (K+22-4*(k:Int))∧w.grownBy wr (some b)∧w.heap.size+1<wr.heap.size∧wr.cell? ⟨w.heap.size,0,none⟩=some (.int .i64 0)∧wr.frozen? ⟨w.heap.size,0,none⟩=false∧wr.cell? ⟨w.heap.size,1,none⟩=some (.int .i64 0)∧wr.frozen? ⟨w.heap.size,1,none⟩=false∧wr.cell? ⟨w.heap.size,2,none⟩=some (.int .i64 0)∧wr.frozen? ⟨w.heap.size,2,none⟩=false∧wr.cell? ⟨w.heap.size,3,none⟩=some (.int .i64 0)∧wr.frozen? ⟨w.heap.size,3,none⟩=false∧wr.cell? ⟨w.heap.size+1,0,none⟩=some (.int .i64 p)∧wr.frozen? ⟨w.heap.size+1,0,none⟩=false∧wr.cell? ⟨w.heap.size+1,1,none⟩=some (.int .i64 q)∧wr.frozen? ⟨w.heap.size+1,1,none⟩=false∧wr.cell? ⟨w.heap.size+1,2,none⟩=some (.int .i64 r)∧wr.frozen? ⟨w.heap.size+1,2,none⟩=false∧wr.cell? ⟨w.heap.size+1,3,none⟩=some (.int .i64 s)∧wr.frozen? ⟨w.heap.size+1,3,none⟩=false) (fun ks _=>(intOf ks).toNat)
 case atStart=>exact ⟨k0,1,0,0,1,by omega,rfl,inM_one k0 (by omega),h1.le (by omega),(by repeat' first|exact World.grownBy.refl' _ _|refine World.grownBy.setNew ?_ (by first|omega|(simp;omega)) _ _|refine World.grownBy.alloc' ?_ _|refine World.grownBy.drewN' ?_ _|refine World.grownBy.drew' ?_|refine World.grownBy.trans' ?_ (by assumption)|refine World.grownBy.below' ?_ (by assumption)),z1,c00,f00,c01,f01,c02,f02,c03,f03,c10,f10,c11,f11,c12,f12,c13,f13⟩
 case round=>
  clear c00 f00 c01 f01 c02 f02 c03 f03 c10 f10 c11 f11 c12 f12 c13 f13
  obtain ⟨k,p,q,r,s,hk,rfl,hin,hcu,hgr,hszr,c00,f00,c01,f01,c02,f02,c03,f03,c10,f10,c11,f11,c12,f12,c13,f13⟩:=hrel
  obtain ⟨w1,rfl⟩: ∃wl:World,wl=wr:=⟨_,rfl⟩
  have hs1:=hcu.lt
  have hz1:=hgr.size
  have z0:w.heap.size<w1.heap.size:=by omega
  have z1:w.heap.size+1<w1.heap.size:=hszr
  by_cases q0:k=0
  ·subst q0
   have HQ:=hide hin
   clear hin
   go_wp2
   refine bodyPost_ret (v:= .agg #[.int .i64 p,.int .i64 q,.int .i64 r,.int .i64 s]) (by simp [results,Tryz.results97,go_sem, *]) rfl ?_
   exact ⟨p,q,r,s,rfl,unhide HQ,Cur.le (K:=(K+22-4*((0:Nat):Int))) (by repeat' with_reducible first|assumption|refine Cur.alc ?_ _|refine Cur.drw ?_|refine Cur.setN ?_ (by first|with_reducible assumption|omega)) (by omega),(by repeat' first|exact World.grownBy.refl' _ _|refine World.grownBy.setNew ?_ (by first|omega|(simp;omega)) _ _|refine World.grownBy.alloc' ?_ _|refine World.grownBy.drewN' ?_ _|refine World.grownBy.drew' ?_|refine World.grownBy.trans' ?_ (by assumption)|refine World.grownBy.below' ?_ (by assumption))⟩
  ·obtain ⟨k,rfl⟩: ∃k',k=k'+1:=⟨k-1,by omega⟩
   have hps:=pB_step k (by omega)
   have hk1:0<(k:Int)+1:=by omega
   have hk2:((k+1:Nat):Int)=(k:Int)+1:=by omega
   rw[hk2] at hcu
   have HPS:=hide hps
   go_wp2_with fail
   refine (pick_a (B:=B) b (K+22-4*((k:Int)+1)) 9 _ (by repeat' with_reducible first|assumption|refine Cur.alc ?_ _|refine Cur.drw ?_|refine Cur.setN ?_ (by first|with_reducible assumption|omega)) (by omega) (by omega)).mono ?_
   rintro e2 w2 ⟨v2,rfl,p2,h2,g2⟩
   have hs2:=h2.lt
   have hz2:w.heap.size≤w2.heap.size:=Nat.le_trans (by first|exact Nat.le_refl _|with_reducible assumption|(simp;done)|(simp;omega)) g2.size
   have tq0:=Wi4.d g2 w.heap.size 0 0 0 0 nb0
   have tq1:=Wi4.d g2 (w.heap.size+1) p q r s nb1
   try clear c00 c01 c02 c03 f00 f01 f02 f03 z0
   try clear c10 c11 c12 c13 f10 f11 f12 f13 z1
   obtain ⟨c00,c01,c02,c03,f00,f01,f02,f03,z0⟩:=tq0
   obtain ⟨c10,c11,c12,c13,f10,f11,f12,f13,z1⟩:=tq1
   go_wp2_with fail
   refine (pick_a (B:=B) b ((K+22-4*((k:Int)+1))+2) 3 _ (by repeat' with_reducible first|assumption|refine Cur.alc ?_ _|refine Cur.drw ?_|refine Cur.setN ?_ (by first|with_reducible assumption|omega)) (by omega) (by omega)).mono ?_
   rintro e3 w3 ⟨v3,rfl,p3,h3,g3⟩
   have hs3:=h3.lt
   have hz3:w.heap.size≤w3.heap.size:=Nat.le_trans (by first|exact Nat.le_refl _|with_reducible assumption|(simp;done)|(simp;omega)) g3.size
   have tq0:=Wi4.d g3 w.heap.size 0 0 0 0 nb0
   have tq1:=Wi4.d g3 (w.heap.size+1) p q r s nb1
   try clear c00 c01 c02 c03 f00 f01 f02 f03 z0
   try clear c10 c11 c12 c13 f10 f11 f12 f13 z1
   obtain ⟨c00,c01,c02,c03,f00,f01,f02,f03,z0⟩:=tq0
   obtain ⟨c10,c11,c12,c13,f10,f11,f12,f13,z1⟩:=tq1
   have hps:=unhide HPS
   by_cases q0:v3=0
   ·subst q0
    go_wp2_with fail
    refine (foMul_a p q r s 1 (v2-4) 0 1 _).mono ?_
    rintro e4 w4 ⟨rfl,b4⟩
    have tq0:=Wi4.c b4 w.heap.size 0 0 0 0
    have tq1:=Wi4.c b4 (w.heap.size+1) p q r s
    try clear c00 c01 c02 c03 f00 f01 f02 f03
    try clear c10 c11 c12 c13 f10 f11 f12 f13
    obtain ⟨c00,c01,c02,c03,f00,f01,f02,f03,z0⟩:=tq0
    obtain ⟨c10,c11,c12,c13,f10,f11,f12,f13,z1⟩:=tq1
    have h4:=Cur.below (B:=B) (b:=b) (K:=(((K+22-4*((k:Int)+1))+2)+2)) (by repeat' with_reducible first|assumption|refine Cur.alc ?_ _|refine Cur.drw ?_|refine Cur.setN ?_ (by first|with_reducible assumption|omega)) b4
    have hs4:=h4.lt
    have hz4:w.heap.size≤w4.heap.size:=Nat.le_trans (by first|exact Nat.le_refl _|omega|(simp;done)|(simp;omega)) b4.size
    have HIN:=hide (mm5 (a:=1) (b:=(v2-4)) (c:=0) (d:=1) ⟨hps.2.1,hps.2.2⟩ hin (.inr (.inl ⟨rfl,rfl,rfl,by unfold In;omega⟩)))
    rw[hps.1] at HIN
    obtain ⟨np,hnp⟩: ∃x,mmP p q r s 1 (v2-4) 0 1=x:=⟨_,rfl⟩
    obtain ⟨nq,hnq⟩: ∃x,mmQ p q r s 1 (v2-4) 0 1=x:=⟨_,rfl⟩
    obtain ⟨nr,hnr⟩: ∃x,mmR p q r s 1 (v2-4) 0 1=x:=⟨_,rfl⟩
    obtain ⟨ns,hns⟩: ∃x,mmS p q r s 1 (v2-4) 0 1=x:=⟨_,rfl⟩
    rw[hnp,hnq,hnr,hns] at HIN ⊢
    clear hnp hnq hnr hns
    go_wp2
    go_roundw
    case rel=>exact ⟨k,np,nq,nr,ns,by omega,by first|rfl|go_num,unhide HIN,Cur.le (K:=(((K+22-4*((k:Int)+1))+2)+2)) (by repeat' with_reducible first|assumption|refine Cur.alc ?_ _|refine Cur.drw ?_|refine Cur.setN ?_ (by first|with_reducible assumption|omega)) (by omega),(by repeat' first|exact World.grownBy.refl' _ _|refine World.grownBy.setNew ?_ (by first|omega|(simp;omega)) _ _|refine World.grownBy.alloc' ?_ _|refine World.grownBy.drewN' ?_ _|refine World.grownBy.drew' ?_|refine World.grownBy.trans' ?_ (by assumption)|refine World.grownBy.below' ?_ (by assumption)),by first|(simp [World.setCell];done)|(simp [World.setCell];omega),byCT,byFT,byCT,byFT,byCT,byFT,byCT,byFT,byCT,byFT,byCT,byFT,byCT,byFT,byCT,byFT⟩
    case measure=>first|(simp [intOf];done)|(simp [intOf];omega)
   ·skip
    by_cases q1:v3=1
    ·subst q1
     go_wp2_with fail
     refine (foMul_a p q r s 1 0 (v2-4) 1 _).mono ?_
     rintro e4 w4 ⟨rfl,b4⟩
     have tq0:=Wi4.c b4 w.heap.size 0 0 0 0
     have tq1:=Wi4.c b4 (w.heap.size+1) p q r s
     try clear c00 c01 c02 c03 f00 f01 f02 f03
     try clear c10 c11 c12 c13 f10 f11 f12 f13
     obtain ⟨c00,c01,c02,c03,f00,f01,f02,f03,z0⟩:=tq0
     obtain ⟨c10,c11,c12,c13,f10,f11,f12,f13,z1⟩:=tq1
     have h4:=Cur.below (B:=B) (b:=b) (K:=(((K+22-4*((k:Int)+1))+2)+2)) (by repeat' with_reducible first|assumption|refine Cur.alc ?_ _|refine Cur.drw ?_|refine Cur.setN ?_ (by first|with_reducible assumption|omega)) b4
     have hs4:=h4.lt
     have hz4:w.heap.size≤w4.heap.size:=Nat.le_trans (by first|exact Nat.le_refl _|omega|(simp;done)|(simp;omega)) b4.size
     have HIN:=hide (mm5 (a:=1) (b:=0) (c:=(v2-4)) (d:=1) ⟨hps.2.1,hps.2.2⟩ hin (.inl ⟨rfl,rfl,rfl,by unfold In;omega⟩))
     rw[hps.1] at HIN
     obtain ⟨np,hnp⟩: ∃x,mmP p q r s 1 0 (v2-4) 1=x:=⟨_,rfl⟩
     obtain ⟨nq,hnq⟩: ∃x,mmQ p q r s 1 0 (v2-4) 1=x:=⟨_,rfl⟩
     obtain ⟨nr,hnr⟩: ∃x,mmR p q r s 1 0 (v2-4) 1=x:=⟨_,rfl⟩
     obtain ⟨ns,hns⟩: ∃x,mmS p q r s 1 0 (v2-4) 1=x:=⟨_,rfl⟩
     rw[hnp,hnq,hnr,hns] at HIN ⊢
     clear hnp hnq hnr hns
     go_wp2
     go_roundw
     case rel=>exact ⟨k,np,nq,nr,ns,by omega,by first|rfl|go_num,unhide HIN,Cur.le (K:=(((K+22-4*((k:Int)+1))+2)+2)) (by repeat' with_reducible first|assumption|refine Cur.alc ?_ _|refine Cur.drw ?_|refine Cur.setN ?_ (by first|with_reducible assumption|omega)) (by omega),(by repeat' first|exact World.grownBy.refl' _ _|refine World.grownBy.setNew ?_ (by first|omega|(simp;omega)) _ _|refine World.grownBy.alloc' ?_ _|refine World.grownBy.drewN' ?_ _|refine World.grownBy.drew' ?_|refine World.grownBy.trans' ?_ (by assumption)|refine World.grownBy.below' ?_ (by assumption)),by first|(simp [World.setCell];done)|(simp [World.setCell];omega),byCT,byFT,byCT,byFT,byCT,byFT,byCT,byFT,byCT,byFT,byCT,byFT,byCT,byFT,byCT,byFT⟩
     case measure=>first|(simp [intOf];done)|(simp [intOf];omega)
    ·skip
     go_wp2_with fail
     refine (foMul_a p q r s 0 (-1) 1 0 _).mono ?_
     rintro e4 w4 ⟨rfl,b4⟩
     have tq0:=Wi4.c b4 w.heap.size 0 0 0 0
     have tq1:=Wi4.c b4 (w.heap.size+1) p q r s
     try clear c00 c01 c02 c03 f00 f01 f02 f03
     try clear c10 c11 c12 c13 f10 f11 f12 f13
     obtain ⟨c00,c01,c02,c03,f00,f01,f02,f03,z0⟩:=tq0
     obtain ⟨c10,c11,c12,c13,f10,f11,f12,f13,z1⟩:=tq1
     have h4:=Cur.below (B:=B) (b:=b) (K:=(((K+22-4*((k:Int)+1))+2)+2)) (by repeat' with_reducible first|assumption|refine Cur.alc ?_ _|refine Cur.drw ?_|refine Cur.setN ?_ (by first|with_reducible assumption|omega)) b4
     have hs4:=h4.lt
     have hz4:w.heap.size≤w4.heap.size:=Nat.le_trans (by first|exact Nat.le_refl _|omega|(simp;done)|(simp;omega)) b4.size
     have HIN:=hide (mm5 (a:=0) (b:=(-1)) (c:=1) (d:=0) ⟨hps.2.1,hps.2.2⟩ hin (.inr (.inr ⟨rfl,rfl,rfl,rfl⟩)))
     rw[hps.1] at HIN
     obtain ⟨np,hnp⟩: ∃x,mmP p q r s 0 (-1) 1 0=x:=⟨_,rfl⟩
     obtain ⟨nq,hnq⟩: ∃x,mmQ p q r s 0 (-1) 1 0=x:=⟨_,rfl⟩
     obtain ⟨nr,hnr⟩: ∃x,mmR p q r s 0 (-1) 1 0=x:=⟨_,rfl⟩
     obtain ⟨ns,hns⟩: ∃x,mmS p q r s 0 (-1) 1 0=x:=⟨_,rfl⟩
     rw[hnp,hnq,hnr,hns] at HIN ⊢
     clear hnp hnq hnr hns
     go_wp2
     go_roundw
     case rel=>exact ⟨k,np,nq,nr,ns,by omega,by first|rfl|go_num,unhide HIN,Cur.le (K:=(((K+22-4*((k:Int)+1))+2)+2)) (by repeat' with_reducible first|assumption|refine Cur.alc ?_ _|refine Cur.drw ?_|refine Cur.setN ?_ (by first|with_reducible assumption|omega)) (by omega),(by repeat' first|exact World.grownBy.refl' _ _|refine World.grownBy.setNew ?_ (by first|omega|(simp;omega)) _ _|refine World.grownBy.alloc' ?_ _|refine World.grownBy.drewN' ?_ _|refine World.grownBy.drew' ?_|refine World.grownBy.trans' ?_ (by assumption)|refine World.grownBy.below' ?_ (by assumption)),by first|(simp [World.setCell];done)|(simp [World.setCell];omega),byCT,byFT,byCT,byFT,byCT,byFT,byCT,byFT,byCT,byFT,byCT,byFT,byCT,byFT,byCT,byFT⟩
     case measure=>first|(simp [intOf];done)|(simp [intOf];omega)
end Go.Proofs.YtobkcnmlmmhpoaaGreat
