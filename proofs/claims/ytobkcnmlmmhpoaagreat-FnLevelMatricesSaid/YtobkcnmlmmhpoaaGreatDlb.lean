/- Level forms drawn. -/
import Derived.Test.YtobkcnmlmmhpoaaGreatDlp
import Derived.Deep.RegionWith
namespace Go.Proofs.YtobkcnmlmmhpoaaGreat
open Go.RowKit
set_option linter.unusedVariables false
set_option linter.unusedSimpArgs false
attribute [local go_sem] q2 q3 q4 q5 q6 q7 q8 q9 q10 q11 q12

variable {B:Nat}

set_option maxRecDepth 100000 in
set_option maxHeartbeats 8000000 in
theorem leveled_d (b:Nat) (K:Int) (w:World) (h0:Cur B w b K) (hK:K≤4000000000):Calls Tryz.prog 41 #[.pointer (some ⟨b,0,none⟩)] w (DrewFN B w b (K+70)):=by
 have hs0:=h0.lt
 have nb0:w.heap.size≠b:=by omega
 go_enter Tryz.func41,Tryz.ntmps41
 go_wp2_with fail
 refine (classForm_d (B:=B) b K  _ (by repeat' with_reducible first|assumption|refine Cur.alc ?_ _|refine Cur.drw ?_|refine Cur.setN ?_ (by first|with_reducible assumption|omega)) (by omega)).mono ?_
 rintro e1 w1 ⟨x,y,z,rfl,p1,h1,g1⟩
 have hs1:=h1.lt
 have hz1:w.heap.size≤w1.heap.size:=Nat.le_trans (by first|exact Nat.le_refl _|with_reducible assumption|(simp;done)|(simp;omega)) g1.size
 have tq0:=Wi3.d g1 w.heap.size 0 0 0 nb0
 (try clear c00 c01 c02 f00 f01 f02 z0)
 obtain ⟨c00,c01,c02,f00,f01,f02,z0⟩:=tq0
 have nb1:w1.heap.size≠b:=by omega
 have nbb: ¬w1.heap.size=b:=nb1
 have nAB: ¬w.heap.size=w1.heap.size:=by have q9:=g1.size;simp at q9;omega
 have nBA: ¬w1.heap.size=w.heap.size:=fun e=>nAB e.symm
 have nba: ¬w.heap.size=b:=nb0
 cases k1:classB x y z
 ·go_wp2_with fail
  refine (coGood_e x y z false _ k1).mono ?_
  rintro e2 w2 ⟨rfl,b2⟩
  have tq0:=Wi3.c b2 w.heap.size 0 0 0
  have tq1:=Ri3.c b2 w1.heap.size x y z
  try clear c00 c01 c02 f00 f01 f02
  try clear c10 c11 c12
  obtain ⟨c00,c01,c02,f00,f01,f02,z0⟩:=tq0
  obtain ⟨c10,c11,c12,z1⟩:=tq1
  have h2:=Cur.below (B:=B) (b:=b) (K:=(K+50)) (by repeat' with_reducible first|assumption|refine Cur.alc ?_ _|refine Cur.drw ?_|refine Cur.setN ?_ (by first|with_reducible assumption|omega)) b2
  have hs2:=h2.lt
  have hz2:w.heap.size≤w2.heap.size:=Nat.le_trans (by first|exact Nat.le_refl _|omega|(simp;done)|(simp;omega)) b2.size
  go_upto_region 3 with fail
  go_region_with (go_at_call 74;refine (level_d (B:=B) b (K+50) (-23) _ (by repeat' with_reducible first|assumption|refine Cur.alc ?_ _|refine Cur.drw ?_|refine Cur.setN ?_ (by first|with_reducible assumption|omega)|refine Cur.below ?_ (by assumption)) (by omega)).mono ?_;rintro e8 w8 ⟨n,rfl,p8,h8,g8⟩;obtain ⟨dc,df,dl⟩:=dcell g8;have hs8:=h8.lt;have hz8:=g8.size;have mc0:=fun o=>dc (w.heap.size) o (by first|with_reducible assumption|(simp;done)|(simp;omega)) nba;have mf0:=fun o=>df (w.heap.size) o (by first|with_reducible assumption|(simp;done)|(simp;omega)) nba;have ml0:=dl (w.heap.size) (by first|with_reducible assumption|(simp;done)|(simp;omega));have mc1:=fun o=>dc (w1.heap.size) o (by first|with_reducible assumption|(simp;done)|(simp;omega)) nbb;have mf1:=fun o=>df (w1.heap.size) o (by first|with_reducible assumption|(simp;done)|(simp;omega)) nbb;have ml1:=dl (w1.heap.size) (by first|with_reducible assumption|(simp;done)|(simp;omega));clear dc df)
  all_goals
   have hzz:w.heap.size≤w8.heap.size:=by omega
   go_wp2
   refine bodyPost_ret (v:= .tuple #[.agg #[.int .i64 x,.int .i64 y,.int .i64 z],.int .i64 n]) (by simp [results,Tryz.results41,go_sem, *]) rfl ?_
   exact ⟨_,_,_,_,rfl,⟨p1.1,p1.2.1,p1.2.2,p8⟩,Cur.le (K:=((K+50)+8)) (by repeat' with_reducible first|assumption|refine Cur.alc ?_ _|refine Cur.drw ?_|refine Cur.setN ?_ (by first|with_reducible assumption|omega)|refine Cur.below ?_ (by assumption)) (by omega),(by repeat' first|exact World.grownBy.refl' _ _|refine World.grownBy.setNew ?_ (by first|omega|(simp;omega)) _ _|refine World.grownBy.alloc' ?_ _|refine World.grownBy.drewN' ?_ _|refine World.grownBy.drew' ?_|assumption|refine World.grownBy.trans' ?_ (by assumption)|refine World.grownBy.below' ?_ (by assumption))⟩
 ·go_wp2_with fail
  refine (coGood_e x y z true _ k1).mono ?_
  rintro e2 w2 ⟨rfl,b2⟩
  have tq0:=Wi3.c b2 w.heap.size 0 0 0
  have tq1:=Ri3.c b2 w1.heap.size x y z
  try clear c00 c01 c02 f00 f01 f02
  try clear c10 c11 c12
  obtain ⟨c00,c01,c02,f00,f01,f02,z0⟩:=tq0
  obtain ⟨c10,c11,c12,z1⟩:=tq1
  have h2:=Cur.below (B:=B) (b:=b) (K:=(K+50)) (by repeat' with_reducible first|assumption|refine Cur.alc ?_ _|refine Cur.drw ?_|refine Cur.setN ?_ (by first|with_reducible assumption|omega)) b2
  have hs2:=h2.lt
  have hz2:w.heap.size≤w2.heap.size:=Nat.le_trans (by first|exact Nat.le_refl _|omega|(simp;done)|(simp;omega)) b2.size
  obtain ⟨d,hd⟩: ∃d,discI x y z=d:=⟨_,rfl⟩
  go_wp2_with fail
  refine (foDisc_e x y z d _ (class_form k1) hd).mono ?_
  rintro e3 w3 ⟨rfl,b3⟩
  have tq0:=Wi3.c b3 w.heap.size 0 0 0
  have tq1:=Ri3.c b3 w1.heap.size x y z
  try clear c00 c01 c02 f00 f01 f02
  try clear c10 c11 c12
  obtain ⟨c00,c01,c02,f00,f01,f02,z0⟩:=tq0
  obtain ⟨c10,c11,c12,z1⟩:=tq1
  have h3:=Cur.below (B:=B) (b:=b) (K:=(K+50)) (by repeat' with_reducible first|assumption|refine Cur.alc ?_ _|refine Cur.drw ?_|refine Cur.setN ?_ (by first|with_reducible assumption|omega)) b3
  have hs3:=h3.lt
  have hz3:w.heap.size≤w3.heap.size:=Nat.le_trans (by first|exact Nat.le_refl _|omega|(simp;done)|(simp;omega)) b3.size
  go_wp2_with fail
  refine (level_d (B:=B) b (K+50) d _ (by repeat' with_reducible first|assumption|refine Cur.alc ?_ _|refine Cur.drw ?_|refine Cur.setN ?_ (by first|with_reducible assumption|omega)) (by omega)).mono ?_
  rintro e4 w4 ⟨n,rfl,p4,h4,g4⟩
  have hs4:=h4.lt
  have hz4:w.heap.size≤w4.heap.size:=Nat.le_trans (by first|exact Nat.le_refl _|with_reducible assumption|(simp;done)|(simp;omega)) g4.size
  have tq0:=Wi3.d g4 w.heap.size 0 0 0 nb0
  have tq1:=Ri3.d g4 w1.heap.size x y z nb1
  (try clear c00 c01 c02 f00 f01 f02 z0)
  (try clear c10 c11 c12 z1)
  obtain ⟨c00,c01,c02,f00,f01,f02,z0⟩:=tq0
  obtain ⟨c10,c11,c12,z1⟩:=tq1
  cases k2:hasB x y z n
  ·go_wp2_with fail
   refine (lvForm_e x y z n false _ k2).mono ?_
   rintro e5 w5 ⟨rfl,b5⟩
   have tq0:=Wi3.c b5 w.heap.size 0 0 0
   have tq1:=Ri3.c b5 w1.heap.size x y z
   try clear c00 c01 c02 f00 f01 f02
   try clear c10 c11 c12
   obtain ⟨c00,c01,c02,f00,f01,f02,z0⟩:=tq0
   obtain ⟨c10,c11,c12,z1⟩:=tq1
   have h5:=Cur.below (B:=B) (b:=b) (K:=((K+50)+8)) (by repeat' with_reducible first|assumption|refine Cur.alc ?_ _|refine Cur.drw ?_|refine Cur.setN ?_ (by first|with_reducible assumption|omega)) b5
   have hs5:=h5.lt
   have hz5:w.heap.size≤w5.heap.size:=Nat.le_trans (by first|exact Nat.le_refl _|omega|(simp;done)|(simp;omega)) b5.size
   go_wp2
   refine bodyPost_ret (v:= .tuple #[.agg #[.int .i64 x,.int .i64 y,.int .i64 z],.int .i64 n]) (by simp [results,Tryz.results41,go_sem, *]) rfl ?_
   exact ⟨_,_,_,_,rfl,⟨p1.1,p1.2.1,p1.2.2,p4⟩,Cur.le (K:=((K+50)+8)) (by repeat' with_reducible first|assumption|refine Cur.alc ?_ _|refine Cur.drw ?_|refine Cur.setN ?_ (by first|with_reducible assumption|omega)) (by omega),(by repeat' first|exact World.grownBy.refl' _ _|refine World.grownBy.setNew ?_ (by first|omega|(simp;omega)) _ _|refine World.grownBy.alloc' ?_ _|refine World.grownBy.drewN' ?_ _|refine World.grownBy.drew' ?_|refine World.grownBy.trans' ?_ (by assumption)|refine World.grownBy.below' ?_ (by assumption))⟩
  ·go_wp2_with fail
   refine (lvForm_e x y z n true _ k2).mono ?_
   rintro e5 w5 ⟨rfl,b5⟩
   have tq0:=Wi3.c b5 w.heap.size 0 0 0
   have tq1:=Ri3.c b5 w1.heap.size x y z
   try clear c00 c01 c02 f00 f01 f02
   try clear c10 c11 c12
   obtain ⟨c00,c01,c02,f00,f01,f02,z0⟩:=tq0
   obtain ⟨c10,c11,c12,z1⟩:=tq1
   have h5:=Cur.below (B:=B) (b:=b) (K:=((K+50)+8)) (by repeat' with_reducible first|assumption|refine Cur.alc ?_ _|refine Cur.drw ?_|refine Cur.setN ?_ (by first|with_reducible assumption|omega)) b5
   have hs5:=h5.lt
   have hz5:w.heap.size≤w5.heap.size:=Nat.le_trans (by first|exact Nat.le_refl _|omega|(simp;done)|(simp;omega)) b5.size
   have hhf:=has_facts k2
   have hn1:1≤n∧n≤30:=⟨hhf.2.1,hhf.2.2.1⟩
   have hdd: -2000≤d∧d≤ -3:=by rw[←hd];exact neg_true (neg_of_class k1 rfl)
   clear hhf k2
   go_wp2_with fail
   refine (one_a (B:=B) b ((K+50)+8) 6 _ (by repeat' with_reducible first|assumption|refine Cur.alc ?_ _|refine Cur.drw ?_|refine Cur.setN ?_ (by first|with_reducible assumption|omega)) (by omega) (by omega)).mono ?_
   rintro e6 w6 ⟨t6,rfl,h6,g6⟩
   have hs6:=h6.lt
   have hz6:w.heap.size≤w6.heap.size:=Nat.le_trans (by first|exact Nat.le_refl _|with_reducible assumption|(simp;done)|(simp;omega)) g6.size
   have tq0:=Wi3.d g6 w.heap.size 0 0 0 nb0
   have tq1:=Ri3.d g6 w1.heap.size x y z nb1
   (try clear c00 c01 c02 f00 f01 f02 z0)
   (try clear c10 c11 c12 z1)
   obtain ⟨c00,c01,c02,f00,f01,f02,z0⟩:=tq0
   obtain ⟨c10,c11,c12,z1⟩:=tq1
   cases t6
   ·go_wp2_with fail
    refine (foDisc_e x y z d _ (class_form k1) hd).mono ?_
    rintro e7 w7 ⟨rfl,b7⟩
    have tq0:=Wi3.c b7 w.heap.size 0 0 0
    have tq1:=Ri3.c b7 w1.heap.size x y z
    try clear c00 c01 c02 f00 f01 f02
    try clear c10 c11 c12
    obtain ⟨c00,c01,c02,f00,f01,f02,z0⟩:=tq0
    obtain ⟨c10,c11,c12,z1⟩:=tq1
    have h7:=Cur.below (B:=B) (b:=b) (K:=(((K+50)+8)+2)) (by repeat' with_reducible first|assumption|refine Cur.alc ?_ _|refine Cur.drw ?_|refine Cur.setN ?_ (by first|with_reducible assumption|omega)) b7
    have hs7:=h7.lt
    have hz7:w.heap.size≤w7.heap.size:=Nat.le_trans (by first|exact Nat.le_refl _|omega|(simp;done)|(simp;omega)) b7.size
    go_wp2_with fail
    refine (lvRoots_a d n _ (by omega) (by omega) (by omega) (by omega)).mono ?_
    rintro e8 w8 ⟨a8,c8,rfl,hl8,b8⟩
    have tq0:=Wi3.c b8 w.heap.size 0 0 0
    have tq1:=Ri3.c b8 w1.heap.size x y z
    try clear c00 c01 c02 f00 f01 f02
    try clear c10 c11 c12
    obtain ⟨c00,c01,c02,f00,f01,f02,z0⟩:=tq0
    obtain ⟨c10,c11,c12,z1⟩:=tq1
    have h8:=Cur.below (B:=B) (b:=b) (K:=(((K+50)+8)+2)) (by repeat' with_reducible first|assumption|refine Cur.alc ?_ _|refine Cur.drw ?_|refine Cur.setN ?_ (by first|with_reducible assumption|omega)) b8
    have hs8:=h8.lt
    have hz8:w.heap.size≤w8.heap.size:=Nat.le_trans (by first|omega|(simp;omega)) b8.size
    have hlo:=hl8.lt
    obtain ⟨Ls,hLs⟩: ∃Ls,(flN (rtP d n) (fun k=>(k:Int)) (2*n).toNat)=Ls:=⟨_,rfl⟩
    have hmm: ∀r,r ∈ Ls→0≤r∧r<2*n∧(r*r-d)%(4*n)=0:=fun r hr=>rt_memD (by omega) (by rw[hLs];exact hr)
    have hlen:Ls.length≤60:=by rw[←hLs];exact Nat.le_trans (flN_len _ _ _) (by omega)
    rw[hLs] at hl8 hlo ⊢
    clear hLs
    have hat:=hl8.ints.2
    have HMM:=hide hmm
    clear hmm hl8
    by_cases q3:Ls.length=0
    ·have q4:((Ls.length:Int)==0)=true:=by rw[q3];rfl
     clear hat
     go_wp2
     refine bodyPost_ret (v:= .tuple #[.agg #[.int .i64 x,.int .i64 y,.int .i64 z],.int .i64 n]) (by simp [results,Tryz.results41,go_sem, *]) rfl ?_
     exact ⟨_,_,_,_,rfl,⟨p1.1,p1.2.1,p1.2.2,p4⟩,Cur.le (K:=(((K+50)+8)+2)) (by repeat' with_reducible first|assumption|refine Cur.alc ?_ _|refine Cur.drw ?_|refine Cur.setN ?_ (by first|with_reducible assumption|omega)) (by omega),(by repeat' first|exact World.grownBy.refl' _ _|refine World.grownBy.setNew ?_ (by first|omega|(simp;omega)) _ _|refine World.grownBy.alloc' ?_ _|refine World.grownBy.drewN' ?_ _|refine World.grownBy.drew' ?_|refine World.grownBy.trans' ?_ (by assumption)|refine World.grownBy.below' ?_ (by assumption))⟩
    ·have q4:((Ls.length:Int)==0)=false:=beq_eq_false_iff_ne.2 (by omega)
     obtain ⟨gl,hgl,-,-⟩:=IntsAt.cellY hat (show 0<Ls.length by omega)
     subst hgl
     have hgb:gl≠b:=by
      have:=hlo gl rfl
      try simp at this
      omega
     have HLC:Hid (∀k,k<Ls.length→w8.cell? ⟨gl,k,none⟩=some (.int .i64 (Ls.getD k 0))):=hide fun k hk=>by
      obtain ⟨g',e',-,h'⟩:=IntsAt.cellY hat hk
      cases e'
      exact h'
     clear hat
     have nb7: ¬w8.heap.size=b:=by omega
     have zA:w.heap.size<w8.heap.size:=z0
     have zB:w1.heap.size<w8.heap.size:=z1
     go_upto_region 10 with fail
     go_cut [7] (fun s7 wx=> ∃(g:Nat) (X Y Z:Int),s7= .pointer (some ⟨g,0,none⟩)∧LvB X Y Z∧wx.cell? ⟨g,0,none⟩=some (.int .i64 X)∧wx.cell? ⟨g,1,none⟩=some (.int .i64 Y)∧wx.cell? ⟨g,2,none⟩=some (.int .i64 Z)∧Cur B wx b ((((K+50)+8)+2)+2)∧w.grownBy wx (some b)∧w1.heap.size<g∧wx.cell? ⟨w.heap.size,0,none⟩=some (.int .i64 0)∧wx.frozen? ⟨w.heap.size,0,none⟩=false∧wx.cell? ⟨w.heap.size,1,none⟩=some (.int .i64 0)∧wx.frozen? ⟨w.heap.size,1,none⟩=false∧wx.cell? ⟨w.heap.size,2,none⟩=some (.int .i64 0)∧wx.frozen? ⟨w.heap.size,2,none⟩=false∧wx.cell? ⟨w1.heap.size,0,none⟩=some (.int .i64 x)∧wx.cell? ⟨w1.heap.size,1,none⟩=some (.int .i64 y)∧wx.cell? ⟨w1.heap.size,2,none⟩=some (.int .i64 z))
     case first=>
      go_region_with (first|(go_at_call 43;refine (pick_a (B:=B) b (((K+50)+8)+2) (Ls.length:Int) _ (by repeat' with_reducible first|assumption|refine Cur.alc ?_ _|refine Cur.drw ?_|refine Cur.setN ?_ (by first|with_reducible assumption|omega)|refine Cur.below ?_ (by assumption)) (by omega) (by omega)).mono ?_;rintro e9 w9 ⟨v9,rfl,p9,h9,g9⟩;have tq0:=Wi3.d g9 w.heap.size 0 0 0 nb0;have tq1:=Ri3.d g9 w1.heap.size x y z nb1;(try clear c00 c01 c02 f00 f01 f02 z0);(try clear c10 c11 c12 z1);obtain ⟨c00,c01,c02,f00,f01,f02,z0⟩:=tq0;obtain ⟨c10,c11,c12,z1⟩:=tq1;obtain ⟨dc,df,dl⟩:=dcell g9;have hs9:=h9.lt;have hz9:=g9.size;have mc90:=fun o h=>dc (w8.heap.size) o h nb7;have mf90:=fun o h=>df (w8.heap.size) o h nb7;have ml90:=dl (w8.heap.size);clear dc df dl;obtain ⟨k,rfl⟩:=Int.eq_ofNat_of_zero_le p9.1;have hkl:k<Ls.length:=(by omega);have hki:(k:Int)<(Ls.length:Int):=(by omega);have lc:w9.cell? ⟨gl,k,none⟩=some (.int .i64 (Ls.getD k 0)):=(by first|exact far_cell g9 ((unhide HLC) k hkl) hgb|exact far_cell g9 (cell_al _ ((unhide HLC) k hkl)) hgb);have hkk:=(unhide HMM) _ (getD_memD (d:=0) hkl);obtain ⟨r,hr⟩: ∃r,Ls.getD k 0=r:=⟨_,rfl⟩;rw [hr] at lc hkk;clear hr;have glt:gl<w9.heap.size:=World.block_lt_of_cell? _ _ lc;have gne: ¬w9.heap.size=gl:=(by omega);have gnf: ¬gl=w9.heap.size:=(by omega))|(go_loud (go_at_call 46;refine (lvMake_q x y z n r _ k1 (by omega) (by omega) hkk.1 hkk.2.1 (by rw[hd];exact hkk.2.2)).mono ?_;rintro e10 w10 ⟨X,Y,Z,rfl,hXYZ,b10⟩;have tq0:=Wi3.c b10 w.heap.size 0 0 0;have tq1:=Ri3.c b10 w1.heap.size x y z;(try clear c00 c01 c02 f00 f01 f02);(try clear c10 c11 c12);obtain ⟨c00,c01,c02,f00,f01,f02,z0⟩:=tq0;obtain ⟨c10,c11,c12,z1⟩:=tq1;obtain ⟨dc,df⟩:=bcell b10;have dl:=lt_keep b10;have hz10:=b10.size;have mc100:=fun o h=>dc (w8.heap.size) o h;have mf100:=fun o h=>df (w8.heap.size) o h;have ml100:=dl (w8.heap.size);have mc101:=fun o h=>dc (w9.heap.size) o h;have mf101:=fun o h=>df (w9.heap.size) o h;have ml101:=dl (w9.heap.size);clear dc df dl)))
      all_goals
       have hq1:w1.heap.size<w9.heap.size:=(by have q9:=g9.size;first|omega|(simp at q9;omega))
       have hq2:w9.heap.size≤w10.heap.size:=(by have q9:=b10.size;first|omega|(simp at q9;omega))
       go_wp2_with fail
       go_meet
       exact ⟨_,X,Y,Z,rfl,by unfold LvB;omega,(by (first|with_reducible assumption|((repeat' first|with_reducible (first|assumption|refine cell_al _ ?_|refine cell_eq _ ?_|refine cell_ne _ ?_ ?_|refine ex_set _ ?_|refine ex_al _ ?_|exact ⟨_,by assumption⟩|refine cell_call (by assumption) ?_|refine far_cell (by assumption) ?_ ?_|refine ex_call (by assumption) ?_|refine ex_far (by assumption) ?_ ?_)|(intro hh;injection hh with hh1 hh2;omega)|omega|(simp;done)|(simp;omega));done)|go_simp)),(by (first|with_reducible assumption|((repeat' first|with_reducible (first|assumption|refine cell_al _ ?_|refine cell_eq _ ?_|refine cell_ne _ ?_ ?_|refine ex_set _ ?_|refine ex_al _ ?_|exact ⟨_,by assumption⟩|refine cell_call (by assumption) ?_|refine far_cell (by assumption) ?_ ?_|refine ex_call (by assumption) ?_|refine ex_far (by assumption) ?_ ?_)|(intro hh;injection hh with hh1 hh2;omega)|omega|(simp;done)|(simp;omega));done)|go_simp)),(by (first|with_reducible assumption|((repeat' first|with_reducible (first|assumption|refine cell_al _ ?_|refine cell_eq _ ?_|refine cell_ne _ ?_ ?_|refine ex_set _ ?_|refine ex_al _ ?_|exact ⟨_,by assumption⟩|refine cell_call (by assumption) ?_|refine far_cell (by assumption) ?_ ?_|refine ex_call (by assumption) ?_|refine ex_far (by assumption) ?_ ?_)|(intro hh;injection hh with hh1 hh2;omega)|omega|(simp;done)|(simp;omega));done)|go_simp)),(by repeat' with_reducible first|assumption|refine Cur.alc ?_ _|refine Cur.drw ?_|refine Cur.setN ?_ (by first|with_reducible assumption|omega)|refine Cur.below ?_ (by assumption)),(by repeat' first|exact World.grownBy.refl' _ _|refine World.grownBy.setNew ?_ (by first|omega|(simp;omega)) _ _|refine World.grownBy.alloc' ?_ _|refine World.grownBy.drewN' ?_ _|refine World.grownBy.drew' ?_|assumption|refine World.grownBy.trans' ?_ (by assumption)|refine World.grownBy.below' ?_ (by assumption)),by first|omega|(simp;omega),(by (first|with_reducible assumption|((repeat' first|with_reducible (first|assumption|refine cell_al _ ?_|refine cell_eq _ ?_|refine cell_ne _ ?_ ?_|refine ex_set _ ?_|refine ex_al _ ?_|exact ⟨_,by assumption⟩|refine cell_call (by assumption) ?_|refine far_cell (by assumption) ?_ ?_|refine ex_call (by assumption) ?_|refine ex_far (by assumption) ?_ ?_)|(intro hh;injection hh with hh1 hh2;omega)|omega|(simp;done)|(simp;omega));done)|go_simp)),(by (first|with_reducible assumption|((repeat' first|with_reducible (first|assumption|refine frz_al _ ?_ ?_|refine frz_set _ ?_|refine frz_call (by assumption) ?_ ?_|refine far_frz (by assumption) ?_ ?_ ?_)|omega|(simp;done)|(simp;omega));done)|go_simp)),(by (first|with_reducible assumption|((repeat' first|with_reducible (first|assumption|refine cell_al _ ?_|refine cell_eq _ ?_|refine cell_ne _ ?_ ?_|refine ex_set _ ?_|refine ex_al _ ?_|exact ⟨_,by assumption⟩|refine cell_call (by assumption) ?_|refine far_cell (by assumption) ?_ ?_|refine ex_call (by assumption) ?_|refine ex_far (by assumption) ?_ ?_)|(intro hh;injection hh with hh1 hh2;omega)|omega|(simp;done)|(simp;omega));done)|go_simp)),(by (first|with_reducible assumption|((repeat' first|with_reducible (first|assumption|refine frz_al _ ?_ ?_|refine frz_set _ ?_|refine frz_call (by assumption) ?_ ?_|refine far_frz (by assumption) ?_ ?_ ?_)|omega|(simp;done)|(simp;omega));done)|go_simp)),(by (first|with_reducible assumption|((repeat' first|with_reducible (first|assumption|refine cell_al _ ?_|refine cell_eq _ ?_|refine cell_ne _ ?_ ?_|refine ex_set _ ?_|refine ex_al _ ?_|exact ⟨_,by assumption⟩|refine cell_call (by assumption) ?_|refine far_cell (by assumption) ?_ ?_|refine ex_call (by assumption) ?_|refine ex_far (by assumption) ?_ ?_)|(intro hh;injection hh with hh1 hh2;omega)|omega|(simp;done)|(simp;omega));done)|go_simp)),(by (first|with_reducible assumption|((repeat' first|with_reducible (first|assumption|refine frz_al _ ?_ ?_|refine frz_set _ ?_|refine frz_call (by assumption) ?_ ?_|refine far_frz (by assumption) ?_ ?_ ?_)|omega|(simp;done)|(simp;omega));done)|go_simp)),(by (first|with_reducible assumption|((repeat' first|with_reducible (first|assumption|refine cell_al _ ?_|refine cell_eq _ ?_|refine cell_ne _ ?_ ?_|refine ex_set _ ?_|refine ex_al _ ?_|exact ⟨_,by assumption⟩|refine cell_call (by assumption) ?_|refine far_cell (by assumption) ?_ ?_|refine ex_call (by assumption) ?_|refine ex_far (by assumption) ?_ ?_)|(intro hh;injection hh with hh1 hh2;omega)|omega|(simp;done)|(simp;omega));done)|go_simp)),(by (first|with_reducible assumption|((repeat' first|with_reducible (first|assumption|refine cell_al _ ?_|refine cell_eq _ ?_|refine cell_ne _ ?_ ?_|refine ex_set _ ?_|refine ex_al _ ?_|exact ⟨_,by assumption⟩|refine cell_call (by assumption) ?_|refine far_cell (by assumption) ?_ ?_|refine ex_call (by assumption) ?_|refine ex_far (by assumption) ?_ ?_)|(intro hh;injection hh with hh1 hh2;omega)|omega|(simp;done)|(simp;omega));done)|go_simp)),(by (first|with_reducible assumption|((repeat' first|with_reducible (first|assumption|refine cell_al _ ?_|refine cell_eq _ ?_|refine cell_ne _ ?_ ?_|refine ex_set _ ?_|refine ex_al _ ?_|exact ⟨_,by assumption⟩|refine cell_call (by assumption) ?_|refine far_cell (by assumption) ?_ ?_|refine ex_call (by assumption) ?_|refine ex_far (by assumption) ?_ ?_)|(intro hh;injection hh with hh1 hh2;omega)|omega|(simp;done)|(simp;omega));done)|go_simp))⟩
     obtain ⟨g,X,Y,Z,rfl,hLB,x0,x1,x2,h11,g11,hg,c00,f00,c01,f01,c02,f02,c10,c11,c12⟩:=hcut
     obtain ⟨w11,rfl⟩: ∃w11:World,w11=wc:=⟨_,rfl⟩
     have hs11:=h11.lt
     have zg:=World.block_lt_of_cell? _ _ x0
     change g<w11.heap.size at zg
     have hz11:w.heap.size≤w11.heap.size:=by omega
     have z0:w.heap.size<w11.heap.size:=by omega
     have z1:w1.heap.size<w11.heap.size:=by omega
     have nb2:g≠b:=by omega
     go_wp2_with fail
     refine (one_a (B:=B) b ((((K+50)+8)+2)+2) 2 _ (by repeat' with_reducible first|assumption|refine Cur.alc ?_ _|refine Cur.drw ?_|refine Cur.setN ?_ (by first|with_reducible assumption|omega)) (by omega) (by omega)).mono ?_
     rintro e12 w12 ⟨t12,rfl,h12,g12⟩
     have hs12:=h12.lt
     have hz12:w.heap.size≤w12.heap.size:=Nat.le_trans (by first|exact Nat.le_refl _|with_reducible assumption|(simp;done)|(simp;omega)) g12.size
     have tq0:=Wi3.d g12 w.heap.size 0 0 0 nb0
     have tq1:=Ri3.d g12 w1.heap.size x y z nb1
     have tq2:=Ri3.d g12 g X Y Z nb2
     (try clear c00 c01 c02 f00 f01 f02 z0)
     (try clear c10 c11 c12 z1)
     (try clear c20 c21 c22 z2)
     obtain ⟨c00,c01,c02,f00,f01,f02,z0⟩:=tq0
     obtain ⟨c10,c11,c12,z1⟩:=tq1
     obtain ⟨c20,c21,c22,z2⟩:=tq2
     cases t12
     ·go_wp2
      refine bodyPost_ret (v:= .tuple #[.agg #[.int .i64 X,.int .i64 Y,.int .i64 Z],.int .i64 n]) (by simp [results,Tryz.results41,go_sem, *]) rfl ?_
      exact ⟨_,_,_,_,rfl,by unfold LvB at hLB;exact ⟨by unfold R64;omega,by unfold R64;omega,by unfold R64;omega,p4⟩,Cur.le (K:=(((((K+50)+8)+2)+2)+2)) (by repeat' with_reducible first|assumption|refine Cur.alc ?_ _|refine Cur.drw ?_|refine Cur.setN ?_ (by first|with_reducible assumption|omega)) (by omega),(by repeat' first|exact World.grownBy.refl' _ _|refine World.grownBy.setNew ?_ (by first|omega|(simp;omega)) _ _|refine World.grownBy.alloc' ?_ _|refine World.grownBy.drewN' ?_ _|refine World.grownBy.drew' ?_|refine World.grownBy.trans' ?_ (by assumption)|refine World.grownBy.below' ?_ (by assumption))⟩
     ·have nb12: ¬w12.heap.size=b:=by omega
      have HMR:Hid (∀v:Int,0≤v∧v<3→ -100≤n*(v-1)∧n*(v-1)≤100):=hide fun v hv=>by
       have:=mul_bd (A:=30) (B:=2) (a:=n) (b:=v-1) (by omega) (by omega) (by omega)
       omega
      have HMW:Hid (∀v:Int,0≤v∧v<3→IntKind.i64.wrap (n*IntKind.i64.wrap (v-1))=n*(v-1)):=hide fun v hv=>by
       have:=(unhide HMR) v hv
       rw[wr_in (x:=v-1) (by omega),wr_in (by omega)]
      have k100:(-100:Int)≤1∧(1:Int)≤100:=by decide
      have k000:(-100:Int)≤0∧(0:Int)≤100:=by decide
      clear HLC HMM hlen hgb q3 q4 nb7 zA zB h8 hs8 hz8 b8 hd k1
      have yA:w.heap.size<w12.heap.size:=z0
      have yB:w1.heap.size<w12.heap.size:=z1
      have yC:g<w12.heap.size:=z2
      go_upto_region 12 with fail
      go_cut [8] (fun s8 wx=> ∃(g8:Nat) (U V T:Int),s8= .pointer (some ⟨g8,0,none⟩)∧(R64 U∧R64 V∧R64 T)∧wx.cell? ⟨g8,0,none⟩=some (.int .i64 U)∧wx.cell? ⟨g8,1,none⟩=some (.int .i64 V)∧wx.cell? ⟨g8,2,none⟩=some (.int .i64 T)∧Cur B wx b ((((((K+50)+8)+2)+2)+2)+2)∧w.grownBy wx (some b)∧g<g8∧wx.cell? ⟨w.heap.size,0,none⟩=some (.int .i64 0)∧wx.frozen? ⟨w.heap.size,0,none⟩=false∧wx.cell? ⟨w.heap.size,1,none⟩=some (.int .i64 0)∧wx.frozen? ⟨w.heap.size,1,none⟩=false∧wx.cell? ⟨w.heap.size,2,none⟩=some (.int .i64 0)∧wx.frozen? ⟨w.heap.size,2,none⟩=false∧wx.cell? ⟨w1.heap.size,0,none⟩=some (.int .i64 x)∧wx.cell? ⟨w1.heap.size,1,none⟩=some (.int .i64 y)∧wx.cell? ⟨w1.heap.size,2,none⟩=some (.int .i64 z)∧wx.cell? ⟨g,0,none⟩=some (.int .i64 X)∧wx.cell? ⟨g,1,none⟩=some (.int .i64 Y)∧wx.cell? ⟨g,2,none⟩=some (.int .i64 Z))
      case first=>
       go_region_with (first|(go_at_call 43;refine (pick_a (B:=B) b (((((K+50)+8)+2)+2)+2) 3 _ (by repeat' with_reducible first|assumption|refine Cur.alc ?_ _|refine Cur.drw ?_|refine Cur.setN ?_ (by first|with_reducible assumption|omega)|refine Cur.below ?_ (by assumption)) (by omega) (by omega)).mono ?_;rintro e13 w13 ⟨v13,rfl,p13,h13,g13⟩;have tq0:=Wi3.d g13 w.heap.size 0 0 0 nb0;have tq1:=Ri3.d g13 w1.heap.size x y z nb1;have tq2:=Ri3.d g13 g X Y Z nb2;(try clear c00 c01 c02 f00 f01 f02 z0);(try clear c10 c11 c12 z1);(try clear c20 c21 c22 z2);obtain ⟨c00,c01,c02,f00,f01,f02,z0⟩:=tq0;obtain ⟨c10,c11,c12,z1⟩:=tq1;obtain ⟨c20,c21,c22,z2⟩:=tq2;obtain ⟨dc,df,dl⟩:=dcell g13;have hs13:=h13.lt;have hz13:=g13.size;have mc130:=fun o h=>dc (w12.heap.size) o h nb12;have mf130:=fun o h=>df (w12.heap.size) o h nb12;have ml130:=dl (w12.heap.size);clear dc df dl;have hmn:=(unhide HMR) v13 p13)|(go_loud (go_at_call 50;rw [(unhide HMW) v13 p13];refine (foAct_R X Y Z 1 0 (n*(v13-1)) 1 _ hLB k100 k000 hmn k100).mono ?_;rintro e14 w14 ⟨U,V,T,rfl,hUVT,b14⟩;have tq0:=Wi3.c b14 w.heap.size 0 0 0;have tq1:=Ri3.c b14 w1.heap.size x y z;have tq2:=Ri3.c b14 g X Y Z;(try clear c00 c01 c02 f00 f01 f02);(try clear c10 c11 c12);(try clear c20 c21 c22);obtain ⟨c00,c01,c02,f00,f01,f02,z0⟩:=tq0;obtain ⟨c10,c11,c12,z1⟩:=tq1;obtain ⟨c20,c21,c22,z2⟩:=tq2;obtain ⟨dc,df⟩:=bcell b14;have dl:=lt_keep b14;have hz14:=b14.size;have mc140:=fun o h=>dc (w12.heap.size) o h;have mf140:=fun o h=>df (w12.heap.size) o h;have ml140:=dl (w12.heap.size);have mc141:=fun o h=>dc (w13.heap.size) o h;have mf141:=fun o h=>df (w13.heap.size) o h;have ml141:=dl (w13.heap.size);clear dc df dl)))
       all_goals
        have hq1:g<w13.heap.size:=(by have q9:=g13.size;first|omega|(simp at q9;omega))
        have hq2:w13.heap.size≤w14.heap.size:=(by have q9:=b14.size;first|omega|(simp at q9;omega))
        go_wp2_with fail
        go_meet
        exact ⟨_,U,V,T,rfl,hUVT,(by (first|with_reducible assumption|((repeat' first|with_reducible (first|assumption|refine cell_al _ ?_|refine cell_eq _ ?_|refine cell_ne _ ?_ ?_|refine ex_set _ ?_|refine ex_al _ ?_|exact ⟨_,by assumption⟩|refine cell_call (by assumption) ?_|refine far_cell (by assumption) ?_ ?_|refine ex_call (by assumption) ?_|refine ex_far (by assumption) ?_ ?_)|(intro hh;injection hh with hh1 hh2;omega)|omega|(simp;done)|(simp;omega));done)|go_simp)),(by (first|with_reducible assumption|((repeat' first|with_reducible (first|assumption|refine cell_al _ ?_|refine cell_eq _ ?_|refine cell_ne _ ?_ ?_|refine ex_set _ ?_|refine ex_al _ ?_|exact ⟨_,by assumption⟩|refine cell_call (by assumption) ?_|refine far_cell (by assumption) ?_ ?_|refine ex_call (by assumption) ?_|refine ex_far (by assumption) ?_ ?_)|(intro hh;injection hh with hh1 hh2;omega)|omega|(simp;done)|(simp;omega));done)|go_simp)),(by (first|with_reducible assumption|((repeat' first|with_reducible (first|assumption|refine cell_al _ ?_|refine cell_eq _ ?_|refine cell_ne _ ?_ ?_|refine ex_set _ ?_|refine ex_al _ ?_|exact ⟨_,by assumption⟩|refine cell_call (by assumption) ?_|refine far_cell (by assumption) ?_ ?_|refine ex_call (by assumption) ?_|refine ex_far (by assumption) ?_ ?_)|(intro hh;injection hh with hh1 hh2;omega)|omega|(simp;done)|(simp;omega));done)|go_simp)),(by repeat' with_reducible first|assumption|refine Cur.alc ?_ _|refine Cur.drw ?_|refine Cur.setN ?_ (by first|with_reducible assumption|omega)|refine Cur.below ?_ (by assumption)),(by repeat' first|exact World.grownBy.refl' _ _|refine World.grownBy.setNew ?_ (by first|omega|(simp;omega)) _ _|refine World.grownBy.alloc' ?_ _|refine World.grownBy.drewN' ?_ _|refine World.grownBy.drew' ?_|assumption|refine World.grownBy.trans' ?_ (by assumption)|refine World.grownBy.below' ?_ (by assumption)),by first|omega|(simp;omega),(by (first|with_reducible assumption|((repeat' first|with_reducible (first|assumption|refine cell_al _ ?_|refine cell_eq _ ?_|refine cell_ne _ ?_ ?_|refine ex_set _ ?_|refine ex_al _ ?_|exact ⟨_,by assumption⟩|refine cell_call (by assumption) ?_|refine far_cell (by assumption) ?_ ?_|refine ex_call (by assumption) ?_|refine ex_far (by assumption) ?_ ?_)|(intro hh;injection hh with hh1 hh2;omega)|omega|(simp;done)|(simp;omega));done)|go_simp)),(by (first|with_reducible assumption|((repeat' first|with_reducible (first|assumption|refine frz_al _ ?_ ?_|refine frz_set _ ?_|refine frz_call (by assumption) ?_ ?_|refine far_frz (by assumption) ?_ ?_ ?_)|omega|(simp;done)|(simp;omega));done)|go_simp)),(by (first|with_reducible assumption|((repeat' first|with_reducible (first|assumption|refine cell_al _ ?_|refine cell_eq _ ?_|refine cell_ne _ ?_ ?_|refine ex_set _ ?_|refine ex_al _ ?_|exact ⟨_,by assumption⟩|refine cell_call (by assumption) ?_|refine far_cell (by assumption) ?_ ?_|refine ex_call (by assumption) ?_|refine ex_far (by assumption) ?_ ?_)|(intro hh;injection hh with hh1 hh2;omega)|omega|(simp;done)|(simp;omega));done)|go_simp)),(by (first|with_reducible assumption|((repeat' first|with_reducible (first|assumption|refine frz_al _ ?_ ?_|refine frz_set _ ?_|refine frz_call (by assumption) ?_ ?_|refine far_frz (by assumption) ?_ ?_ ?_)|omega|(simp;done)|(simp;omega));done)|go_simp)),(by (first|with_reducible assumption|((repeat' first|with_reducible (first|assumption|refine cell_al _ ?_|refine cell_eq _ ?_|refine cell_ne _ ?_ ?_|refine ex_set _ ?_|refine ex_al _ ?_|exact ⟨_,by assumption⟩|refine cell_call (by assumption) ?_|refine far_cell (by assumption) ?_ ?_|refine ex_call (by assumption) ?_|refine ex_far (by assumption) ?_ ?_)|(intro hh;injection hh with hh1 hh2;omega)|omega|(simp;done)|(simp;omega));done)|go_simp)),(by (first|with_reducible assumption|((repeat' first|with_reducible (first|assumption|refine frz_al _ ?_ ?_|refine frz_set _ ?_|refine frz_call (by assumption) ?_ ?_|refine far_frz (by assumption) ?_ ?_ ?_)|omega|(simp;done)|(simp;omega));done)|go_simp)),(by (first|with_reducible assumption|((repeat' first|with_reducible (first|assumption|refine cell_al _ ?_|refine cell_eq _ ?_|refine cell_ne _ ?_ ?_|refine ex_set _ ?_|refine ex_al _ ?_|exact ⟨_,by assumption⟩|refine cell_call (by assumption) ?_|refine far_cell (by assumption) ?_ ?_|refine ex_call (by assumption) ?_|refine ex_far (by assumption) ?_ ?_)|(intro hh;injection hh with hh1 hh2;omega)|omega|(simp;done)|(simp;omega));done)|go_simp)),(by (first|with_reducible assumption|((repeat' first|with_reducible (first|assumption|refine cell_al _ ?_|refine cell_eq _ ?_|refine cell_ne _ ?_ ?_|refine ex_set _ ?_|refine ex_al _ ?_|exact ⟨_,by assumption⟩|refine cell_call (by assumption) ?_|refine far_cell (by assumption) ?_ ?_|refine ex_call (by assumption) ?_|refine ex_far (by assumption) ?_ ?_)|(intro hh;injection hh with hh1 hh2;omega)|omega|(simp;done)|(simp;omega));done)|go_simp)),(by (first|with_reducible assumption|((repeat' first|with_reducible (first|assumption|refine cell_al _ ?_|refine cell_eq _ ?_|refine cell_ne _ ?_ ?_|refine ex_set _ ?_|refine ex_al _ ?_|exact ⟨_,by assumption⟩|refine cell_call (by assumption) ?_|refine far_cell (by assumption) ?_ ?_|refine ex_call (by assumption) ?_|refine ex_far (by assumption) ?_ ?_)|(intro hh;injection hh with hh1 hh2;omega)|omega|(simp;done)|(simp;omega));done)|go_simp)),(by (first|with_reducible assumption|((repeat' first|with_reducible (first|assumption|refine cell_al _ ?_|refine cell_eq _ ?_|refine cell_ne _ ?_ ?_|refine ex_set _ ?_|refine ex_al _ ?_|exact ⟨_,by assumption⟩|refine cell_call (by assumption) ?_|refine far_cell (by assumption) ?_ ?_|refine ex_call (by assumption) ?_|refine ex_far (by assumption) ?_ ?_)|(intro hh;injection hh with hh1 hh2;omega)|omega|(simp;done)|(simp;omega));done)|go_simp)),(by (first|with_reducible assumption|((repeat' first|with_reducible (first|assumption|refine cell_al _ ?_|refine cell_eq _ ?_|refine cell_ne _ ?_ ?_|refine ex_set _ ?_|refine ex_al _ ?_|exact ⟨_,by assumption⟩|refine cell_call (by assumption) ?_|refine far_cell (by assumption) ?_ ?_|refine ex_call (by assumption) ?_|refine ex_far (by assumption) ?_ ?_)|(intro hh;injection hh with hh1 hh2;omega)|omega|(simp;done)|(simp;omega));done)|go_simp)),(by (first|with_reducible assumption|((repeat' first|with_reducible (first|assumption|refine cell_al _ ?_|refine cell_eq _ ?_|refine cell_ne _ ?_ ?_|refine ex_set _ ?_|refine ex_al _ ?_|exact ⟨_,by assumption⟩|refine cell_call (by assumption) ?_|refine far_cell (by assumption) ?_ ?_|refine ex_call (by assumption) ?_|refine ex_far (by assumption) ?_ ?_)|(intro hh;injection hh with hh1 hh2;omega)|omega|(simp;done)|(simp;omega));done)|go_simp))⟩
      obtain ⟨g8,U,V,T,rfl,hUVT,y0,y1,y2,h15,g15,hg8,c00,f00,c01,f01,c02,f02,c10,c11,c12,c20,c21,c22⟩:=hcut
      obtain ⟨w15,rfl⟩: ∃w15:World,w15=wc:=⟨_,rfl⟩
      have hs15:=h15.lt
      have zg8:=World.block_lt_of_cell? _ _ y0
      change g8<w15.heap.size at zg8
      have hz15:w.heap.size≤w15.heap.size:=by omega
      have z0:w.heap.size<w15.heap.size:=by omega
      have z1:w1.heap.size<w15.heap.size:=by omega
      have z2:g<w15.heap.size:=by omega
      cases k5:formB U V T
      ·go_wp2_with fail
       refine (foGood_e U V T false _ k5).mono ?_
       rintro e16 w16 ⟨rfl,b16⟩
       have tq0:=Wi3.c b16 w.heap.size 0 0 0
       have tq1:=Ri3.c b16 w1.heap.size x y z
       have tq2:=Ri3.c b16 g X Y Z
       have tq3:=Ri3.c b16 g8 U V T
       try clear c00 c01 c02 f00 f01 f02
       try clear c10 c11 c12
       try clear c20 c21 c22
       try clear c30 c31 c32
       obtain ⟨c00,c01,c02,f00,f01,f02,z0⟩:=tq0
       obtain ⟨c10,c11,c12,z1⟩:=tq1
       obtain ⟨c20,c21,c22,z2⟩:=tq2
       obtain ⟨c30,c31,c32,z3⟩:=tq3
       have h16:=Cur.below (B:=B) (b:=b) (K:=((((((K+50)+8)+2)+2)+2)+2)) (by repeat' with_reducible first|assumption|refine Cur.alc ?_ _|refine Cur.drw ?_|refine Cur.setN ?_ (by first|with_reducible assumption|omega)) b16
       have hs16:=h16.lt
       have hz16:w.heap.size≤w16.heap.size:=Nat.le_trans (by first|exact Nat.le_refl _|omega|(simp;done)|(simp;omega)) b16.size
       go_wp2
       refine bodyPost_ret (v:= .tuple #[.agg #[.int .i64 X,.int .i64 Y,.int .i64 Z],.int .i64 n]) (by simp [results,Tryz.results41,go_sem, *]) rfl ?_
       exact ⟨_,_,_,_,rfl,by unfold LvB at hLB;exact ⟨by unfold R64;omega,by unfold R64;omega,by unfold R64;omega,p4⟩,Cur.le (K:=((((((K+50)+8)+2)+2)+2)+2)) (by repeat' with_reducible first|assumption|refine Cur.alc ?_ _|refine Cur.drw ?_|refine Cur.setN ?_ (by first|with_reducible assumption|omega)) (by omega),(by repeat' first|exact World.grownBy.refl' _ _|refine World.grownBy.setNew ?_ (by first|omega|(simp;omega)) _ _|refine World.grownBy.alloc' ?_ _|refine World.grownBy.drewN' ?_ _|refine World.grownBy.drew' ?_|refine World.grownBy.trans' ?_ (by assumption)|refine World.grownBy.below' ?_ (by assumption))⟩
      ·go_wp2_with fail
       refine (foGood_e U V T true _ k5).mono ?_
       rintro e16 w16 ⟨rfl,b16⟩
       have tq0:=Wi3.c b16 w.heap.size 0 0 0
       have tq1:=Ri3.c b16 w1.heap.size x y z
       have tq2:=Ri3.c b16 g X Y Z
       have tq3:=Ri3.c b16 g8 U V T
       try clear c00 c01 c02 f00 f01 f02
       try clear c10 c11 c12
       try clear c20 c21 c22
       try clear c30 c31 c32
       obtain ⟨c00,c01,c02,f00,f01,f02,z0⟩:=tq0
       obtain ⟨c10,c11,c12,z1⟩:=tq1
       obtain ⟨c20,c21,c22,z2⟩:=tq2
       obtain ⟨c30,c31,c32,z3⟩:=tq3
       have h16:=Cur.below (B:=B) (b:=b) (K:=((((((K+50)+8)+2)+2)+2)+2)) (by repeat' with_reducible first|assumption|refine Cur.alc ?_ _|refine Cur.drw ?_|refine Cur.setN ?_ (by first|with_reducible assumption|omega)) b16
       have hs16:=h16.lt
       have hz16:w.heap.size≤w16.heap.size:=Nat.le_trans (by first|exact Nat.le_refl _|omega|(simp;done)|(simp;omega)) b16.size
       go_wp2
       refine bodyPost_ret (v:= .tuple #[.agg #[.int .i64 U,.int .i64 V,.int .i64 T],.int .i64 n]) (by simp [results,Tryz.results41,go_sem, *]) rfl ?_
       exact ⟨_,_,_,_,rfl,⟨hUVT.1,hUVT.2.1,hUVT.2.2,p4⟩,Cur.le (K:=((((((K+50)+8)+2)+2)+2)+2)) (by repeat' with_reducible first|assumption|refine Cur.alc ?_ _|refine Cur.drw ?_|refine Cur.setN ?_ (by first|with_reducible assumption|omega)) (by omega),(by repeat' first|exact World.grownBy.refl' _ _|refine World.grownBy.setNew ?_ (by first|omega|(simp;omega)) _ _|refine World.grownBy.alloc' ?_ _|refine World.grownBy.drewN' ?_ _|refine World.grownBy.drew' ?_|refine World.grownBy.trans' ?_ (by assumption)|refine World.grownBy.below' ?_ (by assumption))⟩
   ·go_wp2
    refine bodyPost_ret (v:= .tuple #[.agg #[.int .i64 x,.int .i64 y,.int .i64 z],.int .i64 n]) (by simp [results,Tryz.results41,go_sem, *]) rfl ?_
    exact ⟨_,_,_,_,rfl,⟨p1.1,p1.2.1,p1.2.2,p4⟩,Cur.le (K:=(((K+50)+8)+2)) (by repeat' with_reducible first|assumption|refine Cur.alc ?_ _|refine Cur.drw ?_|refine Cur.setN ?_ (by first|with_reducible assumption|omega)) (by omega),(by repeat' first|exact World.grownBy.refl' _ _|refine World.grownBy.setNew ?_ (by first|omega|(simp;omega)) _ _|refine World.grownBy.alloc' ?_ _|refine World.grownBy.drewN' ?_ _|refine World.grownBy.drew' ?_|refine World.grownBy.trans' ?_ (by assumption)|refine World.grownBy.below' ?_ (by assumption))⟩

end Go.Proofs.YtobkcnmlmmhpoaaGreat
