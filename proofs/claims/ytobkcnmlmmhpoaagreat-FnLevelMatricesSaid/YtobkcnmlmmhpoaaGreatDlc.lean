/- Matrices drawn. The walk of impl.squareCounts: the table of the numbers of representations. What the laws of squares draw. What the law of level matrices draws: a matrix and a level. -/
import Derived.Test.YtobkcnmlmmhpoaaGreatDrc
import Derived.Deep.RegionWith
import Derived.Test.YtobkcnmlmmhpoaaGreatNum
import Derived.Test.YtobkcnmlmmhpoaaGreatConv
import Derived.Deep.OwnRows
import Derived.Test.YtobkcnmlmmhpoaaGreatDrw
namespace Go.Proofs.YtobkcnmlmmhpoaaGreat
open Go.RowKit
set_option linter.unusedVariables false
set_option linter.unusedSimpArgs false
attribute [local go_sem] q2 q3 q4 q5 q6 q7 q8 q9 q10 q11 q12

variable {B:Nat}

set_option maxRecDepth 100000 in
set_option maxHeartbeats 8000000 in
theorem matrix_d (b:Nat) (K:Int) (w:World) (h0:Cur B w b K) (hK:K≤6000000000):Calls Tryz.prog 64 #[.pointer (some ⟨b,0,none⟩)] w (DrewM B w b (K+60) (fun p q r s=>R64 p∧R64 q∧R64 r∧R64 s)):=by
 have hs0:=h0.lt
 have nb0:w.heap.size≠b:=by omega
 go_enter Tryz.func64,Tryz.ntmps64
 go_wp2_with fail
 refine (proper_d (B:=B) b K  _ (by repeat' with_reducible first|assumption|refine Cur.alc ?_ _|refine Cur.drw ?_|refine Cur.setN ?_ (by first|with_reducible assumption|omega)) (by omega)).mono ?_
 rintro e1 w1 ⟨p,q,r,s,rfl,p1,h1,g1⟩
 have hs1:=h1.lt
 have hz1:w.heap.size≤w1.heap.size:=Nat.le_trans (by first|exact Nat.le_refl _|with_reducible assumption|(simp;done)|(simp;omega)) g1.size
 have tq0:=Wi4.d g1 w.heap.size 0 0 0 0 nb0
 (try clear c00 c01 c02 c03 f00 f01 f02 f03 z0)
 obtain ⟨c00,c01,c02,c03,f00,f01,f02,f03,z0⟩:=tq0
 have nb1:w1.heap.size≠b:=by omega
 obtain ⟨iP,iQ,iR,iS⟩:=p1
 unfold In at iP iQ iR iS
 have nAB: ¬w.heap.size=w1.heap.size:=by have q9:=g1.size;simp at q9;omega
 have nBA: ¬w1.heap.size=w.heap.size:=fun e=>nAB e.symm
 go_wp2_with fail
 refine (pick_a (B:=B) b (K+22) 10 _ (by repeat' with_reducible first|assumption|refine Cur.alc ?_ _|refine Cur.drw ?_|refine Cur.setN ?_ (by first|with_reducible assumption|omega)) (by omega) (by omega)).mono ?_
 rintro e2 w2 ⟨v2,rfl,p2,h2,g2⟩
 have hs2:=h2.lt
 have hz2:w.heap.size≤w2.heap.size:=Nat.le_trans (by first|exact Nat.le_refl _|with_reducible assumption|(simp;done)|(simp;omega)) g2.size
 have tq0:=Wi4.d g2 w.heap.size 0 0 0 0 nb0
 have tq1:=Wi4.d g2 w1.heap.size p q r s nb1
 (try clear c00 c01 c02 c03 f00 f01 f02 f03 z0)
 (try clear c10 c11 c12 c13 f10 f11 f12 f13 z1)
 obtain ⟨c00,c01,c02,c03,f00,f01,f02,f03,z0⟩:=tq0
 obtain ⟨c10,c11,c12,c13,f10,f11,f12,f13,z1⟩:=tq1
 by_cases q0:v2=0
 ·subst q0
  go_wp2_with fail
  refine (number_d (B:=B) b ((K+22)+2)  _ (by repeat' with_reducible first|assumption|refine Cur.alc ?_ _|refine Cur.drw ?_|refine Cur.setN ?_ (by first|with_reducible assumption|omega)) (by omega)).mono ?_
  rintro e3 w3 ⟨v3,rfl,p3,h3,g3⟩
  have hs3:=h3.lt
  have hz3:w.heap.size≤w3.heap.size:=Nat.le_trans (by first|exact Nat.le_refl _|with_reducible assumption|(simp;done)|(simp;omega)) g3.size
  have tq0:=Wi4.d g3 w.heap.size 0 0 0 0 nb0
  have tq1:=Wi4.d g3 w1.heap.size p q r s nb1
  (try clear c00 c01 c02 c03 f00 f01 f02 f03 z0)
  (try clear c10 c11 c12 c13 f10 f11 f12 f13 z1)
  obtain ⟨c00,c01,c02,c03,f00,f01,f02,f03,z0⟩:=tq0
  obtain ⟨c10,c11,c12,c13,f10,f11,f12,f13,z1⟩:=tq1
  go_wp2_with fail
  refine (number_d (B:=B) b (((K+22)+2)+8)  _ (by repeat' with_reducible first|assumption|refine Cur.alc ?_ _|refine Cur.drw ?_|refine Cur.setN ?_ (by first|with_reducible assumption|omega)) (by omega)).mono ?_
  rintro e4 w4 ⟨v4,rfl,p4,h4,g4⟩
  have hs4:=h4.lt
  have hz4:w.heap.size≤w4.heap.size:=Nat.le_trans (by first|exact Nat.le_refl _|with_reducible assumption|(simp;done)|(simp;omega)) g4.size
  have tq0:=Wi4.d g4 w.heap.size 0 0 0 0 nb0
  have tq1:=Wi4.d g4 w1.heap.size p q r s nb1
  (try clear c00 c01 c02 c03 f00 f01 f02 f03 z0)
  (try clear c10 c11 c12 c13 f10 f11 f12 f13 z1)
  obtain ⟨c00,c01,c02,c03,f00,f01,f02,f03,z0⟩:=tq0
  obtain ⟨c10,c11,c12,c13,f10,f11,f12,f13,z1⟩:=tq1
  go_wp2_with fail
  refine (number_d (B:=B) b ((((K+22)+2)+8)+8)  _ (by repeat' with_reducible first|assumption|refine Cur.alc ?_ _|refine Cur.drw ?_|refine Cur.setN ?_ (by first|with_reducible assumption|omega)) (by omega)).mono ?_
  rintro e5 w5 ⟨v5,rfl,p5,h5,g5⟩
  have hs5:=h5.lt
  have hz5:w.heap.size≤w5.heap.size:=Nat.le_trans (by first|exact Nat.le_refl _|with_reducible assumption|(simp;done)|(simp;omega)) g5.size
  have tq0:=Wi4.d g5 w.heap.size 0 0 0 0 nb0
  have tq1:=Wi4.d g5 w1.heap.size p q r s nb1
  (try clear c00 c01 c02 c03 f00 f01 f02 f03 z0)
  (try clear c10 c11 c12 c13 f10 f11 f12 f13 z1)
  obtain ⟨c00,c01,c02,c03,f00,f01,f02,f03,z0⟩:=tq0
  obtain ⟨c10,c11,c12,c13,f10,f11,f12,f13,z1⟩:=tq1
  go_wp2_with fail
  refine (number_d (B:=B) b (((((K+22)+2)+8)+8)+8)  _ (by repeat' with_reducible first|assumption|refine Cur.alc ?_ _|refine Cur.drw ?_|refine Cur.setN ?_ (by first|with_reducible assumption|omega)) (by omega)).mono ?_
  rintro e6 w6 ⟨v6,rfl,p6,h6,g6⟩
  have hs6:=h6.lt
  have hz6:w.heap.size≤w6.heap.size:=Nat.le_trans (by first|exact Nat.le_refl _|with_reducible assumption|(simp;done)|(simp;omega)) g6.size
  have tq0:=Wi4.d g6 w.heap.size 0 0 0 0 nb0
  have tq1:=Wi4.d g6 w1.heap.size p q r s nb1
  (try clear c00 c01 c02 c03 f00 f01 f02 f03 z0)
  (try clear c10 c11 c12 c13 f10 f11 f12 f13 z1)
  obtain ⟨c00,c01,c02,c03,f00,f01,f02,f03,z0⟩:=tq0
  obtain ⟨c10,c11,c12,c13,f10,f11,f12,f13,z1⟩:=tq1
  go_wp2
  refine bodyPost_ret (v:= .agg #[.int .i64 v3,.int .i64 v4,.int .i64 v5,.int .i64 v6]) (by simp [results,Tryz.results64,go_sem, *]) rfl ?_
  exact ⟨_,_,_,_,rfl,⟨p3,p4,p5,p6⟩,Cur.le (K:=((((((K+22)+2)+8)+8)+8)+8)) (by repeat' with_reducible first|assumption|refine Cur.alc ?_ _|refine Cur.drw ?_|refine Cur.setN ?_ (by first|with_reducible assumption|omega)|refine Cur.below ?_ (by assumption)) (by omega),(by repeat' first|exact World.grownBy.refl' _ _|refine World.grownBy.setNew ?_ (by first|omega|(simp;omega)) _ _|refine World.grownBy.alloc' ?_ _|refine World.grownBy.drewN' ?_ _|refine World.grownBy.drew' ?_|refine World.grownBy.trans' ?_ (by assumption)|refine World.grownBy.below' ?_ (by assumption))⟩
 ·skip
  by_cases q1:v2=1
  ·subst q1
   go_wp2
   refine bodyPost_ret (v:= .agg #[.int .i64 q,.int .i64 p,.int .i64 s,.int .i64 r]) (by simp [results,Tryz.results64,go_sem, *]) rfl ?_
   exact ⟨_,_,_,_,rfl,by unfold R64;omega,Cur.le (K:=((K+22)+2)) (by repeat' with_reducible first|assumption|refine Cur.alc ?_ _|refine Cur.drw ?_|refine Cur.setN ?_ (by first|with_reducible assumption|omega)|refine Cur.below ?_ (by assumption)) (by omega),(by repeat' first|exact World.grownBy.refl' _ _|refine World.grownBy.setNew ?_ (by first|omega|(simp;omega)) _ _|refine World.grownBy.alloc' ?_ _|refine World.grownBy.drewN' ?_ _|refine World.grownBy.drew' ?_|refine World.grownBy.trans' ?_ (by assumption)|refine World.grownBy.below' ?_ (by assumption))⟩
  ·skip
   by_cases q2:v2=2
   ·subst q2
    go_upto_region 8 with fail
    go_region_with (go_at_call 43;refine (pick_a (B:=B) b ((K+22)+2) 3 _ (by repeat' with_reducible first|assumption|refine Cur.alc ?_ _|refine Cur.drw ?_|refine Cur.setN ?_ (by first|with_reducible assumption|omega)|refine Cur.below ?_ (by assumption)) (by omega) (by omega)).mono ?_;rintro e3 w3 ⟨v3,rfl,p3,h3,g3⟩;have tq0:=Wi4.d g3 w.heap.size 0 0 0 0 nb0;have tq1:=Wi4.d g3 w1.heap.size p q r s nb1;(try clear c00 c01 c02 c03 f00 f01 f02 f03 z0);(try clear c10 c11 c12 c13 f10 f11 f12 f13 z1);obtain ⟨c00,c01,c02,c03,f00,f01,f02,f03,z0⟩:=tq0;obtain ⟨c10,c11,c12,c13,f10,f11,f12,f13,z1⟩:=tq1;have hs3:=h3.lt;have hz3:w.heap.size≤w3.heap.size:=(Nat.le_trans (by first|omega|(simp;done)|(simp;omega)) g3.size))
    all_goals
     go_wp2
     refine bodyPost_ret (v:= .agg #[.int .i64 p,.int .i64 (q+(1+v3)),.int .i64 r,.int .i64 s]) (by simp [results,Tryz.results64,go_sem, *]) rfl ?_
     exact ⟨_,_,_,_,rfl,by unfold R64;omega,Cur.le (K:=(((K+22)+2)+2)) (by repeat' with_reducible first|assumption|refine Cur.alc ?_ _|refine Cur.drw ?_|refine Cur.setN ?_ (by first|with_reducible assumption|omega)|refine Cur.below ?_ (by assumption)) (by omega),(by repeat' first|exact World.grownBy.refl' _ _|refine World.grownBy.setNew ?_ (by first|omega|(simp;omega)) _ _|refine World.grownBy.alloc' ?_ _|refine World.grownBy.drewN' ?_ _|refine World.grownBy.drew' ?_|refine World.grownBy.trans' ?_ (by assumption)|refine World.grownBy.below' ?_ (by assumption))⟩
   ·skip
    go_wp2
    refine bodyPost_ret (v:= .agg #[.int .i64 p,.int .i64 q,.int .i64 r,.int .i64 s]) (by simp [results,Tryz.results64,go_sem, *]) rfl ?_
    exact ⟨_,_,_,_,rfl,by unfold R64;omega,Cur.le (K:=((K+22)+2)) (by repeat' with_reducible first|assumption|refine Cur.alc ?_ _|refine Cur.drw ?_|refine Cur.setN ?_ (by first|with_reducible assumption|omega)|refine Cur.below ?_ (by assumption)) (by omega),(by repeat' first|exact World.grownBy.refl' _ _|refine World.grownBy.setNew ?_ (by first|omega|(simp;omega)) _ _|refine World.grownBy.alloc' ?_ _|refine World.grownBy.drewN' ?_ _|refine World.grownBy.drew' ?_|refine World.grownBy.trans' ?_ (by assumption)|refine World.grownBy.below' ?_ (by assumption))⟩
end Go.Proofs.YtobkcnmlmmhpoaaGreat
namespace Go.Proofs.YtobkcnmlmmhpoaaGreat
open Go.RowKit
set_option linter.unusedVariables false
set_option linter.unusedSimpArgs false

end Go.Proofs.YtobkcnmlmmhpoaaGreat
namespace Go.Proofs.YtobkcnmlmmhpoaaGreat
open Go.RowKit
set_option linter.unusedVariables false
set_option linter.unusedSimpArgs false
attribute [local go_sem] q2 q3 q4 q5 q6 q7 q8 q9 q10 q11 q12

variable {B:Nat}
def ArgB (w:World) (v:Value) (n:Nat):Prop:=(∃a c,v= .slice a n c∧n=0)∨ ∃g off c,v= .slice (some ⟨g,off,none⟩) n c∧g<w.heap.size∧ ∀i,i<n→ ∃x:Int,w.cell? ⟨g,off+i,none⟩=some (.int .u8 x)∧0≤x∧x≤255
theorem ArgB.below {w w':World} {v:Value} {n:Nat} (h:ArgB w v n) (hb:Below w.heap.size w w'):ArgB w' v n:=by
 rcases h with h|⟨g,off,c,h1,h2,h3⟩
 ·exact .inl h
 ·exact .inr ⟨g,off,c,h1,Nat.lt_of_lt_of_le h2 hb.size,fun i hi=>by obtain ⟨x,hx,h4⟩:=h3 i hi;exact ⟨x,cell_call hb hx,h4⟩⟩
theorem ArgB.len {w:World} {v:Value} {n:Nat} (h:ArgB w v n): ∃a c,v= .slice a n c:=by
 rcases h with ⟨a,c,h,_⟩|⟨g,off,c,h,_⟩
 ·exact ⟨a,c,h⟩
 ·exact ⟨_,c,h⟩
theorem ArgB.bytes {w w':World} {a:Option Addr} {n c:Nat} (h:ArgB w (.slice a n c) n) (b:Nat) (hb:Below w.heap.size w w') (hlt:w.heap.size≤b):BytesAt w.heap.size w' b a n:=by
 rcases h with ⟨_,_,_,h⟩|⟨g,off,c',h1,h2,h3⟩
 ·exact .inl h
 ·cases h1
  exact .inr ⟨g,off,rfl,⟨h2,hlt⟩,fun i hi=>by obtain ⟨x,hx,h4⟩:=h3 i hi;exact ⟨x,cell_call hb hx,h4⟩⟩
theorem cur_new {w:World} {a:Option Addr} {n c:Nat} (h:ArgB w (.slice a n c) n) (W:World) (hW:Below w.heap.size w W):Cur w.heap.size (W.alloc (.cells #[.slice a n c,.int .i64 0,.int .u64 0] 65)) W.heap.size 0:=
 have hB:=hW.size
 ⟨a,n,c,0,0,byCT,byCT,byCT,byFT,byFT,by omega,by omega,h.bytes _ (gr_alloc hW _) (by omega)⟩
def RowQ (W:World) (g:Nat):Prop:= ∀i,i<4→ ∃x:Int,W.cell? ⟨g,i,none⟩=some (.int .i64 x)∧(-2000≤x∧x≤2000)∧W.frozen? ⟨g,i,none⟩=false
theorem RowQ.grown {w W:World} {b g:Nat} (h:RowQ w g) (hg:w.grownBy W (some b)) (hne:g≠b):RowQ W g:=fun i hi=>by
 obtain ⟨x,h1,h2,h3⟩:=h i hi
 have hlt:g<w.heap.size:=World.block_lt_of_cell? _ _ h1
 exact ⟨x,(hg.cell_far ⟨g,i,none⟩ hlt (fun e=>hne (Option.some.inj e))).trans h1,h2,(hg.frozen_far ⟨g,i,none⟩ hlt (fun e=>hne (Option.some.inj e))).trans h3⟩
theorem RowQ.set {w:World} {g j:Nat} {v:Int} (h:RowQ w g) (hj:j<4) (hv: -2000≤v∧v≤2000):RowQ (w.setCell ⟨g,j,none⟩ (.int .i64 v)) g:=fun i hi=>by
 obtain ⟨x,h1,h2,h3⟩:=h i hi
 obtain ⟨y,k1,k2,k3⟩:=h j hj
 by_cases q:i=j
 ·subst q;exact ⟨v,cell_eq _ ⟨_,k1⟩,hv,frz_set _ h3⟩
 ·exact ⟨x,cell_ne _ (fun e=>q (by injection e with e1 e2;exact e2.symm)) h1,h2,frz_set _ h3⟩

theorem RowQ.made (w:World):RowQ (w.alloc (.cells #[.int .i64 0,.int .i64 0,.int .i64 0,.int .i64 0] 3)) w.heap.size:=fun i hi=>by
 rcases (show i=0∨i=1∨i=2∨i=3 by omega) with rfl|rfl|rfl|rfl<;>exact ⟨0,byCT,by omega,byFT⟩
def ResQ (W:World) (r:Nat):Prop:= ∀i,i<4→W.cell? ⟨r,i,none⟩=some (.int .i64 0)∧W.frozen? ⟨r,i,none⟩=false
theorem ResQ.grown {w W:World} {b g:Nat} (h:ResQ w g) (hg:w.grownBy W (some b)) (hne:g≠b):ResQ W g:=fun i hi=>by
 obtain ⟨h1,h3⟩:=h i hi
 have hlt:g<w.heap.size:=World.block_lt_of_cell? _ _ h1
 exact ⟨(hg.cell_far ⟨g,i,none⟩ hlt (fun e=>hne (Option.some.inj e))).trans h1,(hg.frozen_far ⟨g,i,none⟩ hlt (fun e=>hne (Option.some.inj e))).trans h3⟩
theorem ResQ.set {w:World} {g k j:Nat} {v:Value} (h:ResQ w g) (hne:k≠g):ResQ (w.setCell ⟨k,j,none⟩ v) g:=fun i hi=>by
 obtain ⟨h1,h3⟩:=h i hi
 exact ⟨cell_ne _ (fun e=>hne (by injection e)) h1,frz_set _ h3⟩
theorem Cur.set {w:World} {b k j:Nat} {K:Int} {v:Value} (h:Cur B w b K) (hB:B≤k) (hne:k≠b):Cur B (w.setCell ⟨k,j,none⟩ v) b K:=by
 obtain ⟨a,n,c,t,s,h0,h1,h2,h3,h4,h5,h6,h7⟩:=h
 have nb: ∀o,(⟨k,j,none⟩:Addr)≠⟨b,o,none⟩:=fun o e=>hne (by injection e)
 refine ⟨a,n,c,t,s,cell_ne _ (nb 0) h0,cell_ne _ (nb 1) h1,cell_ne _ (nb 2) h2,frz_set _ h3,frz_set _ h4,h5,h6,?_⟩
 rcases h7 with h|⟨g,off,k1,k2,k3⟩
 ·exact .inl h
 ·exact .inr ⟨g,off,k1,k2,fun i hi=>by obtain ⟨x,hx,k4⟩:=k3 i hi;exact ⟨x,cell_ne _ (fun e=>by injection e with e1 e2;omega) hx,k4⟩⟩
end Go.Proofs.YtobkcnmlmmhpoaaGreat
namespace Go.Proofs.YtobkcnmlmmhpoaaGreat
open Go.RowKit
set_option linter.unusedVariables false
set_option linter.unusedSimpArgs false
attribute [local go_sem] q2 q3 q4 q5 q6 q7 q8 q9 q10 q11 q12

def DrawnMI (w:World) (e:Ending) (w':World):Prop:= ∃p q r s n:Int,e= .returned (.tuple #[.agg #[.int .i64 p,.int .i64 q,.int .i64 r,.int .i64 s],.int .i64 n])∧(R64 p∧R64 q∧R64 r∧R64 s)∧R64 n∧Below w.heap.size w w'
theorem coShift_e (t:Int) (w:World):
  Calls Tryz.prog 49 #[.int .i64 t] w fun e w'=>e= .returned (.agg #[.int .i64 1,.int .i64 t,.int .i64 0,.int .i64 1])∧Below w.heap.size w w':=by
 go_enter Tryz.func49,Tryz.ntmps49
 go_wp2
 go_returns
 exact ⟨rfl,byGG⟩
theorem mm_i64 (a b c d:Int):R64 (wrap64 (wrap64 (a*b)+wrap64 (c*d))):=by unfold R64 wrap64;omega

set_option maxRecDepth 100000 in
set_option maxHeartbeats 8000000 in
theorem drawLM_a (v:Value) (n:Nat) (w:World) (h:ArgB w v n):Calls Tryz.prog 31 #[v] w (DrawnMI w):=by
 obtain ⟨a,c,rfl⟩:=h.len
 have h0:=cur_new h (w.alloc (.cells #[.int .i64 0,.int .i64 0,.int .i64 0,.int .i64 0] 29)) byGG
 have hsz:((w.alloc (.cells #[.int .i64 0,.int .i64 0,.int .i64 0,.int .i64 0] 29))).heap.size=w.heap.size+1:=by simp
 rw[hsz] at h0
 clear hsz
 have nb0:w.heap.size≠(w.heap.size+1):=by omega
 go_enter Tryz.func31,Tryz.ntmps31
 go_wp2_with fail
 refine (matrix_d (B:=w.heap.size) (w.heap.size+1) 0  _ (by repeat' with_reducible first|assumption|refine Cur.alc ?_ _|refine Cur.drw ?_|refine Cur.setN ?_ (by first|with_reducible assumption|omega)) (by omega)).mono ?_
 rintro e1 w1 ⟨p,q,r,s,rfl,p1,h1,g1⟩
 have hs1:=h1.lt
 have hz1:w.heap.size≤w1.heap.size:=Nat.le_trans (by first|exact Nat.le_refl _|with_reducible assumption|(simp;done)|(simp;omega)) g1.size
 have tq0:=Wi4.d g1 w.heap.size 0 0 0 0 nb0
 (try clear c00 c01 c02 c03 f00 f01 f02 f03 z0)
 obtain ⟨c00,c01,c02,c03,f00,f01,f02,f03,z0⟩:=tq0
 have gw1:Below w.heap.size w w1:=Below.trans byGG (g1.to_below (by omega) (by first|omega|(simp;done)|(simp;omega)))
 clear g1
 go_wp2_with fail
 refine (pick_a (B:=w.heap.size) (w.heap.size+1) (0+60) 30 _ (by repeat' with_reducible first|assumption|refine Cur.alc ?_ _|refine Cur.drw ?_|refine Cur.setN ?_ (by first|with_reducible assumption|omega)) (by omega) (by omega)).mono ?_
 rintro e2 w2 ⟨v2,rfl,p2,h2,g2⟩
 have hs2:=h2.lt
 have hz2:w.heap.size≤w2.heap.size:=Nat.le_trans (by first|exact Nat.le_refl _|with_reducible assumption|(simp;done)|(simp;omega)) g2.size
 have tq0:=Wi4.d g2 w.heap.size 0 0 0 0 nb0
 (try clear c00 c01 c02 c03 f00 f01 f02 f03 z0)
 obtain ⟨c00,c01,c02,c03,f00,f01,f02,f03,z0⟩:=tq0
 have gw2:Below w.heap.size w w2:=Below.trans byGG (g2.to_below (by omega) (by first|omega|(simp;done)|(simp;omega)))
 clear g2
 go_wp2_with fail
 refine (among_a (B:=w.heap.size) (w.heap.size+1) ((0+60)+2) _ 0 9 9 (fun x=> -9223372036854775808≤x∧x≤9223372036854775807) _ (by repeat' with_reducible first|assumption|refine Cur.alc ?_ _|refine Cur.drw ?_|refine Cur.setN ?_ (by first|with_reducible assumption|omega)) (by omega) (by omega) ⟨by omega,fun i hi=>by rcases (show i=0∨i=1∨i=2∨i=3∨i=4∨i=5∨i=6∨i=7∨i=8 by omega) with rfl|rfl|rfl|rfl|rfl|rfl|rfl|rfl|rfl<;>exact ⟨_,by go_simp;rfl,by first|trivial|(constructor<;>omega)⟩⟩).mono ?_
 rintro e3 w3 ⟨v3,rfl,p3,h3,g3⟩
 have hs3:=h3.lt
 have hz3:w.heap.size≤w3.heap.size:=Nat.le_trans (by first|exact Nat.le_refl _|with_reducible assumption|(simp;done)|(simp;omega)) g3.size
 have tq0:=Wi4.d g3 w.heap.size 0 0 0 0 nb0
 (try clear c00 c01 c02 c03 f00 f01 f02 f03 z0)
 obtain ⟨c00,c01,c02,c03,f00,f01,f02,f03,z0⟩:=tq0
 have gw3:Below w.heap.size w w3:=Below.trans byGG (g3.to_below (by omega) (by first|omega|(simp;done)|(simp;omega)))
 clear g3
 have nb1:w3.heap.size≠(w.heap.size+1):=by omega
 go_wp2_with fail
 refine (one_a (B:=w.heap.size) (w.heap.size+1) (((0+60)+2)+2) 3 _ (by repeat' with_reducible first|assumption|refine Cur.alc ?_ _|refine Cur.drw ?_|refine Cur.setN ?_ (by first|with_reducible assumption|omega)) (by omega) (by omega)).mono ?_
 rintro e4 w4 ⟨t4,rfl,h4,g4⟩
 have hs4:=h4.lt
 have hz4:w.heap.size≤w4.heap.size:=Nat.le_trans (by first|exact Nat.le_refl _|with_reducible assumption|(simp;done)|(simp;omega)) g4.size
 have tq0:=Wi4.d g4 w.heap.size 0 0 0 0 nb0
 have tq1:=Ri4.d g4 w3.heap.size p q r s nb1
 (try clear c00 c01 c02 c03 f00 f01 f02 f03 z0)
 (try clear c10 c11 c12 c13 z1)
 obtain ⟨c00,c01,c02,c03,f00,f01,f02,f03,z0⟩:=tq0
 obtain ⟨c10,c11,c12,c13,z1⟩:=tq1
 have gw4:Below w.heap.size w w4:=Below.trans byGG (g4.to_below (by omega) (by first|omega|(simp;done)|(simp;omega)))
 clear g4
 cases t4
 ·go_wp2
  refine bodyPost_ret (v:= .tuple #[.agg #[.int .i64 p,.int .i64 q,.int .i64 r,.int .i64 s],.int .i64 v3]) (by simp [results,Tryz.results31,go_sem, *]) rfl ?_
  exact ⟨_,_,_,_,_,rfl,p1,p3,byGG⟩
 ·go_wp2_with fail
  refine (l1In_any _ _ _ _).mono ?_
  rintro e9 w9 ⟨rfl,rfl⟩
  cases k1:inB v3 1 30
  ·go_wp2
   refine bodyPost_ret (v:= .tuple #[.agg #[.int .i64 p,.int .i64 q,.int .i64 r,.int .i64 s],.int .i64 v3]) (by simp [results,Tryz.results31,go_sem, *]) rfl ?_
   exact ⟨_,_,_,_,_,rfl,p1,p3,byGG⟩
  ·have hv3:=inB_true k1
   go_wp2_with fail
   refine (pick_a (B:=w.heap.size) (w.heap.size+1) ((((0+60)+2)+2)+2) 4 _ (by repeat' with_reducible first|assumption|refine Cur.alc ?_ _|refine Cur.drw ?_|refine Cur.setN ?_ (by first|with_reducible assumption|omega)) (by omega) (by omega)).mono ?_
   rintro e5 w5 ⟨v5,rfl,p5,h5,g5⟩
   have hs5:=h5.lt
   have hz5:w.heap.size≤w5.heap.size:=Nat.le_trans (by first|exact Nat.le_refl _|with_reducible assumption|(simp;done)|(simp;omega)) g5.size
   have tq0:=Wi4.d g5 w.heap.size 0 0 0 0 nb0
   have tq1:=Ri4.d g5 w3.heap.size p q r s nb1
   (try clear c00 c01 c02 c03 f00 f01 f02 f03 z0)
   (try clear c10 c11 c12 c13 z1)
   obtain ⟨c00,c01,c02,c03,f00,f01,f02,f03,z0⟩:=tq0
   obtain ⟨c10,c11,c12,c13,z1⟩:=tq1
   have gw5:Below w.heap.size w w5:=Below.trans byGG (g5.to_below (by omega) (by first|omega|(simp;done)|(simp;omega)))
   clear g5
   have hmn:=mul_bd (A:=30) (B:=4) (a:=v3) (b:=v5) (by omega) (by omega) (by omega)
   go_wp2_with fail
   refine (pick_a (B:=w.heap.size) (w.heap.size+1) (((((0+60)+2)+2)+2)+2) 7 _ (by repeat' with_reducible first|assumption|refine Cur.alc ?_ _|refine Cur.drw ?_|refine Cur.setN ?_ (by first|with_reducible assumption|omega)) (by omega) (by omega)).mono ?_
   rintro e6 w6 ⟨v6,rfl,p6,h6,g6⟩
   have hs6:=h6.lt
   have hz6:w.heap.size≤w6.heap.size:=Nat.le_trans (by first|exact Nat.le_refl _|with_reducible assumption|(simp;done)|(simp;omega)) g6.size
   have tq0:=Wi4.d g6 w.heap.size 0 0 0 0 nb0
   have tq1:=Ri4.d g6 w3.heap.size p q r s nb1
   (try clear c00 c01 c02 c03 f00 f01 f02 f03 z0)
   (try clear c10 c11 c12 c13 z1)
   obtain ⟨c00,c01,c02,c03,f00,f01,f02,f03,z0⟩:=tq0
   obtain ⟨c10,c11,c12,c13,z1⟩:=tq1
   have gw6:Below w.heap.size w w6:=Below.trans byGG (g6.to_below (by omega) (by first|omega|(simp;done)|(simp;omega)))
   clear g6
   go_wp2_with fail
   refine (coShift_e (v6-3) _).mono ?_
   rintro e7 w7 ⟨rfl,b7⟩
   have tq0:=Wi4.c b7 w.heap.size 0 0 0 0
   have tq1:=Ri4.c b7 w3.heap.size p q r s
   try clear c00 c01 c02 c03 f00 f01 f02 f03
   try clear c10 c11 c12 c13
   obtain ⟨c00,c01,c02,c03,f00,f01,f02,f03,z0⟩:=tq0
   obtain ⟨c10,c11,c12,c13,z1⟩:=tq1
   have h7:=Cur.below (B:=w.heap.size) (b:=(w.heap.size+1)) (K:=((((((0+60)+2)+2)+2)+2)+2)) (by repeat' with_reducible first|assumption|refine Cur.alc ?_ _|refine Cur.drw ?_|refine Cur.setN ?_ (by first|with_reducible assumption|omega)) b7
   have hs7:=h7.lt
   have hz7:w.heap.size≤w7.heap.size:=Nat.le_trans (by first|exact Nat.le_refl _|omega|(simp;done)|(simp;omega)) b7.size
   have gw7:Below w.heap.size w w7:=byGG
   go_wp2_with fail
   refine (foMul_a 1 0 (v3*v5) 1 1 (v6-3) 0 1 _).mono ?_
   rintro e8 w8 ⟨rfl,b8⟩
   have tq0:=Wi4.c b8 w.heap.size 0 0 0 0
   have tq1:=Ri4.c b8 w3.heap.size p q r s
   try clear c00 c01 c02 c03 f00 f01 f02 f03
   try clear c10 c11 c12 c13
   obtain ⟨c00,c01,c02,c03,f00,f01,f02,f03,z0⟩:=tq0
   obtain ⟨c10,c11,c12,c13,z1⟩:=tq1
   have h8:=Cur.below (B:=w.heap.size) (b:=(w.heap.size+1)) (K:=((((((0+60)+2)+2)+2)+2)+2)) (by repeat' with_reducible first|assumption|refine Cur.alc ?_ _|refine Cur.drw ?_|refine Cur.setN ?_ (by first|with_reducible assumption|omega)) b8
   have hs8:=h8.lt
   have hz8:w.heap.size≤w8.heap.size:=Nat.le_trans (by first|exact Nat.le_refl _|omega|(simp;done)|(simp;omega)) b8.size
   have gw8:Below w.heap.size w w8:=byGG
   go_wp2
   refine bodyPost_ret (v:= .tuple #[.agg #[.int .i64 (mmP 1 0 (v3*v5) 1 1 (v6-3) 0 1),.int .i64 (mmQ 1 0 (v3*v5) 1 1 (v6-3) 0 1),.int .i64 (mmR 1 0 (v3*v5) 1 1 (v6-3) 0 1),.int .i64 (mmS 1 0 (v3*v5) 1 1 (v6-3) 0 1)],.int .i64 v3]) (by simp [results,Tryz.results31,go_sem, *]) rfl ?_
   exact ⟨_,_,_,_,_,rfl,⟨mm_i64 _ _ _ _,mm_i64 _ _ _ _,mm_i64 _ _ _ _,mm_i64 _ _ _ _⟩,p3,byGG⟩

set_option maxRecDepth 100000 in
set_option maxHeartbeats 4000000 in
theorem drawPP_a (v:Value) (n:Nat) (w:World) (h:ArgB w v n):Calls Tryz.prog 13 #[v] w (DrawnMI w):=by
 go_enter Tryz.func13,Tryz.ntmps13
 go_wp2_with fail
 refine (drawLM_a v n _ (h.below byGG)).mono ?_
 rintro e1 w1 ⟨p,q,r,s,m,rfl,p1,p2,hb1⟩
 have tq0:=Wi4.c hb1 w.heap.size 0 0 0 0
 try clear c00 c01 c02 c03 f00 f01 f02 f03
 obtain ⟨c00,c01,c02,c03,f00,f01,f02,f03,z0⟩:=tq0
 go_wp2
 refine bodyPost_ret (v:= .tuple #[.agg #[.int .i64 p,.int .i64 q,.int .i64 r,.int .i64 s],.int .i64 m]) (by simp [results,Tryz.results13,go_sem, *]) rfl ?_
 exact ⟨_,_,_,_,_,rfl,p1,p2,byGG⟩
end Go.Proofs.YtobkcnmlmmhpoaaGreat
