/- Numbers and discriminants drawn. -/
import Derived.Test.YtobkcnmlmmhpoaaGreatDrw
import Derived.Test.YtobkcnmlmmhpoaaGreatLevel
namespace Go.Proofs.YtobkcnmlmmhpoaaGreat
open Go.RowKit
set_option linter.unusedVariables false
set_option linter.unusedSimpArgs false
attribute [local go_sem] q2 q3 q4 q5 q6 q7 q8 q9 q10 q11 q12

variable {B:Nat}
theorem Cur.alc {w:World} {b:Nat} {K:Int} (h:Cur B w b K) (ob:Obj):Cur B (w.alloc ob) b K:=h.below (below_alloc_self _ _)
theorem Cur.drw {w:World} {b:Nat} {K:Int} (h:Cur B w b K):Cur B w.drew b K:=h.below (below_drew (Below.refl _ _))
theorem Cur.setN {w:World} {b k j:Nat} {K:Int} {v:Value} (h:Cur B w b K) (hne:b<k):Cur B (w.setCell ⟨k,j,none⟩ v) b K:=by
 obtain ⟨a,n,c,t,s,h0,h1,h2,h3,h4,h5,h6,h7⟩:=h
 have nb: ∀o,(⟨k,j,none⟩:Addr)≠⟨b,o,none⟩:=fun o e=>by injection e;omega
 refine ⟨a,n,c,t,s,cell_ne _ (nb 0) h0,cell_ne _ (nb 1) h1,cell_ne _ (nb 2) h2,frz_set _ h3,frz_set _ h4,h5,h6,?_⟩
 rcases h7 with h|⟨g,off,k1,k2,k3⟩
 ·exact .inl h
 ·exact .inr ⟨g,off,k1,k2,fun i hi=>by obtain ⟨x,hx,k4⟩:=k3 i hi;exact ⟨x,cell_ne _ (fun e=>by injection e with e1 e2;omega) hx,k4⟩⟩
theorem _root_.Go.World.grownBy.setNew {w w':World} {r:Option Nat} {g:Nat} (h:w.grownBy w' r) (hg:w.heap.size≤g) (o:Nat) (v:Value):w.grownBy (w'.setCell ⟨g,o,none⟩ v) r:=
 ⟨h.os,h.tape,h.output,by simpa [World.setCell] using h.size,fun j hj hne=>(Below.heap_setCell _ _ _ _ (fun e=>by change j=g at e;omega)).trans (h.block j hj hne)⟩
theorem _root_.Go.World.grownBy.drew' {w w':World} {r:Option Nat} (h:w.grownBy w' r):w.grownBy w'.drew r:=⟨h.os,h.tape,h.output,h.size,h.block⟩
theorem far_cell {w W:World} {b g i:Nat} {v:Value} (hg:w.grownBy W (some b)) (h:w.cell? ⟨g,i,none⟩=some v) (hne:g≠b):W.cell? ⟨g,i,none⟩=some v:=
 (hg.cell_far ⟨g,i,none⟩ (World.block_lt_of_cell? _ _ h) (fun e=>hne (Option.some.inj e))).trans h
theorem far_frz {w W:World} {b g i:Nat} (hg:w.grownBy W (some b)) (hl:g<w.heap.size) (h:w.frozen? ⟨g,i,none⟩=false) (hne:g≠b):W.frozen? ⟨g,i,none⟩=false:=
 (hg.frozen_far ⟨g,i,none⟩ hl (fun e=>hne (Option.some.inj e))).trans h
theorem Ri3.d {w W:World} {b':Nat} (hg:w.grownBy W (some b')) (b:Nat) (x0 x1 x2:Int) (nb:b≠b') (h:Ri3 w b x0 x1 x2:=by exact ⟨byCT,byCT,byCT,by first|with_reducible assumption|(simp;done)|(simp;omega)⟩):Ri3 W b x0 x1 x2:=⟨far_cell hg h.c0 nb,far_cell hg h.c1 nb,far_cell hg h.c2 nb,Nat.lt_of_lt_of_le h.z hg.size⟩
theorem Wi3.d {w W:World} {b':Nat} (hg:w.grownBy W (some b')) (b:Nat) (x0 x1 x2:Int) (nb:b≠b') (h:Wi3 w b x0 x1 x2:=by exact ⟨byCT,byCT,byCT,byFT,byFT,byFT,by first|with_reducible assumption|(simp;done)|(simp;omega)⟩):Wi3 W b x0 x1 x2:=⟨far_cell hg h.c0 nb,far_cell hg h.c1 nb,far_cell hg h.c2 nb,far_frz hg h.z h.f0 nb,far_frz hg h.z h.f1 nb,far_frz hg h.z h.f2 nb,Nat.lt_of_lt_of_le h.z hg.size⟩
theorem Ri4.d {w W:World} {b':Nat} (hg:w.grownBy W (some b')) (b:Nat) (x0 x1 x2 x3:Int) (nb:b≠b') (h:Ri4 w b x0 x1 x2 x3:=by exact ⟨byCT,byCT,byCT,byCT,by first|with_reducible assumption|(simp;done)|(simp;omega)⟩):Ri4 W b x0 x1 x2 x3:=⟨far_cell hg h.c0 nb,far_cell hg h.c1 nb,far_cell hg h.c2 nb,far_cell hg h.c3 nb,Nat.lt_of_lt_of_le h.z hg.size⟩
theorem Wi4.d {w W:World} {b':Nat} (hg:w.grownBy W (some b')) (b:Nat) (x0 x1 x2 x3:Int) (nb:b≠b') (h:Wi4 w b x0 x1 x2 x3:=by exact ⟨byCT,byCT,byCT,byCT,byFT,byFT,byFT,byFT,by first|with_reducible assumption|(simp;done)|(simp;omega)⟩):Wi4 W b x0 x1 x2 x3:=⟨far_cell hg h.c0 nb,far_cell hg h.c1 nb,far_cell hg h.c2 nb,far_cell hg h.c3 nb,far_frz hg h.z h.f0 nb,far_frz hg h.z h.f1 nb,far_frz hg h.z h.f2 nb,far_frz hg h.z h.f3 nb,Nat.lt_of_lt_of_le h.z hg.size⟩
def R64 (x:Int):Prop:= -9223372036854775808≤x∧x≤9223372036854775807

set_option maxRecDepth 100000 in
set_option maxHeartbeats 8000000 in
theorem disc_d (b:Nat) (K:Int) (w:World) (h0:Cur B w b K) (hK:K≤10000000000):Calls Tryz.prog 113 #[.pointer (some ⟨b,0,none⟩)] w (Drew B w b (K+4) R64):=by
 have hs0:=h0.lt
 go_enter Tryz.func113,Tryz.ntmps113
 go_wp2_with fail
 refine (pick_a (B:=B) b K 16 _ (by repeat' with_reducible first|assumption|refine Cur.alc ?_ _|refine Cur.drw ?_|refine Cur.setN ?_ (by first|with_reducible assumption|omega)) (by omega) (by omega)).mono ?_
 rintro e1 w1 ⟨v1,rfl,p1,h1,g1⟩
 have hs1:=h1.lt
 have hz1:w.heap.size≤w1.heap.size:=Nat.le_trans (by first|exact Nat.le_refl _|with_reducible assumption|(simp;done)|(simp;omega)) g1.size
 by_cases q0:v1=0
 ·subst q0
  go_wp2_with fail
  refine (among_a (B:=B) b (K+2) _ 0 17 17 (fun x=> -9223372036854775808≤x∧x≤9223372036854775807) _ (by repeat' with_reducible first|assumption|refine Cur.alc ?_ _|refine Cur.drw ?_|refine Cur.setN ?_ (by first|with_reducible assumption|omega)) (by omega) (by omega) ⟨by omega,fun i hi=>by rcases (show i=0∨i=1∨i=2∨i=3∨i=4∨i=5∨i=6∨i=7∨i=8∨i=9∨i=10∨i=11∨i=12∨i=13∨i=14∨i=15∨i=16 by omega) with rfl|rfl|rfl|rfl|rfl|rfl|rfl|rfl|rfl|rfl|rfl|rfl|rfl|rfl|rfl|rfl|rfl<;>exact ⟨_,by go_simp;rfl,by first|trivial|(constructor<;>omega)⟩⟩).mono ?_
  rintro e2 w2 ⟨v2,rfl,p2,h2,g2⟩
  have hs2:=h2.lt
  have hz2:w.heap.size≤w2.heap.size:=Nat.le_trans (by first|exact Nat.le_refl _|with_reducible assumption|(simp;done)|(simp;omega)) g2.size
  go_wp2
  go_ret
  exact ⟨_,rfl,p2,Cur.le (K:=((K+2)+2)) (by repeat' with_reducible first|assumption|refine Cur.alc ?_ _|refine Cur.drw ?_|refine Cur.setN ?_ (by first|with_reducible assumption|omega)) (by omega),(by repeat' first|exact World.grownBy.refl' _ _|refine World.grownBy.setNew ?_ (by first|omega|(simp;omega)) _ _|refine World.grownBy.alloc' ?_ _|refine World.grownBy.drewN' ?_ _|refine World.grownBy.drew' ?_|refine World.grownBy.trans' ?_ (by assumption)|refine World.grownBy.below' ?_ (by assumption))⟩
 ·skip
  by_cases q1:v1=1
  ·subst q1
   go_wp2_with fail
   refine (pick_a (B:=B) b (K+2) 1998 _ (by repeat' with_reducible first|assumption|refine Cur.alc ?_ _|refine Cur.drw ?_|refine Cur.setN ?_ (by first|with_reducible assumption|omega)) (by omega) (by omega)).mono ?_
   rintro e2 w2 ⟨v2,rfl,p2,h2,g2⟩
   have hs2:=h2.lt
   have hz2:w.heap.size≤w2.heap.size:=Nat.le_trans (by first|exact Nat.le_refl _|with_reducible assumption|(simp;done)|(simp;omega)) g2.size
   go_wp2_with fail
   refine (nuMod_a (-3-v2) 4 _ (by omega) (by omega) (by omega)).mono ?_
   rintro e9 w9 ⟨rfl,rfl⟩
   by_cases q9:1<(-3-v2)%4
   ·go_wp2_with (go_at_call 105;refine (l1Most_a _ _ _).mono ?_;rintro e8 w8 ⟨rfl,rfl⟩)
    go_ret
    exact ⟨_,rfl,by unfold R64;omega,Cur.le (K:=((K+2)+2)) (by repeat' with_reducible first|assumption|refine Cur.alc ?_ _|refine Cur.drw ?_|refine Cur.setN ?_ (by first|with_reducible assumption|omega)) (by omega),(by repeat' first|exact World.grownBy.refl' _ _|refine World.grownBy.setNew ?_ (by first|omega|(simp;omega)) _ _|refine World.grownBy.alloc' ?_ _|refine World.grownBy.drewN' ?_ _|refine World.grownBy.drew' ?_|refine World.grownBy.trans' ?_ (by assumption)|refine World.grownBy.below' ?_ (by assumption))⟩
   ·go_wp2
    go_ret
    exact ⟨_,rfl,by unfold R64;omega,Cur.le (K:=((K+2)+2)) (by repeat' with_reducible first|assumption|refine Cur.alc ?_ _|refine Cur.drw ?_|refine Cur.setN ?_ (by first|with_reducible assumption|omega)) (by omega),(by repeat' first|exact World.grownBy.refl' _ _|refine World.grownBy.setNew ?_ (by first|omega|(simp;omega)) _ _|refine World.grownBy.alloc' ?_ _|refine World.grownBy.drewN' ?_ _|refine World.grownBy.drew' ?_|refine World.grownBy.trans' ?_ (by assumption)|refine World.grownBy.below' ?_ (by assumption))⟩
  ·skip
   by_cases q2:v1=2
   ·subst q2
    go_wp2_with fail
    refine (pick_a (B:=B) b (K+2) 1998 _ (by repeat' with_reducible first|assumption|refine Cur.alc ?_ _|refine Cur.drw ?_|refine Cur.setN ?_ (by first|with_reducible assumption|omega)) (by omega) (by omega)).mono ?_
    rintro e2 w2 ⟨v2,rfl,p2,h2,g2⟩
    have hs2:=h2.lt
    have hz2:w.heap.size≤w2.heap.size:=Nat.le_trans (by first|exact Nat.le_refl _|with_reducible assumption|(simp;done)|(simp;omega)) g2.size
    go_wp2_with fail
    refine (nuMod_a (-3-v2) 4 _ (by omega) (by omega) (by omega)).mono ?_
    rintro e9 w9 ⟨rfl,rfl⟩
    by_cases q9:1<(-3-v2)%4
    ·go_wp2_with (go_at_call 105;refine (l1Most_a _ _ _).mono ?_;rintro e8 w8 ⟨rfl,rfl⟩)
     go_ret
     exact ⟨_,rfl,by unfold R64;omega,Cur.le (K:=((K+2)+2)) (by repeat' with_reducible first|assumption|refine Cur.alc ?_ _|refine Cur.drw ?_|refine Cur.setN ?_ (by first|with_reducible assumption|omega)) (by omega),(by repeat' first|exact World.grownBy.refl' _ _|refine World.grownBy.setNew ?_ (by first|omega|(simp;omega)) _ _|refine World.grownBy.alloc' ?_ _|refine World.grownBy.drewN' ?_ _|refine World.grownBy.drew' ?_|refine World.grownBy.trans' ?_ (by assumption)|refine World.grownBy.below' ?_ (by assumption))⟩
    ·go_wp2
     go_ret
     exact ⟨_,rfl,by unfold R64;omega,Cur.le (K:=((K+2)+2)) (by repeat' with_reducible first|assumption|refine Cur.alc ?_ _|refine Cur.drw ?_|refine Cur.setN ?_ (by first|with_reducible assumption|omega)) (by omega),(by repeat' first|exact World.grownBy.refl' _ _|refine World.grownBy.setNew ?_ (by first|omega|(simp;omega)) _ _|refine World.grownBy.alloc' ?_ _|refine World.grownBy.drewN' ?_ _|refine World.grownBy.drew' ?_|refine World.grownBy.trans' ?_ (by assumption)|refine World.grownBy.below' ?_ (by assumption))⟩
   ·skip
    by_cases q3:v1=3
    ·subst q3
     go_wp2_with fail
     refine (among_a (B:=B) b (K+2) _ 0 16 16 (fun x=> -9223372036854775808≤x∧x≤9223372036854775807) _ (by repeat' with_reducible first|assumption|refine Cur.alc ?_ _|refine Cur.drw ?_|refine Cur.setN ?_ (by first|with_reducible assumption|omega)) (by omega) (by omega) ⟨by omega,fun i hi=>by rcases (show i=0∨i=1∨i=2∨i=3∨i=4∨i=5∨i=6∨i=7∨i=8∨i=9∨i=10∨i=11∨i=12∨i=13∨i=14∨i=15 by omega) with rfl|rfl|rfl|rfl|rfl|rfl|rfl|rfl|rfl|rfl|rfl|rfl|rfl|rfl|rfl|rfl<;>exact ⟨_,by go_simp;rfl,by first|trivial|(constructor<;>omega)⟩⟩).mono ?_
     rintro e2 w2 ⟨v2,rfl,p2,h2,g2⟩
     have hs2:=h2.lt
     have hz2:w.heap.size≤w2.heap.size:=Nat.le_trans (by first|exact Nat.le_refl _|with_reducible assumption|(simp;done)|(simp;omega)) g2.size
     go_wp2
     go_ret
     exact ⟨_,rfl,p2,Cur.le (K:=((K+2)+2)) (by repeat' with_reducible first|assumption|refine Cur.alc ?_ _|refine Cur.drw ?_|refine Cur.setN ?_ (by first|with_reducible assumption|omega)) (by omega),(by repeat' first|exact World.grownBy.refl' _ _|refine World.grownBy.setNew ?_ (by first|omega|(simp;omega)) _ _|refine World.grownBy.alloc' ?_ _|refine World.grownBy.drewN' ?_ _|refine World.grownBy.drew' ?_|refine World.grownBy.trans' ?_ (by assumption)|refine World.grownBy.below' ?_ (by assumption))⟩
    ·skip
     by_cases q4:v1=4
     ·subst q4
      go_wp2_with fail
      refine (among_a (B:=B) b (K+2) _ 0 16 16 (fun x=> -9223372036854775808≤x∧x≤9223372036854775807) _ (by repeat' with_reducible first|assumption|refine Cur.alc ?_ _|refine Cur.drw ?_|refine Cur.setN ?_ (by first|with_reducible assumption|omega)) (by omega) (by omega) ⟨by omega,fun i hi=>by rcases (show i=0∨i=1∨i=2∨i=3∨i=4∨i=5∨i=6∨i=7∨i=8∨i=9∨i=10∨i=11∨i=12∨i=13∨i=14∨i=15 by omega) with rfl|rfl|rfl|rfl|rfl|rfl|rfl|rfl|rfl|rfl|rfl|rfl|rfl|rfl|rfl|rfl<;>exact ⟨_,by go_simp;rfl,by first|trivial|(constructor<;>omega)⟩⟩).mono ?_
      rintro e2 w2 ⟨v2,rfl,p2,h2,g2⟩
      have hs2:=h2.lt
      have hz2:w.heap.size≤w2.heap.size:=Nat.le_trans (by first|exact Nat.le_refl _|with_reducible assumption|(simp;done)|(simp;omega)) g2.size
      go_wp2
      go_ret
      exact ⟨_,rfl,p2,Cur.le (K:=((K+2)+2)) (by repeat' with_reducible first|assumption|refine Cur.alc ?_ _|refine Cur.drw ?_|refine Cur.setN ?_ (by first|with_reducible assumption|omega)) (by omega),(by repeat' first|exact World.grownBy.refl' _ _|refine World.grownBy.setNew ?_ (by first|omega|(simp;omega)) _ _|refine World.grownBy.alloc' ?_ _|refine World.grownBy.drewN' ?_ _|refine World.grownBy.drew' ?_|refine World.grownBy.trans' ?_ (by assumption)|refine World.grownBy.below' ?_ (by assumption))⟩
     ·skip
      by_cases q5:v1=5
      ·subst q5
       go_wp2_with fail
       refine (among_a (B:=B) b (K+2) _ 0 16 16 (fun x=> -9223372036854775808≤x∧x≤9223372036854775807) _ (by repeat' with_reducible first|assumption|refine Cur.alc ?_ _|refine Cur.drw ?_|refine Cur.setN ?_ (by first|with_reducible assumption|omega)) (by omega) (by omega) ⟨by omega,fun i hi=>by rcases (show i=0∨i=1∨i=2∨i=3∨i=4∨i=5∨i=6∨i=7∨i=8∨i=9∨i=10∨i=11∨i=12∨i=13∨i=14∨i=15 by omega) with rfl|rfl|rfl|rfl|rfl|rfl|rfl|rfl|rfl|rfl|rfl|rfl|rfl|rfl|rfl|rfl<;>exact ⟨_,by go_simp;rfl,by first|trivial|(constructor<;>omega)⟩⟩).mono ?_
       rintro e2 w2 ⟨v2,rfl,p2,h2,g2⟩
       have hs2:=h2.lt
       have hz2:w.heap.size≤w2.heap.size:=Nat.le_trans (by first|exact Nat.le_refl _|with_reducible assumption|(simp;done)|(simp;omega)) g2.size
       go_wp2
       go_ret
       exact ⟨_,rfl,p2,Cur.le (K:=((K+2)+2)) (by repeat' with_reducible first|assumption|refine Cur.alc ?_ _|refine Cur.drw ?_|refine Cur.setN ?_ (by first|with_reducible assumption|omega)) (by omega),(by repeat' first|exact World.grownBy.refl' _ _|refine World.grownBy.setNew ?_ (by first|omega|(simp;omega)) _ _|refine World.grownBy.alloc' ?_ _|refine World.grownBy.drewN' ?_ _|refine World.grownBy.drew' ?_|refine World.grownBy.trans' ?_ (by assumption)|refine World.grownBy.below' ?_ (by assumption))⟩
      ·skip
       by_cases q6:v1=6
       ·subst q6
        go_wp2_with fail
        refine (pick_a (B:=B) b (K+2) 60 _ (by repeat' with_reducible first|assumption|refine Cur.alc ?_ _|refine Cur.drw ?_|refine Cur.setN ?_ (by first|with_reducible assumption|omega)) (by omega) (by omega)).mono ?_
        rintro e2 w2 ⟨v2,rfl,p2,h2,g2⟩
        have hs2:=h2.lt
        have hz2:w.heap.size≤w2.heap.size:=Nat.le_trans (by first|exact Nat.le_refl _|with_reducible assumption|(simp;done)|(simp;omega)) g2.size
        go_wp2
        go_ret
        exact ⟨_,rfl,by first|omega|(unfold R64;omega),Cur.le (K:=((K+2)+2)) (by repeat' with_reducible first|assumption|refine Cur.alc ?_ _|refine Cur.drw ?_|refine Cur.setN ?_ (by first|with_reducible assumption|omega)) (by omega),(by repeat' first|exact World.grownBy.refl' _ _|refine World.grownBy.setNew ?_ (by first|omega|(simp;omega)) _ _|refine World.grownBy.alloc' ?_ _|refine World.grownBy.drewN' ?_ _|refine World.grownBy.drew' ?_|refine World.grownBy.trans' ?_ (by assumption)|refine World.grownBy.below' ?_ (by assumption))⟩
       ·skip
        by_cases q7:v1=7
        ·subst q7
         go_wp2_with fail
         refine (pick_a (B:=B) b (K+2) 60 _ (by repeat' with_reducible first|assumption|refine Cur.alc ?_ _|refine Cur.drw ?_|refine Cur.setN ?_ (by first|with_reducible assumption|omega)) (by omega) (by omega)).mono ?_
         rintro e2 w2 ⟨v2,rfl,p2,h2,g2⟩
         have hs2:=h2.lt
         have hz2:w.heap.size≤w2.heap.size:=Nat.le_trans (by first|exact Nat.le_refl _|with_reducible assumption|(simp;done)|(simp;omega)) g2.size
         go_wp2
         go_ret
         exact ⟨_,rfl,by first|omega|(unfold R64;omega),Cur.le (K:=((K+2)+2)) (by repeat' with_reducible first|assumption|refine Cur.alc ?_ _|refine Cur.drw ?_|refine Cur.setN ?_ (by first|with_reducible assumption|omega)) (by omega),(by repeat' first|exact World.grownBy.refl' _ _|refine World.grownBy.setNew ?_ (by first|omega|(simp;omega)) _ _|refine World.grownBy.alloc' ?_ _|refine World.grownBy.drewN' ?_ _|refine World.grownBy.drew' ?_|refine World.grownBy.trans' ?_ (by assumption)|refine World.grownBy.below' ?_ (by assumption))⟩
        ·skip
         go_wp2_with fail
         refine (pick_a (B:=B) b (K+2) 50 _ (by repeat' with_reducible first|assumption|refine Cur.alc ?_ _|refine Cur.drw ?_|refine Cur.setN ?_ (by first|with_reducible assumption|omega)) (by omega) (by omega)).mono ?_
         rintro e2 w2 ⟨v2,rfl,p2,h2,g2⟩
         have hs2:=h2.lt
         have hz2:w.heap.size≤w2.heap.size:=Nat.le_trans (by first|exact Nat.le_refl _|with_reducible assumption|(simp;done)|(simp;omega)) g2.size
         go_wp2
         go_ret
         exact ⟨_,rfl,by first|omega|(unfold R64;omega),Cur.le (K:=((K+2)+2)) (by repeat' with_reducible first|assumption|refine Cur.alc ?_ _|refine Cur.drw ?_|refine Cur.setN ?_ (by first|with_reducible assumption|omega)) (by omega),(by repeat' first|exact World.grownBy.refl' _ _|refine World.grownBy.setNew ?_ (by first|omega|(simp;omega)) _ _|refine World.grownBy.alloc' ?_ _|refine World.grownBy.drewN' ?_ _|refine World.grownBy.drew' ?_|refine World.grownBy.trans' ?_ (by assumption)|refine World.grownBy.below' ?_ (by assumption))⟩

set_option maxRecDepth 100000 in
set_option maxHeartbeats 8000000 in
theorem goodDisc_d (b:Nat) (K:Int) (w:World) (h0:Cur B w b K) (hK:K≤10000000000):Calls Tryz.prog 101 #[.pointer (some ⟨b,0,none⟩)] w (Drew B w b (K+4) (fun d=>negB d=true)):=by
 have hs0:=h0.lt
 go_enter Tryz.func101,Tryz.ntmps101
 go_wp2_with fail
 refine (disc_d (B:=B) b K  _ (by repeat' with_reducible first|assumption|refine Cur.alc ?_ _|refine Cur.drw ?_|refine Cur.setN ?_ (by first|with_reducible assumption|omega)) (by omega)).mono ?_
 rintro e1 w1 ⟨v1,rfl,p1,h1,g1⟩
 have hs1:=h1.lt
 have hz1:w.heap.size≤w1.heap.size:=Nat.le_trans (by first|exact Nat.le_refl _|with_reducible assumption|(simp;done)|(simp;omega)) g1.size
 go_wp2_with fail
 cases q:negB v1
 ·refine (reDisc_a v1 _).mono ?_
  rintro e9 w9 ⟨rfl,rfl⟩
  rw[q]
  go_wp2
  go_ret
  exact ⟨_,rfl,by decide,Cur.le (K:=(K+4)) (by repeat' with_reducible first|assumption|refine Cur.alc ?_ _|refine Cur.drw ?_|refine Cur.setN ?_ (by first|with_reducible assumption|omega)) (by omega),(by repeat' first|exact World.grownBy.refl' _ _|refine World.grownBy.setNew ?_ (by first|omega|(simp;omega)) _ _|refine World.grownBy.alloc' ?_ _|refine World.grownBy.drewN' ?_ _|refine World.grownBy.drew' ?_|refine World.grownBy.trans' ?_ (by assumption)|refine World.grownBy.below' ?_ (by assumption))⟩
 ·refine (reDisc_a v1 _).mono ?_
  rintro e9 w9 ⟨rfl,rfl⟩
  rw[q]
  go_wp2
  go_ret
  exact ⟨_,rfl,q,Cur.le (K:=(K+4)) (by repeat' with_reducible first|assumption|refine Cur.alc ?_ _|refine Cur.drw ?_|refine Cur.setN ?_ (by first|with_reducible assumption|omega)) (by omega),(by repeat' first|exact World.grownBy.refl' _ _|refine World.grownBy.setNew ?_ (by first|omega|(simp;omega)) _ _|refine World.grownBy.alloc' ?_ _|refine World.grownBy.drewN' ?_ _|refine World.grownBy.drew' ?_|refine World.grownBy.trans' ?_ (by assumption)|refine World.grownBy.below' ?_ (by assumption))⟩

set_option maxRecDepth 100000 in
set_option maxHeartbeats 8000000 in
theorem number_d (b:Nat) (K:Int) (w:World) (h0:Cur B w b K) (hK:K≤10000000000):Calls Tryz.prog 98 #[.pointer (some ⟨b,0,none⟩)] w (Drew B w b (K+8) R64):=by
 have hs0:=h0.lt
 go_enter Tryz.func98,Tryz.ntmps98
 go_wp2_with fail
 refine (pick_a (B:=B) b K 12 _ (by repeat' with_reducible first|assumption|refine Cur.alc ?_ _|refine Cur.drw ?_|refine Cur.setN ?_ (by first|with_reducible assumption|omega)) (by omega) (by omega)).mono ?_
 rintro e1 w1 ⟨v1,rfl,p1,h1,g1⟩
 have hs1:=h1.lt
 have hz1:w.heap.size≤w1.heap.size:=Nat.le_trans (by first|exact Nat.le_refl _|with_reducible assumption|(simp;done)|(simp;omega)) g1.size
 by_cases q0:v1=0
 ·subst q0
  go_wp2_with fail
  refine (among_a (B:=B) b (K+2) _ 0 12 12 (fun x=> -9223372036854775808≤x∧x≤9223372036854775807) _ (by repeat' with_reducible first|assumption|refine Cur.alc ?_ _|refine Cur.drw ?_|refine Cur.setN ?_ (by first|with_reducible assumption|omega)) (by omega) (by omega) ⟨by omega,fun i hi=>by rcases (show i=0∨i=1∨i=2∨i=3∨i=4∨i=5∨i=6∨i=7∨i=8∨i=9∨i=10∨i=11 by omega) with rfl|rfl|rfl|rfl|rfl|rfl|rfl|rfl|rfl|rfl|rfl|rfl<;>exact ⟨_,by go_simp;rfl,by first|trivial|(constructor<;>omega)⟩⟩).mono ?_
  rintro e2 w2 ⟨v2,rfl,p2,h2,g2⟩
  have hs2:=h2.lt
  have hz2:w.heap.size≤w2.heap.size:=Nat.le_trans (by first|exact Nat.le_refl _|with_reducible assumption|(simp;done)|(simp;omega)) g2.size
  go_wp2
  go_ret
  exact ⟨_,rfl,p2,Cur.le (K:=((K+2)+2)) (by repeat' with_reducible first|assumption|refine Cur.alc ?_ _|refine Cur.drw ?_|refine Cur.setN ?_ (by first|with_reducible assumption|omega)) (by omega),(by repeat' first|exact World.grownBy.refl' _ _|refine World.grownBy.setNew ?_ (by first|omega|(simp;omega)) _ _|refine World.grownBy.alloc' ?_ _|refine World.grownBy.drewN' ?_ _|refine World.grownBy.drew' ?_|refine World.grownBy.trans' ?_ (by assumption)|refine World.grownBy.below' ?_ (by assumption))⟩
 ·skip
  by_cases q1:v1=1
  ·subst q1
   go_wp2_with fail
   refine (pick_a (B:=B) b (K+2) 50000 _ (by repeat' with_reducible first|assumption|refine Cur.alc ?_ _|refine Cur.drw ?_|refine Cur.setN ?_ (by first|with_reducible assumption|omega)) (by omega) (by omega)).mono ?_
   rintro e2 w2 ⟨v2,rfl,p2,h2,g2⟩
   have hs2:=h2.lt
   have hz2:w.heap.size≤w2.heap.size:=Nat.le_trans (by first|exact Nat.le_refl _|with_reducible assumption|(simp;done)|(simp;omega)) g2.size
   go_wp2_with fail
   refine (pick_a (B:=B) b ((K+2)+2) 20 _ (by repeat' with_reducible first|assumption|refine Cur.alc ?_ _|refine Cur.drw ?_|refine Cur.setN ?_ (by first|with_reducible assumption|omega)) (by omega) (by omega)).mono ?_
   rintro e3 w3 ⟨v3,rfl,p3,h3,g3⟩
   have hs3:=h3.lt
   have hz3:w.heap.size≤w3.heap.size:=Nat.le_trans (by first|exact Nat.le_refl _|with_reducible assumption|(simp;done)|(simp;omega)) g3.size
   go_wp2_with fail
   refine (pick_a (B:=B) b (((K+2)+2)+2) 2 _ (by repeat' with_reducible first|assumption|refine Cur.alc ?_ _|refine Cur.drw ?_|refine Cur.setN ?_ (by first|with_reducible assumption|omega)) (by omega) (by omega)).mono ?_
   rintro e4 w4 ⟨v4,rfl,p4,h4,g4⟩
   have hs4:=h4.lt
   have hz4:w.heap.size≤w4.heap.size:=Nat.le_trans (by first|exact Nat.le_refl _|with_reducible assumption|(simp;done)|(simp;omega)) g4.size
   have m1:0≤v2*(1+v3)∧v2*(1+v3)≤2000000:=by have:=mul_bd (A:=50000) (B:=20) (by omega) (show -50000≤v2∧v2≤50000 by omega) (show -20≤1+v3∧1+v3≤20 by omega);exact ⟨Int.mul_nonneg (by omega) (by omega),by omega⟩
   have m2: -2000000≤v2*(1+v3)*(1-2*v4)∧v2*(1+v3)*(1-2*v4)≤2000000:=by
    generalize v2*(1+v3)=m at*
    rcases (show v4=0∨v4=1 by omega) with rfl|rfl<;>simp<;>omega
   go_wp2
   go_ret
   exact ⟨_,rfl,by unfold R64;first|omega|(unfold wrap64;omega)|(simp only[IntKind.wrap_i64];omega),Cur.le (K:=((((K+2)+2)+2)+2)) (by repeat' with_reducible first|assumption|refine Cur.alc ?_ _|refine Cur.drw ?_|refine Cur.setN ?_ (by first|with_reducible assumption|omega)) (by omega),(by repeat' first|exact World.grownBy.refl' _ _|refine World.grownBy.setNew ?_ (by first|omega|(simp;omega)) _ _|refine World.grownBy.alloc' ?_ _|refine World.grownBy.drewN' ?_ _|refine World.grownBy.drew' ?_|refine World.grownBy.trans' ?_ (by assumption)|refine World.grownBy.below' ?_ (by assumption))⟩
  ·skip
   by_cases q2:v1=2
   ·subst q2
    go_wp2_with fail
    refine (pick_a (B:=B) b (K+2) 50000 _ (by repeat' with_reducible first|assumption|refine Cur.alc ?_ _|refine Cur.drw ?_|refine Cur.setN ?_ (by first|with_reducible assumption|omega)) (by omega) (by omega)).mono ?_
    rintro e2 w2 ⟨v2,rfl,p2,h2,g2⟩
    have hs2:=h2.lt
    have hz2:w.heap.size≤w2.heap.size:=Nat.le_trans (by first|exact Nat.le_refl _|with_reducible assumption|(simp;done)|(simp;omega)) g2.size
    go_wp2_with fail
    refine (pick_a (B:=B) b ((K+2)+2) 20 _ (by repeat' with_reducible first|assumption|refine Cur.alc ?_ _|refine Cur.drw ?_|refine Cur.setN ?_ (by first|with_reducible assumption|omega)) (by omega) (by omega)).mono ?_
    rintro e3 w3 ⟨v3,rfl,p3,h3,g3⟩
    have hs3:=h3.lt
    have hz3:w.heap.size≤w3.heap.size:=Nat.le_trans (by first|exact Nat.le_refl _|with_reducible assumption|(simp;done)|(simp;omega)) g3.size
    go_wp2_with fail
    refine (pick_a (B:=B) b (((K+2)+2)+2) 2 _ (by repeat' with_reducible first|assumption|refine Cur.alc ?_ _|refine Cur.drw ?_|refine Cur.setN ?_ (by first|with_reducible assumption|omega)) (by omega) (by omega)).mono ?_
    rintro e4 w4 ⟨v4,rfl,p4,h4,g4⟩
    have hs4:=h4.lt
    have hz4:w.heap.size≤w4.heap.size:=Nat.le_trans (by first|exact Nat.le_refl _|with_reducible assumption|(simp;done)|(simp;omega)) g4.size
    have m1:0≤v2*(1+v3)∧v2*(1+v3)≤2000000:=by have:=mul_bd (A:=50000) (B:=20) (by omega) (show -50000≤v2∧v2≤50000 by omega) (show -20≤1+v3∧1+v3≤20 by omega);exact ⟨Int.mul_nonneg (by omega) (by omega),by omega⟩
    have m2: -2000000≤v2*(1+v3)*(1-2*v4)∧v2*(1+v3)*(1-2*v4)≤2000000:=by
     generalize v2*(1+v3)=m at*
     rcases (show v4=0∨v4=1 by omega) with rfl|rfl<;>simp<;>omega
    go_wp2
    go_ret
    exact ⟨_,rfl,by unfold R64;first|omega|(unfold wrap64;omega)|(simp only[IntKind.wrap_i64];omega),Cur.le (K:=((((K+2)+2)+2)+2)) (by repeat' with_reducible first|assumption|refine Cur.alc ?_ _|refine Cur.drw ?_|refine Cur.setN ?_ (by first|with_reducible assumption|omega)) (by omega),(by repeat' first|exact World.grownBy.refl' _ _|refine World.grownBy.setNew ?_ (by first|omega|(simp;omega)) _ _|refine World.grownBy.alloc' ?_ _|refine World.grownBy.drewN' ?_ _|refine World.grownBy.drew' ?_|refine World.grownBy.trans' ?_ (by assumption)|refine World.grownBy.below' ?_ (by assumption))⟩
   ·skip
    by_cases q3:v1=3
    ·subst q3
     go_wp2_with fail
     refine (pick_a (B:=B) b (K+2) 2000 _ (by repeat' with_reducible first|assumption|refine Cur.alc ?_ _|refine Cur.drw ?_|refine Cur.setN ?_ (by first|with_reducible assumption|omega)) (by omega) (by omega)).mono ?_
     rintro e2 w2 ⟨v2,rfl,p2,h2,g2⟩
     have hs2:=h2.lt
     have hz2:w.heap.size≤w2.heap.size:=Nat.le_trans (by first|exact Nat.le_refl _|with_reducible assumption|(simp;done)|(simp;omega)) g2.size
     go_wp2
     go_ret
     exact ⟨_,rfl,by first|omega|(unfold R64;omega),Cur.le (K:=((K+2)+2)) (by repeat' with_reducible first|assumption|refine Cur.alc ?_ _|refine Cur.drw ?_|refine Cur.setN ?_ (by first|with_reducible assumption|omega)) (by omega),(by repeat' first|exact World.grownBy.refl' _ _|refine World.grownBy.setNew ?_ (by first|omega|(simp;omega)) _ _|refine World.grownBy.alloc' ?_ _|refine World.grownBy.drewN' ?_ _|refine World.grownBy.drew' ?_|refine World.grownBy.trans' ?_ (by assumption)|refine World.grownBy.below' ?_ (by assumption))⟩
    ·skip
     by_cases q4:v1=4
     ·subst q4
      go_wp2_with fail
      refine (pick_a (B:=B) b (K+2) 2000 _ (by repeat' with_reducible first|assumption|refine Cur.alc ?_ _|refine Cur.drw ?_|refine Cur.setN ?_ (by first|with_reducible assumption|omega)) (by omega) (by omega)).mono ?_
      rintro e2 w2 ⟨v2,rfl,p2,h2,g2⟩
      have hs2:=h2.lt
      have hz2:w.heap.size≤w2.heap.size:=Nat.le_trans (by first|exact Nat.le_refl _|with_reducible assumption|(simp;done)|(simp;omega)) g2.size
      go_wp2
      go_ret
      exact ⟨_,rfl,by first|omega|(unfold R64;omega),Cur.le (K:=((K+2)+2)) (by repeat' with_reducible first|assumption|refine Cur.alc ?_ _|refine Cur.drw ?_|refine Cur.setN ?_ (by first|with_reducible assumption|omega)) (by omega),(by repeat' first|exact World.grownBy.refl' _ _|refine World.grownBy.setNew ?_ (by first|omega|(simp;omega)) _ _|refine World.grownBy.alloc' ?_ _|refine World.grownBy.drewN' ?_ _|refine World.grownBy.drew' ?_|refine World.grownBy.trans' ?_ (by assumption)|refine World.grownBy.below' ?_ (by assumption))⟩
     ·skip
      go_wp2_with fail
      refine (pick_a (B:=B) b (K+2) 121 _ (by repeat' with_reducible first|assumption|refine Cur.alc ?_ _|refine Cur.drw ?_|refine Cur.setN ?_ (by first|with_reducible assumption|omega)) (by omega) (by omega)).mono ?_
      rintro e2 w2 ⟨v2,rfl,p2,h2,g2⟩
      have hs2:=h2.lt
      have hz2:w.heap.size≤w2.heap.size:=Nat.le_trans (by first|exact Nat.le_refl _|with_reducible assumption|(simp;done)|(simp;omega)) g2.size
      go_wp2
      go_ret
      exact ⟨_,rfl,by first|omega|(unfold R64;omega),Cur.le (K:=((K+2)+2)) (by repeat' with_reducible first|assumption|refine Cur.alc ?_ _|refine Cur.drw ?_|refine Cur.setN ?_ (by first|with_reducible assumption|omega)) (by omega),(by repeat' first|exact World.grownBy.refl' _ _|refine World.grownBy.setNew ?_ (by first|omega|(simp;omega)) _ _|refine World.grownBy.alloc' ?_ _|refine World.grownBy.drewN' ?_ _|refine World.grownBy.drew' ?_|refine World.grownBy.trans' ?_ (by assumption)|refine World.grownBy.below' ?_ (by assumption))⟩
end Go.Proofs.YtobkcnmlmmhpoaaGreat
