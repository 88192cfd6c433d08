/- Numbers and discriminants drawn. The walk of impl.squareCounts: the table of the numbers of representations. What the laws of squares draw. -/
import Derived.Test.YtobkcnmlmmhpoaaGreatDoorUrt
import Derived.Test.YtobkcnmlmmhpoaaGreatDoorConv
import Derived.Test.YtobkcnmlmmhpoaaGreatDoorNum
import Derived.Deep.OwnRows
set_option maxRecDepth 100000
set_option maxHeartbeats 80000000
namespace Go.Proofs.YtobkcnmlmmhpoaaGreatDoor
open Go.RowKit
set_option linter.unusedVariables false
set_option linter.unusedSimpArgs false
attribute [local go_sem] q2 q3 q4 q5 q6 q7 q8 q9 q10 q11 q12

variable {B:Nat}
theorem Cur.alc {w:World} {b:Nat} {K:Int} (h:Cur B w b K) (ob:Obj):Cur B (w.alloc ob) b K:=h.below (below_alloc_self _ _)
theorem Cur.drw {w:World} {b:Nat} {K:Int} (h:Cur B w b K):Cur B w.drew b K:=h.below (below_drew (Below.refl _ _))
theorem Cur.setN {w:World} {b k j:Nat} {K:Int} {v:Value} (h:Cur B w b K) (hne:b<k):Cur B (w.setCell ⟨k,j,none⟩ v) b K:=by
 obtain ⟨a,n,c,t,s,h0,h1,h2,h3,h4,h5,h6,h7⟩:=h
 have nb: ∀o,(⟨k,j,none⟩:Addr)≠⟨b,o,none⟩:=fun o e=>by injection e;omega
 refine ⟨a,n,c,t,s,cell_ne _ (nb 0) h0,cell_ne _ (nb 1) h1,cell_ne _ (nb 2) h2,frz_set _ h3,frz_set _ h4,h5,h6,?_⟩
 rcases h7 with h|⟨g,off,k1,k2,k3⟩
 ·exact .inl h
 ·exact .inr ⟨g,off,k1,k2,fun i hi=>by obtain ⟨x,hx,k4⟩:=k3 i hi;exact ⟨x,cell_ne _ (fun e=>by injection e with e1 e2;omega) hx,k4⟩⟩
theorem _root_.Go.World.grownBy.setNew {w w':World} {r:Option Nat} {g:Nat} (h:w.grownBy w' r) (hg:w.heap.size≤g) (o:Nat) (v:Value):w.grownBy (w'.setCell ⟨g,o,none⟩ v) r:=
 ⟨h.os,h.tape,h.output,by simpa [World.setCell] using h.size,fun j hj hne=>(Below.heap_setCell _ _ _ _ (fun e=>by change j=g at e;omega)).trans (h.block j hj hne)⟩
theorem _root_.Go.World.grownBy.drew' {w w':World} {r:Option Nat} (h:w.grownBy w' r):w.grownBy w'.drew r:=⟨h.os,h.tape,h.output,h.size,h.block⟩
theorem far_cell {w W:World} {b g i:Nat} {v:Value} (hg:w.grownBy W (some b)) (h:w.cell? ⟨g,i,none⟩=some v) (hne:g≠b):W.cell? ⟨g,i,none⟩=some v:=
 (hg.cell_far ⟨g,i,none⟩ (World.block_lt_of_cell? _ _ h) (fun e=>hne (Option.some.inj e))).trans h
theorem far_frz {w W:World} {b g i:Nat} (hg:w.grownBy W (some b)) (hl:g<w.heap.size) (h:w.frozen? ⟨g,i,none⟩=false) (hne:g≠b):W.frozen? ⟨g,i,none⟩=false:=
 (hg.frozen_far ⟨g,i,none⟩ hl (fun e=>hne (Option.some.inj e))).trans h
theorem Ri3.d {w W:World} {b':Nat} (hg:w.grownBy W (some b')) (b:Nat) (x0 x1 x2:Int) (nb:b≠b') (h:Ri3 w b x0 x1 x2:=by exact ⟨byCT,byCT,byCT,by first|with_reducible assumption|(simp;done)|(simp;omega)⟩):Ri3 W b x0 x1 x2:=⟨far_cell hg h.c0 nb,far_cell hg h.c1 nb,far_cell hg h.c2 nb,Nat.lt_of_lt_of_le h.z hg.size⟩
theorem Wi3.d {w W:World} {b':Nat} (hg:w.grownBy W (some b')) (b:Nat) (x0 x1 x2:Int) (nb:b≠b') (h:Wi3 w b x0 x1 x2:=by exact ⟨byCT,byCT,byCT,byFT,byFT,byFT,by first|with_reducible assumption|(simp;done)|(simp;omega)⟩):Wi3 W b x0 x1 x2:=⟨far_cell hg h.c0 nb,far_cell hg h.c1 nb,far_cell hg h.c2 nb,far_frz hg h.z h.f0 nb,far_frz hg h.z h.f1 nb,far_frz hg h.z h.f2 nb,Nat.lt_of_lt_of_le h.z hg.size⟩
theorem Ri4.d {w W:World} {b':Nat} (hg:w.grownBy W (some b')) (b:Nat) (x0 x1 x2 x3:Int) (nb:b≠b') (h:Ri4 w b x0 x1 x2 x3:=by exact ⟨byCT,byCT,byCT,byCT,by first|with_reducible assumption|(simp;done)|(simp;omega)⟩):Ri4 W b x0 x1 x2 x3:=⟨far_cell hg h.c0 nb,far_cell hg h.c1 nb,far_cell hg h.c2 nb,far_cell hg h.c3 nb,Nat.lt_of_lt_of_le h.z hg.size⟩
theorem Wi4.d {w W:World} {b':Nat} (hg:w.grownBy W (some b')) (b:Nat) (x0 x1 x2 x3:Int) (nb:b≠b') (h:Wi4 w b x0 x1 x2 x3:=by exact ⟨byCT,byCT,byCT,byCT,byFT,byFT,byFT,byFT,by first|with_reducible assumption|(simp;done)|(simp;omega)⟩):Wi4 W b x0 x1 x2 x3:=⟨far_cell hg h.c0 nb,far_cell hg h.c1 nb,far_cell hg h.c2 nb,far_cell hg h.c3 nb,far_frz hg h.z h.f0 nb,far_frz hg h.z h.f1 nb,far_frz hg h.z h.f2 nb,far_frz hg h.z h.f3 nb,Nat.lt_of_lt_of_le h.z hg.size⟩
def R64 (x:Int):Prop:= -9223372036854775808≤x∧x≤9223372036854775807

theorem disc_d (b:Nat) (K:Int) (w:World) (h0:Cur B w b K) (hK:K≤10000000000):Calls Tryz.prog 72 #[.pointer (some ⟨b,0,none⟩)] w (Drew B w b (K+4) R64):=by
 have hs0:=h0.lt
 go_enter Tryz.func72,Tryz.ntmps72
 go_wp2_with fail
 refine (pick_a (B:=B) b K 16 _ Vo Vn Vn).mono ?_
 rintro e1 w1 ⟨v1,rfl,p1,h1,g1⟩
 have hs1:=h1.lt
 have hz1:w.heap.size≤w1.heap.size:=Nat.le_trans VC g1.size
 by_cases q0:v1=0
 ·subst q0
  go_wp2_with fail
  refine (among_a (B:=B) b (K+2) _ 0 17 17 (fun x=> -9223372036854775808≤x∧x≤9223372036854775807) _ Vo Vn Vn ⟨Vn,fun i hi=>by rcases (show i=0∨i=1∨i=2∨i=3∨i=4∨i=5∨i=6∨i=7∨i=8∨i=9∨i=10∨i=11∨i=12∨i=13∨i=14∨i=15∨i=16 by omega) with rfl|rfl|rfl|rfl|rfl|rfl|rfl|rfl|rfl|rfl|rfl|rfl|rfl|rfl|rfl|rfl|rfl<;>exact ⟨_,by go_simp;rfl,by first|trivial|(constructor<;>omega)⟩⟩).mono ?_
  rintro e2 w2 ⟨v2,rfl,p2,h2,g2⟩
  have hs2:=h2.lt
  have hz2:w.heap.size≤w2.heap.size:=Nat.le_trans VC g2.size
  go_wp2
  go_ret
  exact ⟨_,rfl,p2,Cur.le (K:=((K+2)+2)) Vo Vn,Vt⟩
 ·skip
  by_cases q1:v1=1
  ·subst q1
   go_wp2_with fail
   refine (pick_a (B:=B) b (K+2) 1998 _ Vo Vn Vn).mono ?_
   rintro e2 w2 ⟨v2,rfl,p2,h2,g2⟩
   have hs2:=h2.lt
   have hz2:w.heap.size≤w2.heap.size:=Nat.le_trans VC g2.size
   go_wp2_with fail
   refine (nuMod_a (-3-v2) 4 _ Vn Vn Vn).mono ?_
   rintro e9 w9 ⟨rfl,rfl⟩
   by_cases q9:1<(-3-v2)%4
   ·go_wp2_with (go_at_call 97;refine (l1Most_a _ _ _).mono ?_;rintro e8 w8 ⟨rfl,rfl⟩)
    go_ret
    exact ⟨_,rfl,by unfold R64;omega,Cur.le (K:=((K+2)+2)) Vo Vn,Vt⟩
   ·go_wp2
    go_ret
    exact ⟨_,rfl,by unfold R64;omega,Cur.le (K:=((K+2)+2)) Vo Vn,Vt⟩
  ·skip
   by_cases q2:v1=2
   ·subst q2
    go_wp2_with fail
    refine (pick_a (B:=B) b (K+2) 1998 _ Vo Vn Vn).mono ?_
    rintro e2 w2 ⟨v2,rfl,p2,h2,g2⟩
    have hs2:=h2.lt
    have hz2:w.heap.size≤w2.heap.size:=Nat.le_trans VC g2.size
    go_wp2_with fail
    refine (nuMod_a (-3-v2) 4 _ Vn Vn Vn).mono ?_
    rintro e9 w9 ⟨rfl,rfl⟩
    by_cases q9:1<(-3-v2)%4
    ·go_wp2_with (go_at_call 97;refine (l1Most_a _ _ _).mono ?_;rintro e8 w8 ⟨rfl,rfl⟩)
     go_ret
     exact ⟨_,rfl,by unfold R64;omega,Cur.le (K:=((K+2)+2)) Vo Vn,Vt⟩
    ·go_wp2
     go_ret
     exact ⟨_,rfl,by unfold R64;omega,Cur.le (K:=((K+2)+2)) Vo Vn,Vt⟩
   ·skip
    by_cases q3:v1=3
    ·subst q3
     go_wp2_with fail
     refine (among_a (B:=B) b (K+2) _ 0 16 16 (fun x=> -9223372036854775808≤x∧x≤9223372036854775807) _ Vo Vn Vn ⟨Vn,fun i hi=>by rcases (show i=0∨i=1∨i=2∨i=3∨i=4∨i=5∨i=6∨i=7∨i=8∨i=9∨i=10∨i=11∨i=12∨i=13∨i=14∨i=15 by omega) with rfl|rfl|rfl|rfl|rfl|rfl|rfl|rfl|rfl|rfl|rfl|rfl|rfl|rfl|rfl|rfl<;>exact ⟨_,by go_simp;rfl,by first|trivial|(constructor<;>omega)⟩⟩).mono ?_
     rintro e2 w2 ⟨v2,rfl,p2,h2,g2⟩
     have hs2:=h2.lt
     have hz2:w.heap.size≤w2.heap.size:=Nat.le_trans VC g2.size
     go_wp2
     go_ret
     exact ⟨_,rfl,p2,Cur.le (K:=((K+2)+2)) Vo Vn,Vt⟩
    ·skip
     by_cases q4:v1=4
     ·subst q4
      go_wp2_with fail
      refine (among_a (B:=B) b (K+2) _ 0 16 16 (fun x=> -9223372036854775808≤x∧x≤9223372036854775807) _ Vo Vn Vn ⟨Vn,fun i hi=>by rcases (show i=0∨i=1∨i=2∨i=3∨i=4∨i=5∨i=6∨i=7∨i=8∨i=9∨i=10∨i=11∨i=12∨i=13∨i=14∨i=15 by omega) with rfl|rfl|rfl|rfl|rfl|rfl|rfl|rfl|rfl|rfl|rfl|rfl|rfl|rfl|rfl|rfl<;>exact ⟨_,by go_simp;rfl,by first|trivial|(constructor<;>omega)⟩⟩).mono ?_
      rintro e2 w2 ⟨v2,rfl,p2,h2,g2⟩
      have hs2:=h2.lt
      have hz2:w.heap.size≤w2.heap.size:=Nat.le_trans VC g2.size
      go_wp2
      go_ret
      exact ⟨_,rfl,p2,Cur.le (K:=((K+2)+2)) Vo Vn,Vt⟩
     ·skip
      by_cases q5:v1=5
      ·subst q5
       go_wp2_with fail
       refine (among_a (B:=B) b (K+2) _ 0 16 16 (fun x=> -9223372036854775808≤x∧x≤9223372036854775807) _ Vo Vn Vn ⟨Vn,fun i hi=>by rcases (show i=0∨i=1∨i=2∨i=3∨i=4∨i=5∨i=6∨i=7∨i=8∨i=9∨i=10∨i=11∨i=12∨i=13∨i=14∨i=15 by omega) with rfl|rfl|rfl|rfl|rfl|rfl|rfl|rfl|rfl|rfl|rfl|rfl|rfl|rfl|rfl|rfl<;>exact ⟨_,by go_simp;rfl,by first|trivial|(constructor<;>omega)⟩⟩).mono ?_
       rintro e2 w2 ⟨v2,rfl,p2,h2,g2⟩
       have hs2:=h2.lt
       have hz2:w.heap.size≤w2.heap.size:=Nat.le_trans VC g2.size
       go_wp2
       go_ret
       exact ⟨_,rfl,p2,Cur.le (K:=((K+2)+2)) Vo Vn,Vt⟩
      ·skip
       by_cases q6:v1=6
       ·subst q6
        go_wp2_with fail
        refine (pick_a (B:=B) b (K+2) 60 _ Vo Vn Vn).mono ?_
        rintro e2 w2 ⟨v2,rfl,p2,h2,g2⟩
        have hs2:=h2.lt
        have hz2:w.heap.size≤w2.heap.size:=Nat.le_trans VC g2.size
        go_wp2
        go_ret
        exact ⟨_,rfl,by first|omega|(unfold R64;omega),Cur.le (K:=((K+2)+2)) Vo Vn,Vt⟩
       ·skip
        by_cases q7:v1=7
        ·subst q7
         go_wp2_with fail
         refine (pick_a (B:=B) b (K+2) 60 _ Vo Vn Vn).mono ?_
         rintro e2 w2 ⟨v2,rfl,p2,h2,g2⟩
         have hs2:=h2.lt
         have hz2:w.heap.size≤w2.heap.size:=Nat.le_trans VC g2.size
         go_wp2
         go_ret
         exact ⟨_,rfl,by first|omega|(unfold R64;omega),Cur.le (K:=((K+2)+2)) Vo Vn,Vt⟩
        ·skip
         go_wp2_with fail
         refine (pick_a (B:=B) b (K+2) 50 _ Vo Vn Vn).mono ?_
         rintro e2 w2 ⟨v2,rfl,p2,h2,g2⟩
         have hs2:=h2.lt
         have hz2:w.heap.size≤w2.heap.size:=Nat.le_trans VC g2.size
         go_wp2
         go_ret
         exact ⟨_,rfl,by first|omega|(unfold R64;omega),Cur.le (K:=((K+2)+2)) Vo Vn,Vt⟩

theorem goodDisc_d (b:Nat) (K:Int) (w:World) (h0:Cur B w b K) (hK:K≤10000000000):Calls Tryz.prog 71 #[.pointer (some ⟨b,0,none⟩)] w (Drew B w b (K+4) (fun d=>negB d=true)):=by
 have hs0:=h0.lt
 go_enter Tryz.func71,Tryz.ntmps71
 go_wp2_with fail
 refine (disc_d (B:=B) b K  _ Vo Vn).mono ?_
 rintro e1 w1 ⟨v1,rfl,p1,h1,g1⟩
 have hs1:=h1.lt
 have hz1:w.heap.size≤w1.heap.size:=Nat.le_trans VC g1.size
 go_wp2_with fail
 cases q:negB v1
 ·refine (reDisc_a v1 _).mono ?_
  rintro e9 w9 ⟨rfl,rfl⟩
  rw[q]
  go_wp2
  go_ret
  exact ⟨_,rfl,VA,Cur.le (K:=(K+4)) Vo Vn,Vt⟩
 ·refine (reDisc_a v1 _).mono ?_
  rintro e9 w9 ⟨rfl,rfl⟩
  rw[q]
  go_wp2
  go_ret
  exact ⟨_,rfl,q,Cur.le (K:=(K+4)) Vo Vn,Vt⟩

end Go.Proofs.YtobkcnmlmmhpoaaGreatDoor
namespace Go.Proofs.YtobkcnmlmmhpoaaGreatDoor
open Go.RowKit
set_option linter.unusedVariables false
set_option linter.unusedSimpArgs false

end Go.Proofs.YtobkcnmlmmhpoaaGreatDoor
namespace Go.Proofs.YtobkcnmlmmhpoaaGreatDoor
open Go.RowKit
set_option linter.unusedVariables false
set_option linter.unusedSimpArgs false
attribute [local go_sem] q2 q3 q4 q5 q6 q7 q8 q9 q10 q11 q12

variable {B:Nat}
def ArgB (w:World) (v:Value) (n:Nat):Prop:=(∃a c,v= .slice a n c∧n=0)∨ ∃g off c,v= .slice (some ⟨g,off,none⟩) n c∧g<w.heap.size∧ ∀i,i<n→ ∃x:Int,w.cell? ⟨g,off+i,none⟩=some (.int .u8 x)∧0≤x∧x≤255
theorem ArgB.below {w w':World} {v:Value} {n:Nat} (h:ArgB w v n) (hb:Below w.heap.size w w'):ArgB w' v n:=by
 rcases h with h|⟨g,off,c,h1,h2,h3⟩
 ·exact .inl h
 ·exact .inr ⟨g,off,c,h1,Nat.lt_of_lt_of_le h2 hb.size,fun i hi=>by obtain ⟨x,hx,h4⟩:=h3 i hi;exact ⟨x,cell_call hb hx,h4⟩⟩
theorem ArgB.len {w:World} {v:Value} {n:Nat} (h:ArgB w v n): ∃a c,v= .slice a n c:=by
 rcases h with ⟨a,c,h,_⟩|⟨g,off,c,h,_⟩
 ·exact ⟨a,c,h⟩
 ·exact ⟨_,c,h⟩
theorem ArgB.bytes {w w':World} {a:Option Addr} {n c:Nat} (h:ArgB w (.slice a n c) n) (b:Nat) (hb:Below w.heap.size w w') (hlt:w.heap.size≤b):BytesAt w.heap.size w' b a n:=by
 rcases h with ⟨_,_,_,h⟩|⟨g,off,c',h1,h2,h3⟩
 ·exact .inl h
 ·cases h1
  exact .inr ⟨g,off,rfl,⟨h2,hlt⟩,fun i hi=>by obtain ⟨x,hx,h4⟩:=h3 i hi;exact ⟨x,cell_call hb hx,h4⟩⟩
theorem cur_new {w:World} {a:Option Addr} {n c:Nat} (h:ArgB w (.slice a n c) n) (W:World) (hW:Below w.heap.size w W):Cur w.heap.size (W.alloc (.cells #[.slice a n c,.int .i64 0,.int .u64 0] 49)) W.heap.size 0:=
 have hB:=hW.size
 ⟨a,n,c,0,0,byCT,byCT,byCT,byFT,byFT,Vn,Vn,h.bytes _ (gr_alloc hW _) Vn⟩
def RowQ (W:World) (g:Nat):Prop:= ∀i,i<4→ ∃x:Int,W.cell? ⟨g,i,none⟩=some (.int .i64 x)∧(-2000≤x∧x≤2000)∧W.frozen? ⟨g,i,none⟩=false
theorem RowQ.grown {w W:World} {b g:Nat} (h:RowQ w g) (hg:w.grownBy W (some b)) (hne:g≠b):RowQ W g:=fun i hi=>by
 obtain ⟨x,h1,h2,h3⟩:=h i hi
 have hlt:g<w.heap.size:=World.block_lt_of_cell? _ _ h1
 exact ⟨x,(hg.cell_far ⟨g,i,none⟩ hlt (fun e=>hne (Option.some.inj e))).trans h1,h2,(hg.frozen_far ⟨g,i,none⟩ hlt (fun e=>hne (Option.some.inj e))).trans h3⟩
theorem RowQ.al {w:World} {g:Nat} (h:RowQ w g) (ob:Obj):RowQ (w.alloc ob) g:=fun i hi=>by
 obtain ⟨x,h1,h2,h3⟩:=h i hi
 exact ⟨x,cell_call (below_alloc_self _ _) h1,h2,frz_call (below_alloc_self _ _) (World.block_lt_of_cell? _ _ h1) h3⟩
theorem RowQ.set {w:World} {g j:Nat} {v:Int} (h:RowQ w g) (hj:j<4) (hv: -2000≤v∧v≤2000):RowQ (w.setCell ⟨g,j,none⟩ (.int .i64 v)) g:=fun i hi=>by
 obtain ⟨x,h1,h2,h3⟩:=h i hi
 obtain ⟨y,k1,k2,k3⟩:=h j hj
 by_cases q:i=j
 ·subst q;exact ⟨v,cell_eq _ ⟨_,k1⟩,hv,frz_set _ h3⟩
 ·exact ⟨x,cell_ne _ (fun e=>q (by injection e with e1 e2;exact e2.symm)) h1,h2,frz_set _ h3⟩

theorem RowQ.made (w:World):RowQ (w.alloc (.cells #[.int .i64 0,.int .i64 0,.int .i64 0,.int .i64 0] 3)) w.heap.size:=fun i hi=>by
 rcases (show i=0∨i=1∨i=2∨i=3 by omega) with rfl|rfl|rfl|rfl<;>exact ⟨0,byCT,Vn,byFT⟩
def ResQ (W:World) (r:Nat):Prop:= ∀i,i<4→W.cell? ⟨r,i,none⟩=some (.int .i64 0)∧W.frozen? ⟨r,i,none⟩=false
theorem ResQ.grown {w W:World} {b g:Nat} (h:ResQ w g) (hg:w.grownBy W (some b)) (hne:g≠b):ResQ W g:=fun i hi=>by
 obtain ⟨h1,h3⟩:=h i hi
 have hlt:g<w.heap.size:=World.block_lt_of_cell? _ _ h1
 exact ⟨(hg.cell_far ⟨g,i,none⟩ hlt (fun e=>hne (Option.some.inj e))).trans h1,(hg.frozen_far ⟨g,i,none⟩ hlt (fun e=>hne (Option.some.inj e))).trans h3⟩
theorem ResQ.al {w:World} {g:Nat} (h:ResQ w g) (ob:Obj):ResQ (w.alloc ob) g:=fun i hi=>by
 obtain ⟨h1,h3⟩:=h i hi
 exact ⟨cell_call (below_alloc_self _ _) h1,frz_call (below_alloc_self _ _) (World.block_lt_of_cell? _ _ h1) h3⟩
theorem ResQ.set {w:World} {g k j:Nat} {v:Value} (h:ResQ w g) (hne:k≠g):ResQ (w.setCell ⟨k,j,none⟩ v) g:=fun i hi=>by
 obtain ⟨h1,h3⟩:=h i hi
 exact ⟨cell_ne _ (fun e=>hne (by injection e)) h1,frz_set _ h3⟩
theorem Cur.set {w:World} {b k j:Nat} {K:Int} {v:Value} (h:Cur B w b K) (hB:B≤k) (hne:k≠b):Cur B (w.setCell ⟨k,j,none⟩ v) b K:=by
 obtain ⟨a,n,c,t,s,h0,h1,h2,h3,h4,h5,h6,h7⟩:=h
 have nb: ∀o,(⟨k,j,none⟩:Addr)≠⟨b,o,none⟩:=fun o e=>hne (by injection e)
 refine ⟨a,n,c,t,s,cell_ne _ (nb 0) h0,cell_ne _ (nb 1) h1,cell_ne _ (nb 2) h2,frz_set _ h3,frz_set _ h4,h5,h6,?_⟩
 rcases h7 with h|⟨g,off,k1,k2,k3⟩
 ·exact .inl h
 ·exact .inr ⟨g,off,k1,k2,fun i hi=>by obtain ⟨x,hx,k4⟩:=k3 i hi;exact ⟨x,cell_ne _ (fun e=>by injection e with e1 e2;omega) hx,k4⟩⟩
end Go.Proofs.YtobkcnmlmmhpoaaGreatDoor
