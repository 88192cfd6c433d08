/- Roots of a discriminant: rootsOfDiscriminant, lvRoots, LevelRoots on both sides, the law's walk. Levels drawn. -/
import Derived.Test.YtobkcnmlmmhpoaaGreatLevel
import Derived.Test.YtobkcnmlmmhpoaaGreatConv
import Derived.Test.YtobkcnmlmmhpoaaGreatDrr
namespace Go.Proofs.YtobkcnmlmmhpoaaGreat
open Go.RowKit
set_option linter.unusedVariables false
set_option linter.unusedSimpArgs false
attribute [local go_sem] q2 q3 q4 q5 q6 q7 q8 q9 q10 q11 q12

def rtP (d n:Int) (k:Nat):Bool:=((k:Int)*(k:Int)-d)%(4*n)==0
theorem rt_sq {k:Nat} {n:Int} (h:(k:Int)<2*n) (hn:n≤30):0≤(k:Int)*(k:Int)∧(k:Int)*(k:Int)≤3600:=by
 have:=mul_bd (a:=(k:Int)) (b:=(k:Int)) (A:=60) (B:=60) (by omega) (by omega) (by omega)
 exact ⟨Int.mul_nonneg (by omega) (by omega),by omega⟩

set_option maxRecDepth 100000 in
set_option maxHeartbeats 2000000 in
theorem lvRoots_a (d n:Int) (w:World) (h0: -2000≤d) (h1:d≤ -3) (h2:1≤n) (h3:n≤30):
  Calls Tryz.prog 44 #[.int .i64 d,.int .i64 n] w (RetIL w (flN (rtP d n) (fun k=>(k:Int)) (2*n).toNat)):=by
 go_enter Tryz.func44,Tryz.ntmps44
 go_wp2
 go_loopw [5,6] (fun ls xs wr=> ∃(k:Nat) (a:Option Addr) (c:Nat),k≤(2*n).toNat∧xs= .int .i64 ((k:Int))∧ls= .slice a (flN (rtP d n) (fun k=>(k:Int)) k).length c∧IL wr w.heap.size (.slice a (flN (rtP d n) (fun k=>(k:Int)) k).length c) (flN (rtP d n) (fun k=>(k:Int)) k)∧Below w.heap.size w wr) (fun _ xs _=>(2*n).toNat-(intOf xs).toNat)
 case atStart=>exact ⟨0,none,0,by omega,congrArg (Value.int .i64) (by omega),rfl,IL.nil _ _,Below.refl _ _⟩
 case round=>
  obtain ⟨k,a,c,hk,rfl,rfl,hl,hb⟩:=hrel
  obtain ⟨w1,rfl⟩: ∃w1:World,w1=wr:=⟨_,rfl⟩
  have hz:=hb.size
  have hL:=flN_len (rtP d n) (fun k=>(k:Int)) k
  by_cases c1:k<(2*n).toNat
  ·have hlt:(k:Int)<2*n:=by omega
   obtain ⟨q1,q2⟩:=rt_sq hlt h3
   cases hp:(rtP d n) k
   ·have el:=flN_no (e:=(fun k=>(k:Int))) hp
    have EL:=hide el
    have hp2:(((k:Int)*(k:Int)-d)%(4*n)==0)=false:=hp
    clear el
    go_wp2_with fail
    go_roundw
    case rel=>first|exact ⟨k+1,a,c,by omega,congrArg (Value.int .i64) (by omega),by rw[unhide EL],by rw[unhide EL];exact hl,hb⟩|((repeat apply Exists.intro);exact ⟨⟨k+1,a,c,by omega,congrArg (Value.int .i64) (by omega),by rw[unhide EL],by rw[unhide EL];exact hl,hb⟩,rfl⟩)
    case measure=>simp [intOf];omega
   ·have el:=flN_yes (e:=(fun k=>(k:Int))) hp
    have EL:=hide el
    have hp2:(((k:Int)*(k:Int)-d)%(4*n)==0)=true:=hp
    clear el
    go_wp2_with (first|fail|(at_builtin;refine app_int _ rfl (.tmp 22) (.tmp 24) rfl w.heap.size (.slice a (flN (rtP d n) (fun k=>(k:Int)) k).length c) (flN (rtP d n) (fun k=>(k:Int)) k) ((k:Int)) w1.heap.size rfl rfl (hl.alloc _) (by simp) (by omega) (by simp;omega) ?_;intro g cap w2 hown hgrow hat hlt))
    go_roundw
    case rel=>
     refine ⟨k+1,some ⟨g,0,none⟩,cap,by omega,congrArg (Value.int .i64) (by omega),?_,?_,(hb.alloc hz _).grown hgrow (by simp;omega) (fun k hk=>(hl.lt k hk).1)⟩
     ·rw [unhide EL,List.length_append];rfl
     ·rw [unhide EL,List.length_append];exact hown
    case measure=>simp [intOf];omega
  ·skip
   obtain rfl:k=(2*n).toNat:=by omega
   go_wp2
   go_ret
   exact ⟨a,c,rfl,hl,hb⟩

end Go.Proofs.YtobkcnmlmmhpoaaGreat
namespace Go.Proofs.YtobkcnmlmmhpoaaGreat
open Go.RowKit
set_option linter.unusedVariables false
set_option linter.unusedSimpArgs false
attribute [local go_sem] q2 q3 q4 q5 q6 q7 q8 q9 q10 q11 q12

variable {B:Nat}

set_option maxRecDepth 100000 in
set_option maxHeartbeats 8000000 in
theorem level_d (b:Nat) (K:Int) (d:Int) (w:World) (h0:Cur B w b K) (hK:K≤5000000000):Calls Tryz.prog 74 #[.pointer (some ⟨b,0,none⟩),.int .i64 d] w (Drew B w b (K+8) R64):=by
 have hs0:=h0.lt
 go_enter Tryz.func74,Tryz.ntmps74
 go_wp2_with fail
 refine (one_a (B:=B) b K 12 _ (by repeat' with_reducible first|assumption|refine Cur.alc ?_ _|refine Cur.drw ?_|refine Cur.setN ?_ (by first|with_reducible assumption|omega)) (by omega) (by omega)).mono ?_
 rintro e1 w1 ⟨t1,rfl,h1,g1⟩
 have hs1:=h1.lt
 have hz1:w.heap.size≤w1.heap.size:=Nat.le_trans (by first|exact Nat.le_refl _|with_reducible assumption|(simp;done)|(simp;omega)) g1.size
 cases t1
 ·go_wp2_with fail
  refine (reDisc_a d _).mono ?_
  rintro e2 w2 ⟨rfl,rfl⟩
  cases q:negB d
  ·go_wp2_with fail
   refine (among_a (B:=B) b (K+2) _ 0 7 7 (fun x=> -9223372036854775808≤x∧x≤9223372036854775807) _ (by repeat' with_reducible first|assumption|refine Cur.alc ?_ _|refine Cur.drw ?_|refine Cur.setN ?_ (by first|with_reducible assumption|omega)) (by omega) (by omega) ⟨by omega,fun i hi=>by rcases (show i=0∨i=1∨i=2∨i=3∨i=4∨i=5∨i=6 by omega) with rfl|rfl|rfl|rfl|rfl|rfl|rfl<;>exact ⟨_,by go_simp;rfl,by first|trivial|(constructor<;>omega)⟩⟩).mono ?_
   rintro e3 w3 ⟨v3,rfl,p3,h3,g3⟩
   have hs3:=h3.lt
   have hz3:w.heap.size≤w3.heap.size:=Nat.le_trans (by first|exact Nat.le_refl _|with_reducible assumption|(simp;done)|(simp;omega)) g3.size
   go_wp2
   go_ret
   exact ⟨_,rfl,p3,Cur.le (K:=((K+2)+2)) (by repeat' with_reducible first|assumption|refine Cur.alc ?_ _|refine Cur.drw ?_|refine Cur.setN ?_ (by first|with_reducible assumption|omega)) (by omega),(by repeat' first|exact World.grownBy.refl' _ _|refine World.grownBy.setNew ?_ (by first|omega|(simp;omega)) _ _|refine World.grownBy.alloc' ?_ _|refine World.grownBy.drewN' ?_ _|refine World.grownBy.drew' ?_|refine World.grownBy.trans' ?_ (by assumption)|refine World.grownBy.below' ?_ (by assumption))⟩
  ·have hd:=neg_true q
   go_wp2_with fail
   refine (pick_a (B:=B) b (K+2) 30 _ (by repeat' with_reducible first|assumption|refine Cur.alc ?_ _|refine Cur.drw ?_|refine Cur.setN ?_ (by first|with_reducible assumption|omega)) (by omega) (by omega)).mono ?_
   rintro e3 w3 ⟨v3,rfl,p3,h3,g3⟩
   have hs3:=h3.lt
   have hz3:w.heap.size≤w3.heap.size:=Nat.le_trans (by first|exact Nat.le_refl _|with_reducible assumption|(simp;done)|(simp;omega)) g3.size
   have h31:=h3
   have g31:w.grownBy w3 (some b):=(by repeat' first|exact World.grownBy.refl' _ _|refine World.grownBy.setNew ?_ (by first|omega|(simp;omega)) _ _|refine World.grownBy.alloc' ?_ _|refine World.grownBy.drewN' ?_ _|refine World.grownBy.drew' ?_|refine World.grownBy.trans' ?_ (by assumption)|refine World.grownBy.below' ?_ (by assumption))
   go_wp2_with fail
   go_loopw [5,6] (fun ns ks wr=> ∃n k:Int,ns= .int .i64 n∧ks= .int .i64 k∧(1≤n∧n≤30)∧(0≤k∧k≤60)∧Cur B wr b (K+4)∧w.grownBy wr (some b)∧w.heap.size≤wr.heap.size) (fun _ ks _=>60-(intOf ks).toNat)
   case atStart=>exact ⟨_,_,rfl,rfl,by omega,by omega,h3.le (by omega),g31,hz3⟩
   case round=>
    clear h31 g31
    obtain ⟨n,k,rfl,rfl,hn,hk,hcu,hgr,hzr⟩:=hrel
    obtain ⟨wl,rfl⟩: ∃wl:World,wl=wr:=⟨_,rfl⟩
    have hsl:=hcu.lt
    by_cases q1:k<60
    ·go_wp2_with fail
     refine (nuGcd_a n d _ (by omega) (by omega)).mono ?_
     rintro e8 w8 ⟨rfl,nq,rfl⟩
     have h8:Cur B (wl.drewN nq) b (K+4):=hcu.below (below_drewN (Below.refl _ _) _)
     by_cases q2:1<igcd n d
     ·have hcN:=h8
      have htm:n.tmod 30=n%30:=Int.tmod_eq_emod_of_nonneg (by omega)
      by_cases q4:30<k
      ·go_wp2
       go_roundw
       case rel=>exact ⟨_,_,rfl,by first|rfl|go_num,by omega,by omega,(by repeat' with_reducible first|assumption|refine Cur.alc ?_ _|refine Cur.drw ?_|refine Cur.setN ?_ (by first|with_reducible assumption|omega)),(by repeat' first|exact World.grownBy.refl' _ _|refine World.grownBy.setNew ?_ (by first|omega|(simp;omega)) _ _|refine World.grownBy.alloc' ?_ _|refine World.grownBy.drewN' ?_ _|refine World.grownBy.drew' ?_|refine World.grownBy.trans' ?_ (by assumption)|refine World.grownBy.below' ?_ (by assumption)),by first|omega|(simp;omega)⟩
       case measure=>simp [intOf];omega
      ·go_wp2
       go_roundw
       case rel=>exact ⟨_,_,rfl,by first|rfl|go_num,by omega,by omega,(by repeat' with_reducible first|assumption|refine Cur.alc ?_ _|refine Cur.drw ?_|refine Cur.setN ?_ (by first|with_reducible assumption|omega)),(by repeat' first|exact World.grownBy.refl' _ _|refine World.grownBy.setNew ?_ (by first|omega|(simp;omega)) _ _|refine World.grownBy.alloc' ?_ _|refine World.grownBy.drewN' ?_ _|refine World.grownBy.drew' ?_|refine World.grownBy.trans' ?_ (by assumption)|refine World.grownBy.below' ?_ (by assumption)),by first|omega|(simp;omega)⟩
       case measure=>simp [intOf];omega
     ·go_wp2_with fail
      refine (lvRoots_a d n _ (by omega) (by omega) (by omega) (by omega)).mono ?_
      rintro e9 w9 ⟨a9,c9,rfl,hl9,b9⟩
      have h9:=Cur.below (B:=B) (b:=b) (K:=(K+4)) (by repeat' with_reducible first|assumption|refine Cur.alc ?_ _|refine Cur.drw ?_|refine Cur.setN ?_ (by first|with_reducible assumption|omega)) b9
      have hs9:=h9.lt
      have hz9:w.heap.size≤w9.heap.size:=Nat.le_trans (by first|with_reducible assumption|(simp;omega)) b9.size
      obtain ⟨L,hL⟩: ∃L,(flN (rtP d n) (fun k=>(k:Int)) (2*n).toNat).length=L:=⟨_,rfl⟩
      have HL:=hide hL
      rw[hL]
      clear hL hl9
      by_cases q3:L=0
      ·subst q3
       have hcN:=h9
       have htm:n.tmod 30=n%30:=Int.tmod_eq_emod_of_nonneg (by omega)
       by_cases q4:30<k
       ·go_wp2
        go_roundw
        case rel=>exact ⟨_,_,rfl,by first|rfl|go_num,by omega,by omega,(by repeat' with_reducible first|assumption|refine Cur.alc ?_ _|refine Cur.drw ?_|refine Cur.setN ?_ (by first|with_reducible assumption|omega)),(by repeat' first|exact World.grownBy.refl' _ _|refine World.grownBy.setNew ?_ (by first|omega|(simp;omega)) _ _|refine World.grownBy.alloc' ?_ _|refine World.grownBy.drewN' ?_ _|refine World.grownBy.drew' ?_|refine World.grownBy.trans' ?_ (by assumption)|refine World.grownBy.below' ?_ (by assumption)),by first|omega|(simp;omega)⟩
        case measure=>simp [intOf];omega
       ·go_wp2
        go_roundw
        case rel=>exact ⟨_,_,rfl,by first|rfl|go_num,by omega,by omega,(by repeat' with_reducible first|assumption|refine Cur.alc ?_ _|refine Cur.drw ?_|refine Cur.setN ?_ (by first|with_reducible assumption|omega)),(by repeat' first|exact World.grownBy.refl' _ _|refine World.grownBy.setNew ?_ (by first|omega|(simp;omega)) _ _|refine World.grownBy.alloc' ?_ _|refine World.grownBy.drewN' ?_ _|refine World.grownBy.drew' ?_|refine World.grownBy.trans' ?_ (by assumption)|refine World.grownBy.below' ?_ (by assumption)),by first|omega|(simp;omega)⟩
        case measure=>simp [intOf];omega
      ·have q5:((L:Int)==0)=false:=by simp;omega
       go_wp2_with fail
       go_wp2_with fail
       refine (one_a (B:=B) b (K+4) 8 _ (by repeat' with_reducible first|assumption|refine Cur.alc ?_ _|refine Cur.drw ?_|refine Cur.setN ?_ (by first|with_reducible assumption|omega)) (by omega) (by omega)).mono ?_
       rintro e6 w6 ⟨t6,rfl,h6,g6⟩
       have hs6:=h6.lt
       have hz6:w.heap.size≤w6.heap.size:=Nat.le_trans (by first|exact Nat.le_refl _|with_reducible assumption|(simp;done)|(simp;omega)) g6.size
       cases t6
       ·go_wp2
        go_ret
        exact ⟨_,rfl,by unfold R64;omega,Cur.le (K:=((K+4)+2)) (by repeat' with_reducible first|assumption|refine Cur.alc ?_ _|refine Cur.drw ?_|refine Cur.setN ?_ (by first|with_reducible assumption|omega)) (by omega),(by repeat' first|exact World.grownBy.refl' _ _|refine World.grownBy.setNew ?_ (by first|omega|(simp;omega)) _ _|refine World.grownBy.alloc' ?_ _|refine World.grownBy.drewN' ?_ _|refine World.grownBy.drew' ?_|refine World.grownBy.trans' ?_ (by assumption)|refine World.grownBy.below' ?_ (by assumption))⟩
       ·go_wp2_with fail
        refine (pick_a (B:=B) b ((K+4)+2) 30 _ (by repeat' with_reducible first|assumption|refine Cur.alc ?_ _|refine Cur.drw ?_|refine Cur.setN ?_ (by first|with_reducible assumption|omega)) (by omega) (by omega)).mono ?_
        rintro e7 w7 ⟨v7,rfl,p7,h7,g7⟩
        have hs7:=h7.lt
        have hz7:w.heap.size≤w7.heap.size:=Nat.le_trans (by first|exact Nat.le_refl _|with_reducible assumption|(simp;done)|(simp;omega)) g7.size
        go_wp2
        go_ret
        exact ⟨_,rfl,by unfold R64;omega,Cur.le (K:=(((K+4)+2)+2)) (by repeat' with_reducible first|assumption|refine Cur.alc ?_ _|refine Cur.drw ?_|refine Cur.setN ?_ (by first|with_reducible assumption|omega)) (by omega),(by repeat' first|exact World.grownBy.refl' _ _|refine World.grownBy.setNew ?_ (by first|omega|(simp;omega)) _ _|refine World.grownBy.alloc' ?_ _|refine World.grownBy.drewN' ?_ _|refine World.grownBy.drew' ?_|refine World.grownBy.trans' ?_ (by assumption)|refine World.grownBy.below' ?_ (by assumption))⟩
    ·go_wp2_with fail
     refine (one_a (B:=B) b (K+4) 8 _ (by repeat' with_reducible first|assumption|refine Cur.alc ?_ _|refine Cur.drw ?_|refine Cur.setN ?_ (by first|with_reducible assumption|omega)) (by omega) (by omega)).mono ?_
     rintro e6 w6 ⟨t6,rfl,h6,g6⟩
     have hs6:=h6.lt
     have hz6:w.heap.size≤w6.heap.size:=Nat.le_trans (by first|exact Nat.le_refl _|with_reducible assumption|(simp;done)|(simp;omega)) g6.size
     cases t6
     ·go_wp2
      go_ret
      exact ⟨_,rfl,by unfold R64;omega,Cur.le (K:=((K+4)+2)) (by repeat' with_reducible first|assumption|refine Cur.alc ?_ _|refine Cur.drw ?_|refine Cur.setN ?_ (by first|with_reducible assumption|omega)) (by omega),(by repeat' first|exact World.grownBy.refl' _ _|refine World.grownBy.setNew ?_ (by first|omega|(simp;omega)) _ _|refine World.grownBy.alloc' ?_ _|refine World.grownBy.drewN' ?_ _|refine World.grownBy.drew' ?_|refine World.grownBy.trans' ?_ (by assumption)|refine World.grownBy.below' ?_ (by assumption))⟩
     ·go_wp2_with fail
      refine (pick_a (B:=B) b ((K+4)+2) 30 _ (by repeat' with_reducible first|assumption|refine Cur.alc ?_ _|refine Cur.drw ?_|refine Cur.setN ?_ (by first|with_reducible assumption|omega)) (by omega) (by omega)).mono ?_
      rintro e7 w7 ⟨v7,rfl,p7,h7,g7⟩
      have hs7:=h7.lt
      have hz7:w.heap.size≤w7.heap.size:=Nat.le_trans (by first|exact Nat.le_refl _|with_reducible assumption|(simp;done)|(simp;omega)) g7.size
      go_wp2
      go_ret
      exact ⟨_,rfl,by unfold R64;omega,Cur.le (K:=(((K+4)+2)+2)) (by repeat' with_reducible first|assumption|refine Cur.alc ?_ _|refine Cur.drw ?_|refine Cur.setN ?_ (by first|with_reducible assumption|omega)) (by omega),(by repeat' first|exact World.grownBy.refl' _ _|refine World.grownBy.setNew ?_ (by first|omega|(simp;omega)) _ _|refine World.grownBy.alloc' ?_ _|refine World.grownBy.drewN' ?_ _|refine World.grownBy.drew' ?_|refine World.grownBy.trans' ?_ (by assumption)|refine World.grownBy.below' ?_ (by assumption))⟩
 ·go_wp2_with fail
  refine (among_a (B:=B) b (K+2) _ 0 7 7 (fun x=> -9223372036854775808≤x∧x≤9223372036854775807) _ (by repeat' with_reducible first|assumption|refine Cur.alc ?_ _|refine Cur.drw ?_|refine Cur.setN ?_ (by first|with_reducible assumption|omega)) (by omega) (by omega) ⟨by omega,fun i hi=>by rcases (show i=0∨i=1∨i=2∨i=3∨i=4∨i=5∨i=6 by omega) with rfl|rfl|rfl|rfl|rfl|rfl|rfl<;>exact ⟨_,by go_simp;rfl,by first|trivial|(constructor<;>omega)⟩⟩).mono ?_
  rintro e2 w2 ⟨v2,rfl,p2,h2,g2⟩
  have hs2:=h2.lt
  have hz2:w.heap.size≤w2.heap.size:=Nat.le_trans (by first|exact Nat.le_refl _|with_reducible assumption|(simp;done)|(simp;omega)) g2.size
  go_wp2
  go_ret
  exact ⟨_,rfl,p2,Cur.le (K:=((K+2)+2)) (by repeat' with_reducible first|assumption|refine Cur.alc ?_ _|refine Cur.drw ?_|refine Cur.setN ?_ (by first|with_reducible assumption|omega)) (by omega),(by repeat' first|exact World.grownBy.refl' _ _|refine World.grownBy.setNew ?_ (by first|omega|(simp;omega)) _ _|refine World.grownBy.alloc' ?_ _|refine World.grownBy.drewN' ?_ _|refine World.grownBy.drew' ?_|refine World.grownBy.trans' ?_ (by assumption)|refine World.grownBy.below' ?_ (by assumption))⟩
end Go.Proofs.YtobkcnmlmmhpoaaGreat
