/- The reduced form on both sides. The first point on both sides. -/
import Derived.Test.YtobkcnmlmmhpoaaGreatDoorReduceS
import Derived.Test.YtobkcnmlmmhpoaaGreatDoorCmp
namespace Go.Proofs.YtobkcnmlmmhpoaaGreatDoor
set_option maxRecDepth 100000
set_option maxHeartbeats 80000000
open Go.RowKit
set_option linter.unusedVariables false
set_option linter.unusedSimpArgs false
attribute [local go_sem] q2 q3 q4 q5 q6 q7 q8 q9 q10 q11 q12

theorem reduced_a (a b c:Int) (w:World) (h0:OkF a b c):
  Calls Tryz.prog 98 #[.agg #[.int .i64 a,.int .i64 b,.int .i64 c]] w fun e w'=>e= .returned (.agg #[.int .i64 (rfA a b c),.int .i64 (rfB a b c),.int .i64 (rfC a b c)])∧Below w.heap.size w w':=by
 go_enter Tryz.func98,Tryz.ntmps98
 go_wp2_with fail
 refine (reduce_a _ _ _ _ Vp).mono ?_
 rintro e w1 ⟨rfl,hb1⟩
 have tq0:=Ri3.c hb1 w.heap.size a b c
 have tq1:=Wi3.c hb1 (w.heap.size+1) 0 0 0
 try clear c00 c01 c02
 try clear c10 c11 c12 f10 f11 f12
 obtain ⟨c00,c01,c02,z0⟩:=tq0
 obtain ⟨c10,c11,c12,f10,f11,f12,z1⟩:=tq1
 have hs1:=hb1.size
 go_wp2
 first|go_returns|(refine bodyPost_ret (v:= .agg #[.int .i64 (rfA a b c),.int .i64 (rfB a b c),.int .i64 (rfC a b c)]) (by simp [results,Tryz.results98,go_sem, *]) rfl ?_)
 refine ⟨rfl,?_⟩
 (repeat' first|with_reducible (first|exact Below.refl _ _|assumption|refine gr_alloc ?_ _|refine below_drewN ?_ _|refine below_drew ?_|refine gr_call ?_ VV|refine Below.setCell ?_ ?_ _)|go_size|omega|(simp;omega))

theorem reClass_a (a b c:Int) (w:World) (h0:OkF a b c):
  Calls Tryz.prog 113 #[.agg #[.int .i64 a,.int .i64 b,.int .i64 c]] w fun e w'=>e= .returned (.agg #[.int .i64 (rfA a b c),.int .i64 (rfB a b c),.int .i64 (rfC a b c)])∧Below w.heap.size w w':=by
 go_enter Tryz.func113,Tryz.ntmps113
 go_wp2_with fail
 refine (reReduce_a _ _ _ _ Vp).mono ?_
 rintro e w1 ⟨rfl,hb1⟩
 have tq0:=Ri3.c hb1 w.heap.size a b c
 have tq1:=Wi3.c hb1 (w.heap.size+1) 0 0 0
 try clear c00 c01 c02
 try clear c10 c11 c12 f10 f11 f12
 obtain ⟨c00,c01,c02,z0⟩:=tq0
 obtain ⟨c10,c11,c12,f10,f11,f12,z1⟩:=tq1
 have hs1:=hb1.size
 go_wp2
 first|go_returns|(refine bodyPost_ret (v:= .agg #[.int .i64 (rfA a b c),.int .i64 (rfB a b c),.int .i64 (rfC a b c)]) (by simp [results,Tryz.results113,go_sem, *]) rfl ?_)
 refine ⟨rfl,?_⟩
 (repeat' first|with_reducible (first|exact Below.refl _ _|assumption|refine gr_alloc ?_ _|refine below_drewN ?_ _|refine below_drew ?_|refine gr_call ?_ VV|refine Below.setCell ?_ ?_ _)|go_size|omega|(simp;omega))

theorem reClass_rw (a b c x y z:Int) (h:OkF a b c) (hE:rfA a b c=x∧rfB a b c=y∧rfC a b c=z) (w:World):
  Calls Tryz.prog 113 #[.agg #[.int .i64 a,.int .i64 b,.int .i64 c]] w fun e w'=>e= .returned (.agg #[.int .i64 x,.int .i64 y,.int .i64 z])∧Below w.heap.size w w':=by
 obtain ⟨rfl,rfl,rfl⟩:=hE
 exact reClass_a a b c w h
end Go.Proofs.YtobkcnmlmmhpoaaGreatDoor
namespace Go.Proofs.YtobkcnmlmmhpoaaGreatDoor
open Go.RowKit
set_option linter.unusedVariables false
set_option linter.unusedSimpArgs false
attribute [local go_sem] q2 q3 q4 q5 q6 q7 q8 q9 q10 q11 q12

def Sz (a b c m:Int) (k:Nat):Prop:= ∀k',k'<k→ ∀x' y',x'≤k'→y'≤k'→hitB a b c m k' x' y'=false
def Rw (a b c m:Int) (k x:Nat):Prop:= ∀x',x'<x→ ∀y',y'≤k→hitB a b c m k x' y'=false
def Cl (a b c m:Int) (k x y:Nat):Prop:= ∀y',y'<y→hitB a b c m k x y'=false
theorem sz_zero (a b c m:Int):Sz a b c m 0:=fun k' h=>absurd h (Nat.not_lt_zero _)
theorem rw_zero (a b c m:Int) (k:Nat):Rw a b c m k 0:=fun k' h=>absurd h (Nat.not_lt_zero _)
theorem cl_zero (a b c m:Int) (k x:Nat):Cl a b c m k x 0:=fun k' h=>absurd h (Nat.not_lt_zero _)
theorem sz_succ {a b c m:Int} {k:Nat} (h:Sz a b c m k) (r:Rw a b c m k (k+1)):Sz a b c m (k+1):=fun k' hk x' y' hx hy=>by
 by_cases q:k'<k
 ·exact h k' q x' y' hx hy
 ·obtain rfl:k'=k:=by omega
  exact r x' Vn y' hy
theorem rw_succ {a b c m:Int} {k x:Nat} (h:Rw a b c m k x) (r:Cl a b c m k x (k+1)):Rw a b c m k (x+1):=fun x' hx y' hy=>by
 by_cases q:x'<x
 ·exact h x' q y' hy
 ·obtain rfl:x'=x:=by omega
  exact r y' Vn
theorem cl_succ {a b c m:Int} {k x y:Nat} (h:Cl a b c m k x y) (r:hitB a b c m k x y=false):Cl a b c m k x (y+1):=fun y' hy=>by
 by_cases q:y'<y
 ·exact h y' q
 ·obtain rfl:y'=y:=by omega
  exact r
theorem sz_one (a b c m:Int):Sz a b c m 1:=fun k' hk x' y' hx hy=>by
 obtain rfl:k'=0:=by omega
 obtain rfl:x'=0:=by omega
 obtain rfl:y'=0:=by omega
 simp [hitB,igcd]
theorem sz_le {a b c m:Int} {k:Nat} (hm:1≤m) (hm2:m≤30) (hp:Prim a b c) (h:Sz a b c m k):k≤5:=by
 obtain ⟨x',y',h1,h2,h3⟩:=exists_hit hm hm2 (gcd_prim (m:=m) hp)
 by_cases q:k≤5
 ·exact q
 ·have:=h (max x' y') Vn x' y' Vn Vn
  rw[h3] at this;cases this
theorem at_small {a b c:Int} {x y:Nat} (h:RedC a b c) (hx:x≤5) (hy:y≤5):AtOk a b c x y:=by
 obtain ⟨s1,s2,s3,s4⟩:=red_small h.cls.ok h.red
 have a0:=h.cls.ok.a0
 have c0:=h.cls.ok.c0
 clear h
 rcases le_five hx with rfl|rfl|rfl|rfl|rfl|rfl<;>rcases le_five hy with rfl|rfl|rfl|rfl|rfl|rfl<;>(constructor<;>(simp;try omega))

theorem firstPoint_r (a b c m:Int) (w:World) (h0:RedC a b c) (h1:1≤m) (h2:m≤30):
  Calls Tryz.prog 100 #[.agg #[.int .i64 a,.int .i64 b,.int .i64 c],.int .i64 m] w fun e w'=> ∃k x y:Nat,e= .returned (.tuple #[.int .i64 (x:Int),.int .i64 (y:Int)])∧IsFirst a b c m k x y∧Below w.heap.size w w':=by
 go_enter Tryz.func100,Tryz.ntmps100
 go_wp2
 go_loopw [6] (fun ks wr=> ∃k:Nat,ks= .int .i64 (k:Int)∧Sz a b c m k∧wr.cell? ⟨w.heap.size,0,none⟩=some (.int .i64 a)∧wr.cell? ⟨w.heap.size,1,none⟩=some (.int .i64 b)∧wr.cell? ⟨w.heap.size,2,none⟩=some (.int .i64 c)∧Below w.heap.size w wr) (fun ks _=>6-(intOf ks).toNat)
 case atStart=>exact ⟨0,rfl,sz_zero _ _ _ _,VB,VB,VB,(Below.refl _ _).alloc (Nat.le_refl _) _⟩
 case round=>
  obtain ⟨k,rfl,hsz,c00,c01,c02,hb⟩:=hrel
  have hk:=sz_le h1 h2 h0.cls.pr hsz
  have hk2:(k:Int)≤100:=by omega
  obtain ⟨wo,rfl⟩: ∃wo:World,wo=wr:=⟨_,rfl⟩
  go_wp2
  go_loopw [7] (fun xs wr=> ∃x:Nat,x≤k+1∧xs= .int .i64 (x:Int)∧Rw a b c m k x∧wr.cell? ⟨w.heap.size,0,none⟩=some (.int .i64 a)∧wr.cell? ⟨w.heap.size,1,none⟩=some (.int .i64 b)∧wr.cell? ⟨w.heap.size,2,none⟩=some (.int .i64 c)∧Below w.heap.size w wr) (fun xs _=>k+1-(intOf xs).toNat)
  case atStart=>exact ⟨0,Vn,rfl,rw_zero _ _ _ _ _,c00,c01,c02,hb⟩
  case round=>
   clear hb c00 c01 c02
   obtain ⟨x,hx,rfl,hrw,c00,c01,c02,hb⟩:=hrel
   obtain ⟨wp,rfl⟩: ∃wp:World,wp=wr:=⟨_,rfl⟩
   by_cases q1:x≤k
   ·have q1':(x:Int)≤(k:Int):=by omega
    go_wp2
    go_loopw [8] (fun ys wr=> ∃y:Nat,y≤k+1∧ys= .int .i64 (y:Int)∧Cl a b c m k x y∧wr.cell? ⟨w.heap.size,0,none⟩=some (.int .i64 a)∧wr.cell? ⟨w.heap.size,1,none⟩=some (.int .i64 b)∧wr.cell? ⟨w.heap.size,2,none⟩=some (.int .i64 c)∧Below w.heap.size w wr) (fun ys _=>k+1-(intOf ys).toNat)
    case atStart=>exact ⟨0,Vn,rfl,cl_zero _ _ _ _ _ _,c00,c01,c02,hb⟩
    case round=>
     clear hb c00 c01 c02
     obtain ⟨y,hy,rfl,hcl,c00,c01,c02,hb⟩:=hrel
     obtain ⟨wq,rfl⟩: ∃wq:World,wq=wr:=⟨_,rfl⟩
     have z0:=World.block_lt_of_cell? _ _ c00
     change w.heap.size<wq.heap.size at z0
     by_cases q2:y≤k
     ·have q2':(y:Int)≤(k:Int):=by omega
      have hat:=at_small (x:=x) (y:=y) h0 Vn Vn
      rcases (by omega:(x<k∧k=y)∨(y≤k∧k=x)∨(x<y∧y<k)∨(y≤x∧x<k)) with ⟨e1,e2⟩|⟨e1,e2⟩|⟨e1,e2⟩|⟨e1,e2⟩
      ·subst e2
       have mx_:max x k=k:=by omega
       by_cases k2:igcd (x:Int) (k:Int)=1
       ·have hv:=val_bd (x:=x) (y:=k) h0.cls.ok h0.red Vn Vn (by unfold igcd at k2;omega)
        obtain ⟨v0,v1⟩:=hv
        by_cases k3:igcd (valI a b c (x:Int) (k:Int)) m=1
        ·have hyes:hitB a b c m k x k=true:=by simp [hitB,mx_,k2,k3];try omega
         have HY:=hide hyes
         clear hyes
         go_wp2_with (first|(go_at_call 36;refine (gcd_a _ _ _ Vp Vp).mono ?_;rintro e w' ⟨rfl,nq,rfl⟩)|(go_at_call 102;refine (at_a _ _ _ _ _ _ Vp).mono ?_;rintro e w1 ⟨rfl,hb⟩;have c00:=cell_call hb (a:=⟨w.heap.size,0,none⟩) (v:= .int .i64 a) Vq;have c01:=cell_call hb (a:=⟨w.heap.size,1,none⟩) (v:= .int .i64 b) Vq;have c02:=cell_call hb (a:=⟨w.heap.size,2,none⟩) (v:= .int .i64 c) Vq;have z0:=lt_keep hb (w.heap.size) Vx;have hs:=hb.size))
         go_ret2
         exact ⟨k,x,k,rfl,⟨unhide HY,Vn,Vn,hsz,hrw,hcl⟩,byGG⟩
        ·have hno:hitB a b c m k x k=false:=by simp [hitB,mx_,k3]
         go_wp2_with (first|(go_at_call 36;refine (gcd_a _ _ _ Vp Vp).mono ?_;rintro e w' ⟨rfl,nq,rfl⟩)|(go_at_call 102;refine (at_a _ _ _ _ _ _ Vp).mono ?_;rintro e w1 ⟨rfl,hb⟩;have c00:=cell_call hb (a:=⟨w.heap.size,0,none⟩) (v:= .int .i64 a) Vq;have c01:=cell_call hb (a:=⟨w.heap.size,1,none⟩) (v:= .int .i64 b) Vq;have c02:=cell_call hb (a:=⟨w.heap.size,2,none⟩) (v:= .int .i64 c) Vq;have z0:=lt_keep hb (w.heap.size) Vx;have hs:=hb.size))
         go_roundw
         case rel=>first|(refine ⟨k+1,Vn,by first|rfl|go_num,cl_succ hcl hno,?_,?_,?_,?_⟩<;>first|assumption|(repeat' first|with_reducible (first|exact Below.refl _ _|assumption|refine gr_alloc ?_ _|refine below_drewN ?_ _|refine below_drew ?_|refine gr_call ?_ VV|refine Below.setCell ?_ ?_ _)|go_size|omega|(simp;omega)))|((repeat apply Exists.intro);refine ⟨?_,rfl⟩;refine ⟨k+1,Vn,by first|rfl|go_num,cl_succ hcl hno,?_,?_,?_,?_⟩<;>first|assumption|(repeat' first|with_reducible (first|exact Below.refl _ _|assumption|refine gr_alloc ?_ _|refine below_drewN ?_ _|refine below_drew ?_|refine gr_call ?_ VV|refine Below.setCell ?_ ?_ _)|go_size|omega|(simp;omega)))
         case measure=>(simp [intOf]<;>omega)
       ·have hno:hitB a b c m k x k=false:=by simp [hitB,mx_,k2]
        go_wp2_with (first|(go_at_call 36;refine (gcd_a _ _ _ Vp Vp).mono ?_;rintro e w' ⟨rfl,nq,rfl⟩)|(go_at_call 102;refine (at_a _ _ _ _ _ _ Vp).mono ?_;rintro e w1 ⟨rfl,hb⟩;have c00:=cell_call hb (a:=⟨w.heap.size,0,none⟩) (v:= .int .i64 a) Vq;have c01:=cell_call hb (a:=⟨w.heap.size,1,none⟩) (v:= .int .i64 b) Vq;have c02:=cell_call hb (a:=⟨w.heap.size,2,none⟩) (v:= .int .i64 c) Vq;have z0:=lt_keep hb (w.heap.size) Vx;have hs:=hb.size))
        go_roundw
        case rel=>first|(refine ⟨k+1,Vn,by first|rfl|go_num,cl_succ hcl hno,?_,?_,?_,?_⟩<;>first|assumption|(repeat' first|with_reducible (first|exact Below.refl _ _|assumption|refine gr_alloc ?_ _|refine below_drewN ?_ _|refine below_drew ?_|refine gr_call ?_ VV|refine Below.setCell ?_ ?_ _)|go_size|omega|(simp;omega)))|((repeat apply Exists.intro);refine ⟨?_,rfl⟩;refine ⟨k+1,Vn,by first|rfl|go_num,cl_succ hcl hno,?_,?_,?_,?_⟩<;>first|assumption|(repeat' first|with_reducible (first|exact Below.refl _ _|assumption|refine gr_alloc ?_ _|refine below_drewN ?_ _|refine below_drew ?_|refine gr_call ?_ VV|refine Below.setCell ?_ ?_ _)|go_size|omega|(simp;omega)))
        case measure=>(simp [intOf]<;>omega)
      ·subst e2
       have mx_:max k y=k:=by omega
       by_cases k2:igcd (k:Int) (y:Int)=1
       ·have hv:=val_bd (x:=k) (y:=y) h0.cls.ok h0.red Vn Vn (by unfold igcd at k2;omega)
        obtain ⟨v0,v1⟩:=hv
        by_cases k3:igcd (valI a b c (k:Int) (y:Int)) m=1
        ·have hyes:hitB a b c m k k y=true:=by simp [hitB,mx_,k2,k3];try omega
         have HY:=hide hyes
         clear hyes
         go_wp2_with (first|(go_at_call 36;refine (gcd_a _ _ _ Vp Vp).mono ?_;rintro e w' ⟨rfl,nq,rfl⟩)|(go_at_call 102;refine (at_a _ _ _ _ _ _ Vp).mono ?_;rintro e w1 ⟨rfl,hb⟩;have c00:=cell_call hb (a:=⟨w.heap.size,0,none⟩) (v:= .int .i64 a) Vq;have c01:=cell_call hb (a:=⟨w.heap.size,1,none⟩) (v:= .int .i64 b) Vq;have c02:=cell_call hb (a:=⟨w.heap.size,2,none⟩) (v:= .int .i64 c) Vq;have z0:=lt_keep hb (w.heap.size) Vx;have hs:=hb.size))
         go_ret2
         exact ⟨k,k,y,rfl,⟨unhide HY,Vn,Vn,hsz,hrw,hcl⟩,byGG⟩
        ·have hno:hitB a b c m k k y=false:=by simp [hitB,mx_,k3]
         go_wp2_with (first|(go_at_call 36;refine (gcd_a _ _ _ Vp Vp).mono ?_;rintro e w' ⟨rfl,nq,rfl⟩)|(go_at_call 102;refine (at_a _ _ _ _ _ _ Vp).mono ?_;rintro e w1 ⟨rfl,hb⟩;have c00:=cell_call hb (a:=⟨w.heap.size,0,none⟩) (v:= .int .i64 a) Vq;have c01:=cell_call hb (a:=⟨w.heap.size,1,none⟩) (v:= .int .i64 b) Vq;have c02:=cell_call hb (a:=⟨w.heap.size,2,none⟩) (v:= .int .i64 c) Vq;have z0:=lt_keep hb (w.heap.size) Vx;have hs:=hb.size))
         go_roundw
         case rel=>first|(refine ⟨y+1,Vn,by first|rfl|go_num,cl_succ hcl hno,?_,?_,?_,?_⟩<;>first|assumption|(repeat' first|with_reducible (first|exact Below.refl _ _|assumption|refine gr_alloc ?_ _|refine below_drewN ?_ _|refine below_drew ?_|refine gr_call ?_ VV|refine Below.setCell ?_ ?_ _)|go_size|omega|(simp;omega)))|((repeat apply Exists.intro);refine ⟨?_,rfl⟩;refine ⟨y+1,Vn,by first|rfl|go_num,cl_succ hcl hno,?_,?_,?_,?_⟩<;>first|assumption|(repeat' first|with_reducible (first|exact Below.refl _ _|assumption|refine gr_alloc ?_ _|refine below_drewN ?_ _|refine below_drew ?_|refine gr_call ?_ VV|refine Below.setCell ?_ ?_ _)|go_size|omega|(simp;omega)))
         case measure=>(simp [intOf]<;>omega)
       ·have hno:hitB a b c m k k y=false:=by simp [hitB,mx_,k2]
        go_wp2_with (first|(go_at_call 36;refine (gcd_a _ _ _ Vp Vp).mono ?_;rintro e w' ⟨rfl,nq,rfl⟩)|(go_at_call 102;refine (at_a _ _ _ _ _ _ Vp).mono ?_;rintro e w1 ⟨rfl,hb⟩;have c00:=cell_call hb (a:=⟨w.heap.size,0,none⟩) (v:= .int .i64 a) Vq;have c01:=cell_call hb (a:=⟨w.heap.size,1,none⟩) (v:= .int .i64 b) Vq;have c02:=cell_call hb (a:=⟨w.heap.size,2,none⟩) (v:= .int .i64 c) Vq;have z0:=lt_keep hb (w.heap.size) Vx;have hs:=hb.size))
        go_roundw
        case rel=>first|(refine ⟨y+1,Vn,by first|rfl|go_num,cl_succ hcl hno,?_,?_,?_,?_⟩<;>first|assumption|(repeat' first|with_reducible (first|exact Below.refl _ _|assumption|refine gr_alloc ?_ _|refine below_drewN ?_ _|refine below_drew ?_|refine gr_call ?_ VV|refine Below.setCell ?_ ?_ _)|go_size|omega|(simp;omega)))|((repeat apply Exists.intro);refine ⟨?_,rfl⟩;refine ⟨y+1,Vn,by first|rfl|go_num,cl_succ hcl hno,?_,?_,?_,?_⟩<;>first|assumption|(repeat' first|with_reducible (first|exact Below.refl _ _|assumption|refine gr_alloc ?_ _|refine below_drewN ?_ _|refine below_drew ?_|refine gr_call ?_ VV|refine Below.setCell ?_ ?_ _)|go_size|omega|(simp;omega)))
        case measure=>(simp [intOf]<;>omega)
      ·have mx_: ¬max x y=k:=by omega
       have hno:hitB a b c m k x y=false:=by simp [hitB,mx_]
       go_wp2_with (first|(go_at_call 36;refine (gcd_a _ _ _ Vp Vp).mono ?_;rintro e w' ⟨rfl,nq,rfl⟩)|(go_at_call 102;refine (at_a _ _ _ _ _ _ Vp).mono ?_;rintro e w1 ⟨rfl,hb⟩;have c00:=cell_call hb (a:=⟨w.heap.size,0,none⟩) (v:= .int .i64 a) Vq;have c01:=cell_call hb (a:=⟨w.heap.size,1,none⟩) (v:= .int .i64 b) Vq;have c02:=cell_call hb (a:=⟨w.heap.size,2,none⟩) (v:= .int .i64 c) Vq;have z0:=lt_keep hb (w.heap.size) Vx;have hs:=hb.size))
       go_roundw
       case rel=>first|(refine ⟨y+1,Vn,by first|rfl|go_num,cl_succ hcl hno,?_,?_,?_,?_⟩<;>first|assumption|(repeat' first|with_reducible (first|exact Below.refl _ _|assumption|refine gr_alloc ?_ _|refine below_drewN ?_ _|refine below_drew ?_|refine gr_call ?_ VV|refine Below.setCell ?_ ?_ _)|go_size|omega|(simp;omega)))|((repeat apply Exists.intro);refine ⟨?_,rfl⟩;refine ⟨y+1,Vn,by first|rfl|go_num,cl_succ hcl hno,?_,?_,?_,?_⟩<;>first|assumption|(repeat' first|with_reducible (first|exact Below.refl _ _|assumption|refine gr_alloc ?_ _|refine below_drewN ?_ _|refine below_drew ?_|refine gr_call ?_ VV|refine Below.setCell ?_ ?_ _)|go_size|omega|(simp;omega)))
       case measure=>(simp [intOf]<;>omega)
      ·have mx_: ¬max x y=k:=by omega
       have hno:hitB a b c m k x y=false:=by simp [hitB,mx_]
       go_wp2_with (first|(go_at_call 36;refine (gcd_a _ _ _ Vp Vp).mono ?_;rintro e w' ⟨rfl,nq,rfl⟩)|(go_at_call 102;refine (at_a _ _ _ _ _ _ Vp).mono ?_;rintro e w1 ⟨rfl,hb⟩;have c00:=cell_call hb (a:=⟨w.heap.size,0,none⟩) (v:= .int .i64 a) Vq;have c01:=cell_call hb (a:=⟨w.heap.size,1,none⟩) (v:= .int .i64 b) Vq;have c02:=cell_call hb (a:=⟨w.heap.size,2,none⟩) (v:= .int .i64 c) Vq;have z0:=lt_keep hb (w.heap.size) Vx;have hs:=hb.size))
       go_roundw
       case rel=>first|(refine ⟨y+1,Vn,by first|rfl|go_num,cl_succ hcl hno,?_,?_,?_,?_⟩<;>first|assumption|(repeat' first|with_reducible (first|exact Below.refl _ _|assumption|refine gr_alloc ?_ _|refine below_drewN ?_ _|refine below_drew ?_|refine gr_call ?_ VV|refine Below.setCell ?_ ?_ _)|go_size|omega|(simp;omega)))|((repeat apply Exists.intro);refine ⟨?_,rfl⟩;refine ⟨y+1,Vn,by first|rfl|go_num,cl_succ hcl hno,?_,?_,?_,?_⟩<;>first|assumption|(repeat' first|with_reducible (first|exact Below.refl _ _|assumption|refine gr_alloc ?_ _|refine below_drewN ?_ _|refine below_drew ?_|refine gr_call ?_ VV|refine Below.setCell ?_ ?_ _)|go_size|omega|(simp;omega)))
       case measure=>(simp [intOf]<;>omega)
     ·obtain rfl:y=k+1:=by omega
      go_wp2
      go_roundw
      case rel=>first|exact ⟨x+1,Vn,by first|rfl|go_num,rw_succ hrw hcl,c00,c01,c02,hb⟩|((repeat apply Exists.intro);exact ⟨⟨x+1,Vn,by first|rfl|go_num,rw_succ hrw hcl,c00,c01,c02,hb⟩,rfl⟩)
      case measure=>(simp [intOf]<;>omega)
   ·obtain rfl:x=k+1:=by omega
    go_wp2
    go_roundw
    case rel=>first|exact ⟨k+1,by first|rfl|go_num,sz_succ hsz hrw,c00,c01,c02,hb⟩|((repeat apply Exists.intro);exact ⟨⟨k+1,by first|rfl|go_num,sz_succ hsz hrw,c00,c01,c02,hb⟩,rfl⟩)
    case measure=>(simp [intOf]<;>omega)

theorem coPoint_r (a b c m:Int) (w:World) (h0:RedC a b c) (h1:1≤m) (h2:m≤30):
  Calls Tryz.prog 162 #[.agg #[.int .i64 a,.int .i64 b,.int .i64 c],.int .i64 m] w fun e w'=> ∃k x y:Nat,e= .returned (.tuple #[.int .i64 (x:Int),.int .i64 (y:Int)])∧IsFirst a b c m k x y∧Below w.heap.size w w':=by
 go_enter Tryz.func162,Tryz.ntmps162
 go_wp2
 go_loopw [6] (fun ks wr=> ∃k:Nat,ks= .int .i64 (k:Int)∧Sz a b c m k∧wr.cell? ⟨w.heap.size,0,none⟩=some (.int .i64 a)∧wr.cell? ⟨w.heap.size,1,none⟩=some (.int .i64 b)∧wr.cell? ⟨w.heap.size,2,none⟩=some (.int .i64 c)∧Below w.heap.size w wr) (fun ks _=>6-(intOf ks).toNat)
 case atStart=>exact ⟨1,rfl,sz_one _ _ _ _,VB,VB,VB,(Below.refl _ _).alloc (Nat.le_refl _) _⟩
 case round=>
  obtain ⟨k,rfl,hsz,c00,c01,c02,hb⟩:=hrel
  have hk:=sz_le h1 h2 h0.cls.pr hsz
  have hk2:(k:Int)≤100:=by omega
  obtain ⟨wo,rfl⟩: ∃wo:World,wo=wr:=⟨_,rfl⟩
  go_wp2
  go_loopw [7] (fun xs wr=> ∃x:Nat,x≤k+1∧xs= .int .i64 (x:Int)∧Rw a b c m k x∧wr.cell? ⟨w.heap.size,0,none⟩=some (.int .i64 a)∧wr.cell? ⟨w.heap.size,1,none⟩=some (.int .i64 b)∧wr.cell? ⟨w.heap.size,2,none⟩=some (.int .i64 c)∧Below w.heap.size w wr) (fun xs _=>k+1-(intOf xs).toNat)
  case atStart=>exact ⟨0,Vn,rfl,rw_zero _ _ _ _ _,c00,c01,c02,hb⟩
  case round=>
   clear hb c00 c01 c02
   obtain ⟨x,hx,rfl,hrw,c00,c01,c02,hb⟩:=hrel
   obtain ⟨wp,rfl⟩: ∃wp:World,wp=wr:=⟨_,rfl⟩
   by_cases q1:x≤k
   ·have q1':(x:Int)≤(k:Int):=by omega
    go_wp2
    go_loopw [8] (fun ys wr=> ∃y:Nat,y≤k+1∧ys= .int .i64 (y:Int)∧Cl a b c m k x y∧wr.cell? ⟨w.heap.size,0,none⟩=some (.int .i64 a)∧wr.cell? ⟨w.heap.size,1,none⟩=some (.int .i64 b)∧wr.cell? ⟨w.heap.size,2,none⟩=some (.int .i64 c)∧Below w.heap.size w wr) (fun ys _=>k+1-(intOf ys).toNat)
    case atStart=>exact ⟨0,Vn,rfl,cl_zero _ _ _ _ _ _,c00,c01,c02,hb⟩
    case round=>
     clear hb c00 c01 c02
     obtain ⟨y,hy,rfl,hcl,c00,c01,c02,hb⟩:=hrel
     obtain ⟨wq,rfl⟩: ∃wq:World,wq=wr:=⟨_,rfl⟩
     have z0:=World.block_lt_of_cell? _ _ c00
     change w.heap.size<wq.heap.size at z0
     by_cases q2:y≤k
     ·have q2':(y:Int)≤(k:Int):=by omega
      have hat:=at_small (x:=x) (y:=y) h0 Vn Vn
      by_cases k1:max x y=k
      ·by_cases k2:igcd (x:Int) (y:Int)=1
       ·have hv:=val_bd (x:=x) (y:=y) h0.cls.ok h0.red Vn Vn (by unfold igcd at k2;omega)
        obtain ⟨v0,v1⟩:=hv
        by_cases k3:igcd (valI a b c (x:Int) (y:Int)) m=1
        ·have hyes:hitB a b c m k x y=true:=by simp [hitB,k1,k2,k3];try omega
         have HY:=hide hyes
         clear hyes
         go_wp2_with (first|(go_at_call 97;refine (l1Most_a _ _ _).mono ?_;rintro e w' ⟨rfl,rfl⟩)|(go_at_call 110;refine (nuGcd_a _ _ _ Vp Vp).mono ?_;rintro e w' ⟨rfl,nq,rfl⟩)|(go_at_call 138;refine (foValue_a _ _ _ _ _ _ Vp).mono ?_;rintro e w1 ⟨rfl,hb⟩;have c00:=cell_call hb (a:=⟨w.heap.size,0,none⟩) (v:= .int .i64 a) Vq;have c01:=cell_call hb (a:=⟨w.heap.size,1,none⟩) (v:= .int .i64 b) Vq;have c02:=cell_call hb (a:=⟨w.heap.size,2,none⟩) (v:= .int .i64 c) Vq;have z0:=lt_keep hb (w.heap.size) Vx;have hs:=hb.size))
         go_ret2
         exact ⟨k,x,y,rfl,⟨unhide HY,Vn,Vn,hsz,hrw,hcl⟩,byGG⟩
        ·have hno:hitB a b c m k x y=false:=by simp [hitB,k1,k3]
         go_wp2_with (first|(go_at_call 97;refine (l1Most_a _ _ _).mono ?_;rintro e w' ⟨rfl,rfl⟩)|(go_at_call 110;refine (nuGcd_a _ _ _ Vp Vp).mono ?_;rintro e w' ⟨rfl,nq,rfl⟩)|(go_at_call 138;refine (foValue_a _ _ _ _ _ _ Vp).mono ?_;rintro e w1 ⟨rfl,hb⟩;have c00:=cell_call hb (a:=⟨w.heap.size,0,none⟩) (v:= .int .i64 a) Vq;have c01:=cell_call hb (a:=⟨w.heap.size,1,none⟩) (v:= .int .i64 b) Vq;have c02:=cell_call hb (a:=⟨w.heap.size,2,none⟩) (v:= .int .i64 c) Vq;have z0:=lt_keep hb (w.heap.size) Vx;have hs:=hb.size))
         go_roundw
         case rel=>first|(refine ⟨y+1,Vn,by first|rfl|go_num,cl_succ hcl hno,?_,?_,?_,?_⟩<;>first|assumption|(repeat' first|with_reducible (first|exact Below.refl _ _|assumption|refine gr_alloc ?_ _|refine below_drewN ?_ _|refine below_drew ?_|refine gr_call ?_ VV|refine Below.setCell ?_ ?_ _)|go_size|omega|(simp;omega)))|((repeat apply Exists.intro);refine ⟨?_,rfl⟩;refine ⟨y+1,Vn,by first|rfl|go_num,cl_succ hcl hno,?_,?_,?_,?_⟩<;>first|assumption|(repeat' first|with_reducible (first|exact Below.refl _ _|assumption|refine gr_alloc ?_ _|refine below_drewN ?_ _|refine below_drew ?_|refine gr_call ?_ VV|refine Below.setCell ?_ ?_ _)|go_size|omega|(simp;omega)))
         case measure=>(simp [intOf]<;>omega)
       ·have hno:hitB a b c m k x y=false:=by simp [hitB,k1,k2]
        go_wp2_with (first|(go_at_call 97;refine (l1Most_a _ _ _).mono ?_;rintro e w' ⟨rfl,rfl⟩)|(go_at_call 110;refine (nuGcd_a _ _ _ Vp Vp).mono ?_;rintro e w' ⟨rfl,nq,rfl⟩)|(go_at_call 138;refine (foValue_a _ _ _ _ _ _ Vp).mono ?_;rintro e w1 ⟨rfl,hb⟩;have c00:=cell_call hb (a:=⟨w.heap.size,0,none⟩) (v:= .int .i64 a) Vq;have c01:=cell_call hb (a:=⟨w.heap.size,1,none⟩) (v:= .int .i64 b) Vq;have c02:=cell_call hb (a:=⟨w.heap.size,2,none⟩) (v:= .int .i64 c) Vq;have z0:=lt_keep hb (w.heap.size) Vx;have hs:=hb.size))
        go_roundw
        case rel=>first|(refine ⟨y+1,Vn,by first|rfl|go_num,cl_succ hcl hno,?_,?_,?_,?_⟩<;>first|assumption|(repeat' first|with_reducible (first|exact Below.refl _ _|assumption|refine gr_alloc ?_ _|refine below_drewN ?_ _|refine below_drew ?_|refine gr_call ?_ VV|refine Below.setCell ?_ ?_ _)|go_size|omega|(simp;omega)))|((repeat apply Exists.intro);refine ⟨?_,rfl⟩;refine ⟨y+1,Vn,by first|rfl|go_num,cl_succ hcl hno,?_,?_,?_,?_⟩<;>first|assumption|(repeat' first|with_reducible (first|exact Below.refl _ _|assumption|refine gr_alloc ?_ _|refine below_drewN ?_ _|refine below_drew ?_|refine gr_call ?_ VV|refine Below.setCell ?_ ?_ _)|go_size|omega|(simp;omega)))
        case measure=>(simp [intOf]<;>omega)
      ·have hno:hitB a b c m k x y=false:=by simp [hitB,k1]
       go_wp2_with (first|(go_at_call 97;refine (l1Most_a _ _ _).mono ?_;rintro e w' ⟨rfl,rfl⟩)|(go_at_call 110;refine (nuGcd_a _ _ _ Vp Vp).mono ?_;rintro e w' ⟨rfl,nq,rfl⟩)|(go_at_call 138;refine (foValue_a _ _ _ _ _ _ Vp).mono ?_;rintro e w1 ⟨rfl,hb⟩;have c00:=cell_call hb (a:=⟨w.heap.size,0,none⟩) (v:= .int .i64 a) Vq;have c01:=cell_call hb (a:=⟨w.heap.size,1,none⟩) (v:= .int .i64 b) Vq;have c02:=cell_call hb (a:=⟨w.heap.size,2,none⟩) (v:= .int .i64 c) Vq;have z0:=lt_keep hb (w.heap.size) Vx;have hs:=hb.size))
       go_roundw
       case rel=>first|(refine ⟨y+1,Vn,by first|rfl|go_num,cl_succ hcl hno,?_,?_,?_,?_⟩<;>first|assumption|(repeat' first|with_reducible (first|exact Below.refl _ _|assumption|refine gr_alloc ?_ _|refine below_drewN ?_ _|refine below_drew ?_|refine gr_call ?_ VV|refine Below.setCell ?_ ?_ _)|go_size|omega|(simp;omega)))|((repeat apply Exists.intro);refine ⟨?_,rfl⟩;refine ⟨y+1,Vn,by first|rfl|go_num,cl_succ hcl hno,?_,?_,?_,?_⟩<;>first|assumption|(repeat' first|with_reducible (first|exact Below.refl _ _|assumption|refine gr_alloc ?_ _|refine below_drewN ?_ _|refine below_drew ?_|refine gr_call ?_ VV|refine Below.setCell ?_ ?_ _)|go_size|omega|(simp;omega)))
       case measure=>(simp [intOf]<;>omega)
     ·obtain rfl:y=k+1:=by omega
      go_wp2
      go_roundw
      case rel=>first|exact ⟨x+1,Vn,by first|rfl|go_num,rw_succ hrw hcl,c00,c01,c02,hb⟩|((repeat apply Exists.intro);exact ⟨⟨x+1,Vn,by first|rfl|go_num,rw_succ hrw hcl,c00,c01,c02,hb⟩,rfl⟩)
      case measure=>(simp [intOf]<;>omega)
   ·obtain rfl:x=k+1:=by omega
    go_wp2
    go_roundw
    case rel=>first|exact ⟨k+1,by first|rfl|go_num,sz_succ hsz hrw,c00,c01,c02,hb⟩|((repeat apply Exists.intro);exact ⟨⟨k+1,by first|rfl|go_num,sz_succ hsz hrw,c00,c01,c02,hb⟩,rfl⟩)
    case measure=>(simp [intOf]<;>omega)
end Go.Proofs.YtobkcnmlmmhpoaaGreatDoor
