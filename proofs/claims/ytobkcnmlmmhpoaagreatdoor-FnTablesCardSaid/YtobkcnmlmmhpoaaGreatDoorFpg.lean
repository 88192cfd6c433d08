/- The first point with a value prime to twice the discriminant. -/
import Derived.Test.YtobkcnmlmmhpoaaGreatDoorPtg
import Derived.Test.YtobkcnmlmmhpoaaGreatDoorFp
import Derived.Test.YtobkcnmlmmhpoaaGreatDoorCpl
set_option maxRecDepth 100000
set_option maxHeartbeats 80000000
namespace Go.Proofs.YtobkcnmlmmhpoaaGreatDoor
open Go.RowKit
set_option linter.unusedVariables false
set_option linter.unusedSimpArgs false
attribute [local go_sem] q2 q3 q4 q5 q6 q7 q8 q9 q10 q11 q12

theorem bd2 {a K x n:Int} (h1: -K≤a) (h2:a≤K) (x0:0≤x) (x1:x≤n) (hK:0≤K): -(K*n)≤a*x∧a*x≤K*n:=by
 have e1:=Int.mul_le_mul_of_nonneg_right h1 x0
 have e2:=Int.mul_le_mul_of_nonneg_right h2 x0
 have e3:=Int.mul_le_mul_of_nonneg_left x1 hK
 rw[Int.neg_mul] at e1
 omega
theorem at_g {a b c:Int} {x y:Nat} (h:RedC a b c) (hx:x≤4000) (hy:y≤4000):AtOk a b c x y:=by
 obtain ⟨s1,s2,s3,s4⟩:=red_small h.cls.ok h.red
 have a0:=h.cls.ok.a0
 have c0:=h.cls.ok.c0
 have q1:=bd2 (a:=a) (K:=600) (x:=(x:Int)) (n:=4000) Vn Vn Vn Vn Vn
 have q2:=bd2 (a:=b) (K:=600) (x:=(x:Int)) (n:=4000) Vn Vn Vn Vn Vn
 have q3:=bd2 (a:=c) (K:=600) (x:=(y:Int)) (n:=4000) Vn Vn Vn Vn Vn
 have r1:=bd2 (a:=a*x) (K:=2400000) (x:=(x:Int)) (n:=4000) Vn Vn Vn Vn Vn
 have r2:=bd2 (a:=b*x) (K:=2400000) (x:=(y:Int)) (n:=4000) Vn Vn Vn Vn Vn
 have r3:=bd2 (a:=c*y) (K:=2400000) (x:=(y:Int)) (n:=4000) Vn Vn Vn Vn Vn
 constructor<;>omega
theorem val_g {a b c:Int} {x y:Nat} (h:RedC a b c) (hx:x≤4000) (hy:y≤4000): -100000000000≤valI a b c x y∧valI a b c x y≤100000000000:=by
 obtain ⟨s1,s2,s3,s4⟩:=red_small h.cls.ok h.red
 have a0:=h.cls.ok.a0
 have c0:=h.cls.ok.c0
 have q1:=bd2 (a:=a) (K:=600) (x:=(x:Int)) (n:=4000) Vn Vn Vn Vn Vn
 have q2:=bd2 (a:=b) (K:=600) (x:=(x:Int)) (n:=4000) Vn Vn Vn Vn Vn
 have q3:=bd2 (a:=c) (K:=600) (x:=(y:Int)) (n:=4000) Vn Vn Vn Vn Vn
 have r1:=bd2 (a:=a*x) (K:=2400000) (x:=(x:Int)) (n:=4000) Vn Vn Vn Vn Vn
 have r2:=bd2 (a:=b*x) (K:=2400000) (x:=(y:Int)) (n:=4000) Vn Vn Vn Vn Vn
 have r3:=bd2 (a:=c*y) (K:=2400000) (x:=(y:Int)) (n:=4000) Vn Vn Vn Vn Vn
 unfold valI;omega
theorem sz_le_g {a b c m:Int} {k:Nat} (h1: -4000≤m) (h2:m≤ -2) (hp:Prim a b c) (h:Sz a b c m k):k≤4000:=by
 obtain ⟨x,y,hx,hy,hg,hv⟩:=point_ex hp (m:=m.natAbs) Vn
 by_cases q:k≤4000
 ·exact q
 ·have:=h (max x y) Vn x y Vn Vn
  have e:hitB a b c m (max x y) x y=true:=by
   have hv2:Int.gcd (valI a b c x y) m=1:=by
    rw[←hv];unfold valI
    show _=Nat.gcd _ _
    rfl
   simp [hitB,igcd,hv2];omega
  rw[e] at this;cases this
theorem hit_yes {a b c m:Int} {k x y:Nat} (h1:m≤ -2) (hs:Sz a b c m k) (hm:max x y=k) (hv:igcd (valI a b c x y) m=1):hitB a b c m k x y=true:=by
 obtain ⟨g,hg⟩: ∃g,Nat.gcd x y=g:=⟨_,rfl⟩
 by_cases g1:g=1
 ·have e:igcd (x:Int) (y:Int)=1:=by unfold igcd;rw [Int.gcd_natCast_natCast,hg,g1];rfl
  simp [hitB,hm,e,hv]
 ·obtain ⟨x1,hx1⟩:g∣x:=hg▸Nat.gcd_dvd_left x y
  obtain ⟨y1,hy1⟩:g∣y:=hg▸Nat.gcd_dvd_right x y
  have hval:valI a b c x y=(g:Int)*g*valI a b c x1 y1:=by subst hx1 hy1;unfold valI;push_cast;grind
  have hv2:Int.gcd (valI a b c x y) m=1:=by unfold igcd at hv;omega
  have g0:g≠0:=by
   rintro rfl
   rw[hval] at hv2
   simp at hv2
   omega
  have hv3:Int.gcd (valI a b c x1 y1) m=1:=by
   have d1:Int.gcd (valI a b c x1 y1) m∣Int.gcd (valI a b c x y) m:=by
    refine Int.dvd_gcd ?_ (Int.gcd_dvd_right ..)
    rw[hval]
    exact Int.dvd_trans (Int.gcd_dvd_left ..) (Int.dvd_mul_left _ _)
   rw[hv2] at d1
   exact Nat.dvd_one.1 d1
  have g2:2≤g:=by omega
  have hgx:Nat.gcd x1 y1=1:=by
   have:=hg
   rw[hx1,hy1,Nat.gcd_mul_left] at this
   exact Nat.eq_of_mul_eq_mul_left (show 0<g by omega) Vn
  have hlt:max x1 y1<k:=by
   have e1:=Nat.mul_le_mul_right x1 g2
   have e2:=Nat.mul_le_mul_right y1 g2
   rw[←hx1] at e1
   rw[←hy1] at e2
   have:x1≠0∨y1≠0:=by
    by_cases q:x1=0
    ·by_cases q2:y1=0
     ·subst q q2;simp at hgx
     ·exact .inr q2
    ·exact .inl q
   omega
  have:=hs (max x1 y1) hlt x1 y1 Vn Vn
  have e:hitB a b c m (max x1 y1) x1 y1=true:=by simp [hitB,igcd,hv3,hgx]
  rw[e] at this;cases this

theorem firstPoint_g (a b c m:Int) (w:World) (h0:RedC a b c) (h1: -4000≤m) (h2:m≤ -2):
  Calls Tryz.prog 100 #[.agg #[.int .i64 a,.int .i64 b,.int .i64 c],.int .i64 m] w fun e w'=> ∃k x y:Nat,e= .returned (.tuple #[.int .i64 (x:Int),.int .i64 (y:Int)])∧IsFirst a b c m k x y∧Below w.heap.size w w':=by
 go_enter Tryz.func100,Tryz.ntmps100
 go_wp2
 go_loopw [6] (fun ks wr=> ∃k:Nat,ks= .int .i64 (k:Int)∧Sz a b c m k∧wr.cell? ⟨w.heap.size,0,none⟩=some (.int .i64 a)∧wr.cell? ⟨w.heap.size,1,none⟩=some (.int .i64 b)∧wr.cell? ⟨w.heap.size,2,none⟩=some (.int .i64 c)∧Below w.heap.size w wr) (fun ks _=>4001-(intOf ks).toNat)
 case atStart=>exact ⟨0,rfl,sz_zero _ _ _ _,VB,VB,VB,(Below.refl _ _).alloc (Nat.le_refl _) _⟩
 case round=>
  obtain ⟨k,rfl,hsz,c00,c01,c02,hb⟩:=hrel
  have hk:=sz_le_g h1 h2 h0.cls.pr hsz
  have hk2:(k:Int)≤4000:=by omega
  obtain ⟨wo,rfl⟩: ∃wo:World,wo=wr:=⟨_,rfl⟩
  go_wp2
  go_loopw [7] (fun xs wr=> ∃x:Nat,x≤k+1∧xs= .int .i64 (x:Int)∧Rw a b c m k x∧wr.cell? ⟨w.heap.size,0,none⟩=some (.int .i64 a)∧wr.cell? ⟨w.heap.size,1,none⟩=some (.int .i64 b)∧wr.cell? ⟨w.heap.size,2,none⟩=some (.int .i64 c)∧Below w.heap.size w wr) (fun xs _=>k+1-(intOf xs).toNat)
  case atStart=>exact ⟨0,Vn,rfl,rw_zero _ _ _ _ _,c00,c01,c02,hb⟩
  case round=>
   clear hb c00 c01 c02
   obtain ⟨x,hx,rfl,hrw,c00,c01,c02,hb⟩:=hrel
   obtain ⟨wp,rfl⟩: ∃wp:World,wp=wr:=⟨_,rfl⟩
   by_cases q1:x≤k
   ·have q1':(x:Int)≤(k:Int):=by omega
    go_wp2
    go_loopw [8] (fun ys wr=> ∃y:Nat,y≤k+1∧ys= .int .i64 (y:Int)∧Cl a b c m k x y∧wr.cell? ⟨w.heap.size,0,none⟩=some (.int .i64 a)∧wr.cell? ⟨w.heap.size,1,none⟩=some (.int .i64 b)∧wr.cell? ⟨w.heap.size,2,none⟩=some (.int .i64 c)∧Below w.heap.size w wr) (fun ys _=>k+1-(intOf ys).toNat)
    case atStart=>exact ⟨0,Vn,rfl,cl_zero _ _ _ _ _ _,c00,c01,c02,hb⟩
    case round=>
     clear hb c00 c01 c02
     obtain ⟨y,hy,rfl,hcl,c00,c01,c02,hb⟩:=hrel
     obtain ⟨wq,rfl⟩: ∃wq:World,wq=wr:=⟨_,rfl⟩
     have z0:=World.block_lt_of_cell? _ _ c00
     change w.heap.size<wq.heap.size at z0
     by_cases q2:y≤k
     ·have q2':(y:Int)≤(k:Int):=by omega
      have hat:=at_g (x:=x) (y:=y) h0 Vn Vn
      rcases (by omega:(x<k∧k=y)∨(y≤k∧k=x)∨(x<y∧y<k)∨(y≤x∧x<k)) with ⟨e1,e2⟩|⟨e1,e2⟩|⟨e1,e2⟩|⟨e1,e2⟩
      ·subst e2
       have mx_:max x k=k:=by omega
       by_cases k2:igcd (x:Int) (k:Int)=1
       ·have hv:=val_g (x:=x) (y:=k) h0 Vn Vn
        obtain ⟨v0,v1⟩:=hv
        by_cases k3:igcd (valI a b c (x:Int) (k:Int)) m=1
        ·have hyes:hitB a b c m k x k=true:=by simp [hitB,mx_,k2,k3];try omega
         have HY:=hide hyes
         clear hyes
         go_wp2_with (first|(go_at_call 36;refine (gcd_a _ _ _ Vp Vp).mono ?_;rintro e w' ⟨rfl,nq,rfl⟩)|(go_at_call 102;refine (at_a _ _ _ _ _ _ Vp).mono ?_;rintro e w1 ⟨rfl,hb⟩;have c00:=cell_call hb (a:=⟨w.heap.size,0,none⟩) (v:= .int .i64 a) Vq;have c01:=cell_call hb (a:=⟨w.heap.size,1,none⟩) (v:= .int .i64 b) Vq;have c02:=cell_call hb (a:=⟨w.heap.size,2,none⟩) (v:= .int .i64 c) Vq;have z0:=lt_keep hb (w.heap.size) Vx;have hs:=hb.size))
         go_ret2
         exact ⟨k,x,k,rfl,⟨unhide HY,Vn,Vn,hsz,hrw,hcl⟩,byGG⟩
        ·have hno:hitB a b c m k x k=false:=by simp [hitB,mx_,k3]
         go_wp2_with (first|(go_at_call 36;refine (gcd_a _ _ _ Vp Vp).mono ?_;rintro e w' ⟨rfl,nq,rfl⟩)|(go_at_call 102;refine (at_a _ _ _ _ _ _ Vp).mono ?_;rintro e w1 ⟨rfl,hb⟩;have c00:=cell_call hb (a:=⟨w.heap.size,0,none⟩) (v:= .int .i64 a) Vq;have c01:=cell_call hb (a:=⟨w.heap.size,1,none⟩) (v:= .int .i64 b) Vq;have c02:=cell_call hb (a:=⟨w.heap.size,2,none⟩) (v:= .int .i64 c) Vq;have z0:=lt_keep hb (w.heap.size) Vx;have hs:=hb.size))
         go_roundw
         case rel=>first|(refine ⟨k+1,Vn,by first|rfl|go_num,cl_succ hcl hno,?_,?_,?_,?_⟩<;>first|assumption|(repeat' first|with_reducible (first|exact Below.refl _ _|assumption|refine gr_alloc ?_ _|refine below_drewN ?_ _|refine below_drew ?_|refine gr_call ?_ VV|refine Below.setCell ?_ ?_ _)|go_size|omega|(simp;omega)))|((repeat apply Exists.intro);refine ⟨?_,rfl⟩;refine ⟨k+1,Vn,by first|rfl|go_num,cl_succ hcl hno,?_,?_,?_,?_⟩<;>first|assumption|(repeat' first|with_reducible (first|exact Below.refl _ _|assumption|refine gr_alloc ?_ _|refine below_drewN ?_ _|refine below_drew ?_|refine gr_call ?_ VV|refine Below.setCell ?_ ?_ _)|go_size|omega|(simp;omega)))
         case measure=>(simp [intOf]<;>omega)
       ·have hno:hitB a b c m k x k=false:=by simp [hitB,mx_,k2]
        go_wp2_with (first|(go_at_call 36;refine (gcd_a _ _ _ Vp Vp).mono ?_;rintro e w' ⟨rfl,nq,rfl⟩)|(go_at_call 102;refine (at_a _ _ _ _ _ _ Vp).mono ?_;rintro e w1 ⟨rfl,hb⟩;have c00:=cell_call hb (a:=⟨w.heap.size,0,none⟩) (v:= .int .i64 a) Vq;have c01:=cell_call hb (a:=⟨w.heap.size,1,none⟩) (v:= .int .i64 b) Vq;have c02:=cell_call hb (a:=⟨w.heap.size,2,none⟩) (v:= .int .i64 c) Vq;have z0:=lt_keep hb (w.heap.size) Vx;have hs:=hb.size))
        go_roundw
        case rel=>first|(refine ⟨k+1,Vn,by first|rfl|go_num,cl_succ hcl hno,?_,?_,?_,?_⟩<;>first|assumption|(repeat' first|with_reducible (first|exact Below.refl _ _|assumption|refine gr_alloc ?_ _|refine below_drewN ?_ _|refine below_drew ?_|refine gr_call ?_ VV|refine Below.setCell ?_ ?_ _)|go_size|omega|(simp;omega)))|((repeat apply Exists.intro);refine ⟨?_,rfl⟩;refine ⟨k+1,Vn,by first|rfl|go_num,cl_succ hcl hno,?_,?_,?_,?_⟩<;>first|assumption|(repeat' first|with_reducible (first|exact Below.refl _ _|assumption|refine gr_alloc ?_ _|refine below_drewN ?_ _|refine below_drew ?_|refine gr_call ?_ VV|refine Below.setCell ?_ ?_ _)|go_size|omega|(simp;omega)))
        case measure=>(simp [intOf]<;>omega)
      ·subst e2
       have mx_:max k y=k:=by omega
       by_cases k2:igcd (k:Int) (y:Int)=1
       ·have hv:=val_g (x:=k) (y:=y) h0 Vn Vn
        obtain ⟨v0,v1⟩:=hv
        by_cases k3:igcd (valI a b c (k:Int) (y:Int)) m=1
        ·have hyes:hitB a b c m k k y=true:=by simp [hitB,mx_,k2,k3];try omega
         have HY:=hide hyes
         clear hyes
         go_wp2_with (first|(go_at_call 36;refine (gcd_a _ _ _ Vp Vp).mono ?_;rintro e w' ⟨rfl,nq,rfl⟩)|(go_at_call 102;refine (at_a _ _ _ _ _ _ Vp).mono ?_;rintro e w1 ⟨rfl,hb⟩;have c00:=cell_call hb (a:=⟨w.heap.size,0,none⟩) (v:= .int .i64 a) Vq;have c01:=cell_call hb (a:=⟨w.heap.size,1,none⟩) (v:= .int .i64 b) Vq;have c02:=cell_call hb (a:=⟨w.heap.size,2,none⟩) (v:= .int .i64 c) Vq;have z0:=lt_keep hb (w.heap.size) Vx;have hs:=hb.size))
         go_ret2
         exact ⟨k,k,y,rfl,⟨unhide HY,Vn,Vn,hsz,hrw,hcl⟩,byGG⟩
        ·have hno:hitB a b c m k k y=false:=by simp [hitB,mx_,k3]
         go_wp2_with (first|(go_at_call 36;refine (gcd_a _ _ _ Vp Vp).mono ?_;rintro e w' ⟨rfl,nq,rfl⟩)|(go_at_call 102;refine (at_a _ _ _ _ _ _ Vp).mono ?_;rintro e w1 ⟨rfl,hb⟩;have c00:=cell_call hb (a:=⟨w.heap.size,0,none⟩) (v:= .int .i64 a) Vq;have c01:=cell_call hb (a:=⟨w.heap.size,1,none⟩) (v:= .int .i64 b) Vq;have c02:=cell_call hb (a:=⟨w.heap.size,2,none⟩) (v:= .int .i64 c) Vq;have z0:=lt_keep hb (w.heap.size) Vx;have hs:=hb.size))
         go_roundw
         case rel=>first|(refine ⟨y+1,Vn,by first|rfl|go_num,cl_succ hcl hno,?_,?_,?_,?_⟩<;>first|assumption|(repeat' first|with_reducible (first|exact Below.refl _ _|assumption|refine gr_alloc ?_ _|refine below_drewN ?_ _|refine below_drew ?_|refine gr_call ?_ VV|refine Below.setCell ?_ ?_ _)|go_size|omega|(simp;omega)))|((repeat apply Exists.intro);refine ⟨?_,rfl⟩;refine ⟨y+1,Vn,by first|rfl|go_num,cl_succ hcl hno,?_,?_,?_,?_⟩<;>first|assumption|(repeat' first|with_reducible (first|exact Below.refl _ _|assumption|refine gr_alloc ?_ _|refine below_drewN ?_ _|refine below_drew ?_|refine gr_call ?_ VV|refine Below.setCell ?_ ?_ _)|go_size|omega|(simp;omega)))
         case measure=>(simp [intOf]<;>omega)
       ·have hno:hitB a b c m k k y=false:=by simp [hitB,mx_,k2]
        go_wp2_with (first|(go_at_call 36;refine (gcd_a _ _ _ Vp Vp).mono ?_;rintro e w' ⟨rfl,nq,rfl⟩)|(go_at_call 102;refine (at_a _ _ _ _ _ _ Vp).mono ?_;rintro e w1 ⟨rfl,hb⟩;have c00:=cell_call hb (a:=⟨w.heap.size,0,none⟩) (v:= .int .i64 a) Vq;have c01:=cell_call hb (a:=⟨w.heap.size,1,none⟩) (v:= .int .i64 b) Vq;have c02:=cell_call hb (a:=⟨w.heap.size,2,none⟩) (v:= .int .i64 c) Vq;have z0:=lt_keep hb (w.heap.size) Vx;have hs:=hb.size))
        go_roundw
        case rel=>first|(refine ⟨y+1,Vn,by first|rfl|go_num,cl_succ hcl hno,?_,?_,?_,?_⟩<;>first|assumption|(repeat' first|with_reducible (first|exact Below.refl _ _|assumption|refine gr_alloc ?_ _|refine below_drewN ?_ _|refine below_drew ?_|refine gr_call ?_ VV|refine Below.setCell ?_ ?_ _)|go_size|omega|(simp;omega)))|((repeat apply Exists.intro);refine ⟨?_,rfl⟩;refine ⟨y+1,Vn,by first|rfl|go_num,cl_succ hcl hno,?_,?_,?_,?_⟩<;>first|assumption|(repeat' first|with_reducible (first|exact Below.refl _ _|assumption|refine gr_alloc ?_ _|refine below_drewN ?_ _|refine below_drew ?_|refine gr_call ?_ VV|refine Below.setCell ?_ ?_ _)|go_size|omega|(simp;omega)))
        case measure=>(simp [intOf]<;>omega)
      ·have mx_: ¬max x y=k:=by omega
       have hno:hitB a b c m k x y=false:=by simp [hitB,mx_]
       go_wp2_with (first|(go_at_call 36;refine (gcd_a _ _ _ Vp Vp).mono ?_;rintro e w' ⟨rfl,nq,rfl⟩)|(go_at_call 102;refine (at_a _ _ _ _ _ _ Vp).mono ?_;rintro e w1 ⟨rfl,hb⟩;have c00:=cell_call hb (a:=⟨w.heap.size,0,none⟩) (v:= .int .i64 a) Vq;have c01:=cell_call hb (a:=⟨w.heap.size,1,none⟩) (v:= .int .i64 b) Vq;have c02:=cell_call hb (a:=⟨w.heap.size,2,none⟩) (v:= .int .i64 c) Vq;have z0:=lt_keep hb (w.heap.size) Vx;have hs:=hb.size))
       go_roundw
       case rel=>first|(refine ⟨y+1,Vn,by first|rfl|go_num,cl_succ hcl hno,?_,?_,?_,?_⟩<;>first|assumption|(repeat' first|with_reducible (first|exact Below.refl _ _|assumption|refine gr_alloc ?_ _|refine below_drewN ?_ _|refine below_drew ?_|refine gr_call ?_ VV|refine Below.setCell ?_ ?_ _)|go_size|omega|(simp;omega)))|((repeat apply Exists.intro);refine ⟨?_,rfl⟩;refine ⟨y+1,Vn,by first|rfl|go_num,cl_succ hcl hno,?_,?_,?_,?_⟩<;>first|assumption|(repeat' first|with_reducible (first|exact Below.refl _ _|assumption|refine gr_alloc ?_ _|refine below_drewN ?_ _|refine below_drew ?_|refine gr_call ?_ VV|refine Below.setCell ?_ ?_ _)|go_size|omega|(simp;omega)))
       case measure=>(simp [intOf]<;>omega)
      ·have mx_: ¬max x y=k:=by omega
       have hno:hitB a b c m k x y=false:=by simp [hitB,mx_]
       go_wp2_with (first|(go_at_call 36;refine (gcd_a _ _ _ Vp Vp).mono ?_;rintro e w' ⟨rfl,nq,rfl⟩)|(go_at_call 102;refine (at_a _ _ _ _ _ _ Vp).mono ?_;rintro e w1 ⟨rfl,hb⟩;have c00:=cell_call hb (a:=⟨w.heap.size,0,none⟩) (v:= .int .i64 a) Vq;have c01:=cell_call hb (a:=⟨w.heap.size,1,none⟩) (v:= .int .i64 b) Vq;have c02:=cell_call hb (a:=⟨w.heap.size,2,none⟩) (v:= .int .i64 c) Vq;have z0:=lt_keep hb (w.heap.size) Vx;have hs:=hb.size))
       go_roundw
       case rel=>first|(refine ⟨y+1,Vn,by first|rfl|go_num,cl_succ hcl hno,?_,?_,?_,?_⟩<;>first|assumption|(repeat' first|with_reducible (first|exact Below.refl _ _|assumption|refine gr_alloc ?_ _|refine below_drewN ?_ _|refine below_drew ?_|refine gr_call ?_ VV|refine Below.setCell ?_ ?_ _)|go_size|omega|(simp;omega)))|((repeat apply Exists.intro);refine ⟨?_,rfl⟩;refine ⟨y+1,Vn,by first|rfl|go_num,cl_succ hcl hno,?_,?_,?_,?_⟩<;>first|assumption|(repeat' first|with_reducible (first|exact Below.refl _ _|assumption|refine gr_alloc ?_ _|refine below_drewN ?_ _|refine below_drew ?_|refine gr_call ?_ VV|refine Below.setCell ?_ ?_ _)|go_size|omega|(simp;omega)))
       case measure=>(simp [intOf]<;>omega)
     ·obtain rfl:y=k+1:=by omega
      go_wp2
      go_roundw
      case rel=>first|exact ⟨x+1,Vn,by first|rfl|go_num,rw_succ hrw hcl,c00,c01,c02,hb⟩|((repeat apply Exists.intro);exact ⟨⟨x+1,Vn,by first|rfl|go_num,rw_succ hrw hcl,c00,c01,c02,hb⟩,rfl⟩)
      case measure=>(simp [intOf]<;>omega)
   ·obtain rfl:x=k+1:=by omega
    go_wp2
    go_roundw
    case rel=>first|exact ⟨k+1,by first|rfl|go_num,sz_succ hsz hrw,c00,c01,c02,hb⟩|((repeat apply Exists.intro);exact ⟨⟨k+1,by first|rfl|go_num,sz_succ hsz hrw,c00,c01,c02,hb⟩,rfl⟩)
    case measure=>(simp [intOf]<;>omega)

theorem chValue_g (a b c d:Int) (w:World) (h0:RedC a b c) (hd:discI a b c=d) (h1: -2000≤d) (h2:d≤ -3):
  Calls Tryz.prog 112 #[.agg #[.int .i64 a,.int .i64 b,.int .i64 c]] w fun e w'=> ∃k x y:Nat,e= .returned (.int .i64 (valI a b c (x:Int) (y:Int)))∧IsFirst a b c (2*d) k x y∧Below w.heap.size w w':=by
 have hf:=red_form h0
 go_enter Tryz.func112,Tryz.ntmps112
 go_wp2_with fail
 refine (foDisc_a _ _ _ _ hf).mono ?_
 rintro e w1 ⟨rfl,hb1⟩
 rw[hd]
 have c00:=cell_call hb1 (a:=⟨w.heap.size,0,none⟩) (v:= .int .i64 a) Vq
 have c01:=cell_call hb1 (a:=⟨w.heap.size,1,none⟩) (v:= .int .i64 b) Vq
 have c02:=cell_call hb1 (a:=⟨w.heap.size,2,none⟩) (v:= .int .i64 c) Vq
 have hs1:=hb1.size
 have hb:Below w.heap.size w w1:=byGG
 go_wp2
 go_loopw [4] (fun ks wr=> ∃k:Nat,ks= .int .i64 (k:Int)∧Sz a b c (2*d) k∧wr.cell? ⟨w.heap.size,0,none⟩=some (.int .i64 a)∧wr.cell? ⟨w.heap.size,1,none⟩=some (.int .i64 b)∧wr.cell? ⟨w.heap.size,2,none⟩=some (.int .i64 c)∧Below w.heap.size w wr) (fun ks _=>4001-(intOf ks).toNat)
 case atStart=>exact ⟨1,rfl,sz_one _ _ _ _,c00,c01,c02,hb⟩
 case round=>
  clear hb c00 c01 c02 hs1 hb1
  obtain ⟨k,rfl,hsz,c00,c01,c02,hb⟩:=hrel
  have hk:=sz_le_g Vn Vn h0.cls.pr hsz
  have hk2:(k:Int)≤4000:=by omega
  obtain ⟨wo,rfl⟩: ∃wo:World,wo=wr:=⟨_,rfl⟩
  go_wp2
  go_loopw [5] (fun xs wr=> ∃x:Nat,x≤k+1∧xs= .int .i64 (x:Int)∧Rw a b c (2*d) k x∧wr.cell? ⟨w.heap.size,0,none⟩=some (.int .i64 a)∧wr.cell? ⟨w.heap.size,1,none⟩=some (.int .i64 b)∧wr.cell? ⟨w.heap.size,2,none⟩=some (.int .i64 c)∧Below w.heap.size w wr) (fun xs _=>k+1-(intOf xs).toNat)
  case atStart=>exact ⟨0,Vn,rfl,rw_zero _ _ _ _ _,c00,c01,c02,hb⟩
  case round=>
   clear hb c00 c01 c02
   obtain ⟨x,hx,rfl,hrw,c00,c01,c02,hb⟩:=hrel
   obtain ⟨wp,rfl⟩: ∃wp:World,wp=wr:=⟨_,rfl⟩
   by_cases q1:x≤k
   ·have q1':(x:Int)≤(k:Int):=by omega
    go_wp2
    go_loopw [6] (fun ys wr=> ∃y:Nat,y≤k+1∧ys= .int .i64 (y:Int)∧Cl a b c (2*d) k x y∧wr.cell? ⟨w.heap.size,0,none⟩=some (.int .i64 a)∧wr.cell? ⟨w.heap.size,1,none⟩=some (.int .i64 b)∧wr.cell? ⟨w.heap.size,2,none⟩=some (.int .i64 c)∧Below w.heap.size w wr) (fun ys _=>k+1-(intOf ys).toNat)
    case atStart=>exact ⟨0,Vn,rfl,cl_zero _ _ _ _ _ _,c00,c01,c02,hb⟩
    case round=>
     clear hb c00 c01 c02
     obtain ⟨y,hy,rfl,hcl,c00,c01,c02,hb⟩:=hrel
     obtain ⟨wq,rfl⟩: ∃wq:World,wq=wr:=⟨_,rfl⟩
     have z0:=World.block_lt_of_cell? _ _ c00
     change w.heap.size<wq.heap.size at z0
     by_cases q2:y≤k
     ·have q2':(y:Int)≤(k:Int):=by omega
      have hat:=at_g (x:=x) (y:=y) h0 Vn Vn
      rcases (by omega:(x<k∧k=y)∨(y≤k∧k=x)∨(x<k∧y<k)) with ⟨e1,e2⟩|⟨e1,e2⟩|⟨e1,e2⟩
      ·subst e2
       have n1: ¬(x:Int)=(k:Int):=by omega
       have mx_:max x k=k:=by omega
       have hv:=val_g (x:=x) (y:=k) h0 Vn Vn
       obtain ⟨v0,v1⟩:=hv
       by_cases k3:igcd (valI a b c (x:Int) (k:Int)) (2*d)=1
       ·have HY:=hide (hit_yes Vn hsz mx_ k3)
        have c00:=c00
        go_wp2_with (first|(go_at_call 110;refine (nuGcd_a _ _ _ Vp Vp).mono ?_;rintro e w' ⟨rfl,nq,rfl⟩)|(go_at_call 138;refine (foValue_a _ _ _ _ _ _ Vp).mono ?_;rintro e w1 ⟨rfl,hb⟩;have c00:=cell_call hb (a:=⟨w.heap.size,0,none⟩) (v:= .int .i64 a) Vq;have c01:=cell_call hb (a:=⟨w.heap.size,1,none⟩) (v:= .int .i64 b) Vq;have c02:=cell_call hb (a:=⟨w.heap.size,2,none⟩) (v:= .int .i64 c) Vq;have z0:=lt_keep hb (w.heap.size) Vx;have hs:=hb.size))
        go_ret
        exact ⟨k,x,k,rfl,⟨unhide HY,Vn,Vn,hsz,hrw,hcl⟩,byGG⟩
       ·have hno:hitB a b c (2*d) k x k=false:=by simp [hitB,k3]
        go_wp2_with (first|(go_at_call 110;refine (nuGcd_a _ _ _ Vp Vp).mono ?_;rintro e w' ⟨rfl,nq,rfl⟩)|(go_at_call 138;refine (foValue_a _ _ _ _ _ _ Vp).mono ?_;rintro e w1 ⟨rfl,hb⟩;have c00:=cell_call hb (a:=⟨w.heap.size,0,none⟩) (v:= .int .i64 a) Vq;have c01:=cell_call hb (a:=⟨w.heap.size,1,none⟩) (v:= .int .i64 b) Vq;have c02:=cell_call hb (a:=⟨w.heap.size,2,none⟩) (v:= .int .i64 c) Vq;have z0:=lt_keep hb (w.heap.size) Vx;have hs:=hb.size))
        go_roundw
        case rel=>first|(refine ⟨k+1,Vn,by first|rfl|go_num,cl_succ hcl hno,?_,?_,?_,?_⟩<;>first|assumption|(repeat' first|with_reducible (first|exact Below.refl _ _|assumption|refine gr_alloc ?_ _|refine below_drewN ?_ _|refine below_drew ?_|refine gr_call ?_ VV|refine Below.setCell ?_ ?_ _)|go_size|omega|(simp;omega)))|((repeat apply Exists.intro);refine ⟨?_,rfl⟩;refine ⟨k+1,Vn,by first|rfl|go_num,cl_succ hcl hno,?_,?_,?_,?_⟩<;>first|assumption|(repeat' first|with_reducible (first|exact Below.refl _ _|assumption|refine gr_alloc ?_ _|refine below_drewN ?_ _|refine below_drew ?_|refine gr_call ?_ VV|refine Below.setCell ?_ ?_ _)|go_size|omega|(simp;omega)))
        case measure=>(simp [intOf]<;>omega)
      ·subst e2
       have mx_:max k y=k:=by omega
       have hv:=val_g (x:=k) (y:=y) h0 Vn Vn
       obtain ⟨v0,v1⟩:=hv
       by_cases k3:igcd (valI a b c (k:Int) (y:Int)) (2*d)=1
       ·have HY:=hide (hit_yes Vn hsz mx_ k3)
        have c00:=c00
        go_wp2_with (first|(go_at_call 110;refine (nuGcd_a _ _ _ Vp Vp).mono ?_;rintro e w' ⟨rfl,nq,rfl⟩)|(go_at_call 138;refine (foValue_a _ _ _ _ _ _ Vp).mono ?_;rintro e w1 ⟨rfl,hb⟩;have c00:=cell_call hb (a:=⟨w.heap.size,0,none⟩) (v:= .int .i64 a) Vq;have c01:=cell_call hb (a:=⟨w.heap.size,1,none⟩) (v:= .int .i64 b) Vq;have c02:=cell_call hb (a:=⟨w.heap.size,2,none⟩) (v:= .int .i64 c) Vq;have z0:=lt_keep hb (w.heap.size) Vx;have hs:=hb.size))
        go_ret
        exact ⟨k,k,y,rfl,⟨unhide HY,Vn,Vn,hsz,hrw,hcl⟩,byGG⟩
       ·have hno:hitB a b c (2*d) k k y=false:=by simp [hitB,k3]
        go_wp2_with (first|(go_at_call 110;refine (nuGcd_a _ _ _ Vp Vp).mono ?_;rintro e w' ⟨rfl,nq,rfl⟩)|(go_at_call 138;refine (foValue_a _ _ _ _ _ _ Vp).mono ?_;rintro e w1 ⟨rfl,hb⟩;have c00:=cell_call hb (a:=⟨w.heap.size,0,none⟩) (v:= .int .i64 a) Vq;have c01:=cell_call hb (a:=⟨w.heap.size,1,none⟩) (v:= .int .i64 b) Vq;have c02:=cell_call hb (a:=⟨w.heap.size,2,none⟩) (v:= .int .i64 c) Vq;have z0:=lt_keep hb (w.heap.size) Vx;have hs:=hb.size))
        go_roundw
        case rel=>first|(refine ⟨y+1,Vn,by first|rfl|go_num,cl_succ hcl hno,?_,?_,?_,?_⟩<;>first|assumption|(repeat' first|with_reducible (first|exact Below.refl _ _|assumption|refine gr_alloc ?_ _|refine below_drewN ?_ _|refine below_drew ?_|refine gr_call ?_ VV|refine Below.setCell ?_ ?_ _)|go_size|omega|(simp;omega)))|((repeat apply Exists.intro);refine ⟨?_,rfl⟩;refine ⟨y+1,Vn,by first|rfl|go_num,cl_succ hcl hno,?_,?_,?_,?_⟩<;>first|assumption|(repeat' first|with_reducible (first|exact Below.refl _ _|assumption|refine gr_alloc ?_ _|refine below_drewN ?_ _|refine below_drew ?_|refine gr_call ?_ VV|refine Below.setCell ?_ ?_ _)|go_size|omega|(simp;omega)))
        case measure=>(simp [intOf]<;>omega)
      ·have mx_: ¬max x y=k:=by omega
       have hno:hitB a b c (2*d) k x y=false:=by simp [hitB,mx_]
       have n1: ¬(x:Int)=(k:Int):=by omega
       have n2: ¬(y:Int)=(k:Int):=by omega
       go_wp2_with (first|(go_at_call 110;refine (nuGcd_a _ _ _ Vp Vp).mono ?_;rintro e w' ⟨rfl,nq,rfl⟩)|(go_at_call 138;refine (foValue_a _ _ _ _ _ _ Vp).mono ?_;rintro e w1 ⟨rfl,hb⟩;have c00:=cell_call hb (a:=⟨w.heap.size,0,none⟩) (v:= .int .i64 a) Vq;have c01:=cell_call hb (a:=⟨w.heap.size,1,none⟩) (v:= .int .i64 b) Vq;have c02:=cell_call hb (a:=⟨w.heap.size,2,none⟩) (v:= .int .i64 c) Vq;have z0:=lt_keep hb (w.heap.size) Vx;have hs:=hb.size))
       go_roundw
       case rel=>first|(refine ⟨y+1,Vn,by first|rfl|go_num,cl_succ hcl hno,?_,?_,?_,?_⟩<;>first|assumption|(repeat' first|with_reducible (first|exact Below.refl _ _|assumption|refine gr_alloc ?_ _|refine below_drewN ?_ _|refine below_drew ?_|refine gr_call ?_ VV|refine Below.setCell ?_ ?_ _)|go_size|omega|(simp;omega)))|((repeat apply Exists.intro);refine ⟨?_,rfl⟩;refine ⟨y+1,Vn,by first|rfl|go_num,cl_succ hcl hno,?_,?_,?_,?_⟩<;>first|assumption|(repeat' first|with_reducible (first|exact Below.refl _ _|assumption|refine gr_alloc ?_ _|refine below_drewN ?_ _|refine below_drew ?_|refine gr_call ?_ VV|refine Below.setCell ?_ ?_ _)|go_size|omega|(simp;omega)))
       case measure=>(simp [intOf]<;>omega)
     ·obtain rfl:y=k+1:=by omega
      go_wp2
      go_roundw
      case rel=>first|exact ⟨x+1,Vn,by first|rfl|go_num,rw_succ hrw hcl,c00,c01,c02,hb⟩|((repeat apply Exists.intro);exact ⟨⟨x+1,Vn,by first|rfl|go_num,rw_succ hrw hcl,c00,c01,c02,hb⟩,rfl⟩)
      case measure=>(simp [intOf]<;>omega)
   ·obtain rfl:x=k+1:=by omega
    go_wp2
    go_roundw
    case rel=>first|exact ⟨k+1,by first|rfl|go_num,sz_succ hsz hrw,c00,c01,c02,hb⟩|((repeat apply Exists.intro);exact ⟨⟨k+1,by first|rfl|go_num,sz_succ hsz hrw,c00,c01,c02,hb⟩,rfl⟩)
    case measure=>(simp [intOf]<;>omega)
end Go.Proofs.YtobkcnmlmmhpoaaGreatDoor
