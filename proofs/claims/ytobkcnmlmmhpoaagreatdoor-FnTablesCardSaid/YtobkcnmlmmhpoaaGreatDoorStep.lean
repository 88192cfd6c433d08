/- One step of the reduction on both sides. -/
import Derived.Test.YtobkcnmlmmhpoaaGreatDoorSub
import Derived.WalkSpells
namespace Go.Proofs.YtobkcnmlmmhpoaaGreatDoor
set_option maxRecDepth 100000
set_option maxHeartbeats 80000000
open Go.RowKit
set_option linter.unusedVariables false
set_option linter.unusedSimpArgs false
attribute [local go_sem] q2 q3 q4 q5 q6 q7 q8 q9 q10 q11 q12

theorem tr_zero {a b:Int} (h:0<a) (hn: -a<b∧b≤a):trT a b=0:=Int.ediv_eq_zero_of_lt Vn Vn
theorem tr_nonzero {a b:Int} (h:0<a) (hn: ¬(-a<b∧b≤a)): ¬trT a b=0:=fun e=>by
 obtain ⟨t0,t1⟩:=trT_bd (b:=b) h
 rw[e] at t0 t1;simp at t0 t1;omega
def sP (a b:Int):Int:=if normB a b then 0 else 1
def sQ (a b:Int):Int:=if normB a b then -1 else trT a b
def sR (a b:Int):Int:=if normB a b then 1 else 0
def sS (a b:Int):Int:=if normB a b then 0 else 1
def rdM:Nat→Int→Int→Int→Int→Int→Int→Int→Int × Int × Int × Int
 |0,a,b,c,p,q,r,s=>(p,q,r,s)
 |n+1,a,b,c,p,q,r,s=>if redB a b c then (p,q,r,s) else rdM n (stepA a b c) (stepB a b c) (stepC a b c) (mmP p q r s (sP a b) (sQ a b) (sR a b) (sS a b)) (mmQ p q r s (sP a b) (sQ a b) (sR a b) (sS a b)) (mmR p q r s (sP a b) (sQ a b) (sR a b) (sS a b)) (mmS p q r s (sP a b) (sQ a b) (sR a b) (sS a b))
theorem rdM_more: ∀n a b c p q r s,OkF a b c→muF a b c≤n→rdM (n+1) a b c p q r s=rdM n a b c p q r s:=by
 intro n
 induction n with
 |zero=>
  intro a b c p q r s h hm
  cases hr:redB a b c
  ·have:=mu_step h hr;omega
  ·simp [rdM,hr]
 |succ n ih=>
  intro a b c p q r s h hm
  cases hr:redB a b c
  ·have h1:=mu_step h hr
   have e1: ∀n,rdM (n+1) a b c p q r s=rdM n (stepA a b c) (stepB a b c) (stepC a b c) (mmP p q r s (sP a b) (sQ a b) (sR a b) (sS a b)) (mmQ p q r s (sP a b) (sQ a b) (sR a b) (sS a b)) (mmR p q r s (sP a b) (sQ a b) (sR a b) (sS a b)) (mmS p q r s (sP a b) (sQ a b) (sR a b) (sS a b)):=fun n=>by rw[rdM,if_neg (by rw[hr];simp)]
   rw[e1,e1]
   exact ih _ _ _ _ _ _ _ (step_ok h) Vn
  ·have e1: ∀n,rdM (n+1) a b c p q r s=(p,q,r,s):=fun n=>by rw[rdM,if_pos hr]
   rw[e1,e1]
theorem rdM_all {a b c p q r s:Int} (h:OkF a b c) {n:Nat} (hn:muF a b c≤n):rdM n a b c p q r s=rdM (muF a b c) a b c p q r s:=by
 obtain ⟨k,rfl⟩:=Nat.exists_eq_add_of_le hn
 induction k with
 |zero=>rfl
 |succ k ih=>
  rw[←ih (Nat.le_add_right _ _)]
  exact rdM_more (muF a b c+k) a b c p q r s h (Nat.le_add_right _ _)
def redM (a b c p q r s:Int):Int × Int × Int × Int:=rdM (muF a b c) a b c p q r s
theorem redM_yes {a b c p q r s:Int} (hr:redB a b c=true):redM a b c p q r s=(p,q,r,s):=by
 unfold redM
 cases muF a b c with
 |zero=>rfl
 |succ n=>rw[rdM,if_pos hr]
theorem redM_no {a b c p q r s:Int} (h:OkF a b c) (hr:redB a b c=false):redM a b c p q r s=redM (stepA a b c) (stepB a b c) (stepC a b c) (mmP p q r s (sP a b) (sQ a b) (sR a b) (sS a b)) (mmQ p q r s (sP a b) (sQ a b) (sR a b) (sS a b)) (mmR p q r s (sP a b) (sQ a b) (sR a b) (sS a b)) (mmS p q r s (sP a b) (sQ a b) (sR a b) (sS a b)):=by
 have h1:=mu_step h hr
 unfold redM
 obtain ⟨n,hn⟩:=Nat.exists_eq_succ_of_ne_zero (show muF a b c≠0 by omega)
 rw[hn,rdM,if_neg (by rw[hr];simp)]
 exact rdM_all (step_ok h) Vn
theorem at_tr {a b c:Int} (h:OkF a b c):AtOk a b c 1 0∧PoOk a b c 1 0 (trT a b) 1∧AtOk a b c (trT a b) 1∧valI a b c 1 0=a∧polI a b c 1 0 (trT a b) 1=2*a*trT a b+b∧valI a b c (trT a b) 1=a*trT a b*trT a b+b*trT a b+c∧ -100000000≤trT a b∧trT a b≤100000000:=by
 obtain ⟨t0,t1⟩:=trT_bd (b:=b) h.a0
 have a0:=h.a0;have a1:=h.a1;have b0:=h.b0;have b1:=h.b1;have c0:=h.c0;have c1:=h.c1
 generalize trT a b=t at*
 have e2:2*a*t=2*(a*t):=Int.mul_assoc _ _ _
 have at0: -100000000≤a*t∧a*t≤100000000:=by omega
 have tb: -100000000≤t∧t≤100000000:=by
  by_cases q:0≤t
  ·have:=Int.mul_le_mul_of_nonneg_right (show 1≤a by omega) q;omega
  ·have:=Int.mul_le_mul_of_nonneg_right (show 1≤a by omega) (show 0≤ -t by omega)
   rw[Int.mul_neg,Int.mul_neg] at this;omega
 have att:=mul_bd (a:=a*t) (b:=t) (A:=100000000) (B:=100000000) Vn at0 tb
 have bt:=mul_bd (a:=b) (b:=t) (A:=100000000) (B:=100000000) Vn ⟨b0,b1⟩ tb
 refine ⟨⟨?_,?_,?_,?_,?_,?_⟩,⟨?_,?_,?_,?_,?_,?_,?_,?_,?_⟩,⟨?_,?_,?_,?_,?_,?_⟩,?_,?_,?_,tb.1,tb.2⟩
 all_goals first|(simp;omega)|(simp [valI];done)|(simp [polI];done)|omega
theorem at_sw {a b c:Int} (h:OkF a b c):AtOk a b c 0 1∧PoOk a b c 0 1 (-1) 0∧AtOk a b c (-1) 0∧valI a b c 0 1=c∧polI a b c 0 1 (-1) 0= -b∧valI a b c (-1) 0=a:=by
 have a0:=h.a0;have a1:=h.a1;have b0:=h.b0;have b1:=h.b1;have c0:=h.c0;have c1:=h.c1
 refine ⟨⟨?_,?_,?_,?_,?_,?_⟩,⟨?_,?_,?_,?_,?_,?_,?_,?_,?_⟩,⟨?_,?_,?_,?_,?_,?_⟩,?_,?_,?_⟩
 all_goals first|(simp;omega)|(simp [valI];done)|(simp [polI];done)|omega
theorem redF_tr {a b c:Int} (h:OkF a b c) (hn:normB a b=false):redF (valI a b c 1 0) (polI a b c 1 0 (trT a b) 1) (valI a b c (trT a b) 1)=redF a b c∧OkF (valI a b c 1 0) (polI a b c 1 0 (trT a b) 1) (valI a b c (trT a b) 1)∧muF (valI a b c 1 0) (polI a b c 1 0 (trT a b) 1) (valI a b c (trT a b) 1)<muF a b c∧(∀p q r s,redM (valI a b c 1 0) (polI a b c 1 0 (trT a b) 1) (valI a b c (trT a b) 1) (mmP p q r s 1 (trT a b) 0 1) (mmQ p q r s 1 (trT a b) 0 1) (mmR p q r s 1 (trT a b) 0 1) (mmS p q r s 1 (trT a b) 0 1)=redM a b c p q r s):=by
 have hr:redB a b c=false:=by unfold redB;rw [hn];rfl
 obtain ⟨_,_,_,e1,e2,e3,_,_⟩:=at_tr h
 have h1:=redF_no h hr
 have h2:=step_ok h
 have h3:=mu_step h hr
 have h4:=fun p q r s=>redM_no (p:=p) (q:=q) (r:=r) (s:=s) h hr
 simp only[stepA,stepB,stepC,sP,sQ,sR,sS,hn,Bool.false_eq_true,if_false] at h1 h2 h3 h4
 rw[e1,e2,e3]
 exact ⟨h1.symm,h2,h3,fun p q r s=>(h4 p q r s).symm⟩
theorem redF_sw {a b c:Int} (h:OkF a b c) (hn:normB a b=true) (hr:redB a b c=false):redF (valI a b c 0 1) (polI a b c 0 1 (-1) 0) (valI a b c (-1) 0)=redF a b c∧OkF (valI a b c 0 1) (polI a b c 0 1 (-1) 0) (valI a b c (-1) 0)∧muF (valI a b c 0 1) (polI a b c 0 1 (-1) 0) (valI a b c (-1) 0)<muF a b c∧(∀p q r s,redM (valI a b c 0 1) (polI a b c 0 1 (-1) 0) (valI a b c (-1) 0) (mmP p q r s 0 (-1) 1 0) (mmQ p q r s 0 (-1) 1 0) (mmR p q r s 0 (-1) 1 0) (mmS p q r s 0 (-1) 1 0)=redM a b c p q r s):=by
 obtain ⟨_,_,_,e1,e2,e3⟩:=at_sw h
 have h1:=redF_no h hr
 have h2:=step_ok h
 have h3:=mu_step h hr
 have h4:=fun p q r s=>redM_no (p:=p) (q:=q) (r:=r) (s:=s) h hr
 simp only[stepA,stepB,stepC,sP,sQ,sR,sS,hn,if_true] at h1 h2 h3 h4
 rw[e1,e2,e3]
 exact ⟨h1.symm,h2,h3,fun p q r s=>(h4 p q r s).symm⟩
theorem floor_ex {a m:Int} (hm:0<m):(a-a%m) / m=a / m∧(a-a%m).tdiv m=a / m:=by
 have h1:=Int.emod_add_mul_ediv a m
 have e:a-a%m=m*(a / m):=by omega
 rw[e]
 exact ⟨Int.mul_ediv_cancel_left _ Vn,Int.mul_tdiv_cancel_left _ Vn⟩

theorem one_x (w:World):
  Calls Tryz.prog 156 #[] w fun e w'=>e= .returned (.agg #[.int .i64 1,.int .i64 0,.int .i64 0,.int .i64 1])∧w'=w.alloc (.cells #[.int .i64 1,.int .i64 0,.int .i64 0,.int .i64 1] 132):=by
 go_enter Tryz.func156,Tryz.ntmps156
 go_wp2
 go_returns
 refine ⟨rfl,?_⟩
 rfl

theorem floorDiv_a (a m:Int) (w:World) (h0: -1000000000000000000≤a∧a≤1000000000000000000) (h1:0<m) (h2:m≤1000000000000000000):
  Calls Tryz.prog 181 #[.int .i64 a,.int .i64 m] w fun e w'=>e= .returned (.int .i64 (a / m))∧w=w':=by
 obtain ⟨f1,f2⟩:=floor_ex (a:=a) h1
 have q0:=Int.emod_nonneg a (show m≠0 by omega)
 have q1:=Int.emod_lt_of_pos a h1
 have hb: -1000000000000000001≤a / m∧a / m≤1000000000000000000:=by
  refine ⟨?_,?_⟩
  ·by_cases q: -1000000000000000001≤a / m
   ·exact q
   ·have:=Int.emod_add_mul_ediv a m
    have h3:=Int.mul_le_mul_of_nonneg_left (show a / m≤ -1000000000000000002 by omega) (show 0≤m by omega)
    omega
  ·by_cases q:a / m≤1000000000000000000
   ·exact q
   ·have:=Int.emod_add_mul_ediv a m
    have h3:=Int.mul_le_mul_of_nonneg_left (show 1000000000000000001≤a / m by omega) (show 0≤m by omega)
    omega
 have hw:wrap64 (a / m)=a / m:=IntWalk.wrap64_in _ ⟨Vn,Vn⟩
 have F2:=hide f2
 have F1:=hide f1
 have HW:=hide hw
 have hm0: ¬m=0:=by omega
 clear f1 f2 hw
 go_enter Tryz.func181,Tryz.ntmps181
 go_wp2_with (go_at_call 53;refine (mod_a _ _ _ Vp Vp Vp).mono ?_;rintro e w' ⟨rfl,rfl⟩)
 all_goals
  go_ret
  exact ⟨ret_int (by first|exact unhide F1|exact unhide F2|(rw [unhide F2];exact unhide HW)),rfl⟩

theorem step_tr (a b c:Int) (w:World) (h0:OkF a b c) (h1:normB a b=false) (h2:redB a b c=false):
  Calls Tryz.prog 157 #[.agg #[.int .i64 a,.int .i64 b,.int .i64 c]] w fun e w'=>e= .returned (.agg #[.int .i64 1,.int .i64 (trT a b),.int .i64 0,.int .i64 1])∧Below w.heap.size w w':=by
 obtain ⟨a0,a1,b0,b1,c0,c1,_,_⟩:=h0
 go_enter Tryz.func157,Tryz.ntmps157
 go_wp2_with (first|(go_at_call 96;refine (isReduced_x _ _ _ _ Vp).mono ?_;rintro e w' ⟨rfl,rfl⟩)|(go_at_call 127;refine (isNormal_x _ _ _ _ Vp).mono ?_;rintro e w' ⟨rfl,rfl⟩)|(go_at_call 181;refine (floorDiv_a _ _ _ Vp Vp Vp).mono ?_;rintro e w' ⟨rfl,rfl⟩)|(go_at_call 156;refine (one_x  _).mono ?_;rintro e w' ⟨rfl,rfl⟩))
 first|go_returns|(refine bodyPost_ret (v:= .agg #[.int .i64 1,.int .i64 (trT a b),.int .i64 0,.int .i64 1]) (by simp [results,Tryz.results157,go_sem, *]) rfl ?_)
 refine ⟨rfl,?_⟩
 (repeat' first|with_reducible (first|exact Below.refl _ _|assumption|refine gr_alloc ?_ _|refine below_drewN ?_ _|refine below_drew ?_|refine gr_call ?_ VV|refine Below.setCell ?_ ?_ _)|go_size|omega|(simp;omega))

theorem step_sw (a b c:Int) (w:World) (h0:OkF a b c) (h1:normB a b=true) (h2:redB a b c=false):
  Calls Tryz.prog 157 #[.agg #[.int .i64 a,.int .i64 b,.int .i64 c]] w fun e w'=>e= .returned (.agg #[.int .i64 0,.int .i64 ((-1)),.int .i64 1,.int .i64 0])∧Below w.heap.size w w':=by
 obtain ⟨a0,a1,b0,b1,c0,c1,_,_⟩:=h0
 go_enter Tryz.func157,Tryz.ntmps157
 go_wp2_with (first|(go_at_call 96;refine (isReduced_x _ _ _ _ Vp).mono ?_;rintro e w' ⟨rfl,rfl⟩)|(go_at_call 127;refine (isNormal_x _ _ _ _ Vp).mono ?_;rintro e w' ⟨rfl,rfl⟩)|(go_at_call 181;refine (floorDiv_a _ _ _ Vp Vp Vp).mono ?_;rintro e w' ⟨rfl,rfl⟩)|(go_at_call 156;refine (one_x  _).mono ?_;rintro e w' ⟨rfl,rfl⟩))
 first|go_returns|(refine bodyPost_ret (v:= .agg #[.int .i64 0,.int .i64 ((-1)),.int .i64 1,.int .i64 0]) (by simp [results,Tryz.results157,go_sem, *]) rfl ?_)
 refine ⟨rfl,?_⟩
 (repeat' first|with_reducible (first|exact Below.refl _ _|assumption|refine gr_alloc ?_ _|refine below_drewN ?_ _|refine below_drew ?_|refine gr_call ?_ VV|refine Below.setCell ?_ ?_ _)|go_size|omega|(simp;omega))

theorem reNormal_a (a b c:Int) (w:World) (h0:OkF a b c):
  Calls Tryz.prog 188 #[.agg #[.int .i64 a,.int .i64 b,.int .i64 c]] w fun e w'=>e= .returned (.int .i64 (trT a b))∧Below w.heap.size w w':=by
 obtain ⟨a0,a1,b0,b1,c0,c1,d0,d1⟩:=h0
 have hx:=(floor_ex (a:=a-b) (m:=2*a) Vn).2
 have tb:=(at_tr (a:=a) (b:=b) (c:=c) ⟨a0,a1,b0,b1,c0,c1,d0,d1⟩).2.2.2.2.2.2
 have HX:IntKind.i64.wrap ((a-b-(a-b)%(2*a)).tdiv (2*a))=trT a b:=by rw[hx];exact int_in (show -9223372036854775808≤trT a b∧trT a b≤9223372036854775807 by omega)
 have q0:=Int.emod_nonneg (a-b) (show 2*a≠0 by omega)
 have q1:=Int.emod_lt_of_pos (a-b) (show 0<2*a by omega)
 have e1:IntKind.i64.wrap (a-b)=a-b:=int_in Vn
 have e2:IntKind.i64.wrap (2*a)=2*a:=int_in Vn
 have e3:IntKind.i64.wrap (a-b-(a-b)%(2*a))=a-b-(a-b)%(2*a):=int_in Vn
 clear hx
 go_enter Tryz.func188,Tryz.ntmps188
 go_upto_region 1 with fail
 go_cut [2] (fun s2 wx=>s2= .int .i64 (trT a b)∧Ri3 wx w.heap.size a b c∧Below w.heap.size w wx)
 case first=>
  have h1:=trivial
  rename_i K2 h2 h3
  refine region_n0 Vw (fun j=> #[3,4,5,6,7,8,9,10,11,12,13,14,15,16,17,18,19,20,21,2].getD j 0) (fun j=>Kd.ok ((fun j=>match j with|0=>Kd.val (.pointer (some ⟨w.heap.size,0,none⟩))|1=>Kd.val (.int .i64 a)|2=>Kd.val (.pointer (some ⟨w.heap.size,1,none⟩))|3=>Kd.val (.int .i64 b)|4=>Kd.val (.int .i64 (a-b))|5=>Kd.val (.pointer (some ⟨w.heap.size,0,none⟩))|6=>Kd.val (.int .i64 a)|7=>Kd.val (.pointer (some ⟨w.heap.size,1,none⟩))|8=>Kd.val (.int .i64 b)|9=>Kd.val (.int .i64 (a-b))|10=>Kd.val (.pointer (some ⟨w.heap.size,0,none⟩))|11=>Kd.val (.int .i64 a)|12=>Kd.val (.int .i64 (2*a))|13=>Kd.val (.int .i64 ((a-b)%(2*a)))|14=>Kd.val (.int .i64 ((a-b)-((a-b)%(2*a))))|15=>Kd.val (.pointer (some ⟨w.heap.size,0,none⟩))|16=>Kd.val (.int .i64 a)|17=>Kd.val (.int .i64 (2*a))|18=>Kd.val (.int .i64 (trT a b))|19=>Kd.val (.int .i64 (trT a b))|_=>Kd.any:Nat→Kd) j)) (Sy w (w.heap.size+1) [(⟨w.heap.size,0,none⟩,.int .i64 a),(⟨w.heap.size,1,none⟩,.int .i64 b),(⟨w.heap.size,2,none⟩,.int .i64 c)] []) Vw Vw ?_ ?_ ?_ ?_
  ·intro j hj
   have hj2:j<20:=hj
   have: ∀j,j<20→(#[3,4,5,6,7,8,9,10,11,12,13,14,15,16,17,18,19,20,21,2]:Array Nat).getD j 0<22:=by decide
   exact this j hj2
  ·refine Sy.drew (Sy.mk_of ?_ ?_ ?_ ?_)
   ·first|rfl|(simp;done)|(simp;omega)
   ·intro c hc
    simp only[List.mem_cons,List.not_mem_nil,or_false] at hc
    rcases hc with rfl|rfl|rfl<;>first|assumption|(go_simp;done)
   ·intro p hp;cases hp
   ·(repeat' first|with_reducible (first|exact Below.refl _ _|assumption|refine gr_alloc ?_ _|refine below_drewN ?_ _|refine below_drew ?_|refine gr_call ?_ VV|refine Below.setCell ?_ ?_ _)|go_size|omega|(simp;omega))
  ·clear h1 h2 h3
   refine ⟨?r3x0,?r3x1,?r3x2,?r3x3,?r3x4,?r3x5,?r3x6,?r3x7,?r3x8,?r3x9,?r3x10,?r3x11,?r3x12,?r3x13,?r3x14,?r3x15,?r3x16,?r3x17,?r3x18,?r3x19,trivial⟩
   all_goals intro _ aq wx Kq hf hS hdep ev1 ev2 hK
   case' r3x0=>
    have F1:aq.eval (.tmp 1)= .pointer (some ⟨w.heap.size,0,none⟩):=hf 1
   case' r3x1=>
    have D0:aq.eval (.tmp 3)=_:=hdep 0
    have c0:=hS.cells (⟨w.heap.size,0,none⟩,.int .i64 a) Vs
   case' r3x2=>
    have F1:aq.eval (.tmp 1)= .pointer (some ⟨w.heap.size,0,none⟩):=hf 1
   case' r3x3=>
    have D2:aq.eval (.tmp 5)=_:=hdep 2
    have c0:=hS.cells (⟨w.heap.size,1,none⟩,.int .i64 b) Vs
   case' r3x4=>
    have D1:aq.eval (.tmp 4)=_:=hdep 1
    have D3:aq.eval (.tmp 6)=_:=hdep 3
   case' r3x5=>
    have F1:aq.eval (.tmp 1)= .pointer (some ⟨w.heap.size,0,none⟩):=hf 1
   case' r3x6=>
    have D5:aq.eval (.tmp 8)=_:=hdep 5
    have c0:=hS.cells (⟨w.heap.size,0,none⟩,.int .i64 a) Vs
   case' r3x7=>
    have F1:aq.eval (.tmp 1)= .pointer (some ⟨w.heap.size,0,none⟩):=hf 1
   case' r3x8=>
    have D7:aq.eval (.tmp 10)=_:=hdep 7
    have c0:=hS.cells (⟨w.heap.size,1,none⟩,.int .i64 b) Vs
   case' r3x9=>
    have D6:aq.eval (.tmp 9)=_:=hdep 6
    have D8:aq.eval (.tmp 11)=_:=hdep 8
   case' r3x10=>
    have F1:aq.eval (.tmp 1)= .pointer (some ⟨w.heap.size,0,none⟩):=hf 1
   case' r3x11=>
    have D10:aq.eval (.tmp 13)=_:=hdep 10
    have c0:=hS.cells (⟨w.heap.size,0,none⟩,.int .i64 a) Vs
   case' r3x12=>
    have D11:aq.eval (.tmp 14)=_:=hdep 11
   case' r3x13=>
    have D9:aq.eval (.tmp 12)=_:=hdep 9
    have D12:aq.eval (.tmp 15)=_:=hdep 12
   case' r3x14=>
    have D4:aq.eval (.tmp 7)=_:=hdep 4
    have D13:aq.eval (.tmp 16)=_:=hdep 13
   case' r3x15=>
    have F1:aq.eval (.tmp 1)= .pointer (some ⟨w.heap.size,0,none⟩):=hf 1
   case' r3x16=>
    have D15:aq.eval (.tmp 18)=_:=hdep 15
    have c0:=hS.cells (⟨w.heap.size,0,none⟩,.int .i64 a) Vs
   case' r3x17=>
    have D16:aq.eval (.tmp 19)=_:=hdep 16
   case' r3x18=>
    have D14:aq.eval (.tmp 17)=_:=hdep 14
    have D17:aq.eval (.tmp 20)=_:=hdep 17
   case' r3x19=>
    have D18:aq.eval (.tmp 21)=_:=hdep 18
   all_goals (clear hf hdep;unfold Oper.wp;generalize Act.eval _=ev at *;go_simp)
   case r3x13=>
    refine ((nuMod_a (a-b) (2*a) _ Vn Vn Vn)).mono ?_
    rintro e w2 ⟨rfl,rfl⟩
    refine hK _ _ (hS.call (below_refl_self _)) ?_ (fun j u _ h=>Kd.ok_below (below_refl_self _) h)
    rw[if_pos VH]
    show (_:Value)=_
    first|rfl|(refine congrArg (Value.int .i64) ?_;first|rfl|exact int_in Vn|exact quo_in Vn Vn Vn|exact rem_in Vn Vn|omega|exact HX)|(simp;done)|(simp [*];done)
   case' r3x18=>
    try rw[if_neg Vn,Oper.upon_value]
   all_goals (refine hK _ _ hS ?_ (fun j u _ h=>h);rw [if_pos VH];show (_:Value)=_;(first|rfl|(refine congrArg (Value.int .i64) ?_;first|rfl|exact int_in Vn|exact quo_in Vn Vn Vn|exact rem_in Vn Vn|omega|exact HX)|(simp;done)|(simp [*];done)))
  ·intro aq wx hd hw hf hS hg
   have G2:tau aq 2= .int .i64 (trT a b):=hg 19 VA
   have haq:aq=⟨#[tau aq 0,tau aq 1,tau aq 2,tau aq 3,tau aq 4,tau aq 5,tau aq 6,tau aq 7,tau aq 8,tau aq 9,tau aq 10,tau aq 11,tau aq 12,tau aq 13,tau aq 14,tau aq 15,tau aq 16,tau aq 17,tau aq 18,tau aq 19,tau aq 20,tau aq 21],[]⟩:=by
    obtain ⟨tq,dq⟩:=aq
    have h5:=arr_eq (show tq.size=22 from hw)
    have h6:dq= []:=hd
    subst h6
    exact congrArg (fun z=>Act.mk z []) h5
   show K2 aq wx
   rw[haq,hf 0,hf 1,G2]
   clear haq hf hd hw
   try dsimp only
   refine h3 _ _ ?_
   go_meet
   refine ⟨rfl,Ri3.m ?_ ?_ ?_,hS.below⟩
   all_goals first|exact hS.cells (_,_) Vs|exact (hS.free _ Vs).2
 obtain ⟨rfl,⟨c00,c01,c02,z0⟩,hb0⟩:=hcut
 go_wp2
 go_returns
 refine ⟨rfl,?_⟩
 (repeat' first|with_reducible (first|exact Below.refl _ _|assumption|refine gr_alloc ?_ _|refine below_drewN ?_ _|refine below_drew ?_|refine gr_call ?_ VV|refine Below.setCell ?_ ?_ _)|go_size|omega|(simp;omega))

theorem reMove_tr (a b c:Int) (w:World) (h0:OkF a b c) (h1:normB a b=false) (h2:redB a b c=false):
  Calls Tryz.prog 169 #[.agg #[.int .i64 a,.int .i64 b,.int .i64 c]] w fun e w'=>e= .returned (.agg #[.int .i64 1,.int .i64 (trT a b),.int .i64 0,.int .i64 1])∧Below w.heap.size w w':=by
 have tz: ¬trT a b=0:=tr_nonzero h0.a0 (norm_false h1)
 have a0:=h0.a0
 have a1:=h0.a1
 go_enter Tryz.func169,Tryz.ntmps169
 go_wp2_with (first|(go_at_call 188;refine (reNormal_a _ _ _ _ Vp).mono ?_;rintro e w1 ⟨rfl,hb⟩;have c00:=cell_call hb (a:=⟨w.heap.size,0,none⟩) (v:= .int .i64 a) Vq;have c01:=cell_call hb (a:=⟨w.heap.size,1,none⟩) (v:= .int .i64 b) Vq;have c02:=cell_call hb (a:=⟨w.heap.size,2,none⟩) (v:= .int .i64 c) Vq;have z0:=lt_keep hb (w.heap.size) Vx;have c10:=cell_call hb (a:=⟨w.heap.size+1,0,none⟩) (v:= .int .i64 0) Vq;have f10:=frz_call hb (a:=⟨w.heap.size+1,0,none⟩) Vx Vq;have c11:=cell_call hb (a:=⟨w.heap.size+1,1,none⟩) (v:= .int .i64 0) Vq;have f11:=frz_call hb (a:=⟨w.heap.size+1,1,none⟩) Vx Vq;have c12:=cell_call hb (a:=⟨w.heap.size+1,2,none⟩) (v:= .int .i64 0) Vq;have f12:=frz_call hb (a:=⟨w.heap.size+1,2,none⟩) Vx Vq;have c13:=cell_call hb (a:=⟨w.heap.size+1,3,none⟩) (v:= .int .i64 0) Vq;have f13:=frz_call hb (a:=⟨w.heap.size+1,3,none⟩) Vx Vq;have z1:=lt_keep hb (w.heap.size+1) Vx;have hs:=hb.size)|(go_at_call 109;refine (reIs_x _ _ _ _ Vp).mono ?_;rintro e w' ⟨rfl,rfl⟩))
 first|go_returns|(refine bodyPost_ret (v:= .agg #[.int .i64 1,.int .i64 (trT a b),.int .i64 0,.int .i64 1]) (by simp [results,Tryz.results169,go_sem, *]) rfl ?_)
 refine ⟨rfl,?_⟩
 (repeat' first|with_reducible (first|exact Below.refl _ _|assumption|refine gr_alloc ?_ _|refine below_drewN ?_ _|refine below_drew ?_|refine gr_call ?_ VV|refine Below.setCell ?_ ?_ _)|go_size|omega|(simp;omega))

theorem reMove_sw (a b c:Int) (w:World) (h0:OkF a b c) (h1:normB a b=true) (h2:redB a b c=false):
  Calls Tryz.prog 169 #[.agg #[.int .i64 a,.int .i64 b,.int .i64 c]] w fun e w'=>e= .returned (.agg #[.int .i64 0,.int .i64 ((-1)),.int .i64 1,.int .i64 0])∧Below w.heap.size w w':=by
 have tz:trT a b=0:=tr_zero h0.a0 (norm_true h1)
 have a0:=h0.a0
 have a1:=h0.a1
 go_enter Tryz.func169,Tryz.ntmps169
 go_wp2_with (first|(go_at_call 188;refine (reNormal_a _ _ _ _ Vp).mono ?_;rintro e w1 ⟨rfl,hb⟩;have c00:=cell_call hb (a:=⟨w.heap.size,0,none⟩) (v:= .int .i64 a) Vq;have c01:=cell_call hb (a:=⟨w.heap.size,1,none⟩) (v:= .int .i64 b) Vq;have c02:=cell_call hb (a:=⟨w.heap.size,2,none⟩) (v:= .int .i64 c) Vq;have z0:=lt_keep hb (w.heap.size) Vx;have c10:=cell_call hb (a:=⟨w.heap.size+1,0,none⟩) (v:= .int .i64 0) Vq;have f10:=frz_call hb (a:=⟨w.heap.size+1,0,none⟩) Vx Vq;have c11:=cell_call hb (a:=⟨w.heap.size+1,1,none⟩) (v:= .int .i64 0) Vq;have f11:=frz_call hb (a:=⟨w.heap.size+1,1,none⟩) Vx Vq;have c12:=cell_call hb (a:=⟨w.heap.size+1,2,none⟩) (v:= .int .i64 0) Vq;have f12:=frz_call hb (a:=⟨w.heap.size+1,2,none⟩) Vx Vq;have c13:=cell_call hb (a:=⟨w.heap.size+1,3,none⟩) (v:= .int .i64 0) Vq;have f13:=frz_call hb (a:=⟨w.heap.size+1,3,none⟩) Vx Vq;have z1:=lt_keep hb (w.heap.size+1) Vx;have hs:=hb.size)|(go_at_call 109;refine (reIs_x _ _ _ _ Vp).mono ?_;rintro e w' ⟨rfl,rfl⟩))
 first|go_returns|(refine bodyPost_ret (v:= .agg #[.int .i64 0,.int .i64 ((-1)),.int .i64 1,.int .i64 0]) (by simp [results,Tryz.results169,go_sem, *]) rfl ?_)
 refine ⟨rfl,?_⟩
 (repeat' first|with_reducible (first|exact Below.refl _ _|assumption|refine gr_alloc ?_ _|refine below_drewN ?_ _|refine below_drew ?_|refine gr_call ?_ VV|refine Below.setCell ?_ ?_ _)|go_size|omega|(simp;omega))
end Go.Proofs.YtobkcnmlmmhpoaaGreatDoor
