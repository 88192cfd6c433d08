/- Inverses, Bezout's numbers, common residues on both sides. -/
import Derived.Test.YtobkcnmlmmhpoaaGreatDoorFp
namespace Go.Proofs.YtobkcnmlmmhpoaaGreatDoor
set_option maxRecDepth 100000
set_option maxHeartbeats 80000000
open Go.RowKit
set_option linter.unusedVariables false
set_option linter.unusedSimpArgs false
attribute [local go_sem] q2 q3 q4 q5 q6 q7 q8 q9 q10 q11 q12

theorem euc_ex {a m:Int} (hm:1≤m): ∀(n:Nat) (r s x y:Int),s.toNat≤n→EucI a m r s x y→ ∃t,IsInv a m t:=by
 intro n
 induction n with
 |zero=>
  intro r s x y hn h
  have:=h.s0
  obtain rfl:s=0:=by omega
  exact ⟨_,(h.last hm).2⟩
 |succ n ih=>
  intro r s x y hn h
  by_cases q:s=0
  ·subst q;exact ⟨_,(h.last hm).2⟩
  ·obtain ⟨h1,h2,_⟩:=h.step q hm
   have:=Int.emod_lt_of_pos r (show 0<s by have:=h.s0;omega)
   exact ih _ _ _ _ (by rw[h2];omega) h1
theorem euc_impl {a m:Int} (hm:1≤m) (hg:Int.gcd m a=1):EucI a m (a%m) m 1 0:=by
 have m0:=Int.emod_nonneg a (show m≠0 by omega)
 have m1:=Int.emod_lt_of_pos a (show 0<m by omega)
 have e:=Int.emod_add_mul_ediv a m
 exact ⟨m0,Vn,⟨a / m,Vn⟩,⟨-1,Vn⟩,.inl ⟨Vn,Vn,Vn⟩,by rw[gcd_mod_left,Int.gcd_comm];exact hg,Vn,Vn,Vn,Vn⟩
theorem euc_spec {a m:Int} (hm:1≤m) (hg:Int.gcd m a=1):EucI a m m (a%m) 0 1:=by
 have m0:=Int.emod_nonneg a (show m≠0 by omega)
 have m1:=Int.emod_lt_of_pos a (show 0<m by omega)
 have e:=Int.emod_add_mul_ediv a m
 exact ⟨Vn,m0,⟨-1,Vn⟩,⟨a / m,Vn⟩,.inr ⟨Vn,Vn,Vn⟩,by rw[Int.gcd_comm,gcd_mod_left,Int.gcd_comm];exact hg,Vn,Vn,Vn,Vn⟩
theorem inv_is {a m:Int} (hm:1≤m) (hg:Int.gcd m a=1):IsInv a m (invI a m):=by
 obtain ⟨t,ht⟩:=euc_ex hm _ _ _ _ _ (Nat.le_refl _) (euc_impl hm hg)
 rw[inv_of hg ht];exact ht
def eucR (a m r s x y:Int):Prop:=EucI a m r s x y

theorem inverse_i (a m:Int) (w:World) (h0: -1000000000≤a∧a≤1000000000) (h1:m≤1000000000) (h2:1≤m) (h3:Int.gcd m a=1):
  Calls Tryz.prog 189 #[.int .i64 a,.int .i64 m] w fun e w'=>e= .returned (.int .i64 (invI a m))∧w=w':=by
 have HG:=hide h3
 have HS:=hide (euc_impl h2 h3)
 clear h3
 have ma:=Int.emod_nonneg a (show m≠0 by omega)
 have mb:=Int.emod_lt_of_pos a (show 0<m by omega)
 go_enter Tryz.func189,Tryz.ntmps189
 go_wp2_with (go_at_call 53;refine (mod_a _ _ _ Vp Vp Vp).mono ?_;rintro e w' ⟨rfl,rfl⟩)
 go_loop [5,6,7,8] (fun sx sy sr ss=> ∃r s x y:Int,Hid (eucR a m r s x y)∧sr= .int .i64 r∧ss= .int .i64 s∧sx= .int .i64 x∧sy= .int .i64 y) (fun sx sy sr ss=>(intOf ss).toNat)
 case atStart=>exact ⟨_,_,_,_,HS,rfl,rfl,rfl,rfl⟩
 case round=>
  obtain ⟨r,s,x,y,HE,rfl,rfl,rfl,rfl⟩:=hrel
  have he:EucI a m r s x y:=unhide HE
  obtain ⟨r0,s0,_,_,_,_,rm,sm,yb,xb⟩:=he
  by_cases q:s=0
  ·subst q
   obtain ⟨e1,e2⟩:=EucI.last (unhide HE:EucI a m r 0 x y) h2
   have HI:=hide (inv_of (unhide HG) e2)
   subst e1
   clear e2
   go_wp2_with (go_at_call 53;refine (mod_a _ _ _ Vp Vp Vp).mono ?_;rintro e w' ⟨rfl,rfl⟩)
   go_ret
   exact ⟨ret_int (unhide HI).symm,rfl⟩
  ·obtain ⟨t1,t2,t3,t4,t5,t6,t7,t8⟩:=EucI.step (unhide HE:EucI a m r s x y) q h2
   have t9:=Int.emod_lt_of_pos r (show 0<s by omega)
   have T1:=hide t1
   have T2:=hide t2
   have T9:=hide t9
   have s1:1≤s:=by omega
   clear t1 t2 t9
   go_wp2
   go_round
   case rel=>first|exact ⟨_,_,_,_,T1,rfl,rfl,rfl,rfl⟩|((repeat apply Exists.intro);exact ⟨⟨_,_,_,_,T1,rfl,rfl,rfl,rfl⟩,rfl⟩)
   case measure=>
    have e:=unhide T2
    have f:=unhide T9
    simp only[intOf]
    omega

theorem nuInverse_i (a m:Int) (w:World) (h0: -1000000000≤a∧a≤1000000000) (h1:m≤1000000000) (h2:1≤m) (h3:Int.gcd m a=1):
  Calls Tryz.prog 185 #[.int .i64 a,.int .i64 m] w fun e w'=>e= .returned (.int .i64 (invI a m))∧w=w':=by
 have HG:=hide h3
 have HS:=hide (euc_spec h2 h3)
 clear h3
 have ma:=Int.emod_nonneg a (show m≠0 by omega)
 have mb:=Int.emod_lt_of_pos a (show 0<m by omega)
 go_enter Tryz.func185,Tryz.ntmps185
 go_wp2_with (go_at_call 77;refine (nuMod_a _ _ _ Vp Vp Vp).mono ?_;rintro e w' ⟨rfl,rfl⟩)
 go_loop [5,6,7,8] (fun sr ss sx sy=> ∃r s x y:Int,Hid (eucR a m r s x y)∧sr= .int .i64 r∧ss= .int .i64 s∧sx= .int .i64 x∧sy= .int .i64 y) (fun sr ss sx sy=>(intOf ss).toNat)
 case atStart=>exact ⟨_,_,_,_,HS,rfl,rfl,rfl,rfl⟩
 case round=>
  obtain ⟨r,s,x,y,HE,rfl,rfl,rfl,rfl⟩:=hrel
  have he:EucI a m r s x y:=unhide HE
  obtain ⟨r0,s0,_,_,_,_,rm,sm,yb,xb⟩:=he
  by_cases q:s=0
  ·subst q
   obtain ⟨e1,e2⟩:=EucI.last (unhide HE:EucI a m r 0 x y) h2
   have HI:=hide (inv_of (unhide HG) e2)
   subst e1
   clear e2
   go_wp2_with (go_at_call 77;refine (nuMod_a _ _ _ Vp Vp Vp).mono ?_;rintro e w' ⟨rfl,rfl⟩)
   go_ret
   exact ⟨ret_int (unhide HI).symm,rfl⟩
  ·obtain ⟨t1,t2,t3,t4,t5,t6,t7,t8⟩:=EucI.step (unhide HE:EucI a m r s x y) q h2
   have t9:=Int.emod_lt_of_pos r (show 0<s by omega)
   have T1:=hide t1
   have T2:=hide t2
   have T9:=hide t9
   have s1:1≤s:=by omega
   clear t1 t2 t9
   go_wp2
   go_round
   case rel=>first|exact ⟨_,_,_,_,T1,rfl,rfl,rfl,rfl⟩|((repeat apply Exists.intro);exact ⟨⟨_,_,_,_,T1,rfl,rfl,rfl,rfl⟩,rfl⟩)
   case measure=>
    have e:=unhide T2
    have f:=unhide T9
    simp only[intOf]
    omega

open Classical in
noncomputable def bzS (x y:Nat):Int:=if y=0 then 1 else invI x y
open Classical in
noncomputable def bzV (x y:Nat):Int:=if y=0 then 0 else (1-x*invI x y) / y
theorem exact_div {a m k:Int} (hm:1≤m) (h:a=m*k):a.tdiv m=k∧a / m=k:=by
 subst h
 exact ⟨Int.mul_tdiv_cancel_left _ Vn,Int.mul_ediv_cancel_left _ Vn⟩
theorem bz_facts {x y:Nat} (hx:x≤5) (hy:y≤5) (hg:Int.gcd x y=1):(x:Int)*bzS x y+y*bzV x y=1∧(-10≤bzS x y∧bzS x y≤10)∧(-10≤bzV x y∧bzV x y≤10)∧(y≠0→(1-x*bzS x y).tdiv y=bzV x y∧(x*bzS x y-1).tdiv y= -bzV x y):=by
 unfold bzS bzV
 by_cases q:y=0
 ·subst q
  have:x=1:=by simpa using hg
  subst this
  simp
 ·simp only[if_neg q]
  obtain ⟨i0,i1,k,hk⟩:=inv_is (a:=x) (m:=y) Vn (by rw[Int.gcd_comm];exact hg)
  generalize invI x y=s at*
  have e1:1-x*s=y*(-k):=by rw[Int.mul_neg];omega
  obtain ⟨d1,d2⟩:=exact_div Vn e1
  obtain ⟨d3,_⟩:=exact_div Vn hk
  rw[d2,d1,d3]
  refine ⟨by rw[←e1];omega,Vn,?_,fun _=>⟨rfl,Vn⟩⟩
  have hxs:0≤(x:Int)*s∧(x:Int)*s≤5*5:=⟨Int.mul_nonneg Vn i0,Int.mul_le_mul Vn Vn i0 Vn⟩
  have h1y:1≤y:=by omega
  have h5:(x:Int)*s≤5*(y-1):=Int.mul_le_mul Vn Vn i0 Vn
  have kk:(y:Int)*k≤y*5:=by omega
  have k1:k≤5:=by
   by_cases q2:k≤5
   ·exact q2
   ·have:=Int.mul_le_mul_of_nonneg_left (show 6≤k by omega) (show 0≤(y:Int) by omega);omega
  have k0: -1≤k:=by
   by_cases q2: -1≤k
   ·exact q2
   ·have:=Int.mul_le_mul_of_nonneg_left (show k≤ -2 by omega) (show 0≤(y:Int) by omega);omega
  omega

theorem l1Sign_one (w:World):Calls Tryz.prog 192 #[.int .i64 1] w fun e w'=>e= .returned (.int .i64 1)∧w=w':=by
 go_enter Tryz.func192,Tryz.ntmps192
 go_wp2
 go_ret
 exact ⟨rfl,rfl⟩

theorem nuBezout_z (x y:Nat) (w:World) (hx:x≤5) (hy:y≤5) (hg:Int.gcd x y=1):
  Calls Tryz.prog 183 #[.int .i64 (x:Int),.int .i64 (y:Int)] w fun e w'=>e= .returned (.tuple #[.int .i64 (igcd (x:Int) (y:Int)),.int .i64 (bzS x y),.int .i64 (bzV x y)])∧Below w.heap.size w w':=by
 obtain ⟨b1,b2,b3,b4⟩:=bz_facts hx hy hg
 have g1:1≤igcd (x:Int) (y:Int):=by unfold igcd;omega
 have g2:igcd (x:Int) (y:Int)≤1:=by unfold igcd;omega
 by_cases q:y=0
 ·subst q
  have hx1:x=1:=by simpa using hg
  subst hx1
  have e1:bzS 1 0=1:=by simp [bzS]
  have e2:bzV 1 0=0:=by simp [bzV]
  rw[e1,e2]
  clear b1 b2 b3 b4 e1 e2
  go_enter Tryz.func183,Tryz.ntmps183
  go_wp2_with (first|(go_at_call 110;refine (nuGcd_a _ _ _ Vp Vp).mono ?_;rintro e w' ⟨rfl,nq,rfl⟩)|(go_at_call 192;refine (l1Sign_one _).mono ?_;rintro e w' ⟨rfl,rfl⟩))
  go_ret3
  exact ⟨rfl,byGG⟩
 ·obtain ⟨b5,b6⟩:=b4 q
  have e0:igcd (x:Int) (y:Int)=1:=by omega
  have HX1:IntKind.i64.wrap ((x:Int).tdiv (igcd (x:Int) (y:Int)))=x:=by rw[e0,Int.tdiv_one];exact int_in Vn
  have HX2:IntKind.i64.wrap ((y:Int).tdiv (igcd (x:Int) (y:Int)))=y:=by rw[e0,Int.tdiv_one];exact int_in Vn
  have HX3:invI (x:Int) (y:Int)=bzS x y:=by unfold bzS;rw [if_neg q]
  have hxs: -50≤(x:Int)*bzS x y∧(x:Int)*bzS x y≤50:=mul_bd (A:=5) (B:=10) Vn Vn Vn
  have HX4:IntKind.i64.wrap ((x:Int)*bzS x y)=x*bzS x y:=int_in Vn
  have HX5:IntKind.i64.wrap (igcd (x:Int) (y:Int)-(x:Int)*bzS x y)=1-x*bzS x y:=by rw[e0];exact int_in Vn
  have HX6:IntKind.i64.wrap ((1-(x:Int)*bzS x y).tdiv (y:Int))=bzV x y:=by rw[b5];exact int_in Vn
  have HG2:Int.gcd (y:Int) (x:Int)=1:=by rw[Int.gcd_comm];exact hg
  clear b1 b4 b5 b6 e0
  have hy0: ¬(y:Int)=0:=by omega
  go_enter Tryz.func183,Tryz.ntmps183
  go_upto_region 4 with (go_at_call 110;refine (nuGcd_a _ _ _ Vp Vp).mono ?_;rintro e w' ⟨rfl,nq,rfl⟩)
  go_cut [8] (fun s8 wx=>s8= .int .i64 (bzS x y)∧Below w.heap.size w wx)
  case first=>
   have h1:=trivial
   rename_i K2 h2 h3
   refine region_n0 Vw (fun j=> #[17,18,19,20,21,22,23,24,8].getD j 0) (fun j=>Kd.ok ((fun j=>match j with|0=>Kd.val (.int .i64 ((x:Int)))|1=>Kd.val (.int .i64 (igcd (x:Int) (y:Int)))|2=>Kd.val (.int .i64 ((x:Int)))|3=>Kd.val (.int .i64 ((y:Int)))|4=>Kd.val (.int .i64 ((y:Int)))|5=>Kd.val (.int .i64 (igcd (x:Int) (y:Int)))|6=>Kd.val (.int .i64 ((y:Int)))|7=>Kd.val (.int .i64 (bzS x y))|8=>Kd.val (.int .i64 (bzS x y))|_=>Kd.any:Nat→Kd) j)) (Sy w (w.heap.size) [] []) Vw Vw ?_ ?_ ?_ ?_
   ·intro j hj
    have hj2:j<9:=hj
    have: ∀j,j<9→(#[17,18,19,20,21,22,23,24,8]:Array Nat).getD j 0<34:=by decide
    exact this j hj2
   ·refine Sy.drew (Sy.mk_of ?_ ?_ ?_ ?_)
    ·first|rfl|(simp;done)|(simp;omega)
    ·intro c hc;cases hc
    ·intro p hp;cases hp
    ·(repeat' first|with_reducible (first|exact Below.refl _ _|assumption|refine gr_alloc ?_ _|refine below_drewN ?_ _|refine below_drew ?_|refine gr_call ?_ VV|refine Below.setCell ?_ ?_ _)|go_size|omega|(simp;omega))
   ·clear h1 h2 h3
    refine ⟨?r8x0,?r8x1,?r8x2,?r8x3,?r8x4,?r8x5,?r8x6,?r8x7,?r8x8,trivial⟩
    all_goals intro _ aq wx Kq hf hS hdep ev1 ev2 hK
    case' r8x0=>
     have F0:aq.eval (.tmp 0)= .int .i64 ((x:Int)):=hf 0
    case' r8x1=>
     have F7:aq.eval (.tmp 7)= .int .i64 (igcd (x:Int) (y:Int)):=hf 7
    case' r8x2=>
     have D0:aq.eval (.tmp 17)=_:=hdep 0
     have D1:aq.eval (.tmp 18)=_:=hdep 1
    case' r8x3=>
     have F1:aq.eval (.tmp 1)= .int .i64 ((y:Int)):=hf 1
    case' r8x4=>
     have D3:aq.eval (.tmp 20)=_:=hdep 3
    case' r8x5=>
     have F7:aq.eval (.tmp 7)= .int .i64 (igcd (x:Int) (y:Int)):=hf 7
    case' r8x6=>
     have D4:aq.eval (.tmp 21)=_:=hdep 4
     have D5:aq.eval (.tmp 22)=_:=hdep 5
    case' r8x7=>
     have D2:aq.eval (.tmp 19)=_:=hdep 2
     have D6:aq.eval (.tmp 23)=_:=hdep 6
    case' r8x8=>
     have D7:aq.eval (.tmp 24)=_:=hdep 7
    all_goals (clear hf hdep;unfold Oper.wp;generalize Act.eval _=ev at *;go_simp)
    case' r8x2=>
     try rw[if_neg Vn,Oper.upon_value]
    case r8x4=>
     refine ((l1Abs_a (y:Int) _ Vn)).mono ?_
     rintro e w2 ⟨rfl,rfl⟩
     refine hK _ _ (hS.call (below_refl_self _)) ?_ (fun j u _ h=>Kd.ok_below (below_refl_self _) h)
     rw[if_pos VH]
     show (_:Value)=_
     first|rfl|(refine congrArg (Value.int .i64) ?_;first|rfl|exact int_in Vn|exact quo_in Vn Vn Vn|exact rem_in Vn Vn|omega|exact HX1|exact HX2|exact HX3)|(simp;done)|(simp [*];done)
    case' r8x6=>
     try rw[if_neg Vn,Oper.upon_value]
    case r8x7=>
     refine ((nuInverse_i (x:Int) (y:Int) _ Vn Vn Vn HG2)).mono ?_
     rintro e w2 ⟨rfl,rfl⟩
     refine hK _ _ (hS.call (below_refl_self _)) ?_ (fun j u _ h=>Kd.ok_below (below_refl_self _) h)
     rw[if_pos VH]
     show (_:Value)=_
     first|rfl|(refine congrArg (Value.int .i64) ?_;first|rfl|exact int_in Vn|exact quo_in Vn Vn Vn|exact rem_in Vn Vn|omega|exact HX1|exact HX2|exact HX3)|(simp;done)|(simp [*];done)
    all_goals (refine hK _ _ hS ?_ (fun j u _ h=>h);rw [if_pos VH];show (_:Value)=_;(first|rfl|(refine congrArg (Value.int .i64) ?_;first|rfl|exact int_in Vn|exact quo_in Vn Vn Vn|exact rem_in Vn Vn|omega|exact HX1|exact HX2|exact HX3)|(simp;done)|(simp [*];done)))
   ·intro aq wx hd hw hf hS hg
    have G8:tau aq 8= .int .i64 (bzS x y):=hg 8 VA
    have haq:aq=⟨#[tau aq 0,tau aq 1,tau aq 2,tau aq 3,tau aq 4,tau aq 5,tau aq 6,tau aq 7,tau aq 8,tau aq 9,tau aq 10,tau aq 11,tau aq 12,tau aq 13,tau aq 14,tau aq 15,tau aq 16,tau aq 17,tau aq 18,tau aq 19,tau aq 20,tau aq 21,tau aq 22,tau aq 23,tau aq 24,tau aq 25,tau aq 26,tau aq 27,tau aq 28,tau aq 29,tau aq 30,tau aq 31,tau aq 32,tau aq 33],[]⟩:=by
     obtain ⟨tq,dq⟩:=aq
     have h5:=arr_eq (show tq.size=34 from hw)
     have h6:dq= []:=hd
     subst h6
     exact congrArg (fun z=>Act.mk z []) h5
    show K2 aq wx
    rw[haq,hf 0,hf 1,hf 2,hf 3,hf 4,hf 5,hf 6,hf 7,hf 9,hf 10,hf 11,hf 12,hf 13,hf 14,hf 15,hf 16,hf 25,hf 26,hf 27,hf 28,hf 29,hf 30,hf 31,hf 32,hf 33,G8]
    clear haq hf hd hw
    try dsimp only
    refine h3 _ _ ?_
    go_meet
    exact ⟨rfl,hS.below⟩
  obtain ⟨rfl,hb0⟩:=hcut
  go_upto_region 5 with fail
  go_cut [4,5,6] (fun s4 s5 s6 wx=>s4= .int .i64 (igcd (x:Int) (y:Int))∧s5= .int .i64 (bzS x y)∧s6= .int .i64 (bzV x y)∧Below w.heap.size w wx)
  case first=>
   have h1:=trivial
   rename_i K2 h2 h3
   refine region_n0 Vw (fun j=> #[25,26,27,28,29,30,31,32,33,4,5,6].getD j 0) (fun j=>Kd.ok ((fun j=>match j with|0=>Kd.val (.int .i64 (igcd (x:Int) (y:Int)))|1=>Kd.val (.int .i64 (bzS x y))|2=>Kd.val (.int .i64 (igcd (x:Int) (y:Int)))|3=>Kd.val (.int .i64 ((x:Int)))|4=>Kd.val (.int .i64 (bzS x y))|5=>Kd.val (.int .i64 ((x:Int)*bzS x y))|6=>Kd.val (.int .i64 (1-(x:Int)*bzS x y))|7=>Kd.val (.int .i64 ((y:Int)))|8=>Kd.val (.int .i64 (bzV x y))|9=>Kd.val (.int .i64 (igcd (x:Int) (y:Int)))|10=>Kd.val (.int .i64 (bzS x y))|11=>Kd.val (.int .i64 (bzV x y))|_=>Kd.any:Nat→Kd) j)) (Sy w (wc.heap.size) [] []) Vw Vw ?_ ?_ ?_ ?_
   ·intro j hj
    have hj2:j<12:=hj
    have: ∀j,j<12→(#[25,26,27,28,29,30,31,32,33,4,5,6]:Array Nat).getD j 0<34:=by decide
    exact this j hj2
   ·refine Sy.drew (Sy.mk_of ?_ ?_ ?_ ?_)
    ·first|rfl|(simp;done)|(simp;omega)
    ·intro c hc;cases hc
    ·intro p hp;cases hp
    ·(repeat' first|with_reducible (first|exact Below.refl _ _|assumption|refine gr_alloc ?_ _|refine below_drewN ?_ _|refine below_drew ?_|refine gr_call ?_ VV|refine Below.setCell ?_ ?_ _)|go_size|omega|(simp;omega))
   ·clear h1 h2 h3
    refine ⟨?r9x0,?r9x1,?r9x2,?r9x3,?r9x4,?r9x5,?r9x6,?r9x7,?r9x8,?r9x9,?r9x10,?r9x11,trivial⟩
    all_goals intro _ aq wx Kq hf hS hdep ev1 ev2 hK
    case' r9x0=>
     have F7:aq.eval (.tmp 7)= .int .i64 (igcd (x:Int) (y:Int)):=hf 7
    case' r9x1=>
     have F8:aq.eval (.tmp 8)= .int .i64 (bzS x y):=hf 8
    case' r9x2=>
     have F7:aq.eval (.tmp 7)= .int .i64 (igcd (x:Int) (y:Int)):=hf 7
    case' r9x3=>
     have F0:aq.eval (.tmp 0)= .int .i64 ((x:Int)):=hf 0
    case' r9x4=>
     have F8:aq.eval (.tmp 8)= .int .i64 (bzS x y):=hf 8
    case' r9x5=>
     have D3:aq.eval (.tmp 28)=_:=hdep 3
     have D4:aq.eval (.tmp 29)=_:=hdep 4
    case' r9x6=>
     have D2:aq.eval (.tmp 27)=_:=hdep 2
     have D5:aq.eval (.tmp 30)=_:=hdep 5
    case' r9x7=>
     have F1:aq.eval (.tmp 1)= .int .i64 ((y:Int)):=hf 1
    case' r9x8=>
     have D6:aq.eval (.tmp 31)=_:=hdep 6
     have D7:aq.eval (.tmp 32)=_:=hdep 7
    case' r9x9=>
     have D0:aq.eval (.tmp 25)=_:=hdep 0
    case' r9x10=>
     have D1:aq.eval (.tmp 26)=_:=hdep 1
    case' r9x11=>
     have D8:aq.eval (.tmp 33)=_:=hdep 8
    all_goals (clear hf hdep;unfold Oper.wp;generalize Act.eval _=ev at *;go_simp)
    case' r9x8=>
     try rw[if_neg Vn,Oper.upon_value]
    all_goals (refine hK _ _ hS ?_ (fun j u _ h=>h);rw [if_pos VH];show (_:Value)=_;(first|rfl|(refine congrArg (Value.int .i64) ?_;first|rfl|exact int_in Vn|exact quo_in Vn Vn Vn|exact rem_in Vn Vn|omega|exact HX4|exact HX5|exact HX6)|(simp;done)|(simp [*];done)))
   ·intro aq wx hd hw hf hS hg
    have G4:tau aq 4= .int .i64 (igcd (x:Int) (y:Int)):=hg 9 VA
    have G5:tau aq 5= .int .i64 (bzS x y):=hg 10 VA
    have G6:tau aq 6= .int .i64 (bzV x y):=hg 11 VA
    have haq:aq=⟨#[tau aq 0,tau aq 1,tau aq 2,tau aq 3,tau aq 4,tau aq 5,tau aq 6,tau aq 7,tau aq 8,tau aq 9,tau aq 10,tau aq 11,tau aq 12,tau aq 13,tau aq 14,tau aq 15,tau aq 16,tau aq 17,tau aq 18,tau aq 19,tau aq 20,tau aq 21,tau aq 22,tau aq 23,tau aq 24,tau aq 25,tau aq 26,tau aq 27,tau aq 28,tau aq 29,tau aq 30,tau aq 31,tau aq 32,tau aq 33],[]⟩:=by
     obtain ⟨tq,dq⟩:=aq
     have h5:=arr_eq (show tq.size=34 from hw)
     have h6:dq= []:=hd
     subst h6
     exact congrArg (fun z=>Act.mk z []) h5
    show K2 aq wx
    rw[haq,hf 0,hf 1,hf 2,hf 3,hf 7,hf 8,hf 9,hf 10,hf 11,hf 12,hf 13,hf 14,hf 15,hf 16,hf 17,hf 18,hf 19,hf 20,hf 21,hf 22,hf 23,hf 24,G4,G5,G6]
    clear haq hf hd hw
    try dsimp only
    refine h3 _ _ ?_
    go_meet
    exact ⟨rfl,rfl,rfl,hS.below⟩
  obtain ⟨rfl,rfl,rfl,hb0⟩:=hcut
  go_wp2
  go_ret3
  exact ⟨rfl,byGG⟩
end Go.Proofs.YtobkcnmlmmhpoaaGreatDoor
