/- Common residues (spec). The completed form: plain facts. -/
import Derived.Test.YtobkcnmlmmhpoaaGreatDoorInv
namespace Go.Proofs.YtobkcnmlmmhpoaaGreatDoor
set_option maxRecDepth 100000
set_option maxHeartbeats 80000000
open Go.RowKit
set_option linter.unusedVariables false
set_option linter.unusedSimpArgs false
attribute [local go_sem] q2 q3 q4 q5 q6 q7 q8 q9 q10 q11 q12

noncomputable def cmK (a0 p b0 q:Int):Int:=((b0-a0) / 2*invI p q)%q
noncomputable def cmT (a0 p b0 q:Int):Int:=(a0+2*p*cmK a0 p b0 q)%(p*(2*q))
theorem cm_facts {a0 p b0 q:Int} (hp:1≤p) (hq:1≤q) (hg:Int.gcd q p=1) (h2:2∣b0-a0):0≤cmT a0 p b0 q∧cmT a0 p b0 q<2*p*q∧2*p∣cmT a0 p b0 q-a0∧2*q∣cmT a0 p b0 q-b0:=by
 obtain ⟨d,hd⟩:=h2
 have ed:(b0-a0) / 2=d:=by omega
 obtain ⟨i0,i1,j,hj⟩:=inv_is hq hg
 unfold cmT cmK
 rw[ed]
 generalize invI p q=s at*
 have k0:=Int.emod_nonneg (d*s) (show q≠0 by omega)
 have k1:=Int.emod_lt_of_pos (d*s) (show 0<q by omega)
 have k2:=Int.emod_add_mul_ediv (d*s) q
 generalize (d*s)%q=k at*
 generalize (d*s) / q=l at*
 have pq:0<p*(2*q):=Int.mul_pos Vn Vn
 have t0:=Int.emod_nonneg (a0+2*p*k) (show p*(2*q)≠0 by omega)
 have t1:=Int.emod_lt_of_pos (a0+2*p*k) pq
 have t2:=Int.emod_add_mul_ediv (a0+2*p*k) (p*(2*q))
 generalize (a0+2*p*k)%(p*(2*q))=t at*
 generalize (a0+2*p*k) / (p*(2*q))=n at*
 have e2:p*(2*q)=2*p*q:=by grind
 rw[e2] at t1
 refine ⟨t0,t1,⟨k-q*n,by grind⟩,⟨j*d-p*l-p*n,by grind⟩⟩
theorem gcd_two {p q:Int} (hg:Int.gcd q p=1):igcd (2*p) (2*q)=2:=by
 unfold igcd
 rw[Int.gcd_mul_left,Int.gcd_comm,hg];rfl

theorem nuCommon_z (a0 p b0 q:Int) (w:World) (h0: -1000000≤a0∧a0≤1000000) (h1: -1000000≤b0∧b0≤1000000) (h2:1≤p) (h3:p≤100000) (h4:1≤q) (h5:q≤100000) (h6:Int.gcd q p=1) (h7:2∣b0-a0):
  Calls Tryz.prog 165 #[.int .i64 a0,.int .i64 (2*p),.int .i64 b0,.int .i64 (2*q)] w fun e w'=>e= .returned (.tuple #[.int .i64 (cmT a0 p b0 q),.int .i64 (p*(2*q)),.bool true])∧Below w.heap.size w w':=by
 have e0:=gcd_two h6
 have g1:2≤igcd (2*p) (2*q):=by omega
 have g2:igcd (2*p) (2*q)≤2:=by omega
 obtain ⟨d,hd⟩:=h7
 have HX1:IntKind.i64.wrap ((b0-a0).tdiv (igcd (2*p) (2*q)))=(b0-a0) / 2:=by
  rw[e0,hd,Int.mul_tdiv_cancel_left _ Vn,Int.mul_ediv_cancel_left _ Vn];exact int_in Vn
 have HX2:IntKind.i64.wrap ((2*p).tdiv (igcd (2*p) (2*q)))=p:=by
  rw[e0,Int.mul_tdiv_cancel_left _ Vn];exact int_in Vn
 have HX3:IntKind.i64.wrap ((2*q).tdiv (igcd (2*p) (2*q)))=q:=by
  rw[e0,Int.mul_tdiv_cancel_left _ Vn];exact int_in Vn
 have HT:(b0-a0).tmod (igcd (2*p) (2*q))=0:=by rw[e0,hd,Int.mul_tmod_right]
 have HD:2*p / (igcd (2*p) (2*q))=p:=by rw[e0];omega
 have HG2:=h6
 obtain ⟨i0,i1,_⟩:=inv_is h4 h6
 have ib: -100000000000≤(b0-a0) / 2*invI p q∧(b0-a0) / 2*invI p q≤100000000000:=mul_bd (A:=1000000) (B:=100000) Vn Vn Vn
 have k0:0≤cmK a0 p b0 q:=Int.emod_nonneg _ Vn
 have k1:cmK a0 p b0 q<q:=Int.emod_lt_of_pos _ Vn
 have pk: -20000000000≤2*p*cmK a0 p b0 q∧2*p*cmK a0 p b0 q≤20000000000:=mul_bd (A:=200000) (B:=100000) Vn Vn Vn
 have pq: -20000000000≤p*(2*q)∧p*(2*q)≤20000000000:=mul_bd (A:=100000) (B:=200000) Vn Vn Vn
 have pq2:0<p*(2*q):=Int.mul_pos Vn Vn
 clear e0 hd
 go_enter Tryz.func165,Tryz.ntmps165
 go_upto_region 4 with (go_at_call 110;refine (nuGcd_a _ _ _ Vp Vp).mono ?_;rintro e w' ⟨rfl,nq,rfl⟩)
 go_cut [12] (fun s12 wx=>s12= .int .i64 (cmK a0 p b0 q)∧Below w.heap.size w wx)
 case first=>
  have h1:=trivial
  rename_i K2 h2 h3
  refine region_n0 Vw (fun j=> #[23,24,25,26,27,28,29,30,31,32,33,34,35,36,37,38,39,12].getD j 0) (fun j=>Kd.ok ((fun j=>match j with|0=>Kd.val (.int .i64 b0)|1=>Kd.val (.int .i64 a0)|2=>Kd.val (.int .i64 (b0-a0))|3=>Kd.val (.int .i64 (igcd (2*p) (2*q)))|4=>Kd.val (.int .i64 ((b0-a0) / 2))|5=>Kd.val (.int .i64 (2*p))|6=>Kd.val (.int .i64 (igcd (2*p) (2*q)))|7=>Kd.val (.int .i64 p)|8=>Kd.val (.int .i64 (2*q))|9=>Kd.val (.int .i64 (igcd (2*p) (2*q)))|10=>Kd.val (.int .i64 q)|11=>Kd.val (.int .i64 (invI p q))|12=>Kd.val (.int .i64 (((b0-a0) / 2)*(invI p q)))|13=>Kd.val (.int .i64 (2*q))|14=>Kd.val (.int .i64 (igcd (2*p) (2*q)))|15=>Kd.val (.int .i64 q)|16=>Kd.val (.int .i64 (cmK a0 p b0 q))|17=>Kd.val (.int .i64 (cmK a0 p b0 q))|_=>Kd.any:Nat→Kd) j)) (Sy w (w.heap.size) [] []) Vw Vw ?_ ?_ ?_ ?_
  ·intro j hj
   have hj2:j<18:=hj
   have: ∀j,j<18→(#[23,24,25,26,27,28,29,30,31,32,33,34,35,36,37,38,39,12]:Array Nat).getD j 0<53:=by decide
   exact this j hj2
  ·refine Sy.drew (Sy.mk_of ?_ ?_ ?_ ?_)
   ·first|rfl|(simp;done)|(simp;omega)
   ·intro c hc;cases hc
   ·intro p hp;cases hp
   ·(repeat' first|with_reducible (first|exact Below.refl _ _|assumption|refine gr_alloc ?_ _|refine below_drewN ?_ _|refine below_drew ?_|refine gr_call ?_ VV|refine Below.setCell ?_ ?_ _)|go_size|omega|(simp;omega))
  ·clear h1 h2 h3
   refine ⟨?r10x0,?r10x1,?r10x2,?r10x3,?r10x4,?r10x5,?r10x6,?r10x7,?r10x8,?r10x9,?r10x10,?r10x11,?r10x12,?r10x13,?r10x14,?r10x15,?r10x16,?r10x17,trivial⟩
   all_goals intro _ aq wx Kq hf hS hdep ev1 ev2 hK
   case' r10x0=>
    have F2:aq.eval (.tmp 2)= .int .i64 b0:=hf 2
   case' r10x1=>
    have F0:aq.eval (.tmp 0)= .int .i64 a0:=hf 0
   case' r10x2=>
    have D0:aq.eval (.tmp 23)=_:=hdep 0
    have D1:aq.eval (.tmp 24)=_:=hdep 1
   case' r10x3=>
    have F11:aq.eval (.tmp 11)= .int .i64 (igcd (2*p) (2*q)):=hf 11
   case' r10x4=>
    have D2:aq.eval (.tmp 25)=_:=hdep 2
    have D3:aq.eval (.tmp 26)=_:=hdep 3
   case' r10x5=>
    have F1:aq.eval (.tmp 1)= .int .i64 (2*p):=hf 1
   case' r10x6=>
    have F11:aq.eval (.tmp 11)= .int .i64 (igcd (2*p) (2*q)):=hf 11
   case' r10x7=>
    have D5:aq.eval (.tmp 28)=_:=hdep 5
    have D6:aq.eval (.tmp 29)=_:=hdep 6
   case' r10x8=>
    have F3:aq.eval (.tmp 3)= .int .i64 (2*q):=hf 3
   case' r10x9=>
    have F11:aq.eval (.tmp 11)= .int .i64 (igcd (2*p) (2*q)):=hf 11
   case' r10x10=>
    have D8:aq.eval (.tmp 31)=_:=hdep 8
    have D9:aq.eval (.tmp 32)=_:=hdep 9
   case' r10x11=>
    have D7:aq.eval (.tmp 30)=_:=hdep 7
    have D10:aq.eval (.tmp 33)=_:=hdep 10
   case' r10x12=>
    have D4:aq.eval (.tmp 27)=_:=hdep 4
    have D11:aq.eval (.tmp 34)=_:=hdep 11
   case' r10x13=>
    have F3:aq.eval (.tmp 3)= .int .i64 (2*q):=hf 3
   case' r10x14=>
    have F11:aq.eval (.tmp 11)= .int .i64 (igcd (2*p) (2*q)):=hf 11
   case' r10x15=>
    have D13:aq.eval (.tmp 36)=_:=hdep 13
    have D14:aq.eval (.tmp 37)=_:=hdep 14
   case' r10x16=>
    have D12:aq.eval (.tmp 35)=_:=hdep 12
    have D15:aq.eval (.tmp 38)=_:=hdep 15
   case' r10x17=>
    have D16:aq.eval (.tmp 39)=_:=hdep 16
   all_goals (clear hf hdep;unfold Oper.wp;generalize Act.eval _=ev at *;go_simp)
   case' r10x4=>
    try rw[if_neg Vn,Oper.upon_value]
   case' r10x7=>
    try rw[if_neg Vn,Oper.upon_value]
   case' r10x10=>
    try rw[if_neg Vn,Oper.upon_value]
   case r10x11=>
    refine ((nuInverse_i p q _ Vn Vn Vn HG2)).mono ?_
    rintro e w2 ⟨rfl,rfl⟩
    refine hK _ _ (hS.call (below_refl_self _)) ?_ (fun j u _ h=>Kd.ok_below (below_refl_self _) h)
    rw[if_pos VH]
    show (_:Value)=_
    first|rfl|(refine congrArg (Value.int .i64) ?_;first|rfl|exact int_in Vn|exact quo_in Vn Vn Vn|exact rem_in Vn Vn|omega|exact HX1|exact HX2|exact HX3)|(simp;done)|(simp [*];done)
   case' r10x15=>
    try rw[if_neg Vn,Oper.upon_value]
   case r10x16=>
    refine ((nuMod_a ((b0-a0) / 2*invI p q) q _ Vn Vn Vn)).mono ?_
    rintro e w2 ⟨rfl,rfl⟩
    refine hK _ _ (hS.call (below_refl_self _)) ?_ (fun j u _ h=>Kd.ok_below (below_refl_self _) h)
    rw[if_pos VH]
    show (_:Value)=_
    first|rfl|(refine congrArg (Value.int .i64) ?_;first|rfl|exact int_in Vn|exact quo_in Vn Vn Vn|exact rem_in Vn Vn|omega|exact HX1|exact HX2|exact HX3)|(simp;done)|(simp [*];done)
   all_goals (refine hK _ _ hS ?_ (fun j u _ h=>h);rw [if_pos VH];show (_:Value)=_;(first|rfl|(refine congrArg (Value.int .i64) ?_;first|rfl|exact int_in Vn|exact quo_in Vn Vn Vn|exact rem_in Vn Vn|omega|exact HX1|exact HX2|exact HX3)|(simp;done)|(simp [*];done)))
  ·intro aq wx hd hw hf hS hg
   have G12:tau aq 12= .int .i64 (cmK a0 p b0 q):=hg 17 VA
   have haq:aq=⟨#[tau aq 0,tau aq 1,tau aq 2,tau aq 3,tau aq 4,tau aq 5,tau aq 6,tau aq 7,tau aq 8,tau aq 9,tau aq 10,tau aq 11,tau aq 12,tau aq 13,tau aq 14,tau aq 15,tau aq 16,tau aq 17,tau aq 18,tau aq 19,tau aq 20,tau aq 21,tau aq 22,tau aq 23,tau aq 24,tau aq 25,tau aq 26,tau aq 27,tau aq 28,tau aq 29,tau aq 30,tau aq 31,tau aq 32,tau aq 33,tau aq 34,tau aq 35,tau aq 36,tau aq 37,tau aq 38,tau aq 39,tau aq 40,tau aq 41,tau aq 42,tau aq 43,tau aq 44,tau aq 45,tau aq 46,tau aq 47,tau aq 48,tau aq 49,tau aq 50,tau aq 51,tau aq 52],[]⟩:=by
    obtain ⟨tq,dq⟩:=aq
    have h5:=arr_eq (show tq.size=53 from hw)
    have h6:dq= []:=hd
    subst h6
    exact congrArg (fun z=>Act.mk z []) h5
   show K2 aq wx
   rw[haq,hf 0,hf 1,hf 2,hf 3,hf 4,hf 5,hf 6,hf 7,hf 8,hf 9,hf 10,hf 11,hf 13,hf 14,hf 15,hf 16,hf 17,hf 18,hf 19,hf 20,hf 21,hf 22,hf 40,hf 41,hf 42,hf 43,hf 44,hf 45,hf 46,hf 47,hf 48,hf 49,hf 50,hf 51,hf 52,G12]
   clear haq hf hd hw
   try dsimp only
   refine h3 _ _ ?_
   go_meet
   exact ⟨rfl,hS.below⟩
 obtain ⟨rfl,hb0⟩:=hcut
 go_wp2_with (go_at_call 77;refine (nuMod_a _ _ _ Vp Vp Vp).mono ?_;rintro e w' ⟨rfl,rfl⟩)
 go_ret3
 exact ⟨rfl,byGG⟩

theorem nuCommon_rw (a0 p b0 q t:Int) (w:World) (h0: -1000000≤a0∧a0≤1000000) (h1: -1000000≤b0∧b0≤1000000) (h2:1≤p) (h3:p≤100000) (h4:1≤q) (h5:q≤100000) (h6:Int.gcd q p=1) (h7:2∣b0-a0) (hT:cmT a0 p b0 q=t):
  Calls Tryz.prog 165 #[.int .i64 a0,.int .i64 (2*p),.int .i64 b0,.int .i64 (2*q)] w fun e w'=>e= .returned (.tuple #[.int .i64 t,.int .i64 (p*(2*q)),.bool true])∧Below w.heap.size w w':=by
 subst hT
 exact nuCommon_z a0 p b0 q w h0 h1 h2 h3 h4 h5 h6 h7
end Go.Proofs.YtobkcnmlmmhpoaaGreatDoor
namespace Go.Proofs.YtobkcnmlmmhpoaaGreatDoor
open Go.RowKit
set_option linter.unusedVariables false
set_option linter.unusedSimpArgs false
attribute [local go_sem] q2 q3 q4 q5 q6 q7 q8 q9 q10 q11 q12

theorem at_wide {a b c x y:Int} (ha: -1000≤a∧a≤1000) (hb: -1000≤b∧b≤1000) (hc: -1000≤c∧c≤1000) (hx: -1000000≤x∧x≤1000000) (hy: -1000000≤y∧y≤1000000):AtOk a b c x y:=by
 have p1:=mul_bd (A:=1000) (B:=1000000) Vn ha hx
 have p2:=mul_bd (A:=1000000000) (B:=1000000) Vn (show -1000000000≤a*x∧a*x≤1000000000 by omega) hx
 have p3:=mul_bd (A:=1000) (B:=1000000) Vn hb hx
 have p4:=mul_bd (A:=1000000000) (B:=1000000) Vn (show -1000000000≤b*x∧b*x≤1000000000 by omega) hy
 have p5:=mul_bd (A:=1000) (B:=1000000) Vn hc hy
 have p6:=mul_bd (A:=1000000000) (B:=1000000) Vn (show -1000000000≤c*y∧c*y≤1000000000 by omega) hy
 exact ⟨Vn,Vn,Vn,Vn,Vn,Vn⟩
theorem po_wide {a b c x y u v:Int} (ha: -1000≤a∧a≤1000) (hb: -1000≤b∧b≤1000) (hc: -1000≤c∧c≤1000) (hx: -1000≤x∧x≤1000) (hy: -1000≤y∧y≤1000) (hu: -1000000≤u∧u≤1000000) (hv: -1000000≤v∧v≤1000000):PoOk a b c x y u v:=by
 have p1:=mul_bd (A:=2000) (B:=1000) Vn (show -2000≤2*a∧2*a≤2000 by omega) hx
 have p2:=mul_bd (A:=2000000) (B:=1000000) Vn (show -2000000≤2*a*x∧2*a*x≤2000000 by omega) hu
 have p3:=mul_bd (A:=1000) (B:=1000000) Vn hx hv
 have p4:=mul_bd (A:=1000) (B:=1000000) Vn hy hu
 have p5:=mul_bd (A:=1000) (B:=2000000000) Vn hb (show -2000000000≤x*v+y*u∧x*v+y*u≤2000000000 by omega)
 have p6:=mul_bd (A:=2000) (B:=1000) Vn (show -2000≤2*c∧2*c≤2000 by omega) hy
 have p7:=mul_bd (A:=2000000) (B:=1000000) Vn (show -2000000≤2*c*y∧2*c*y≤2000000 by omega) hv
 exact ⟨Vn,Vn,Vn,Vn,Vn,Vn,Vn,Vn,Vn⟩
theorem pol_bd {a b c x y u v:Int} (ha: -26≤a∧a≤26) (hb: -26≤b∧b≤26) (hc: -600≤c∧c≤600) (hx: -5≤x∧x≤5) (hy: -5≤y∧y≤5) (hu: -10≤u∧u≤10) (hv: -10≤v∧v≤10): -100000≤polI a b c x y u v∧polI a b c x y u v≤100000:=by
 have p1:=mul_bd (A:=52) (B:=5) Vn (show -52≤2*a∧2*a≤52 by omega) hx
 have p2:=mul_bd (A:=260) (B:=10) Vn (show -260≤2*a*x∧2*a*x≤260 by omega) hu
 have p3:=mul_bd (A:=5) (B:=10) Vn hx hv
 have p4:=mul_bd (A:=5) (B:=10) Vn hy hu
 have p5:=mul_bd (A:=26) (B:=100) Vn hb (show -100≤x*v+y*u∧x*v+y*u≤100 by omega)
 have p6:=mul_bd (A:=1200) (B:=5) Vn (show -1200≤2*c∧2*c≤1200 by omega) hy
 have p7:=mul_bd (A:=6000) (B:=10) Vn (show -6000≤2*c*y∧2*c*y≤6000 by omega) hv
 unfold polI
 omega
noncomputable def cpE (a b c:Int) (x y:Nat):Int:=valI a b c x y
noncomputable def cpP (a b c:Int) (x y:Nat):Int:=polI a b c x y (-bzV x y) (bzS x y)
noncomputable def cpT (a b c:Int) (x y:Nat):Int:= -(cpP a b c x y / (2*cpE a b c x y))
noncomputable def cpB (a b c:Int) (x y:Nat):Int:=cpP a b c x y%(2*cpE a b c x y)
noncomputable def cpC (a b c:Int) (x y:Nat):Int:=(cpB a b c x y*cpB a b c x y-discI a b c) / (4*cpE a b c x y)
noncomputable def cpQ (a b c:Int) (x y:Nat):Int:= -bzV x y+cpT a b c x y*x
noncomputable def cpS (a b c:Int) (x y:Nat):Int:=bzS x y+cpT a b c x y*y
structure CplF (a b c:Int) (x y:Nat) (e P t B C:Int):Prop where
 e0:1≤e
 e1:e≤20000
 P0: -100000≤P
 P1:P≤100000
 pd: -100000≤P / (2*e)∧P / (2*e)≤100000
 tt:t= -(P / (2*e))
 tx: -500000≤t*x∧t*x≤500000
 ty: -500000≤t*y∧t*y≤500000
 B0:0≤B
 B1:B<2*e
 PB:P+2*e*t=B
 dv:(P%(2*e)-P).tdiv (2*e)=t
 B2:0≤B*B∧B*B≤1600000000
 et: -20000000000≤2*e*t∧2*e*t≤20000000000
 C0:0≤C
 C1:C≤1000000000
 cd:(B*B-discI a b c).tdiv (4*e)=C
 vq:valI a b c (-bzV x y+t*x) (bzS x y+t*y)=C
 pq:polI a b c x y (-bzV x y+t*x) (bzS x y+t*y)=B
 cb:IsCB a b c x y B
 dd:discI e B C=discI a b c
theorem cpl_facts {a b c:Int} {x y:Nat} (h:RedC a b c) (hx:x≤5) (hy:y≤5) (hg:Int.gcd x y=1):CplF a b c x y (cpE a b c x y) (cpP a b c x y) (cpT a b c x y) (cpB a b c x y) (cpC a b c x y):=by
 obtain ⟨s1,s2,s3,s4⟩:=red_small h.cls.ok h.red
 have a0:=h.cls.ok.a0
 have c0:=h.cls.ok.c0
 obtain ⟨b1,b2,b3,_⟩:=bz_facts hx hy hg
 obtain ⟨v0,v1⟩:=val_bd h.cls.ok h.red hx hy hg
 have hP:=pol_bd (x:=x) (y:=y) (u:= -bzV x y) (v:=bzS x y) (show -26≤a∧a≤26 by omega) (show -26≤b∧b≤26 by omega) (show -600≤c∧c≤600 by omega) Vn Vn Vn Vn
 have hd:(x:Int)*bzS x y-y*(-bzV x y)=1:=by grind
 have hvp:=pol_shift a b c x y (-bzV x y) (bzS x y) (cpT a b c x y)
 have hd2:(x:Int)*(bzS x y+y*cpT a b c x y)-y*(-bzV x y+x*cpT a b c x y)=1:=by grind
 have hdisc:=sub_disc (a:=a) (b:=b) (c:=c) hd2
 rw[hvp] at hdisc
 have ex: -bzV x y+cpT a b c x y*x= -bzV x y+x*cpT a b c x y:=by grind
 have ey:bzS x y+cpT a b c x y*y=bzS x y+y*cpT a b c x y:=by grind
 rw[←ex,←ey] at hdisc
 rw[←ex,←ey] at hvp
 have dm:=Int.emod_add_mul_ediv (cpP a b c x y) (2*cpE a b c x y)
 have e1:cpE a b c x y=valI a b c x y:=rfl
 have e2:cpP a b c x y=polI a b c x y (-bzV x y) (bzS x y):=rfl
 rw[←e1] at v0 v1 hdisc hvp
 rw[←e2] at hP hdisc hvp
 have m0:=Int.emod_nonneg (cpP a b c x y) (show 2*cpE a b c x y≠0 by omega)
 have m1:=Int.emod_lt_of_pos (cpP a b c x y) (show 0<2*cpE a b c x y by omega)
 have hB:cpB a b c x y=cpP a b c x y%(2*cpE a b c x y):=rfl
 have hT:cpT a b c x y= -(cpP a b c x y / (2*cpE a b c x y)):=rfl
 have hC:cpC a b c x y=(cpB a b c x y*cpB a b c x y-discI a b c) / (4*cpE a b c x y):=rfl
 have hcb:IsCB a b c x y (cpB a b c x y)→IsCB a b c x y (cpB a b c x y):=id
 have mkcb:0≤cpB a b c x y→cpB a b c x y<2*cpE a b c x y→cpB a b c x y=cpP a b c x y+2*cpE a b c x y*cpT a b c x y→IsCB a b c x y (cpB a b c x y):=fun q0 q1 q2=>⟨q0,q1,-bzV x y,bzS x y,cpT a b c x y,hd,q2⟩
 rw[←hB] at m0 m1 dm
 have h0:=h.cls.ok.d0
 have h1:=h.cls.ok.d1
 clear hcb h e1 e2 hB hd hd2
 generalize hVQ:valI a b c (-bzV x y+cpT a b c x y*x) (bzS x y+cpT a b c x y*y)=VQ at*
 generalize hPQ:polI a b c x y (-bzV x y+cpT a b c x y*x) (bzS x y+cpT a b c x y*y)=PQ at*
 generalize cpE a b c x y=e at*
 generalize cpP a b c x y=P at*
 generalize cpC a b c x y=C at*
 generalize cpT a b c x y=t at*
 generalize cpB a b c x y=B at*
 generalize hq:P / (2*e)=q at*
 have hq1: -100000≤q∧q≤100000:=by
  refine ⟨?_,?_⟩
  ·by_cases z: -100000≤q
   ·exact z
   ·have:=Int.mul_le_mul_of_nonneg_left (show q≤ -100001 by omega) (show 0≤2*e by omega);omega
  ·by_cases z:q≤100000
   ·exact z
   ·have:=Int.mul_le_mul_of_nonneg_left (show 100001≤q by omega) (show 0≤2*e by omega);omega
 have et:2*e*t= -(2*e*q):=by rw[hT,Int.mul_neg]
 have hPB:P+2*e*t=B:=by omega
 rw[hPB] at hdisc
 have hBB:0≤B*B∧B*B≤40000*40000:=⟨Int.mul_nonneg m0 m0,Int.mul_le_mul Vn Vn m0 Vn⟩
 have hdd:B*B-discI a b c=4*e*VQ:=by unfold discI at hdisc ⊢;omega
 have hVC:VQ=C:=by rw[hC,hdd,Int.mul_ediv_cancel_left _ Vn]
 have e4:4*e*VQ=4*(e*VQ):=Int.mul_assoc _ _ _
 have V0:0<VQ:=by
  by_cases z:0<VQ
  ·exact z
  ·have:=Int.mul_nonneg_of_nonpos_of_nonpos (a:= -e) (b:=VQ) Vn Vn
   rw[Int.neg_mul] at this;omega
 have V1:VQ≤1000000000:=by
  have:=Int.mul_le_mul_of_nonneg_right (show 1≤e by omega) (show 0≤VQ by omega)
  omega
 refine ⟨Vn,v1,Vn,Vn,Vn,Vn,?_,?_,m0,m1,hPB,?_,Vn,?_,Vn,Vn,?_,hVQ.trans hVC,hPQ.trans Vn,mkcb m0 m1 hPB.symm,?_⟩
 ·exact mul_bd (A:=100000) (B:=5) Vn Vn Vn
 ·exact mul_bd (A:=100000) (B:=5) Vn Vn Vn
 ·have z:P%(2*e)-P=2*e*t:=by
   have:=Int.emod_add_mul_ediv P (2*e)
   rw[hq] at this;omega
  rw[z];exact Int.mul_tdiv_cancel_left _ Vn
 ·have z1: -100000≤t∧t≤100000:=by omega
  have z2:=mul_bd (a:=2*e) (b:=t) (A:=40000) (B:=100000) Vn Vn z1
  omega
 ·rw [hdd,Int.mul_tdiv_cancel_left _ Vn];exact hVC
 ·rw [←hVC];exact hdisc
theorem red_form {a b c:Int} (h:RedC a b c):formB a b c=true:=by
 obtain ⟨s1,s2,s3,s4⟩:=red_small h.cls.ok h.red
 have a0:=h.cls.ok.a0
 have c0:=h.cls.ok.c0
 rw[form_num];simp [numB,inB];omega
end Go.Proofs.YtobkcnmlmmhpoaaGreatDoor
