/- Substitute, MatrixInverse, MatrixProduct, impl. -/
import Derived.Test.YtobkcnmlmmhpoaaGreatLe
namespace Go.Proofs.YtobkcnmlmmhpoaaGreat
open Go.RowKit
set_option linter.unusedVariables false
set_option linter.unusedSimpArgs false
attribute [local go_sem] q2 q3 q4 q5 q6 q7 q8 q9 q10 q11 q12

structure PoOk2 (a b c x y u v:Int):Prop where
 h0:(-2000000000000000000≤2*a∧2*a≤2000000000000000000)
 h1:(-2000000000000000000≤2*a*x∧2*a*x≤2000000000000000000)
 h2:(-2000000000000000000≤2*a*x*u∧2*a*x*u≤2000000000000000000)
 h3:(-2000000000000000000≤x*v∧x*v≤2000000000000000000)
 h4:(-2000000000000000000≤y*u∧y*u≤2000000000000000000)
 h5:(-2000000000000000000≤b*(x*v+y*u)∧b*(x*v+y*u)≤2000000000000000000)
 h6:(-2000000000000000000≤2*c∧2*c≤2000000000000000000)
 h7:(-2000000000000000000≤2*c*y∧2*c*y≤2000000000000000000)
 h8:(-2000000000000000000≤2*c*y*v∧2*c*y*v≤2000000000000000000)


set_option maxRecDepth 100000 in
set_option maxHeartbeats 1000000 in
theorem polar_2 (a b c x y u v:Int) (w:World) (h0:PoOk2 a b c x y u v):
  Calls Tryz.prog 60 #[.agg #[.int .i64 a,.int .i64 b,.int .i64 c],.int .i64 x,.int .i64 y,.int .i64 u,.int .i64 v] w fun e w'=>e= .returned (.int .i64 (polI a b c x y u v))∧Below w.heap.size w w':=by
 obtain ⟨q0,q1,q2,q3,q4,q5,q6,q7,q8⟩:=h0
 go_enter Tryz.func60,Tryz.ntmps60
 go_wp2
 go_returns
 refine ⟨rfl,?_⟩
 (repeat' first|with_reducible (first|exact Below.refl _ _|assumption|refine gr_alloc ?_ _|refine below_drewN ?_ _|refine below_drew ?_|refine gr_call ?_ (by assumption)|refine Below.setCell ?_ ?_ _)|go_size|omega|(simp;omega))


set_option maxRecDepth 100000 in
set_option maxHeartbeats 4000000 in
theorem subst_2 (a b c p q r s:Int) (w:World) (h0:AtOk a b c p r) (h1:PoOk2 a b c p r q s) (h2:AtOk a b c q s):
  Calls Tryz.prog 28 #[.agg #[.int .i64 a,.int .i64 b,.int .i64 c],.agg #[.int .i64 p,.int .i64 q,.int .i64 r,.int .i64 s]] w fun e w'=>e= .returned (.agg #[.int .i64 (valI a b c p r),.int .i64 (polI a b c p r q s),.int .i64 (valI a b c q s)])∧Below w.heap.size w w':=by
 go_enter Tryz.func28,Tryz.ntmps28
 go_upto_region 1 with fail
 go_cut [] (fun  wx=>Ri3 wx w.heap.size a b c∧Ri4 wx (w.heap.size+1) p q r s∧Wi3 wx (w.heap.size+1+1) (valI a b c p r) (polI a b c p r q s) (valI a b c q s)∧Below w.heap.size w wx)
 case first=>
  have h1:=trivial
  rename_i K2 h2 h3
  refine region_n0 (by kernel_rfl) (fun j=> #[5,6,7,8,9,10,11,12,13,14,15,16,17,18,19,20,21,22,23,24,25,26,27,4].getD j 0) (fun j=>Kd.ok ((fun j=>match j with|0=>Kd.val (.agg #[.int .i64 a,.int .i64 b,.int .i64 c])|1=>Kd.val (.pointer (some ⟨w.heap.size+1,0,none⟩))|2=>Kd.val (.int .i64 p)|3=>Kd.val (.pointer (some ⟨w.heap.size+1,2,none⟩))|4=>Kd.val (.int .i64 r)|5=>Kd.val (.int .i64 (valI a b c p r))|6=>Kd.val (.agg #[.int .i64 a,.int .i64 b,.int .i64 c])|7=>Kd.val (.pointer (some ⟨w.heap.size+1,0,none⟩))|8=>Kd.val (.int .i64 p)|9=>Kd.val (.pointer (some ⟨w.heap.size+1,2,none⟩))|10=>Kd.val (.int .i64 r)|11=>Kd.val (.pointer (some ⟨w.heap.size+1,1,none⟩))|12=>Kd.val (.int .i64 q)|13=>Kd.val (.pointer (some ⟨w.heap.size+1,3,none⟩))|14=>Kd.val (.int .i64 s)|15=>Kd.val (.int .i64 (polI a b c p r q s))|16=>Kd.val (.agg #[.int .i64 a,.int .i64 b,.int .i64 c])|17=>Kd.val (.pointer (some ⟨w.heap.size+1,1,none⟩))|18=>Kd.val (.int .i64 q)|19=>Kd.val (.pointer (some ⟨w.heap.size+1,3,none⟩))|20=>Kd.val (.int .i64 s)|21=>Kd.val (.int .i64 (valI a b c q s))|22=>Kd.val (.agg #[.int .i64 (valI a b c p r),.int .i64 (polI a b c p r q s),.int .i64 (valI a b c q s)])|23=>Kd.old (w.heap.size+1+1+1) [(⟨w.heap.size+1+1,0,none⟩,.int .i64 (valI a b c p r)),(⟨w.heap.size+1+1,1,none⟩,.int .i64 (polI a b c p r q s)),(⟨w.heap.size+1+1,2,none⟩,.int .i64 (valI a b c q s))]|_=>Kd.any:Nat→Kd) j)) (Sy w (w.heap.size+1+1+1) [(⟨w.heap.size,0,none⟩,.int .i64 a),(⟨w.heap.size,1,none⟩,.int .i64 b),(⟨w.heap.size,2,none⟩,.int .i64 c),(⟨w.heap.size+1,0,none⟩,.int .i64 p),(⟨w.heap.size+1,1,none⟩,.int .i64 q),(⟨w.heap.size+1,2,none⟩,.int .i64 r),(⟨w.heap.size+1,3,none⟩,.int .i64 s)] [⟨w.heap.size+1+1,0,none⟩,⟨w.heap.size+1+1,1,none⟩,⟨w.heap.size+1+1,2,none⟩]) (by kernel_rfl) (by kernel_rfl) ?_ ?_ ?_ ?_
  ·intro j hj
   have hj2:j<24:=hj
   have: ∀j,j<24→(#[5,6,7,8,9,10,11,12,13,14,15,16,17,18,19,20,21,22,23,24,25,26,27,4]:Array Nat).getD j 0<28:=by decide
   exact this j hj2
  ·refine Sy.drew (Sy.mk_of ?_ ?_ ?_ ?_)
   ·first|rfl|(simp;done)|(simp;omega)
   ·intro c hc
    simp only[List.mem_cons,List.not_mem_nil,or_false] at hc
    rcases hc with rfl|rfl|rfl|rfl|rfl|rfl|rfl<;>first|assumption|(go_simp;done)
   ·intro p hp
    simp only[List.mem_cons,List.not_mem_nil,or_false] at hp
    rcases hp with rfl|rfl|rfl<;>exact ⟨by first|exact ⟨_,by assumption⟩|assumption|(go_simp;done)|(go_simp;exact ⟨_,rfl⟩),by first|assumption|(go_simp;done)⟩
   ·(repeat' first|with_reducible (first|exact Below.refl _ _|assumption|refine gr_alloc ?_ _|refine below_drewN ?_ _|refine below_drew ?_|refine gr_call ?_ (by assumption)|refine Below.setCell ?_ ?_ _)|go_size|omega|(simp;omega))
  ·clear h1 h2 h3
   refine ⟨?r1x0,?r1x1,?r1x2,?r1x3,?r1x4,?r1x5,?r1x6,?r1x7,?r1x8,?r1x9,?r1x10,?r1x11,?r1x12,?r1x13,?r1x14,?r1x15,?r1x16,?r1x17,?r1x18,?r1x19,?r1x20,?r1x21,?r1x22,?r1x23,trivial⟩
   all_goals intro _ aq wx Kq hf hS hdep ev1 ev2 hK
   case' r1x0=>
    have F2:aq.eval (.tmp 2)= .pointer (some ⟨w.heap.size,0,none⟩):=hf 2
    have c0:=hS.cells (⟨w.heap.size,0,none⟩,.int .i64 a) (by simp)
    have c1:=hS.cells (⟨w.heap.size,1,none⟩,.int .i64 b) (by simp)
    have c2:=hS.cells (⟨w.heap.size,2,none⟩,.int .i64 c) (by simp)
   case' r1x1=>
    have F3:aq.eval (.tmp 3)= .pointer (some ⟨w.heap.size+1,0,none⟩):=hf 3
   case' r1x2=>
    have D1:aq.eval (.tmp 6)=_:=hdep 1
    have c0:=hS.cells (⟨w.heap.size+1,0,none⟩,.int .i64 p) (by simp)
   case' r1x3=>
    have F3:aq.eval (.tmp 3)= .pointer (some ⟨w.heap.size+1,0,none⟩):=hf 3
   case' r1x4=>
    have D3:aq.eval (.tmp 8)=_:=hdep 3
    have c0:=hS.cells (⟨w.heap.size+1,2,none⟩,.int .i64 r) (by simp)
   case' r1x5=>
    have D0:aq.eval (.tmp 5)=_:=hdep 0
    have D2:aq.eval (.tmp 7)=_:=hdep 2
    have D4:aq.eval (.tmp 9)=_:=hdep 4
   case' r1x6=>
    have F2:aq.eval (.tmp 2)= .pointer (some ⟨w.heap.size,0,none⟩):=hf 2
    have c0:=hS.cells (⟨w.heap.size,0,none⟩,.int .i64 a) (by simp)
    have c1:=hS.cells (⟨w.heap.size,1,none⟩,.int .i64 b) (by simp)
    have c2:=hS.cells (⟨w.heap.size,2,none⟩,.int .i64 c) (by simp)
   case' r1x7=>
    have F3:aq.eval (.tmp 3)= .pointer (some ⟨w.heap.size+1,0,none⟩):=hf 3
   case' r1x8=>
    have D7:aq.eval (.tmp 12)=_:=hdep 7
    have c0:=hS.cells (⟨w.heap.size+1,0,none⟩,.int .i64 p) (by simp)
   case' r1x9=>
    have F3:aq.eval (.tmp 3)= .pointer (some ⟨w.heap.size+1,0,none⟩):=hf 3
   case' r1x10=>
    have D9:aq.eval (.tmp 14)=_:=hdep 9
    have c0:=hS.cells (⟨w.heap.size+1,2,none⟩,.int .i64 r) (by simp)
   case' r1x11=>
    have F3:aq.eval (.tmp 3)= .pointer (some ⟨w.heap.size+1,0,none⟩):=hf 3
   case' r1x12=>
    have D11:aq.eval (.tmp 16)=_:=hdep 11
    have c0:=hS.cells (⟨w.heap.size+1,1,none⟩,.int .i64 q) (by simp)
   case' r1x13=>
    have F3:aq.eval (.tmp 3)= .pointer (some ⟨w.heap.size+1,0,none⟩):=hf 3
   case' r1x14=>
    have D13:aq.eval (.tmp 18)=_:=hdep 13
    have c0:=hS.cells (⟨w.heap.size+1,3,none⟩,.int .i64 s) (by simp)
   case' r1x15=>
    have D6:aq.eval (.tmp 11)=_:=hdep 6
    have D8:aq.eval (.tmp 13)=_:=hdep 8
    have D10:aq.eval (.tmp 15)=_:=hdep 10
    have D12:aq.eval (.tmp 17)=_:=hdep 12
    have D14:aq.eval (.tmp 19)=_:=hdep 14
   case' r1x16=>
    have F2:aq.eval (.tmp 2)= .pointer (some ⟨w.heap.size,0,none⟩):=hf 2
    have c0:=hS.cells (⟨w.heap.size,0,none⟩,.int .i64 a) (by simp)
    have c1:=hS.cells (⟨w.heap.size,1,none⟩,.int .i64 b) (by simp)
    have c2:=hS.cells (⟨w.heap.size,2,none⟩,.int .i64 c) (by simp)
   case' r1x17=>
    have F3:aq.eval (.tmp 3)= .pointer (some ⟨w.heap.size+1,0,none⟩):=hf 3
   case' r1x18=>
    have D17:aq.eval (.tmp 22)=_:=hdep 17
    have c0:=hS.cells (⟨w.heap.size+1,1,none⟩,.int .i64 q) (by simp)
   case' r1x19=>
    have F3:aq.eval (.tmp 3)= .pointer (some ⟨w.heap.size+1,0,none⟩):=hf 3
   case' r1x20=>
    have D19:aq.eval (.tmp 24)=_:=hdep 19
    have c0:=hS.cells (⟨w.heap.size+1,3,none⟩,.int .i64 s) (by simp)
   case' r1x21=>
    have D16:aq.eval (.tmp 21)=_:=hdep 16
    have D18:aq.eval (.tmp 23)=_:=hdep 18
    have D20:aq.eval (.tmp 25)=_:=hdep 20
   case' r1x22=>
    have D5:aq.eval (.tmp 10)=_:=hdep 5
    have D15:aq.eval (.tmp 20)=_:=hdep 15
    have D21:aq.eval (.tmp 26)=_:=hdep 21
   case' r1x23=>
    have D22:aq.eval (.tmp 27)=_:=hdep 22
    have F4:aq.eval (.tmp 4)= .pointer (some ⟨w.heap.size+1+1,0,none⟩):=hf 4
    obtain ⟨⟨vx0,cx0⟩,cf0⟩:=hS.free ⟨w.heap.size+1+1,0,none⟩ (by simp)
    obtain ⟨⟨vx1,cx1⟩,cf1⟩:=hS.free ⟨w.heap.size+1+1,1,none⟩ (by simp)
    obtain ⟨⟨vx2,cx2⟩,cf2⟩:=hS.free ⟨w.heap.size+1+1,2,none⟩ (by simp)
   all_goals (clear hf hdep;unfold Oper.wp;generalize Act.eval _=ev at *;go_simp)
   case r1x5=>
    refine ((at_a a b c p r _ h0)).mono ?_
    rintro e w2 ⟨rfl,hb⟩
    refine hK _ _ (hS.call hb) ?_ (fun j u _ h=>Kd.ok_below hb h)
    rw[if_pos (by rfl)]
    show (_:Value)=_
    first|rfl|(refine congrArg (Value.int .i64) ?_;first|rfl|exact int_in (by omega)|exact quo_in (by omega) (by omega) (by omega)|exact rem_in (by omega) (by omega)|omega)|(simp;done)|(simp [*];done)
   case r1x15=>
    refine ((polar_2 a b c p r q s _ h1)).mono ?_
    rintro e w2 ⟨rfl,hb⟩
    refine hK _ _ (hS.call hb) ?_ (fun j u _ h=>Kd.ok_below hb h)
    rw[if_pos (by rfl)]
    show (_:Value)=_
    first|rfl|(refine congrArg (Value.int .i64) ?_;first|rfl|exact int_in (by omega)|exact quo_in (by omega) (by omega) (by omega)|exact rem_in (by omega) (by omega)|omega)|(simp;done)|(simp [*];done)
   case r1x21=>
    refine ((at_a a b c q s _ h2)).mono ?_
    rintro e w2 ⟨rfl,hb⟩
    refine hK _ _ (hS.call hb) ?_ (fun j u _ h=>Kd.ok_below hb h)
    rw[if_pos (by rfl)]
    show (_:Value)=_
    first|rfl|(refine congrArg (Value.int .i64) ?_;first|rfl|exact int_in (by omega)|exact quo_in (by omega) (by omega) (by omega)|exact rem_in (by omega) (by omega)|omega)|(simp;done)|(simp [*];done)
   case r1x23=>
    refine hK undef (setAll (w.heap.size+1+1) 0 [.int .i64 (valI a b c p r),.int .i64 (polI a b c p r q s),.int .i64 (valI a b c q s)] wx) (Sy.setAll (by first|omega|(simp;omega)|(simp;done)) (fa (far_blk (by first|(with_reducible assumption)|omega)) (fa (far_blk (by first|(with_reducible assumption)|omega)) (fa (far_blk (by first|(with_reducible assumption)|omega)) (fa (far_blk (by first|(with_reducible assumption)|omega)) (fa (far_blk (by first|(with_reducible assumption)|omega)) (fa (far_blk (by first|(with_reducible assumption)|omega)) (fa (far_blk (by first|(with_reducible assumption)|omega)) (fa0)))))))) hS) ?_ (fun j u hj h=> ?_)
    ·rw [if_neg (by decide)]
     exact fa ⟨setAll_at (w.heap.size+1+1) [.int .i64 (valI a b c p r),.int .i64 (polI a b c p r q s),.int .i64 (valI a b c q s)] 0 wx 0 (show 0<3 by decide) ⟨vx0,cx0⟩,(by first|omega|(simp;omega)|(simp;done))⟩ (fa ⟨setAll_at (w.heap.size+1+1) [.int .i64 (valI a b c p r),.int .i64 (polI a b c p r q s),.int .i64 (valI a b c q s)] 0 wx 1 (show 1<3 by decide) ⟨vx1,cx1⟩,(by first|omega|(simp;omega)|(simp;done))⟩ (fa ⟨setAll_at (w.heap.size+1+1) [.int .i64 (valI a b c p r),.int .i64 (polI a b c p r q s),.int .i64 (valI a b c q s)] 0 wx 2 (show 2<3 by decide) ⟨vx2,cx2⟩,(by first|omega|(simp;omega)|(simp;done))⟩ (fa0)))
    ·match j,hj with
     |0,hj|1,hj|2,hj|3,hj|4,hj|5,hj|6,hj|7,hj|8,hj|9,hj|10,hj|11,hj|12,hj|13,hj|14,hj|15,hj|16,hj|17,hj|18,hj|19,hj|20,hj|21,hj|22,hj=>exact (show (u:Value)=_ from h)
     |23,hj=>exact absurd rfl hj
     |j+24,_=>trivial
   all_goals (refine hK _ _ hS ?_ (fun j u _ h=>h);rw [if_pos (by rfl)];show (_:Value)=_;(first|rfl|(refine congrArg (Value.int .i64) ?_;first|rfl|exact int_in (by omega)|exact quo_in (by omega) (by omega) (by omega)|exact rem_in (by omega) (by omega)|omega)|(simp;done)|(simp [*];done)))
  ·intro aq wx hd hw hf hS hg
   have haq:aq=⟨#[tau aq 0,tau aq 1,tau aq 2,tau aq 3,tau aq 4,tau aq 5,tau aq 6,tau aq 7,tau aq 8,tau aq 9,tau aq 10,tau aq 11,tau aq 12,tau aq 13,tau aq 14,tau aq 15,tau aq 16,tau aq 17,tau aq 18,tau aq 19,tau aq 20,tau aq 21,tau aq 22,tau aq 23,tau aq 24,tau aq 25,tau aq 26,tau aq 27],[]⟩:=by
    obtain ⟨tq,dq⟩:=aq
    have h5:=arr_eq (show tq.size=28 from hw)
    have h6:dq= []:=hd
    subst h6
    exact congrArg (fun z=>Act.mk z []) h5
   show K2 aq wx
   rw[haq,hf 0,hf 1,hf 2,hf 3,hf 4]
   clear haq hf hd hw
   try dsimp only
   refine h3 _ _ ?_
   go_meet
   refine ⟨Ri3.m ?_ ?_ ?_,Ri4.m ?_ ?_ ?_ ?_,Wi3.m (hg 23 (by decide) (_,_) (by simp)).1 (hg 23 (by decide) (_,_) (by simp)).1 (hg 23 (by decide) (_,_) (by simp)).1 ?_ ?_ ?_,hS.below⟩
   all_goals first|exact hS.cells (_,_) (by simp)|exact (hS.free _ (by simp)).2
 obtain ⟨⟨c00,c01,c02,z0⟩,⟨c10,c11,c12,c13,z1⟩,⟨c20,c21,c22,f20,f21,f22,z2⟩,hb0⟩:=hcut
 go_wp2
 first|go_returns|(refine bodyPost_ret (v:= .agg #[.int .i64 (valI a b c p r),.int .i64 (polI a b c p r q s),.int .i64 (valI a b c q s)]) (by simp [results,Tryz.results28,go_sem, *]) rfl ?_)
 refine ⟨rfl,?_⟩
 (repeat' first|with_reducible (first|exact Below.refl _ _|assumption|refine gr_alloc ?_ _|refine below_drewN ?_ _|refine below_drew ?_|refine gr_call ?_ (by assumption)|refine Below.setCell ?_ ?_ _)|go_size|omega|(simp;omega))

theorem num_mul3 {d x:Int} (hd: -2000000000000≤d∧d≤2000000000000) (hx: -1000000≤x∧x≤1000000): -2000000000000000000≤d*x∧d*x≤2000000000000000000:=mul_bd (A:=2000000000000) (B:=1000000) (by omega) hd hx
theorem det_bd9 {p q r s:Int} (h:matB p q r s=true): -2000000000000≤detI p q r s∧detI p q r s≤2000000000000:=by
 obtain ⟨hp,hq,hr,hs⟩:=mat_true h
 have h1:=mul_bd (A:=1000000) (B:=1000000) (by omega) hp hs
 have h2:=mul_bd (A:=1000000) (B:=1000000) (by omega) hq hr
 unfold detI;omega
theorem det_e (p q r s d:Int) (w:World) (h0:matB p q r s=true) (hd:detI p q r s=d):
  Calls Tryz.prog 37 #[.agg #[.int .i64 p,.int .i64 q,.int .i64 r,.int .i64 s]] w fun e w'=>e= .returned (.int .i64 d)∧Below w.heap.size w w':=by
 subst hd;exact det_a p q r s w h0

set_option maxRecDepth 100000 in
set_option maxHeartbeats 4000000 in
theorem inverse_g (p q r s d:Int) (w:World) (h0:matB p q r s=true) (hd:detI p q r s=d):
  Calls Tryz.prog 38 #[.agg #[.int .i64 p,.int .i64 q,.int .i64 r,.int .i64 s]] w fun e w'=>e= .returned (.agg #[.int .i64 (d*s),.int .i64 (-d*q),.int .i64 (-d*r),.int .i64 (d*p)])∧Below w.heap.size w w':=by
 have hb:=det_bd9 h0
 rw[hd] at hb
 obtain ⟨hp,hq,hr,hs⟩:=mat_true h0
 have m1:=num_mul3 hb hs
 have m2:=num_mul3 (d:= -d) (by omega) hq
 have m3:=num_mul3 (d:= -d) (by omega) hr
 have m4:=num_mul3 hb hp
 go_enter Tryz.func38,Tryz.ntmps38
 go_wp2_with fail
 refine (det_e p q r s d _ h0 hd).mono ?_
 rintro en1 w1 ⟨rfl,hb1⟩
 have tq0:=Ri4.c hb1 w.heap.size p q r s
 have tq1:=Wi4.c hb1 (w.heap.size+1) 0 0 0 0
 try clear c00 c01 c02 c03
 try clear c10 c11 c12 c13 f10 f11 f12 f13
 obtain ⟨c00,c01,c02,c03,z0⟩:=tq0
 obtain ⟨c10,c11,c12,c13,f10,f11,f12,f13,z1⟩:=tq1
 have hs1:=hb1.size
 clear hd h0
 go_wp2
 refine bodyPost_ret (v:= .agg #[.int .i64 (d*s),.int .i64 (-d*q),.int .i64 (-d*r),.int .i64 (d*p)]) (by simp [results,Tryz.results38,go_sem, *]) rfl ?_
 exact ⟨rfl,byGG⟩

set_option maxRecDepth 100000 in
set_option maxHeartbeats 4000000 in
theorem implMatrixInverse_c (p q r s:Int) (w:World) (h0:I64 p) (h1:I64 q) (h2:I64 r) (h3:I64 s):
  Calls Tryz.prog 16 #[.agg #[.int .i64 p,.int .i64 q,.int .i64 r,.int .i64 s]] w fun e w'=> ∃(i0 i1 i2 i3:Int) (t:Bool),e= .returned (.tuple #[.agg #[.int .i64 i0,.int .i64 i1,.int .i64 i2,.int .i64 i3],.bool (t)])∧(I64 i0∧I64 i1∧I64 i2∧I64 i3)∧(properB p q r s=true→t=true∧i0=s∧i1= -q∧i2= -r∧i3=p)∧Below w.heap.size w w':=by
 have z:I64 0:=⟨by omega,by omega⟩
 cases hm:matB p q r s
 ·have HP:Hid (¬properB p q r s=true):=hide (fun h=>by unfold properB at h;rw [hm] at h;simp at h)
  go_enter Tryz.func16,Tryz.ntmps16
  go_wp2_with fail
  refine (isMat_e p q r s false _ h0 h1 h2 h3 hm).mono ?_
  rintro en1 w1 ⟨rfl,hb1⟩
  have tq0:=Ri4.c hb1 w.heap.size p q r s
  have tq1:=Wi4.c hb1 (w.heap.size+1) 0 0 0 0
  try clear c00 c01 c02 c03
  try clear c10 c11 c12 c13 f10 f11 f12 f13
  obtain ⟨c00,c01,c02,c03,z0⟩:=tq0
  obtain ⟨c10,c11,c12,c13,f10,f11,f12,f13,z1⟩:=tq1
  have hs1:=hb1.size
  go_wp2
  refine bodyPost_ret (v:= .tuple #[.agg #[.int .i64 0,.int .i64 0,.int .i64 0,.int .i64 0],.bool (false)]) (by simp [results,Tryz.results16,go_sem, *]) rfl ?_
  exact ⟨0,0,0,0,false,rfl,⟨z,z,z,z⟩,fun h=>absurd h (unhide HP),byGG⟩
 ·obtain ⟨d,hd⟩: ∃d,detI p q r s=d:=⟨_,rfl⟩
  have hb:=det_bd9 hm
  rw[hd] at hb
  have HP:Hid (properB p q r s=true→d=1):=hide (fun h=>by unfold properB at h;rw [hm,hd] at h;simpa using h)
  obtain ⟨b0,b1,b2,b3⟩:=mat_true hm
  by_cases ha:(d.natAbs:Int)=1
  ·have ha2:((d.natAbs:Int) != 1)=false:=by rw[ha];rfl
   have HI:Hid (I64 (d*s)∧I64 (-d*q)∧I64 (-d*r)∧I64 (d*p)):=hide (by
    have m1:=num_mul3 hb b3
    have m2:=num_mul3 (d:= -d) (by omega) b1
    have m3:=num_mul3 (d:= -d) (by omega) b2
    have m4:=num_mul3 hb b0
    exact ⟨⟨by omega,by omega⟩,⟨by omega,by omega⟩,⟨by omega,by omega⟩,⟨by omega,by omega⟩⟩)
   clear b0 b1 b2 b3
   go_enter Tryz.func16,Tryz.ntmps16
   go_wp2_with fail
   refine (isMat_e p q r s true _ h0 h1 h2 h3 hm).mono ?_
   rintro en1 w1 ⟨rfl,hb1⟩
   have tq0:=Ri4.c hb1 w.heap.size p q r s
   have tq1:=Wi4.c hb1 (w.heap.size+1) 0 0 0 0
   try clear c00 c01 c02 c03
   try clear c10 c11 c12 c13 f10 f11 f12 f13
   obtain ⟨c00,c01,c02,c03,z0⟩:=tq0
   obtain ⟨c10,c11,c12,c13,f10,f11,f12,f13,z1⟩:=tq1
   have hs1:=hb1.size
   go_wp2_with fail
   refine (det_e p q r s d _ hm hd).mono ?_
   rintro en2 w2 ⟨rfl,hb2⟩
   have tq0:=Ri4.c hb2 w.heap.size p q r s
   have tq1:=Wi4.c hb2 (w.heap.size+1) 0 0 0 0
   try clear c00 c01 c02 c03
   try clear c10 c11 c12 c13 f10 f11 f12 f13
   obtain ⟨c00,c01,c02,c03,z0⟩:=tq0
   obtain ⟨c10,c11,c12,c13,f10,f11,f12,f13,z1⟩:=tq1
   have hs2:=hb2.size
   go_wp2_with fail
   refine (abs_a d _ (by omega)).mono ?_
   rintro en3 w3 ⟨rfl,rfl⟩
   go_wp2_with fail
   refine (inverse_g p q r s d _ hm hd).mono ?_
   rintro en4 w4 ⟨rfl,hb4⟩
   have tq0:=Ri4.c hb4 w.heap.size p q r s
   have tq1:=Wi4.c hb4 (w.heap.size+1) 0 0 0 0
   try clear c00 c01 c02 c03
   try clear c10 c11 c12 c13 f10 f11 f12 f13
   obtain ⟨c00,c01,c02,c03,z0⟩:=tq0
   obtain ⟨c10,c11,c12,c13,f10,f11,f12,f13,z1⟩:=tq1
   have hs4:=hb4.size
   clear hm hd ha
   go_wp2
   refine bodyPost_ret (v:= .tuple #[.agg #[.int .i64 (d*s),.int .i64 (-d*q),.int .i64 (-d*r),.int .i64 (d*p)],.bool (true)]) (by simp [results,Tryz.results16,go_sem, *]) rfl ?_
   refine ⟨_,_,_,_,true,rfl,unhide HI,fun h=>⟨rfl,?_⟩,byGG⟩
   have h9:=unhide HP h
   subst h9
   exact ⟨by omega,by omega,by omega,by omega⟩
  ·have ha2:((d.natAbs:Int) != 1)=true:=by simpa using ha
   have HQ:Hid (¬properB p q r s=true):=hide (fun h=>ha (by rw[unhide HP h];rfl))
   clear b0 b1 b2 b3
   go_enter Tryz.func16,Tryz.ntmps16
   go_wp2_with fail
   refine (isMat_e p q r s true _ h0 h1 h2 h3 hm).mono ?_
   rintro en1 w1 ⟨rfl,hb1⟩
   have tq0:=Ri4.c hb1 w.heap.size p q r s
   have tq1:=Wi4.c hb1 (w.heap.size+1) 0 0 0 0
   try clear c00 c01 c02 c03
   try clear c10 c11 c12 c13 f10 f11 f12 f13
   obtain ⟨c00,c01,c02,c03,z0⟩:=tq0
   obtain ⟨c10,c11,c12,c13,f10,f11,f12,f13,z1⟩:=tq1
   have hs1:=hb1.size
   go_wp2_with fail
   refine (det_e p q r s d _ hm hd).mono ?_
   rintro en2 w2 ⟨rfl,hb2⟩
   have tq0:=Ri4.c hb2 w.heap.size p q r s
   have tq1:=Wi4.c hb2 (w.heap.size+1) 0 0 0 0
   try clear c00 c01 c02 c03
   try clear c10 c11 c12 c13 f10 f11 f12 f13
   obtain ⟨c00,c01,c02,c03,z0⟩:=tq0
   obtain ⟨c10,c11,c12,c13,f10,f11,f12,f13,z1⟩:=tq1
   have hs2:=hb2.size
   go_wp2_with fail
   refine (abs_a d _ (by omega)).mono ?_
   rintro en3 w3 ⟨rfl,rfl⟩
   clear hm hd ha
   go_wp2
   refine bodyPost_ret (v:= .tuple #[.agg #[.int .i64 0,.int .i64 0,.int .i64 0,.int .i64 0],.bool (false)]) (by simp [results,Tryz.results16,go_sem, *]) rfl ?_
   exact ⟨0,0,0,0,false,rfl,⟨z,z,z,z⟩,fun h=>absurd h (unhide HQ),byGG⟩
theorem mm_i64' (a b c d:Int):I64 (wrap64 (wrap64 (a*b)+wrap64 (c*d))):=by unfold I64 wrap64;omega

set_option maxRecDepth 100000 in
set_option maxHeartbeats 4000000 in
theorem implMatrixProduct_c (p q r s p2 q2 r2 s2:Int) (w:World) (h0:I64 p) (h1:I64 q) (h2:I64 r) (h3:I64 s) (k0:I64 p2) (k1:I64 q2) (k2:I64 r2) (k3:I64 s2):
  Calls Tryz.prog 17 #[.agg #[.int .i64 p,.int .i64 q,.int .i64 r,.int .i64 s],.agg #[.int .i64 p2,.int .i64 q2,.int .i64 r2,.int .i64 s2]] w (fun e w'=> ∃(c0 c1 c2 c3:Int) (t:Bool),e= .returned (.tuple #[.agg #[.int .i64 c0,.int .i64 c1,.int .i64 c2,.int .i64 c3],.bool (t)])∧(I64 c0∧I64 c1∧I64 c2∧I64 c3)∧(t=true→(c0=mmP p q r s p2 q2 r2 s2∧c1=mmQ p q r s p2 q2 r2 s2∧c2=mmR p q r s p2 q2 r2 s2∧c3=mmS p q r s p2 q2 r2 s2)∧matB c0 c1 c2 c3=true∧matB p q r s=true∧matB p2 q2 r2 s2=true)∧Below w.heap.size w w'):=by
 have z:I64 0:=⟨by omega,by omega⟩
 cases hm:matB p q r s
 ·go_enter Tryz.func17,Tryz.ntmps17
  go_wp2_with fail
  refine (isMat_e p q r s false _ h0 h1 h2 h3 hm).mono ?_
  rintro en1 w1 ⟨rfl,hb1⟩
  have tq0:=Ri4.c hb1 w.heap.size p q r s
  have tq1:=Ri4.c hb1 (w.heap.size+1) p2 q2 r2 s2
  have tq2:=Wi4.c hb1 (w.heap.size+1+1) 0 0 0 0
  try clear c00 c01 c02 c03
  try clear c10 c11 c12 c13
  try clear c20 c21 c22 c23 f20 f21 f22 f23
  obtain ⟨c00,c01,c02,c03,z0⟩:=tq0
  obtain ⟨c10,c11,c12,c13,z1⟩:=tq1
  obtain ⟨c20,c21,c22,c23,f20,f21,f22,f23,z2⟩:=tq2
  have hs1:=hb1.size
  go_wp2
  refine bodyPost_ret (v:= .tuple #[.agg #[.int .i64 0,.int .i64 0,.int .i64 0,.int .i64 0],.bool (false)]) (by simp [results,Tryz.results17,go_sem, *]) rfl ?_
  exact ⟨0,0,0,0,false,rfl,⟨z,z,z,z⟩,fun h=>absurd h (by decide),byGG⟩
 ·cases hn:matB p2 q2 r2 s2
  ·go_enter Tryz.func17,Tryz.ntmps17
   go_wp2_with fail
   refine (isMat_e p q r s true _ h0 h1 h2 h3 hm).mono ?_
   rintro en1 w1 ⟨rfl,hb1⟩
   have tq0:=Ri4.c hb1 w.heap.size p q r s
   have tq1:=Ri4.c hb1 (w.heap.size+1) p2 q2 r2 s2
   have tq2:=Wi4.c hb1 (w.heap.size+1+1) 0 0 0 0
   try clear c00 c01 c02 c03
   try clear c10 c11 c12 c13
   try clear c20 c21 c22 c23 f20 f21 f22 f23
   obtain ⟨c00,c01,c02,c03,z0⟩:=tq0
   obtain ⟨c10,c11,c12,c13,z1⟩:=tq1
   obtain ⟨c20,c21,c22,c23,f20,f21,f22,f23,z2⟩:=tq2
   have hs1:=hb1.size
   go_wp2_with fail
   refine (isMat_e p2 q2 r2 s2 false _ k0 k1 k2 k3 hn).mono ?_
   rintro en2 w2 ⟨rfl,hb2⟩
   have tq0:=Ri4.c hb2 w.heap.size p q r s
   have tq1:=Ri4.c hb2 (w.heap.size+1) p2 q2 r2 s2
   have tq2:=Wi4.c hb2 (w.heap.size+1+1) 0 0 0 0
   try clear c00 c01 c02 c03
   try clear c10 c11 c12 c13
   try clear c20 c21 c22 c23 f20 f21 f22 f23
   obtain ⟨c00,c01,c02,c03,z0⟩:=tq0
   obtain ⟨c10,c11,c12,c13,z1⟩:=tq1
   obtain ⟨c20,c21,c22,c23,f20,f21,f22,f23,z2⟩:=tq2
   have hs2:=hb2.size
   go_wp2
   refine bodyPost_ret (v:= .tuple #[.agg #[.int .i64 0,.int .i64 0,.int .i64 0,.int .i64 0],.bool (false)]) (by simp [results,Tryz.results17,go_sem, *]) rfl ?_
   exact ⟨0,0,0,0,false,rfl,⟨z,z,z,z⟩,fun h=>absurd h (by decide),byGG⟩
  ·have i0:I64 (mmP p q r s p2 q2 r2 s2):=mm_i64' _ _ _ _
   have i1:I64 (mmQ p q r s p2 q2 r2 s2):=mm_i64' _ _ _ _
   have i2:I64 (mmR p q r s p2 q2 r2 s2):=mm_i64' _ _ _ _
   have i3:I64 (mmS p q r s p2 q2 r2 s2):=mm_i64' _ _ _ _
   go_enter Tryz.func17,Tryz.ntmps17
   go_wp2_with fail
   refine (isMat_e p q r s true _ h0 h1 h2 h3 hm).mono ?_
   rintro en1 w1 ⟨rfl,hb1⟩
   have tq0:=Ri4.c hb1 w.heap.size p q r s
   have tq1:=Ri4.c hb1 (w.heap.size+1) p2 q2 r2 s2
   have tq2:=Wi4.c hb1 (w.heap.size+1+1) 0 0 0 0
   try clear c00 c01 c02 c03
   try clear c10 c11 c12 c13
   try clear c20 c21 c22 c23 f20 f21 f22 f23
   obtain ⟨c00,c01,c02,c03,z0⟩:=tq0
   obtain ⟨c10,c11,c12,c13,z1⟩:=tq1
   obtain ⟨c20,c21,c22,c23,f20,f21,f22,f23,z2⟩:=tq2
   have hs1:=hb1.size
   go_wp2_with fail
   refine (isMat_e p2 q2 r2 s2 true _ k0 k1 k2 k3 hn).mono ?_
   rintro en2 w2 ⟨rfl,hb2⟩
   have tq0:=Ri4.c hb2 w.heap.size p q r s
   have tq1:=Ri4.c hb2 (w.heap.size+1) p2 q2 r2 s2
   have tq2:=Wi4.c hb2 (w.heap.size+1+1) 0 0 0 0
   try clear c00 c01 c02 c03
   try clear c10 c11 c12 c13
   try clear c20 c21 c22 c23 f20 f21 f22 f23
   obtain ⟨c00,c01,c02,c03,z0⟩:=tq0
   obtain ⟨c10,c11,c12,c13,z1⟩:=tq1
   obtain ⟨c20,c21,c22,c23,f20,f21,f22,f23,z2⟩:=tq2
   have hs2:=hb2.size
   go_wp2_with fail
   refine (times_a p q r s p2 q2 r2 s2 _).mono ?_
   rintro en3 w3 ⟨rfl,hb3⟩
   have tq0:=Ri4.c hb3 w.heap.size p q r s
   have tq1:=Ri4.c hb3 (w.heap.size+1) p2 q2 r2 s2
   have tq2:=Wi4.c hb3 (w.heap.size+1+1) 0 0 0 0
   try clear c00 c01 c02 c03
   try clear c10 c11 c12 c13
   try clear c20 c21 c22 c23 f20 f21 f22 f23
   obtain ⟨c00,c01,c02,c03,z0⟩:=tq0
   obtain ⟨c10,c11,c12,c13,z1⟩:=tq1
   obtain ⟨c20,c21,c22,c23,f20,f21,f22,f23,z2⟩:=tq2
   have hs3:=hb3.size
   obtain ⟨c0,e0⟩: ∃c,c=mmP p q r s p2 q2 r2 s2:=⟨_,rfl⟩
   obtain ⟨c1,e1⟩: ∃c,c=mmQ p q r s p2 q2 r2 s2:=⟨_,rfl⟩
   obtain ⟨c2,e2⟩: ∃c,c=mmR p q r s p2 q2 r2 s2:=⟨_,rfl⟩
   obtain ⟨c3,e3⟩: ∃c,c=mmS p q r s p2 q2 r2 s2:=⟨_,rfl⟩
   rw[←e0] at i0 ⊢
   rw[←e1] at i1 ⊢
   rw[←e2] at i2 ⊢
   rw[←e3] at i3 ⊢
   have HE:=hide (And.intro e0 (And.intro e1 (And.intro e2 e3)))
   have HM:=hide (And.intro hm hn)
   clear e0 e1 e2 e3 hm hn
   cases hc:matB c0 c1 c2 c3
   ·go_wp2_with fail
    refine (checked_n c0 c1 c2 c3 _ i0 i1 i2 i3 hc).mono ?_
    rintro en4 w4 ⟨rfl,hb4⟩
    have tq0:=Ri4.c hb4 w.heap.size p q r s
    have tq1:=Ri4.c hb4 (w.heap.size+1) p2 q2 r2 s2
    have tq2:=Wi4.c hb4 (w.heap.size+1+1) 0 0 0 0
    try clear c00 c01 c02 c03
    try clear c10 c11 c12 c13
    try clear c20 c21 c22 c23 f20 f21 f22 f23
    obtain ⟨c00,c01,c02,c03,z0⟩:=tq0
    obtain ⟨c10,c11,c12,c13,z1⟩:=tq1
    obtain ⟨c20,c21,c22,c23,f20,f21,f22,f23,z2⟩:=tq2
    have hs4:=hb4.size
    go_wp2
    refine bodyPost_ret (v:= .tuple #[.agg #[.int .i64 0,.int .i64 0,.int .i64 0,.int .i64 0],.bool (false)]) (by simp [results,Tryz.results17,go_sem, *]) rfl ?_
    exact ⟨0,0,0,0,false,rfl,⟨z,z,z,z⟩,fun h=>absurd h (by decide),byGG⟩
   ·go_wp2_with fail
    refine (checked_y c0 c1 c2 c3 _ i0 i1 i2 i3 hc).mono ?_
    rintro en4 w4 ⟨rfl,hb4⟩
    have tq0:=Ri4.c hb4 w.heap.size p q r s
    have tq1:=Ri4.c hb4 (w.heap.size+1) p2 q2 r2 s2
    have tq2:=Wi4.c hb4 (w.heap.size+1+1) 0 0 0 0
    try clear c00 c01 c02 c03
    try clear c10 c11 c12 c13
    try clear c20 c21 c22 c23 f20 f21 f22 f23
    obtain ⟨c00,c01,c02,c03,z0⟩:=tq0
    obtain ⟨c10,c11,c12,c13,z1⟩:=tq1
    obtain ⟨c20,c21,c22,c23,f20,f21,f22,f23,z2⟩:=tq2
    have hs4:=hb4.size
    have HC:=hide hc
    clear hc
    go_wp2
    refine bodyPost_ret (v:= .tuple #[.agg #[.int .i64 c0,.int .i64 c1,.int .i64 c2,.int .i64 c3],.bool (true)]) (by simp [results,Tryz.results17,go_sem, *]) rfl ?_
    exact ⟨c0,c1,c2,c3,true,rfl,⟨i0,i1,i2,i3⟩,fun _=>⟨unhide HE,by first|exact unhide HC|trivial|rfl,by first|exact unhide HM|exact ⟨trivial,trivial⟩|exact ⟨rfl,rfl⟩⟩,byGG⟩
theorem isForm_e (a b c:Int) (t:Bool) (w:World) (h0:I64 a) (h1:I64 b) (h2:I64 c) (h:formB a b c=t):
  Calls Tryz.prog 26 #[.agg #[.int .i64 a,.int .i64 b,.int .i64 c]] w fun e w'=>e= .returned (.bool t)∧Below w.heap.size w w':=by
 subst h;exact IsForm_a a b c w h0 h1 h2
theorem i64_n {x:Int} (h: -1000000≤x∧x≤1000000):I64 x:=⟨by omega,by omega⟩

set_option maxRecDepth 100000 in
set_option maxHeartbeats 4000000 in
theorem implSubstitute_y (a b c p q r s u v t:Int) (w:World) (hf:formB a b c=true) (hm:matB p q r s=true) (hg:formB u v t=true) (e1:valI a b c p r=u) (e2:polI a b c p r q s=v) (e3:valI a b c q s=t):
  Calls Tryz.prog 9 #[.agg #[.int .i64 a,.int .i64 b,.int .i64 c],.agg #[.int .i64 p,.int .i64 q,.int .i64 r,.int .i64 s]] w fun e w'=>e= .returned (.tuple #[.agg #[.int .i64 u,.int .i64 v,.int .i64 t],.bool (true)])∧Below w.heap.size w w':=by
 obtain ⟨a0,a1,a2⟩:=form_true hf
 obtain ⟨b0,b1,b2,b3⟩:=mat_true hm
 obtain ⟨g0,g1,g2⟩:=form_true hg
 have mb: ∀{x y A:Int},0≤A→ -A≤x∧x≤A→ -1000000≤y∧y≤1000000→ -(A*1000000)≤x*y∧x*y≤A*1000000:=fun hA hx hy=>by
  have:=mul_bd hA hx hy;omega
 have at9: ∀{x y:Int},-1000000≤x∧x≤1000000→ -1000000≤y∧y≤1000000→AtOk a b c x y:=fun {x y} hx hy=>by
  have m1:=mb (by omega) a0 hx
  have m2:=mb (by omega) m1 hx
  have m3:=mb (by omega) a1 hx
  have m4:=mb (by omega) m3 hy
  have m5:=mb (by omega) a2 hy
  have m6:=mb (by omega) m5 hy
  constructor<;>omega
 have HA:=at9 b0 b2
 have HB:=at9 b1 b3
 have HP:PoOk2 a b c p r q s:=by
  have m1:=mb (A:=2000000) (by omega) (show -2000000≤2*a∧2*a≤2000000 by omega) b0
  have m2:=mb (by omega) m1 b1
  have m3:=mb (by omega) b0 b3
  have m4:=mb (by omega) b2 b1
  have m5:=mul_bd (A:=1000000) (B:=2000000000000) (by omega) a1 (show -2000000000000≤p*s+r*q∧p*s+r*q≤2000000000000 by omega)
  have m6:=mb (A:=2000000) (by omega) (show -2000000≤2*c∧2*c≤2000000 by omega) b2
  have m7:=mb (by omega) m6 b3
  constructor<;>omega
 have i0:=i64_n a0
 have i1:=i64_n a1
 have i2:=i64_n a2
 have h0:=i64_n b0
 have h1:=i64_n b1
 have h2:=i64_n b2
 have h3:=i64_n b3
 have j0:=i64_n g0
 have j1:=i64_n g1
 have j2:=i64_n g2
 clear at9 mb a0 a1 a2 b0 b1 b2 b3 g0 g1 g2
 go_enter Tryz.func9,Tryz.ntmps9
 go_wp2_with fail
 refine (isForm_e a b c true _ i0 i1 i2 hf).mono ?_
 rintro en1 w1 ⟨rfl,hb1⟩
 have tq0:=Ri3.c hb1 w.heap.size a b c
 have tq1:=Ri4.c hb1 (w.heap.size+1) p q r s
 have tq2:=Wi3.c hb1 (w.heap.size+1+1) 0 0 0
 try clear c00 c01 c02
 try clear c10 c11 c12 c13
 try clear c20 c21 c22 f20 f21 f22
 obtain ⟨c00,c01,c02,z0⟩:=tq0
 obtain ⟨c10,c11,c12,c13,z1⟩:=tq1
 obtain ⟨c20,c21,c22,f20,f21,f22,z2⟩:=tq2
 have hs1:=hb1.size
 go_wp2_with fail
 refine (isMat_e p q r s true _ h0 h1 h2 h3 hm).mono ?_
 rintro en2 w2 ⟨rfl,hb2⟩
 have tq0:=Ri3.c hb2 w.heap.size a b c
 have tq1:=Ri4.c hb2 (w.heap.size+1) p q r s
 have tq2:=Wi3.c hb2 (w.heap.size+1+1) 0 0 0
 try clear c00 c01 c02
 try clear c10 c11 c12 c13
 try clear c20 c21 c22 f20 f21 f22
 obtain ⟨c00,c01,c02,z0⟩:=tq0
 obtain ⟨c10,c11,c12,c13,z1⟩:=tq1
 obtain ⟨c20,c21,c22,f20,f21,f22,z2⟩:=tq2
 have hs2:=hb2.size
 go_wp2_with fail
 refine (subst_2 a b c p q r s _ HA HP HB).mono ?_
 rintro e9 w3 ⟨rfl,hb3⟩
 rw[e1,e2,e3]
 clear HA HP HB hf hm e1 e2 e3
 have tq0:=Ri3.c hb3 w.heap.size a b c
 have tq1:=Ri4.c hb3 (w.heap.size+1) p q r s
 have tq2:=Wi3.c hb3 (w.heap.size+1+1) 0 0 0
 try clear c00 c01 c02
 try clear c10 c11 c12 c13
 try clear c20 c21 c22 f20 f21 f22
 obtain ⟨c00,c01,c02,z0⟩:=tq0
 obtain ⟨c10,c11,c12,c13,z1⟩:=tq1
 obtain ⟨c20,c21,c22,f20,f21,f22,z2⟩:=tq2
 have hs3:=hb3.size
 go_wp2_with fail
 refine (isForm_e u v t true _ j0 j1 j2 hg).mono ?_
 rintro en4 w4 ⟨rfl,hb4⟩
 have tq0:=Ri3.c hb4 w.heap.size a b c
 have tq1:=Ri4.c hb4 (w.heap.size+1) p q r s
 have tq2:=Wi3.c hb4 (w.heap.size+1+1) 0 0 0
 have tq3:=Ri3.c hb4 w3.heap.size u v t
 try clear c00 c01 c02
 try clear c10 c11 c12 c13
 try clear c20 c21 c22 f20 f21 f22
 try clear c30 c31 c32
 obtain ⟨c00,c01,c02,z0⟩:=tq0
 obtain ⟨c10,c11,c12,c13,z1⟩:=tq1
 obtain ⟨c20,c21,c22,f20,f21,f22,z2⟩:=tq2
 obtain ⟨c30,c31,c32,z3⟩:=tq3
 have hs4:=hb4.size
 clear hg
 go_wp2
 refine bodyPost_ret (v:= .tuple #[.agg #[.int .i64 u,.int .i64 v,.int .i64 t],.bool (true)]) (by simp [results,Tryz.results9,go_sem, *]) rfl ?_
 exact ⟨rfl,byGG⟩
end Go.Proofs.YtobkcnmlmmhpoaaGreat
