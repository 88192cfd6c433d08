/- Values, substitution, products of matrices on both sides. -/
import Derived.Test.YtobkcnmlmmhpoaaGreatDoorPt
import Derived.Test.YtobkcnmlmmhpoaaGreatDoorRule
import Derived.Test.YtobkcnmlmmhpoaaGreatDoorOwn
namespace Go.Proofs.YtobkcnmlmmhpoaaGreatDoor
set_option maxRecDepth 100000
set_option maxHeartbeats 80000000
open Go.RowKit
set_option linter.unusedVariables false
set_option linter.unusedSimpArgs false
attribute [local go_sem] q2 q3 q4 q5 q6 q7 q8 q9 q10 q11 q12

structure AtOk (a b c x y:Int):Prop where
 h0:(-1000000000000000000≤a*x∧a*x≤1000000000000000000)
 h1:(-1000000000000000000≤a*x*x∧a*x*x≤1000000000000000000)
 h2:(-1000000000000000000≤b*x∧b*x≤1000000000000000000)
 h3:(-1000000000000000000≤b*x*y∧b*x*y≤1000000000000000000)
 h4:(-1000000000000000000≤c*y∧c*y≤1000000000000000000)
 h5:(-1000000000000000000≤c*y*y∧c*y*y≤1000000000000000000)
def polI (a b c x y u v:Int):Int:=2*a*x*u+b*(x*v+y*u)+2*c*y*v
structure PoOk (a b c x y u v:Int):Prop where
 h0:(-1000000000000000000≤2*a∧2*a≤1000000000000000000)
 h1:(-1000000000000000000≤2*a*x∧2*a*x≤1000000000000000000)
 h2:(-1000000000000000000≤2*a*x*u∧2*a*x*u≤1000000000000000000)
 h3:(-1000000000000000000≤x*v∧x*v≤1000000000000000000)
 h4:(-1000000000000000000≤y*u∧y*u≤1000000000000000000)
 h5:(-1000000000000000000≤b*(x*v+y*u)∧b*(x*v+y*u)≤1000000000000000000)
 h6:(-1000000000000000000≤2*c∧2*c≤1000000000000000000)
 h7:(-1000000000000000000≤2*c*y∧2*c*y≤1000000000000000000)
 h8:(-1000000000000000000≤2*c*y*v∧2*c*y*v≤1000000000000000000)
def mmP (p q r s p' q' r' s':Int):Int:=wrap64 (wrap64 (p*p')+wrap64 (q*r'))
def mmQ (p q r s p' q' r' s':Int):Int:=wrap64 (wrap64 (p*q')+wrap64 (q*s'))
def mmR (p q r s p' q' r' s':Int):Int:=wrap64 (wrap64 (r*p')+wrap64 (s*r'))
def mmS (p q r s p' q' r' s':Int):Int:=wrap64 (wrap64 (r*q')+wrap64 (s*s'))

theorem at_a (a b c x y:Int) (w:World) (h0:AtOk a b c x y):
  Calls Tryz.prog 102 #[.agg #[.int .i64 a,.int .i64 b,.int .i64 c],.int .i64 x,.int .i64 y] w fun e w'=>e= .returned (.int .i64 (valI a b c x y))∧Below w.heap.size w w':=by
 obtain ⟨q0,q1,q2,q3,q4,q5⟩:=h0
 go_enter Tryz.func102,Tryz.ntmps102
 go_wp2
 go_returns
 refine ⟨rfl,?_⟩
 (repeat' first|with_reducible (first|exact Below.refl _ _|assumption|refine gr_alloc ?_ _|refine below_drewN ?_ _|refine below_drew ?_|refine gr_call ?_ VV|refine Below.setCell ?_ ?_ _)|go_size|omega|(simp;omega))

theorem foValue_a (a b c x y:Int) (w:World) (h0:AtOk a b c x y):
  Calls Tryz.prog 138 #[.agg #[.int .i64 a,.int .i64 b,.int .i64 c],.int .i64 x,.int .i64 y] w fun e w'=>e= .returned (.int .i64 (valI a b c x y))∧Below w.heap.size w w':=by
 obtain ⟨q0,q1,q2,q3,q4,q5⟩:=h0
 go_enter Tryz.func138,Tryz.ntmps138
 go_wp2
 go_returns
 refine ⟨rfl,?_⟩
 (repeat' first|with_reducible (first|exact Below.refl _ _|assumption|refine gr_alloc ?_ _|refine below_drewN ?_ _|refine below_drew ?_|refine gr_call ?_ VV|refine Below.setCell ?_ ?_ _)|go_size|omega|(simp;omega))

theorem polar_a (a b c x y u v:Int) (w:World) (h0:PoOk a b c x y u v):
  Calls Tryz.prog 182 #[.agg #[.int .i64 a,.int .i64 b,.int .i64 c],.int .i64 x,.int .i64 y,.int .i64 u,.int .i64 v] w fun e w'=>e= .returned (.int .i64 (polI a b c x y u v))∧Below w.heap.size w w':=by
 obtain ⟨q0,q1,q2,q3,q4,q5,q6,q7,q8⟩:=h0
 go_enter Tryz.func182,Tryz.ntmps182
 go_wp2
 go_returns
 refine ⟨rfl,?_⟩
 (repeat' first|with_reducible (first|exact Below.refl _ _|assumption|refine gr_alloc ?_ _|refine below_drewN ?_ _|refine below_drew ?_|refine gr_call ?_ VV|refine Below.setCell ?_ ?_ _)|go_size|omega|(simp;omega))

theorem foPolar_a (a b c x y u v:Int) (w:World) (h0:PoOk a b c x y u v):
  Calls Tryz.prog 184 #[.agg #[.int .i64 a,.int .i64 b,.int .i64 c],.int .i64 x,.int .i64 y,.int .i64 u,.int .i64 v] w fun e w'=>e= .returned (.int .i64 (polI a b c x y u v))∧Below w.heap.size w w':=by
 obtain ⟨q0,q1,q2,q3,q4,q5,q6,q7,q8⟩:=h0
 go_enter Tryz.func184,Tryz.ntmps184
 go_wp2
 go_returns
 refine ⟨rfl,?_⟩
 (repeat' first|with_reducible (first|exact Below.refl _ _|assumption|refine gr_alloc ?_ _|refine below_drewN ?_ _|refine below_drew ?_|refine gr_call ?_ VV|refine Below.setCell ?_ ?_ _)|go_size|omega|(simp;omega))

theorem times_a (p q r s p2 q2 r2 s2:Int) (w:World):
  Calls Tryz.prog 159 #[.agg #[.int .i64 p,.int .i64 q,.int .i64 r,.int .i64 s],.agg #[.int .i64 p2,.int .i64 q2,.int .i64 r2,.int .i64 s2]] w fun e w'=>e= .returned (.agg #[.int .i64 (mmP p q r s p2 q2 r2 s2),.int .i64 (mmQ p q r s p2 q2 r2 s2),.int .i64 (mmR p q r s p2 q2 r2 s2),.int .i64 (mmS p q r s p2 q2 r2 s2)])∧Below w.heap.size w w':=by
 go_enter Tryz.func159,Tryz.ntmps159
 go_wp2
 go_returns
 refine ⟨rfl,?_⟩
 (repeat' first|with_reducible (first|exact Below.refl _ _|assumption|refine gr_alloc ?_ _|refine below_drewN ?_ _|refine below_drew ?_|refine gr_call ?_ VV|refine Below.setCell ?_ ?_ _)|go_size|omega|(simp;omega))

theorem foMul_a (p q r s p2 q2 r2 s2:Int) (w:World):
  Calls Tryz.prog 164 #[.agg #[.int .i64 p,.int .i64 q,.int .i64 r,.int .i64 s],.agg #[.int .i64 p2,.int .i64 q2,.int .i64 r2,.int .i64 s2]] w fun e w'=>e= .returned (.agg #[.int .i64 (mmP p q r s p2 q2 r2 s2),.int .i64 (mmQ p q r s p2 q2 r2 s2),.int .i64 (mmR p q r s p2 q2 r2 s2),.int .i64 (mmS p q r s p2 q2 r2 s2)])∧Below w.heap.size w w':=by
 go_enter Tryz.func164,Tryz.ntmps164
 go_wp2
 go_returns
 refine ⟨rfl,?_⟩
 (repeat' first|with_reducible (first|exact Below.refl _ _|assumption|refine gr_alloc ?_ _|refine below_drewN ?_ _|refine below_drew ?_|refine gr_call ?_ VV|refine Below.setCell ?_ ?_ _)|go_size|omega|(simp;omega))

theorem subst_a (a b c p q r s:Int) (w:World) (h0:AtOk a b c p r) (h1:PoOk a b c p r q s) (h2:AtOk a b c q s):
  Calls Tryz.prog 158 #[.agg #[.int .i64 a,.int .i64 b,.int .i64 c],.agg #[.int .i64 p,.int .i64 q,.int .i64 r,.int .i64 s]] w fun e w'=>e= .returned (.agg #[.int .i64 (valI a b c p r),.int .i64 (polI a b c p r q s),.int .i64 (valI a b c q s)])∧Below w.heap.size w w':=by
 go_enter Tryz.func158,Tryz.ntmps158
 go_upto_region 1 with fail
 go_cut [] (fun  wx=>Ri3 wx w.heap.size a b c∧Ri4 wx (w.heap.size+1) p q r s∧Wi3 wx (w.heap.size+1+1) (valI a b c p r) (polI a b c p r q s) (valI a b c q s)∧Below w.heap.size w wx)
 case first=>
  have h1:=trivial
  rename_i K2 h2 h3
  refine region_n0 Vw (fun j=> #[5,6,7,8,9,10,11,12,13,14,15,16,17,18,19,20,21,22,23,24,25,26,27,4].getD j 0) (fun j=>Kd.ok ((fun j=>match j with|0=>Kd.val (.agg #[.int .i64 a,.int .i64 b,.int .i64 c])|1=>Kd.val (.pointer (some ⟨w.heap.size+1,0,none⟩))|2=>Kd.val (.int .i64 p)|3=>Kd.val (.pointer (some ⟨w.heap.size+1,2,none⟩))|4=>Kd.val (.int .i64 r)|5=>Kd.val (.int .i64 (valI a b c p r))|6=>Kd.val (.agg #[.int .i64 a,.int .i64 b,.int .i64 c])|7=>Kd.val (.pointer (some ⟨w.heap.size+1,0,none⟩))|8=>Kd.val (.int .i64 p)|9=>Kd.val (.pointer (some ⟨w.heap.size+1,2,none⟩))|10=>Kd.val (.int .i64 r)|11=>Kd.val (.pointer (some ⟨w.heap.size+1,1,none⟩))|12=>Kd.val (.int .i64 q)|13=>Kd.val (.pointer (some ⟨w.heap.size+1,3,none⟩))|14=>Kd.val (.int .i64 s)|15=>Kd.val (.int .i64 (polI a b c p r q s))|16=>Kd.val (.agg #[.int .i64 a,.int .i64 b,.int .i64 c])|17=>Kd.val (.pointer (some ⟨w.heap.size+1,1,none⟩))|18=>Kd.val (.int .i64 q)|19=>Kd.val (.pointer (some ⟨w.heap.size+1,3,none⟩))|20=>Kd.val (.int .i64 s)|21=>Kd.val (.int .i64 (valI a b c q s))|22=>Kd.val (.agg #[.int .i64 (valI a b c p r),.int .i64 (polI a b c p r q s),.int .i64 (valI a b c q s)])|23=>Kd.old (w.heap.size+1+1+1) [(⟨w.heap.size+1+1,0,none⟩,.int .i64 (valI a b c p r)),(⟨w.heap.size+1+1,1,none⟩,.int .i64 (polI a b c p r q s)),(⟨w.heap.size+1+1,2,none⟩,.int .i64 (valI a b c q s))]|_=>Kd.any:Nat→Kd) j)) (Sy w (w.heap.size+1+1+1) [(⟨w.heap.size,0,none⟩,.int .i64 a),(⟨w.heap.size,1,none⟩,.int .i64 b),(⟨w.heap.size,2,none⟩,.int .i64 c),(⟨w.heap.size+1,0,none⟩,.int .i64 p),(⟨w.heap.size+1,1,none⟩,.int .i64 q),(⟨w.heap.size+1,2,none⟩,.int .i64 r),(⟨w.heap.size+1,3,none⟩,.int .i64 s)] [⟨w.heap.size+1+1,0,none⟩,⟨w.heap.size+1+1,1,none⟩,⟨w.heap.size+1+1,2,none⟩]) Vw Vw ?_ ?_ ?_ ?_
  ·intro j hj
   have hj2:j<24:=hj
   have: ∀j,j<24→(#[5,6,7,8,9,10,11,12,13,14,15,16,17,18,19,20,21,22,23,24,25,26,27,4]:Array Nat).getD j 0<28:=by decide
   exact this j hj2
  ·refine Sy.drew (Sy.mk_of ?_ ?_ ?_ ?_)
   ·first|rfl|(simp;done)|(simp;omega)
   ·intro c hc
    simp only[List.mem_cons,List.not_mem_nil,or_false] at hc
    rcases hc with rfl|rfl|rfl|rfl|rfl|rfl|rfl<;>first|assumption|(go_simp;done)
   ·intro p hp
    simp only[List.mem_cons,List.not_mem_nil,or_false] at hp
    rcases hp with rfl|rfl|rfl<;>exact ⟨by first|exact ⟨_,VV⟩|assumption|(go_simp;done)|(go_simp;exact ⟨_,rfl⟩),by first|assumption|(go_simp;done)⟩
   ·(repeat' first|with_reducible (first|exact Below.refl _ _|assumption|refine gr_alloc ?_ _|refine below_drewN ?_ _|refine below_drew ?_|refine gr_call ?_ VV|refine Below.setCell ?_ ?_ _)|go_size|omega|(simp;omega))
  ·clear h1 h2 h3
   refine ⟨?r1x0,?r1x1,?r1x2,?r1x3,?r1x4,?r1x5,?r1x6,?r1x7,?r1x8,?r1x9,?r1x10,?r1x11,?r1x12,?r1x13,?r1x14,?r1x15,?r1x16,?r1x17,?r1x18,?r1x19,?r1x20,?r1x21,?r1x22,?r1x23,trivial⟩
   all_goals intro _ aq wx Kq hf hS hdep ev1 ev2 hK
   case' r1x0=>
    have F2:aq.eval (.tmp 2)= .pointer (some ⟨w.heap.size,0,none⟩):=hf 2
    have c0:=hS.cells (⟨w.heap.size,0,none⟩,.int .i64 a) Vs
    have c1:=hS.cells (⟨w.heap.size,1,none⟩,.int .i64 b) Vs
    have c2:=hS.cells (⟨w.heap.size,2,none⟩,.int .i64 c) Vs
   case' r1x1=>
    have F3:aq.eval (.tmp 3)= .pointer (some ⟨w.heap.size+1,0,none⟩):=hf 3
   case' r1x2=>
    have D1:aq.eval (.tmp 6)=_:=hdep 1
    have c0:=hS.cells (⟨w.heap.size+1,0,none⟩,.int .i64 p) Vs
   case' r1x3=>
    have F3:aq.eval (.tmp 3)= .pointer (some ⟨w.heap.size+1,0,none⟩):=hf 3
   case' r1x4=>
    have D3:aq.eval (.tmp 8)=_:=hdep 3
    have c0:=hS.cells (⟨w.heap.size+1,2,none⟩,.int .i64 r) Vs
   case' r1x5=>
    have D0:aq.eval (.tmp 5)=_:=hdep 0
    have D2:aq.eval (.tmp 7)=_:=hdep 2
    have D4:aq.eval (.tmp 9)=_:=hdep 4
   case' r1x6=>
    have F2:aq.eval (.tmp 2)= .pointer (some ⟨w.heap.size,0,none⟩):=hf 2
    have c0:=hS.cells (⟨w.heap.size,0,none⟩,.int .i64 a) Vs
    have c1:=hS.cells (⟨w.heap.size,1,none⟩,.int .i64 b) Vs
    have c2:=hS.cells (⟨w.heap.size,2,none⟩,.int .i64 c) Vs
   case' r1x7=>
    have F3:aq.eval (.tmp 3)= .pointer (some ⟨w.heap.size+1,0,none⟩):=hf 3
   case' r1x8=>
    have D7:aq.eval (.tmp 12)=_:=hdep 7
    have c0:=hS.cells (⟨w.heap.size+1,0,none⟩,.int .i64 p) Vs
   case' r1x9=>
    have F3:aq.eval (.tmp 3)= .pointer (some ⟨w.heap.size+1,0,none⟩):=hf 3
   case' r1x10=>
    have D9:aq.eval (.tmp 14)=_:=hdep 9
    have c0:=hS.cells (⟨w.heap.size+1,2,none⟩,.int .i64 r) Vs
   case' r1x11=>
    have F3:aq.eval (.tmp 3)= .pointer (some ⟨w.heap.size+1,0,none⟩):=hf 3
   case' r1x12=>
    have D11:aq.eval (.tmp 16)=_:=hdep 11
    have c0:=hS.cells (⟨w.heap.size+1,1,none⟩,.int .i64 q) Vs
   case' r1x13=>
    have F3:aq.eval (.tmp 3)= .pointer (some ⟨w.heap.size+1,0,none⟩):=hf 3
   case' r1x14=>
    have D13:aq.eval (.tmp 18)=_:=hdep 13
    have c0:=hS.cells (⟨w.heap.size+1,3,none⟩,.int .i64 s) Vs
   case' r1x15=>
    have D6:aq.eval (.tmp 11)=_:=hdep 6
    have D8:aq.eval (.tmp 13)=_:=hdep 8
    have D10:aq.eval (.tmp 15)=_:=hdep 10
    have D12:aq.eval (.tmp 17)=_:=hdep 12
    have D14:aq.eval (.tmp 19)=_:=hdep 14
   case' r1x16=>
    have F2:aq.eval (.tmp 2)= .pointer (some ⟨w.heap.size,0,none⟩):=hf 2
    have c0:=hS.cells (⟨w.heap.size,0,none⟩,.int .i64 a) Vs
    have c1:=hS.cells (⟨w.heap.size,1,none⟩,.int .i64 b) Vs
    have c2:=hS.cells (⟨w.heap.size,2,none⟩,.int .i64 c) Vs
   case' r1x17=>
    have F3:aq.eval (.tmp 3)= .pointer (some ⟨w.heap.size+1,0,none⟩):=hf 3
   case' r1x18=>
    have D17:aq.eval (.tmp 22)=_:=hdep 17
    have c0:=hS.cells (⟨w.heap.size+1,1,none⟩,.int .i64 q) Vs
   case' r1x19=>
    have F3:aq.eval (.tmp 3)= .pointer (some ⟨w.heap.size+1,0,none⟩):=hf 3
   case' r1x20=>
    have D19:aq.eval (.tmp 24)=_:=hdep 19
    have c0:=hS.cells (⟨w.heap.size+1,3,none⟩,.int .i64 s) Vs
   case' r1x21=>
    have D16:aq.eval (.tmp 21)=_:=hdep 16
    have D18:aq.eval (.tmp 23)=_:=hdep 18
    have D20:aq.eval (.tmp 25)=_:=hdep 20
   case' r1x22=>
    have D5:aq.eval (.tmp 10)=_:=hdep 5
    have D15:aq.eval (.tmp 20)=_:=hdep 15
    have D21:aq.eval (.tmp 26)=_:=hdep 21
   case' r1x23=>
    have D22:aq.eval (.tmp 27)=_:=hdep 22
    have F4:aq.eval (.tmp 4)= .pointer (some ⟨w.heap.size+1+1,0,none⟩):=hf 4
    obtain ⟨⟨vx0,cx0⟩,cf0⟩:=hS.free ⟨w.heap.size+1+1,0,none⟩ Vs
    obtain ⟨⟨vx1,cx1⟩,cf1⟩:=hS.free ⟨w.heap.size+1+1,1,none⟩ Vs
    obtain ⟨⟨vx2,cx2⟩,cf2⟩:=hS.free ⟨w.heap.size+1+1,2,none⟩ Vs
   all_goals (clear hf hdep;unfold Oper.wp;generalize Act.eval _=ev at *;go_simp)
   case r1x5=>
    refine ((at_a a b c p r _ h0)).mono ?_
    rintro e w2 ⟨rfl,hb⟩
    refine hK _ _ (hS.call hb) ?_ (fun j u _ h=>Kd.ok_below hb h)
    rw[if_pos VH]
    show (_:Value)=_
    first|rfl|(refine congrArg (Value.int .i64) ?_;first|rfl|exact int_in Vn|exact quo_in Vn Vn Vn|exact rem_in Vn Vn|omega)|(simp;done)|(simp [*];done)
   case r1x15=>
    refine ((polar_a a b c p r q s _ h1)).mono ?_
    rintro e w2 ⟨rfl,hb⟩
    refine hK _ _ (hS.call hb) ?_ (fun j u _ h=>Kd.ok_below hb h)
    rw[if_pos VH]
    show (_:Value)=_
    first|rfl|(refine congrArg (Value.int .i64) ?_;first|rfl|exact int_in Vn|exact quo_in Vn Vn Vn|exact rem_in Vn Vn|omega)|(simp;done)|(simp [*];done)
   case r1x21=>
    refine ((at_a a b c q s _ h2)).mono ?_
    rintro e w2 ⟨rfl,hb⟩
    refine hK _ _ (hS.call hb) ?_ (fun j u _ h=>Kd.ok_below hb h)
    rw[if_pos VH]
    show (_:Value)=_
    first|rfl|(refine congrArg (Value.int .i64) ?_;first|rfl|exact int_in Vn|exact quo_in Vn Vn Vn|exact rem_in Vn Vn|omega)|(simp;done)|(simp [*];done)
   case r1x23=>
    refine hK undef (setAll (w.heap.size+1+1) 0 [.int .i64 (valI a b c p r),.int .i64 (polI a b c p r q s),.int .i64 (valI a b c q s)] wx) (Sy.setAll Vr (fa (far_blk Vm) (fa (far_blk Vm) (fa (far_blk Vm) (fa (far_blk Vm) (fa (far_blk Vm) (fa (far_blk Vm) (fa (far_blk Vm) (fa0)))))))) hS) ?_ (fun j u hj h=> ?_)
    ·rw [if_neg VA]
     exact fa ⟨setAll_at (w.heap.size+1+1) [.int .i64 (valI a b c p r),.int .i64 (polI a b c p r q s),.int .i64 (valI a b c q s)] 0 wx 0 (show 0<3 by decide) ⟨vx0,cx0⟩,Vr⟩ (fa ⟨setAll_at (w.heap.size+1+1) [.int .i64 (valI a b c p r),.int .i64 (polI a b c p r q s),.int .i64 (valI a b c q s)] 0 wx 1 (show 1<3 by decide) ⟨vx1,cx1⟩,Vr⟩ (fa ⟨setAll_at (w.heap.size+1+1) [.int .i64 (valI a b c p r),.int .i64 (polI a b c p r q s),.int .i64 (valI a b c q s)] 0 wx 2 (show 2<3 by decide) ⟨vx2,cx2⟩,Vr⟩ (fa0)))
    ·match j,hj with
     |0,hj|1,hj|2,hj|3,hj|4,hj|5,hj|6,hj|7,hj|8,hj|9,hj|10,hj|11,hj|12,hj|13,hj|14,hj|15,hj|16,hj|17,hj|18,hj|19,hj|20,hj|21,hj|22,hj=>exact (show (u:Value)=_ from h)
     |23,hj=>exact absurd rfl hj
     |j+24,_=>trivial
   all_goals (refine hK _ _ hS ?_ (fun j u _ h=>h);rw [if_pos VH];show (_:Value)=_;(first|rfl|(refine congrArg (Value.int .i64) ?_;first|rfl|exact int_in Vn|exact quo_in Vn Vn Vn|exact rem_in Vn Vn|omega)|(simp;done)|(simp [*];done)))
  ·intro aq wx hd hw hf hS hg
   have haq:aq=⟨#[tau aq 0,tau aq 1,tau aq 2,tau aq 3,tau aq 4,tau aq 5,tau aq 6,tau aq 7,tau aq 8,tau aq 9,tau aq 10,tau aq 11,tau aq 12,tau aq 13,tau aq 14,tau aq 15,tau aq 16,tau aq 17,tau aq 18,tau aq 19,tau aq 20,tau aq 21,tau aq 22,tau aq 23,tau aq 24,tau aq 25,tau aq 26,tau aq 27],[]⟩:=by
    obtain ⟨tq,dq⟩:=aq
    have h5:=arr_eq (show tq.size=28 from hw)
    have h6:dq= []:=hd
    subst h6
    exact congrArg (fun z=>Act.mk z []) h5
   show K2 aq wx
   rw[haq,hf 0,hf 1,hf 2,hf 3,hf 4]
   clear haq hf hd hw
   try dsimp only
   refine h3 _ _ ?_
   go_meet
   refine ⟨Ri3.m ?_ ?_ ?_,Ri4.m ?_ ?_ ?_ ?_,Wi3.m (hg 23 VA (_,_) Vs).1 (hg 23 VA (_,_) Vs).1 (hg 23 VA (_,_) Vs).1 ?_ ?_ ?_,hS.below⟩
   all_goals first|exact hS.cells (_,_) Vs|exact (hS.free _ Vs).2
 obtain ⟨⟨c00,c01,c02,z0⟩,⟨c10,c11,c12,c13,z1⟩,⟨c20,c21,c22,f20,f21,f22,z2⟩,hb0⟩:=hcut
 go_wp2
 first|go_returns|(refine bodyPost_ret (v:= .agg #[.int .i64 (valI a b c p r),.int .i64 (polI a b c p r q s),.int .i64 (valI a b c q s)]) (by simp [results,Tryz.results158,go_sem, *]) rfl ?_)
 refine ⟨rfl,?_⟩
 (repeat' first|with_reducible (first|exact Below.refl _ _|assumption|refine gr_alloc ?_ _|refine below_drewN ?_ _|refine below_drew ?_|refine gr_call ?_ VV|refine Below.setCell ?_ ?_ _)|go_size|omega|(simp;omega))

theorem foAct_a (a b c p q r s:Int) (w:World) (h0:AtOk a b c p r) (h1:PoOk a b c p r q s) (h2:AtOk a b c q s):
  Calls Tryz.prog 170 #[.agg #[.int .i64 a,.int .i64 b,.int .i64 c],.agg #[.int .i64 p,.int .i64 q,.int .i64 r,.int .i64 s]] w fun e w'=>e= .returned (.agg #[.int .i64 (valI a b c p r),.int .i64 (polI a b c p r q s),.int .i64 (valI a b c q s)])∧Below w.heap.size w w':=by
 go_enter Tryz.func170,Tryz.ntmps170
 go_upto_region 1 with fail
 go_cut [] (fun  wx=>Ri3 wx w.heap.size a b c∧Ri4 wx (w.heap.size+1) p q r s∧Wi3 wx (w.heap.size+1+1) (valI a b c p r) (polI a b c p r q s) (valI a b c q s)∧Below w.heap.size w wx)
 case first=>
  have h1:=trivial
  rename_i K2 h2 h3
  refine region_n0 Vw (fun j=> #[5,6,7,8,9,10,11,12,13,14,15,16,17,18,19,20,21,22,23,24,25,26,27,4].getD j 0) (fun j=>Kd.ok ((fun j=>match j with|0=>Kd.val (.agg #[.int .i64 a,.int .i64 b,.int .i64 c])|1=>Kd.val (.pointer (some ⟨w.heap.size+1,0,none⟩))|2=>Kd.val (.int .i64 p)|3=>Kd.val (.pointer (some ⟨w.heap.size+1,2,none⟩))|4=>Kd.val (.int .i64 r)|5=>Kd.val (.int .i64 (valI a b c p r))|6=>Kd.val (.agg #[.int .i64 a,.int .i64 b,.int .i64 c])|7=>Kd.val (.pointer (some ⟨w.heap.size+1,0,none⟩))|8=>Kd.val (.int .i64 p)|9=>Kd.val (.pointer (some ⟨w.heap.size+1,2,none⟩))|10=>Kd.val (.int .i64 r)|11=>Kd.val (.pointer (some ⟨w.heap.size+1,1,none⟩))|12=>Kd.val (.int .i64 q)|13=>Kd.val (.pointer (some ⟨w.heap.size+1,3,none⟩))|14=>Kd.val (.int .i64 s)|15=>Kd.val (.int .i64 (polI a b c p r q s))|16=>Kd.val (.agg #[.int .i64 a,.int .i64 b,.int .i64 c])|17=>Kd.val (.pointer (some ⟨w.heap.size+1,1,none⟩))|18=>Kd.val (.int .i64 q)|19=>Kd.val (.pointer (some ⟨w.heap.size+1,3,none⟩))|20=>Kd.val (.int .i64 s)|21=>Kd.val (.int .i64 (valI a b c q s))|22=>Kd.val (.agg #[.int .i64 (valI a b c p r),.int .i64 (polI a b c p r q s),.int .i64 (valI a b c q s)])|23=>Kd.old (w.heap.size+1+1+1) [(⟨w.heap.size+1+1,0,none⟩,.int .i64 (valI a b c p r)),(⟨w.heap.size+1+1,1,none⟩,.int .i64 (polI a b c p r q s)),(⟨w.heap.size+1+1,2,none⟩,.int .i64 (valI a b c q s))]|_=>Kd.any:Nat→Kd) j)) (Sy w (w.heap.size+1+1+1) [(⟨w.heap.size,0,none⟩,.int .i64 a),(⟨w.heap.size,1,none⟩,.int .i64 b),(⟨w.heap.size,2,none⟩,.int .i64 c),(⟨w.heap.size+1,0,none⟩,.int .i64 p),(⟨w.heap.size+1,1,none⟩,.int .i64 q),(⟨w.heap.size+1,2,none⟩,.int .i64 r),(⟨w.heap.size+1,3,none⟩,.int .i64 s)] [⟨w.heap.size+1+1,0,none⟩,⟨w.heap.size+1+1,1,none⟩,⟨w.heap.size+1+1,2,none⟩]) Vw Vw ?_ ?_ ?_ ?_
  ·intro j hj
   have hj2:j<24:=hj
   have: ∀j,j<24→(#[5,6,7,8,9,10,11,12,13,14,15,16,17,18,19,20,21,22,23,24,25,26,27,4]:Array Nat).getD j 0<28:=by decide
   exact this j hj2
  ·refine Sy.drew (Sy.mk_of ?_ ?_ ?_ ?_)
   ·first|rfl|(simp;done)|(simp;omega)
   ·intro c hc
    simp only[List.mem_cons,List.not_mem_nil,or_false] at hc
    rcases hc with rfl|rfl|rfl|rfl|rfl|rfl|rfl<;>first|assumption|(go_simp;done)
   ·intro p hp
    simp only[List.mem_cons,List.not_mem_nil,or_false] at hp
    rcases hp with rfl|rfl|rfl<;>exact ⟨by first|exact ⟨_,VV⟩|assumption|(go_simp;done)|(go_simp;exact ⟨_,rfl⟩),by first|assumption|(go_simp;done)⟩
   ·(repeat' first|with_reducible (first|exact Below.refl _ _|assumption|refine gr_alloc ?_ _|refine below_drewN ?_ _|refine below_drew ?_|refine gr_call ?_ VV|refine Below.setCell ?_ ?_ _)|go_size|omega|(simp;omega))
  ·clear h1 h2 h3
   refine ⟨?r2x0,?r2x1,?r2x2,?r2x3,?r2x4,?r2x5,?r2x6,?r2x7,?r2x8,?r2x9,?r2x10,?r2x11,?r2x12,?r2x13,?r2x14,?r2x15,?r2x16,?r2x17,?r2x18,?r2x19,?r2x20,?r2x21,?r2x22,?r2x23,trivial⟩
   all_goals intro _ aq wx Kq hf hS hdep ev1 ev2 hK
   case' r2x0=>
    have F2:aq.eval (.tmp 2)= .pointer (some ⟨w.heap.size,0,none⟩):=hf 2
    have c0:=hS.cells (⟨w.heap.size,0,none⟩,.int .i64 a) Vs
    have c1:=hS.cells (⟨w.heap.size,1,none⟩,.int .i64 b) Vs
    have c2:=hS.cells (⟨w.heap.size,2,none⟩,.int .i64 c) Vs
   case' r2x1=>
    have F3:aq.eval (.tmp 3)= .pointer (some ⟨w.heap.size+1,0,none⟩):=hf 3
   case' r2x2=>
    have D1:aq.eval (.tmp 6)=_:=hdep 1
    have c0:=hS.cells (⟨w.heap.size+1,0,none⟩,.int .i64 p) Vs
   case' r2x3=>
    have F3:aq.eval (.tmp 3)= .pointer (some ⟨w.heap.size+1,0,none⟩):=hf 3
   case' r2x4=>
    have D3:aq.eval (.tmp 8)=_:=hdep 3
    have c0:=hS.cells (⟨w.heap.size+1,2,none⟩,.int .i64 r) Vs
   case' r2x5=>
    have D0:aq.eval (.tmp 5)=_:=hdep 0
    have D2:aq.eval (.tmp 7)=_:=hdep 2
    have D4:aq.eval (.tmp 9)=_:=hdep 4
   case' r2x6=>
    have F2:aq.eval (.tmp 2)= .pointer (some ⟨w.heap.size,0,none⟩):=hf 2
    have c0:=hS.cells (⟨w.heap.size,0,none⟩,.int .i64 a) Vs
    have c1:=hS.cells (⟨w.heap.size,1,none⟩,.int .i64 b) Vs
    have c2:=hS.cells (⟨w.heap.size,2,none⟩,.int .i64 c) Vs
   case' r2x7=>
    have F3:aq.eval (.tmp 3)= .pointer (some ⟨w.heap.size+1,0,none⟩):=hf 3
   case' r2x8=>
    have D7:aq.eval (.tmp 12)=_:=hdep 7
    have c0:=hS.cells (⟨w.heap.size+1,0,none⟩,.int .i64 p) Vs
   case' r2x9=>
    have F3:aq.eval (.tmp 3)= .pointer (some ⟨w.heap.size+1,0,none⟩):=hf 3
   case' r2x10=>
    have D9:aq.eval (.tmp 14)=_:=hdep 9
    have c0:=hS.cells (⟨w.heap.size+1,2,none⟩,.int .i64 r) Vs
   case' r2x11=>
    have F3:aq.eval (.tmp 3)= .pointer (some ⟨w.heap.size+1,0,none⟩):=hf 3
   case' r2x12=>
    have D11:aq.eval (.tmp 16)=_:=hdep 11
    have c0:=hS.cells (⟨w.heap.size+1,1,none⟩,.int .i64 q) Vs
   case' r2x13=>
    have F3:aq.eval (.tmp 3)= .pointer (some ⟨w.heap.size+1,0,none⟩):=hf 3
   case' r2x14=>
    have D13:aq.eval (.tmp 18)=_:=hdep 13
    have c0:=hS.cells (⟨w.heap.size+1,3,none⟩,.int .i64 s) Vs
   case' r2x15=>
    have D6:aq.eval (.tmp 11)=_:=hdep 6
    have D8:aq.eval (.tmp 13)=_:=hdep 8
    have D10:aq.eval (.tmp 15)=_:=hdep 10
    have D12:aq.eval (.tmp 17)=_:=hdep 12
    have D14:aq.eval (.tmp 19)=_:=hdep 14
   case' r2x16=>
    have F2:aq.eval (.tmp 2)= .pointer (some ⟨w.heap.size,0,none⟩):=hf 2
    have c0:=hS.cells (⟨w.heap.size,0,none⟩,.int .i64 a) Vs
    have c1:=hS.cells (⟨w.heap.size,1,none⟩,.int .i64 b) Vs
    have c2:=hS.cells (⟨w.heap.size,2,none⟩,.int .i64 c) Vs
   case' r2x17=>
    have F3:aq.eval (.tmp 3)= .pointer (some ⟨w.heap.size+1,0,none⟩):=hf 3
   case' r2x18=>
    have D17:aq.eval (.tmp 22)=_:=hdep 17
    have c0:=hS.cells (⟨w.heap.size+1,1,none⟩,.int .i64 q) Vs
   case' r2x19=>
    have F3:aq.eval (.tmp 3)= .pointer (some ⟨w.heap.size+1,0,none⟩):=hf 3
   case' r2x20=>
    have D19:aq.eval (.tmp 24)=_:=hdep 19
    have c0:=hS.cells (⟨w.heap.size+1,3,none⟩,.int .i64 s) Vs
   case' r2x21=>
    have D16:aq.eval (.tmp 21)=_:=hdep 16
    have D18:aq.eval (.tmp 23)=_:=hdep 18
    have D20:aq.eval (.tmp 25)=_:=hdep 20
   case' r2x22=>
    have D5:aq.eval (.tmp 10)=_:=hdep 5
    have D15:aq.eval (.tmp 20)=_:=hdep 15
    have D21:aq.eval (.tmp 26)=_:=hdep 21
   case' r2x23=>
    have D22:aq.eval (.tmp 27)=_:=hdep 22
    have F4:aq.eval (.tmp 4)= .pointer (some ⟨w.heap.size+1+1,0,none⟩):=hf 4
    obtain ⟨⟨vx0,cx0⟩,cf0⟩:=hS.free ⟨w.heap.size+1+1,0,none⟩ Vs
    obtain ⟨⟨vx1,cx1⟩,cf1⟩:=hS.free ⟨w.heap.size+1+1,1,none⟩ Vs
    obtain ⟨⟨vx2,cx2⟩,cf2⟩:=hS.free ⟨w.heap.size+1+1,2,none⟩ Vs
   all_goals (clear hf hdep;unfold Oper.wp;generalize Act.eval _=ev at *;go_simp)
   case r2x5=>
    refine ((foValue_a a b c p r _ h0)).mono ?_
    rintro e w2 ⟨rfl,hb⟩
    refine hK _ _ (hS.call hb) ?_ (fun j u _ h=>Kd.ok_below hb h)
    rw[if_pos VH]
    show (_:Value)=_
    first|rfl|(refine congrArg (Value.int .i64) ?_;first|rfl|exact int_in Vn|exact quo_in Vn Vn Vn|exact rem_in Vn Vn|omega)|(simp;done)|(simp [*];done)
   case r2x15=>
    refine ((foPolar_a a b c p r q s _ h1)).mono ?_
    rintro e w2 ⟨rfl,hb⟩
    refine hK _ _ (hS.call hb) ?_ (fun j u _ h=>Kd.ok_below hb h)
    rw[if_pos VH]
    show (_:Value)=_
    first|rfl|(refine congrArg (Value.int .i64) ?_;first|rfl|exact int_in Vn|exact quo_in Vn Vn Vn|exact rem_in Vn Vn|omega)|(simp;done)|(simp [*];done)
   case r2x21=>
    refine ((foValue_a a b c q s _ h2)).mono ?_
    rintro e w2 ⟨rfl,hb⟩
    refine hK _ _ (hS.call hb) ?_ (fun j u _ h=>Kd.ok_below hb h)
    rw[if_pos VH]
    show (_:Value)=_
    first|rfl|(refine congrArg (Value.int .i64) ?_;first|rfl|exact int_in Vn|exact quo_in Vn Vn Vn|exact rem_in Vn Vn|omega)|(simp;done)|(simp [*];done)
   case r2x23=>
    refine hK undef (setAll (w.heap.size+1+1) 0 [.int .i64 (valI a b c p r),.int .i64 (polI a b c p r q s),.int .i64 (valI a b c q s)] wx) (Sy.setAll Vr (fa (far_blk Vm) (fa (far_blk Vm) (fa (far_blk Vm) (fa (far_blk Vm) (fa (far_blk Vm) (fa (far_blk Vm) (fa (far_blk Vm) (fa0)))))))) hS) ?_ (fun j u hj h=> ?_)
    ·rw [if_neg VA]
     exact fa ⟨setAll_at (w.heap.size+1+1) [.int .i64 (valI a b c p r),.int .i64 (polI a b c p r q s),.int .i64 (valI a b c q s)] 0 wx 0 (show 0<3 by decide) ⟨vx0,cx0⟩,Vr⟩ (fa ⟨setAll_at (w.heap.size+1+1) [.int .i64 (valI a b c p r),.int .i64 (polI a b c p r q s),.int .i64 (valI a b c q s)] 0 wx 1 (show 1<3 by decide) ⟨vx1,cx1⟩,Vr⟩ (fa ⟨setAll_at (w.heap.size+1+1) [.int .i64 (valI a b c p r),.int .i64 (polI a b c p r q s),.int .i64 (valI a b c q s)] 0 wx 2 (show 2<3 by decide) ⟨vx2,cx2⟩,Vr⟩ (fa0)))
    ·match j,hj with
     |0,hj|1,hj|2,hj|3,hj|4,hj|5,hj|6,hj|7,hj|8,hj|9,hj|10,hj|11,hj|12,hj|13,hj|14,hj|15,hj|16,hj|17,hj|18,hj|19,hj|20,hj|21,hj|22,hj=>exact (show (u:Value)=_ from h)
     |23,hj=>exact absurd rfl hj
     |j+24,_=>trivial
   all_goals (refine hK _ _ hS ?_ (fun j u _ h=>h);rw [if_pos VH];show (_:Value)=_;(first|rfl|(refine congrArg (Value.int .i64) ?_;first|rfl|exact int_in Vn|exact quo_in Vn Vn Vn|exact rem_in Vn Vn|omega)|(simp;done)|(simp [*];done)))
  ·intro aq wx hd hw hf hS hg
   have haq:aq=⟨#[tau aq 0,tau aq 1,tau aq 2,tau aq 3,tau aq 4,tau aq 5,tau aq 6,tau aq 7,tau aq 8,tau aq 9,tau aq 10,tau aq 11,tau aq 12,tau aq 13,tau aq 14,tau aq 15,tau aq 16,tau aq 17,tau aq 18,tau aq 19,tau aq 20,tau aq 21,tau aq 22,tau aq 23,tau aq 24,tau aq 25,tau aq 26,tau aq 27],[]⟩:=by
    obtain ⟨tq,dq⟩:=aq
    have h5:=arr_eq (show tq.size=28 from hw)
    have h6:dq= []:=hd
    subst h6
    exact congrArg (fun z=>Act.mk z []) h5
   show K2 aq wx
   rw[haq,hf 0,hf 1,hf 2,hf 3,hf 4]
   clear haq hf hd hw
   try dsimp only
   refine h3 _ _ ?_
   go_meet
   refine ⟨Ri3.m ?_ ?_ ?_,Ri4.m ?_ ?_ ?_ ?_,Wi3.m (hg 23 VA (_,_) Vs).1 (hg 23 VA (_,_) Vs).1 (hg 23 VA (_,_) Vs).1 ?_ ?_ ?_,hS.below⟩
   all_goals first|exact hS.cells (_,_) Vs|exact (hS.free _ Vs).2
 obtain ⟨⟨c00,c01,c02,z0⟩,⟨c10,c11,c12,c13,z1⟩,⟨c20,c21,c22,f20,f21,f22,z2⟩,hb0⟩:=hcut
 go_wp2
 first|go_returns|(refine bodyPost_ret (v:= .agg #[.int .i64 (valI a b c p r),.int .i64 (polI a b c p r q s),.int .i64 (valI a b c q s)]) (by simp [results,Tryz.results170,go_sem, *]) rfl ?_)
 refine ⟨rfl,?_⟩
 (repeat' first|with_reducible (first|exact Below.refl _ _|assumption|refine gr_alloc ?_ _|refine below_drewN ?_ _|refine below_drew ?_|refine gr_call ?_ VV|refine Below.setCell ?_ ?_ _)|go_size|omega|(simp;omega))
end Go.Proofs.YtobkcnmlmmhpoaaGreatDoor
