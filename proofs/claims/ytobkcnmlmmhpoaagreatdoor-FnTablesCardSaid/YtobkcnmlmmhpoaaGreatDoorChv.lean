/- The Jacobi symbol, the reference's side. The Jacobi symbol: syJacobi. Values of the characters, both sides. -/
import Derived.Test.YtobkcnmlmmhpoaaGreatDoorJac
import Derived.Test.YtobkcnmlmmhpoaaGreatDoorRule
set_option maxRecDepth 100000
set_option maxHeartbeats 80000000
namespace Go.Proofs.YtobkcnmlmmhpoaaGreatDoor
open Go.RowKit
set_option linter.unusedVariables false
set_option linter.unusedSimpArgs false
attribute [local go_sem] q2 q3 q4 q5 q6 q7 q8 q9 q10 q11 q12

theorem syTwo_a (n:Int) (w:World) (h0: -4611686018427387904≤n∧n≤4611686018427387904) (hodd:n%2=1):Calls Tryz.prog 168 #[.int .i64 n] w fun e w'=>e= .returned (.int .i64 (two8 n))∧w=w':=by
 obtain ⟨r,hr⟩: ∃r,n%8=r:=⟨_,rfl⟩
 have hE:Hid (two8 n=if r=1∨r=7 then 1 else -1):=hide (by unfold two8;rw [hr])
 have HM: ∀W,Calls Tryz.prog 77 #[.int .i64 n,.int .i64 8] W fun e w'=>e= .returned (.int .i64 r)∧W=w':=fun W=>by rw[←hr];exact nuMod_a n 8 W h0 Vn Vn
 have HM:=hide HM
 have hc:r=1∨r=7∨r=3∨r=5:=by omega
 clear hr
 rcases hc with rfl|rfl|rfl|rfl
 all_goals
  go_enter Tryz.func168,Tryz.ntmps168
  go_wp2_with (go_at_call 77;refine ((unhide HM) _).mono ?_;rintro e w' ⟨rfl,rfl⟩)
  go_ret
  exact ⟨by rw[unhide hE];rfl,rfl⟩

theorem sySucc_mod (T B S:Int) (w:World) (h0: -4611686018427387904≤T∧T≤4611686018427387904) (h1:1≤B∧B≤1000000) (hn:T<0∨B≤T):Calls Tryz.prog 187 #[.agg #[.int .i64 T,.int .i64 B,.int .i64 S]] w fun e w'=>e= .returned (.agg #[.int .i64 (T%B),.int .i64 B,.int .i64 S])∧Below w.heap.size w w':=by
 obtain ⟨r,hr⟩: ∃r,T%B=r:=⟨_,rfl⟩
 have HM: ∀W,Calls Tryz.prog 77 #[.int .i64 T,.int .i64 B] W fun e w'=>e= .returned (.int .i64 r)∧W=w':=fun W=>by rw[←hr];exact nuMod_a T B W h0 Vn Vn
 have HM:=hide HM
 have HI: ∀W,Calls Tryz.prog 48 #[.int .i64 (T),.int .i64 0,.int .i64 (B-1)] W fun e w'=>e= .returned (.bool false)∧W=w':=fun W=>by
  have h9:inB (T) 0 (B-1)=false:=by unfold inB;simp;omega
  rw[←h9];exact l1In_any _ _ _ W
 have HI:=hide HI
 rw[hr]
 clear hr
 go_enter Tryz.func187,Tryz.ntmps187
 go_wp2_with (first|(go_at_call 48;refine ((unhide HI) _).mono ?_;rintro e w' ⟨rfl,rfl⟩)|(go_at_call 77;refine ((unhide HM) _).mono ?_;rintro e w' ⟨rfl,rfl⟩))
 refine bodyPost_ret (v:= .agg #[.int .i64 r,.int .i64 B,.int .i64 S]) W2 rfl ?_
 exact ⟨rfl,byGG⟩
theorem sySucc_odd (T B S:Int) (w:World) (h1:1≤T∧T<B∧B≤1000000) (ho:T%2=1) (hs: -1≤S∧S≤1):Calls Tryz.prog 187 #[.agg #[.int .i64 T,.int .i64 B,.int .i64 S]] w fun e w'=>e= .returned (.agg #[.int .i64 B,.int .i64 T,.int .i64 (if T%4=3∧B%4=3 then -S else S)])∧Below w.heap.size w w':=by
 have HI: ∀W,Calls Tryz.prog 48 #[.int .i64 (T),.int .i64 0,.int .i64 (B-1)] W fun e w'=>e= .returned (.bool true)∧W=w':=fun W=>by
  have h9:inB (T) 0 (B-1)=true:=by unfold inB;simp;omega
  rw[←h9];exact l1In_any _ _ _ W
 have HI:=hide HI
 have h2:Int.tmod T 2=1:=by rw[Int.tmod_eq_emod_of_nonneg Vn];omega
 by_cases c4:T%4=3
 ·have h4:Int.tmod T 4=3:=by rw[Int.tmod_eq_emod_of_nonneg Vn];omega
  by_cases d4:B%4=3
  ·have h5:Int.tmod B 4=3:=by rw[Int.tmod_eq_emod_of_nonneg Vn];omega
   rw[if_pos ⟨c4,d4⟩]
   clear c4 d4
   go_enter Tryz.func187,Tryz.ntmps187
   go_wp2_with (go_at_call 48;refine ((unhide HI) _).mono ?_;rintro e w' ⟨rfl,rfl⟩)
   refine bodyPost_ret (v:= .agg #[.int .i64 B,.int .i64 T,.int .i64 (-S)]) W2 rfl ?_
   exact ⟨rfl,byGG⟩
  ·obtain ⟨r5,hr5⟩: ∃r:Int,Int.tmod B 4=r:=⟨_,rfl⟩
   have h5: ¬r5=3:=by rw[Int.tmod_eq_emod_of_nonneg Vn] at hr5;omega
   rw[if_neg (fun h=>d4 h.2)]
   clear c4 d4
   go_enter Tryz.func187,Tryz.ntmps187
   go_wp2_with (go_at_call 48;refine ((unhide HI) _).mono ?_;rintro e w' ⟨rfl,rfl⟩)
   refine bodyPost_ret (v:= .agg #[.int .i64 B,.int .i64 T,.int .i64 S]) W2 rfl ?_
   exact ⟨rfl,byGG⟩
 ·obtain ⟨r4,hr4⟩: ∃r:Int,Int.tmod T 4=r:=⟨_,rfl⟩
  have h4: ¬r4=3:=by rw[Int.tmod_eq_emod_of_nonneg Vn] at hr4;omega
  rw[if_neg (fun h=>c4 h.1)]
  clear c4
  go_enter Tryz.func187,Tryz.ntmps187
  go_wp2_with (go_at_call 48;refine ((unhide HI) _).mono ?_;rintro e w' ⟨rfl,rfl⟩)
  refine bodyPost_ret (v:= .agg #[.int .i64 B,.int .i64 T,.int .i64 S]) W2 rfl ?_
  exact ⟨rfl,byGG⟩
theorem sySucc_even (T B S:Int) (w:World) (h1:2≤T∧T<B∧B≤1000000) (he:T%2=0) (hb:B%2=1) (hs: -1≤S∧S≤1):Calls Tryz.prog 187 #[.agg #[.int .i64 T,.int .i64 B,.int .i64 S]] w fun e w'=>e= .returned (.agg #[.int .i64 (T / 2),.int .i64 B,.int .i64 (S*two8 B)])∧Below w.heap.size w w':=by
 have HI: ∀W,Calls Tryz.prog 48 #[.int .i64 (T),.int .i64 0,.int .i64 (B-1)] W fun e w'=>e= .returned (.bool true)∧W=w':=fun W=>by
  have h9:inB (T) 0 (B-1)=true:=by unfold inB;simp;omega
  rw[←h9];exact l1In_any _ _ _ W
 have HI:=hide HI
 have h2:Int.tmod T 2=0:=by rw[Int.tmod_eq_emod_of_nonneg Vn];omega
 obtain ⟨u,hu⟩: ∃u,T / 2=u:=⟨_,rfl⟩
 have h3:Int.tdiv T 2=u:=by rw[Int.tdiv_eq_ediv_of_nonneg Vn];omega
 obtain ⟨y,hy⟩: ∃y,two8 B=y:=⟨_,rfl⟩
 have hy1:=two8_pm B
 rw[hy] at hy1
 have HY: ∀W,Calls Tryz.prog 168 #[.int .i64 B] W fun e w'=>e= .returned (.int .i64 y)∧W=w':=fun W=>by rw[←hy];exact syTwo_a B W Vn hb
 have HY:=hide HY
 obtain ⟨z,hz⟩: ∃z,S*y=z:=⟨_,rfl⟩
 have hz1: -1≤z∧z≤1:=by rw[←hz];rcases hy1 with rfl|rfl<;>omega
 have hub:1≤u∧u≤1000000:=by omega
 rw[hu,hy,hz]
 clear hu hy hy1 he hb
 go_enter Tryz.func187,Tryz.ntmps187
 go_upto_region 10 with (go_at_call 48;refine ((unhide HI) _).mono ?_;rintro e w' ⟨rfl,rfl⟩)
 skip
 refine region_n3 Vw (fun j=> #[48,49,50,51,52,53,54,54].getD j 0) (fun j=>Kd.ok ((fun j=>match j with|0=>Kd.val (.pointer (some ⟨w.heap.size,2,none⟩))|1=>Kd.val (.int .i64 S)|2=>Kd.val (.pointer (some ⟨w.heap.size,1,none⟩))|3=>Kd.val (.int .i64 B)|4=>Kd.val (.int .i64 y)|5=>Kd.val (.int .i64 z)|6=>Kd.val (.pointer (some ⟨w.heap.size,2,none⟩))|7=>Kd.old (w.heap.size+1+1) [(⟨w.heap.size,2,none⟩,.int .i64 z)]|_=>Kd.any:Nat→Kd) j)) (Sy w (w.heap.size+1+1) [(⟨w.heap.size,0,none⟩,.int .i64 u),(⟨w.heap.size,1,none⟩,.int .i64 B),(⟨w.heap.size+1,0,none⟩,.int .i64 0),(⟨w.heap.size+1,1,none⟩,.int .i64 0),(⟨w.heap.size+1,2,none⟩,.int .i64 0)] [⟨w.heap.size,0,none⟩,⟨w.heap.size,1,none⟩,⟨w.heap.size,2,none⟩,⟨w.heap.size+1,0,none⟩,⟨w.heap.size+1,1,none⟩,⟨w.heap.size+1,2,none⟩]) (fun j wq9=>Kd.ok ((fun j=>match j with|0=>Kd.any|1=>Kd.any|2=>Kd.any|3=>Kd.any|4=>Kd.any|5=>Kd.any|6=>Kd.any|7=>Kd.old (w.heap.size+1+1) [(⟨w.heap.size,2,none⟩,.int .i64 S)]|_=>Kd.any:Nat→Kd) j) wq9 undef) (fun _=>true) Vw ?_ (hrun_none Vw) (fun i o ho h=>by cases h) ?_ ?_ ?_ ?_
 ·intro j hj
  have hj2:j<8:=hj
  have: ∀j,j<8→(#[48,49,50,51,52,53,54,54]:Array Nat).getD j 0<56:=by decide
  exact this j hj2
 ·refine Sy.drew (Sy.mk_of ?_ ?_ ?_ ?_)
  ·first|rfl|(simp;done)|(simp;omega)
  ·intro c hc
   simp only[List.mem_cons,List.not_mem_nil,or_false] at hc
   rcases hc with rfl|rfl|rfl|rfl|rfl<;>exact byCT
  ·intro p hp
   simp only[List.mem_cons,List.not_mem_nil,or_false] at hp
   rcases hp with rfl|rfl|rfl|rfl|rfl|rfl<;>exact ⟨by first|((repeat' with_reducible (first|refine ex_set _ ?_|refine ex_al _ ?_|exact ⟨_,VV⟩));done)|first|exact ⟨_,VV⟩|assumption|(go_simp;done)|(go_simp;exact ⟨_,rfl⟩),by first|((repeat' first|with_reducible (first|assumption|refine frz_al _ ?_ ?_|refine frz_set _ ?_)|omega|(simp;omega));done)|assumption|(go_simp;done)⟩
  ·(repeat' first|with_reducible (first|exact Below.refl _ _|assumption|refine gr_alloc ?_ _|refine below_drewN ?_ _|refine below_drew ?_|refine gr_call ?_ VV|refine Below.setCell ?_ ?_ _)|go_size|omega|(simp;omega))
 ·intro j hj
  match j,hj with
  |0,_=>trivial
  |1,_=>trivial
  |2,_=>trivial
  |3,_=>trivial
  |4,_=>trivial
  |5,_=>trivial
  |6,_=>trivial
  |7,_=>
   intro c hc
   simp only[List.mem_cons,List.not_mem_nil,or_false] at hc
   rcases hc with rfl<;>exact ⟨byCT,Vr⟩
  |j+8,hj=>exact absurd (show j+8<8 from hj) Vn
 ·skip
  refine ⟨?r1x0,?r1x1,?r1x2,?r1x3,?r1x4,?r1x5,?r1x6,?r1x7,trivial⟩
  all_goals intro _ aq wx Kq hf hS hdep ev1 ev2 _ hpr hK
  case' r1x0=>
   have F1:aq.eval (.tmp 1)= .pointer (some ⟨w.heap.size,0,none⟩):=hf 1
  case' r1x1=>
   have D0:aq.eval (.tmp 48)=_:=hdep 0
   have c0:=(hpr 7 VZ (⟨w.heap.size,2,none⟩,.int .i64 S) Vs).1
  case' r1x2=>
   have F1:aq.eval (.tmp 1)= .pointer (some ⟨w.heap.size,0,none⟩):=hf 1
  case' r1x3=>
   have D2:aq.eval (.tmp 50)=_:=hdep 2
   have c0:=hS.cells (⟨w.heap.size,1,none⟩,.int .i64 B) Vs
  case' r1x4=>
   have D3:aq.eval (.tmp 51)=_:=hdep 3
  case' r1x5=>
   have D1:aq.eval (.tmp 49)=_:=hdep 1
   have D4:aq.eval (.tmp 52)=_:=hdep 4
  case' r1x6=>
   have F1:aq.eval (.tmp 1)= .pointer (some ⟨w.heap.size,0,none⟩):=hf 1
  case' r1x7=>
   have D5:aq.eval (.tmp 53)=_:=hdep 5
   have D6:aq.eval (.tmp 54)=_:=hdep 6
   obtain ⟨⟨vx0,cx0⟩,cf0⟩:=hS.free ⟨w.heap.size,2,none⟩ Vs
  all_goals (clear hf hdep hpr;unfold Oper.wp;generalize Act.eval _=ev at *;go_simp)
  case r1x4=>
   refine (((unhide HY) _)).mono ?_
   rintro e w2 ⟨rfl,rfl⟩
   refine hK _ _ (hS.call (below_refl_self _)) ?_ (fun j u _ h=>Kd.ok_below (below_refl_self _) h) (fun j _ h=>Kd.ok_below (below_refl_self _) h)
   rw[if_pos VH]
   show (_:Value)=_
   first|rfl|(refine congrArg (Value.int .i64) ?_;first|rfl|exact int_in Vn|exact quo_in Vn Vn Vn|exact rem_in Vn Vn|omega)|(simp;done)|(simp [*];done)
  case r1x7=>
   refine hK undef (setAll w.heap.size 2 [.int .i64 z] wx) (Sy.setAll Vr (fa (far_off (show 0<2∨2+1≤0 by decide)) (fa (far_off (show 1<2∨2+1≤1 by decide)) (fa (far_blk Vm) (fa (far_blk Vm) (fa (far_blk Vm) (fa0)))))) hS) ?_ (fun j u hj h=> ?_) (fun j hj h=> ?_)
   ·rw [if_neg VA]
    exact fa ⟨setAll_at w.heap.size [.int .i64 z] 2 wx 0 (show 0<1 by decide) ⟨vx0,cx0⟩,Vr⟩ (fa0)
   ·match j,hj with
    |0,hj|1,hj|2,hj|3,hj|4,hj|5,hj|6,hj=>exact (show (u:Value)=_ from h)
    |7,hj=>exact absurd rfl hj
    |j+8,_=>trivial
   ·match j,hj with
    |0,hj|1,hj|2,hj|3,hj|4,hj|5,hj|6,hj=>trivial
    |7,hj=>exact absurd rfl hj
    |j+8,_=>exact h
  all_goals (refine hK _ _ hS ?_ (fun j u _ h=>h) (fun j _ h=>h);rw [if_pos VH];show (_:Value)=_;(first|rfl|(refine congrArg (Value.int .i64) ?_;first|rfl|exact int_in Vn|exact quo_in Vn Vn Vn|exact rem_in Vn Vn|omega)|(simp;done)|(simp [*];done)))
 ·intro aq wx hd hw hf hS hg
  have haq:aq=⟨#[tau aq 0,tau aq 1,tau aq 2,tau aq 3,tau aq 4,tau aq 5,tau aq 6,tau aq 7,tau aq 8,tau aq 9,tau aq 10,tau aq 11,tau aq 12,tau aq 13,tau aq 14,tau aq 15,tau aq 16,tau aq 17,tau aq 18,tau aq 19,tau aq 20,tau aq 21,tau aq 22,tau aq 23,tau aq 24,tau aq 25,tau aq 26,tau aq 27,tau aq 28,tau aq 29,tau aq 30,tau aq 31,tau aq 32,tau aq 33,tau aq 34,tau aq 35,tau aq 36,tau aq 37,tau aq 38,tau aq 39,tau aq 40,tau aq 41,tau aq 42,tau aq 43,tau aq 44,tau aq 45,tau aq 46,tau aq 47,tau aq 48,tau aq 49,tau aq 50,tau aq 51,tau aq 52,tau aq 53,tau aq 54,tau aq 55],[]⟩:=by
   obtain ⟨tq,dq⟩:=aq
   have h5:=arr_eq (show tq.size=56 from hw)
   have h6:dq= []:=hd
   subst h6
   exact congrArg (fun z=>Act.mk z []) h5
  rw[haq,hf 0,hf 1,hf 2,hf 3,hf 4,hf 5,hf 6,hf 7,hf 8,hf 9,hf 10,hf 11,hf 12,hf 13,hf 14,hf 15,hf 16,hf 17,hf 18,hf 19,hf 20,hf 21,hf 22,hf 23,hf 24,hf 25,hf 26,hf 27,hf 28,hf 29,hf 30,hf 31,hf 32,hf 33,hf 34,hf 35,hf 36,hf 37,hf 38,hf 39,hf 40,hf 41,hf 42,hf 43,hf 44,hf 45,hf 46,hf 47,hf 55]
  clear haq hf hd hw
  try dsimp only
  have c00:wx.cell? ⟨w.heap.size,0,none⟩=some (.int .i64 u):=hS.cells (⟨w.heap.size,0,none⟩,.int .i64 u) Vs
  have f00:wx.frozen? ⟨w.heap.size,0,none⟩=false:=(hS.free ⟨w.heap.size,0,none⟩ Vs).2
  have c01:wx.cell? ⟨w.heap.size,1,none⟩=some (.int .i64 B):=hS.cells (⟨w.heap.size,1,none⟩,.int .i64 B) Vs
  have f01:wx.frozen? ⟨w.heap.size,1,none⟩=false:=(hS.free ⟨w.heap.size,1,none⟩ Vs).2
  have c02:wx.cell? ⟨w.heap.size,2,none⟩=some (.int .i64 z):=(hg 7 VA (⟨w.heap.size,2,none⟩,.int .i64 z) Vs).1
  have f02:wx.frozen? ⟨w.heap.size,2,none⟩=false:=(hS.free ⟨w.heap.size,2,none⟩ Vs).2
  have c10:wx.cell? ⟨w.heap.size+1,0,none⟩=some (.int .i64 0):=hS.cells (⟨w.heap.size+1,0,none⟩,.int .i64 0) Vs
  have f10:wx.frozen? ⟨w.heap.size+1,0,none⟩=false:=(hS.free ⟨w.heap.size+1,0,none⟩ Vs).2
  have c11:wx.cell? ⟨w.heap.size+1,1,none⟩=some (.int .i64 0):=hS.cells (⟨w.heap.size+1,1,none⟩,.int .i64 0) Vs
  have f11:wx.frozen? ⟨w.heap.size+1,1,none⟩=false:=(hS.free ⟨w.heap.size+1,1,none⟩ Vs).2
  have c12:wx.cell? ⟨w.heap.size+1,2,none⟩=some (.int .i64 0):=hS.cells (⟨w.heap.size+1,2,none⟩,.int .i64 0) Vs
  have f12:wx.frozen? ⟨w.heap.size+1,2,none⟩=false:=(hS.free ⟨w.heap.size+1,2,none⟩ Vs).2
  have hb0:Below w.heap.size w wx:=hS.below
  have z0:=World.block_lt_of_cell? _ _ c00
  change w.heap.size<wx.heap.size at z0
  have z1:=World.block_lt_of_cell? _ _ c10
  change w.heap.size+1<wx.heap.size at z1
  clear hS hg
  unfold tau
  go_wp2
  refine bodyPost_ret (v:= .agg #[.int .i64 u,.int .i64 B,.int .i64 z]) W2 rfl ?_
  exact ⟨rfl,by first|exact hb0|exact hb0.trans byGG|(repeat' first|with_reducible (first|exact Below.refl _ _|assumption|refine gr_alloc ?_ _|refine below_drewN ?_ _|refine below_drew ?_|refine gr_call ?_ VV|refine Below.setCell ?_ ?_ _)|go_size|omega|(simp;omega))⟩
end Go.Proofs.YtobkcnmlmmhpoaaGreatDoor
namespace Go.Proofs.YtobkcnmlmmhpoaaGreatDoor
open Go.RowKit
set_option linter.unusedVariables false
set_option linter.unusedSimpArgs false
attribute [local go_sem] q2 q3 q4 q5 q6 q7 q8 q9 q10 q11 q12

def muJ (T B:Int):Nat:=if 0≤T∧T<B then 2*T.toNat else 2*B.toNat-1
def endB (T:Int):Bool:=decide (T=0∨T=1)
theorem syEnd_a (T B S:Int) (w:World):Calls Tryz.prog 186 #[.agg #[.int .i64 T,.int .i64 B,.int .i64 S]] w fun e w'=>e= .returned (.bool (endB T))∧Below w.heap.size w w':=by
 by_cases c0:T=0
 ·subst c0
  go_enter Tryz.func186,Tryz.ntmps186
  go_wp2
  go_ret
  exact ⟨rfl,byGG⟩
 ·by_cases c1:T=1
  ·subst c1
   go_enter Tryz.func186,Tryz.ntmps186
   go_wp2
   go_ret
   exact ⟨rfl,byGG⟩
  ·have HV:Hid (endB T=false):=hide (by unfold endB;simp [c0,c1])
   have e0:(T==0)=false:=by simpa using c0
   have e1:(T==1)=false:=by simpa using c1
   go_enter Tryz.func186,Tryz.ntmps186
   go_wp2
   go_ret
   exact ⟨by rw[unhide HV];rfl,byGG⟩
theorem jac_mod {T B:Int} (h:1≤B):(T%B%B).toNat=(T%B).toNat:=by rw[Int.emod_emod_of_dvd T (Int.dvd_refl B)]
theorem jac_even {T B:Int} (h:2≤T∧T<B) (he:T%2=0):jcb (T%B).toNat B.toNat=two8 B*jcb (T / 2%B).toNat B.toNat:=by
 rw[Int.emod_eq_of_lt Vn h.2,Int.emod_eq_of_lt Vn Vn,jcb_even Vn Vn,show (T.toNat / 2)=(T / 2).toNat by omega,show ((B.toNat:Nat):Int)=B by omega]
theorem jac_odd {T B:Int} (h:1≤T∧T<B) (ho:T%2=1):jcb (T%B).toNat B.toNat=(if T%4=3∧B%4=3 then -1 else 1)*jcb (B%T).toNat T.toNat:=by
 rw[Int.emod_eq_of_lt Vn h.2,jcb_odd Vn,Int.toNat_emod Vn Vn]
 congr 1
 unfold sg4
 have e:(T.toNat%4=3∧B.toNat%4=3)↔(T%4=3∧B%4=3):=by constructor<;>intro h<;>omega
 simp only[e]
theorem syJacobi_a (a:Int) (N:Nat) (w:World) (h0: -4611686018427387904≤a∧a≤4611686018427387904) (h1:1≤N) (h2:N≤1000000) (hodd:N%2=1):
  Calls Tryz.prog 167 #[.int .i64 a,.int .i64 (N:Int)] w fun e w'=>e= .returned (.int .i64 (jcb (a%(N:Int)).toNat N))∧Below w.heap.size w w':=by
 obtain ⟨R,hR⟩: ∃R,jcb (a%(N:Int)).toNat N=R:=⟨_,rfl⟩
 have HR0:Hid (1*jcb (a%(N:Int)).toNat (N:Int).toNat=R):=hide (by rw[←hR,Int.one_mul];rfl)
 have HRR:=hide hR
 clear hR
 go_enter Tryz.func167,Tryz.ntmps167
 go_wp2
 go_loopg [] (muJ a N) (fun g wr=> ∃(T B S:Int),g=muJ T B∧(-4611686018427387904≤T∧T≤4611686018427387904)∧(1≤B∧B≤1000000)∧B%2=1∧(S=1∨S= -1)∧Hid (S*jcb (T%B).toNat B.toNat=R)∧wr.cell? ⟨w.heap.size,0,none⟩=some (.int .i64 T)∧wr.frozen? ⟨w.heap.size,0,none⟩=false∧wr.cell? ⟨w.heap.size,1,none⟩=some (.int .i64 B)∧wr.frozen? ⟨w.heap.size,1,none⟩=false∧wr.cell? ⟨w.heap.size,2,none⟩=some (.int .i64 S)∧wr.frozen? ⟨w.heap.size,2,none⟩=false∧Below w.heap.size w wr)
 case atStart=>exact ⟨a,N,1,rfl,h0,Vn,Vn,.inl rfl,HR0,byCT,byFT,byCT,byFT,byCT,byFT,byGG⟩
 case round=>
  obtain ⟨T,B,S,rfl,hT,hB,hBo,hS,hJ,c0,f0,c1,f1,c2,f2,hb⟩:=hrel
  obtain ⟨wl,rfl⟩: ∃wl:World,wl=wr:=⟨_,rfl⟩
  have hz:=hb.size
  have hbz:=World.block_lt_of_cell? _ _ c0
  change w.heap.size<wl.heap.size at hbz
  have hS1: -1≤S∧S≤1:=by omega
  have HS:=hide hS
  by_cases k0:T=0
  ·subst k0
   by_cases kb:B=1
   ·subst kb
    have HV:Hid (R=S):=hide (by rw[←unhide hJ];simp [jcb_zero])
    go_wp2_with fail
    refine (syEnd_a 0 1 S _).mono ?_
    rintro en w1 ⟨rfl,hb1⟩
    have tq0:=Wi3.c hb1 w.heap.size 0 1 S
    try clear c00 c01 c02 f00 f01 f02
    obtain ⟨c00,c01,c02,f00,f01,f02,z0⟩:=tq0
    go_wp2
    go_ret
    exact ⟨by rw[unhide HRR,unhide HV];rfl,byGG⟩
   ·have HV:Hid (R=0):=hide (by rw[←unhide hJ,Int.zero_emod];show S*jcb 0 B.toNat=0;rw [jcb_zero,if_neg Vn,Int.mul_zero])
    have kb2:1<B:=by omega
    go_wp2_with fail
    refine (syEnd_a 0 B S _).mono ?_
    rintro en w1 ⟨rfl,hb1⟩
    have tq0:=Wi3.c hb1 w.heap.size 0 B S
    try clear c00 c01 c02 f00 f01 f02
    obtain ⟨c00,c01,c02,f00,f01,f02,z0⟩:=tq0
    go_wp2
    go_ret
    exact ⟨by rw[unhide HRR,unhide HV];rfl,byGG⟩
  ·by_cases k1:T=1
   ·subst k1
    have HV:Hid (R=S):=hide (by
     rw[←unhide hJ]
     by_cases kb:B=1
     ·subst kb;simp [jcb_zero]
     ·rw [Int.emod_eq_of_lt Vn Vn];show S*jcb 1 B.toNat=S;rw [jcb_one,Int.mul_one])
    go_wp2_with fail
    refine (syEnd_a 1 B S _).mono ?_
    rintro en w1 ⟨rfl,hb1⟩
    have tq0:=Wi3.c hb1 w.heap.size 1 B S
    try clear c00 c01 c02 f00 f01 f02
    obtain ⟨c00,c01,c02,f00,f01,f02,z0⟩:=tq0
    go_wp2
    go_ret
    exact ⟨by rw[unhide HRR,unhide HV];rfl,byGG⟩
   ·by_cases kn:T<0∨B≤T
    ·have q1:=Int.emod_nonneg T (show B≠0 by omega)
     have q2:=Int.emod_lt_of_pos T (show 0<B by omega)

     have he:endB T=false:=by unfold endB;simp;omega
     have HEN:=hide he
     go_wp2_with fail
     refine (syEnd_a T B S _).mono ?_
     rintro en w1 ⟨rfl,hb1⟩
     have tq0:=Wi3.c hb1 w.heap.size T B S
     try clear c00 c01 c02 f00 f01 f02
     obtain ⟨c00,c01,c02,f00,f01,f02,z0⟩:=tq0
     rw[unhide HEN]
     have hg1:Below w.heap.size w w1:=hb.trans (hb1.mono hz)
     go_wp2_with fail
     refine (sySucc_mod T B S _ hT hB kn).mono ?_
     rintro en w2 ⟨rfl,hb2⟩
     have tq0:=Wi3.c hb2 w.heap.size T B S
     try clear c00 c01 c02 f00 f01 f02
     obtain ⟨c00,c01,c02,f00,f01,f02,z0⟩:=tq0
     have hg2:Below w.heap.size w w2:=hg1.trans (hb2.mono hg1.size)
     have HJ2:Hid (S*jcb ((T%B)%B).toNat (B).toNat=R):=hide (by rw[jac_mod hB.1];exact unhide hJ)
     go_wp2
     go_roundg (muJ (T%B) B)
     case rel=>exact ⟨(T%B),B,S,rfl,Vn,Vn,Vn,by first|assumption|omega,HJ2,byCT,byFT,byCT,byFT,byCT,byFT,byGG⟩
     case measure=>(unfold muJ;rw [if_pos ⟨q1,q2⟩,if_neg Vn];omega)
    ·by_cases ke:T%2=0
     ·have hS2:=pm_mul hS (two8_pm B)
      have he:endB T=false:=by unfold endB;simp;omega
      have HEN:=hide he
      go_wp2_with fail
      refine (syEnd_a T B S _).mono ?_
      rintro en w1 ⟨rfl,hb1⟩
      have tq0:=Wi3.c hb1 w.heap.size T B S
      try clear c00 c01 c02 f00 f01 f02
      obtain ⟨c00,c01,c02,f00,f01,f02,z0⟩:=tq0
      rw[unhide HEN]
      have hg1:Below w.heap.size w w1:=hb.trans (hb1.mono hz)
      go_wp2_with fail
      refine (sySucc_even T B S _ Vn ke hBo hS1).mono ?_
      rintro en w2 ⟨rfl,hb2⟩
      have tq0:=Wi3.c hb2 w.heap.size T B S
      try clear c00 c01 c02 f00 f01 f02
      obtain ⟨c00,c01,c02,f00,f01,f02,z0⟩:=tq0
      have hg2:Below w.heap.size w w2:=hg1.trans (hb2.mono hg1.size)
      have HJ2:Hid ((S*two8 B)*jcb ((T / 2)%B).toNat (B).toNat=R):=hide (by rw[Int.mul_assoc,←jac_even Vn ke];exact unhide hJ)
      go_wp2
      go_roundg (muJ (T / 2) B)
      case rel=>exact ⟨(T / 2),B,(S*two8 B),rfl,Vn,Vn,Vn,by first|assumption|omega,HJ2,byCT,byFT,byCT,byFT,byCT,byFT,byGG⟩
      case measure=>(unfold muJ;rw [if_pos Vn,if_pos Vn];omega)
     ·obtain ⟨S3,hS3e⟩: ∃q,(if T%4=3∧B%4=3 then -S else S)=q:=⟨_,rfl⟩
      have hS3:S3=1∨S3= -1:=by rw[←hS3e];split<;>omega
      have HJ3:Hid (S3*jcb (B%T).toNat T.toNat=R):=hide (by
       have h9:=unhide hJ
       rw[jac_odd Vn Vn] at h9
       rw[←h9,←hS3e]
       by_cases hc:T%4=3∧B%4=3
       ·rw [if_pos hc,if_pos hc,Int.neg_mul,Int.neg_mul,Int.one_mul,Int.mul_neg]
       ·rw [if_neg hc,if_neg hc,Int.one_mul])
      have HSO: ∀W,Calls Tryz.prog 187 #[.agg #[.int .i64 T,.int .i64 B,.int .i64 S]] W fun e w'=>e= .returned (.agg #[.int .i64 B,.int .i64 T,.int .i64 S3])∧Below W.heap.size W w':=fun W=>by rw[←hS3e];exact sySucc_odd T B S W Vn Vn hS1
      have HSO:=hide HSO
      clear hS3e
      have he:endB T=false:=by unfold endB;simp;omega
      have HEN:=hide he
      go_wp2_with fail
      refine (syEnd_a T B S _).mono ?_
      rintro en w1 ⟨rfl,hb1⟩
      have tq0:=Wi3.c hb1 w.heap.size T B S
      try clear c00 c01 c02 f00 f01 f02
      obtain ⟨c00,c01,c02,f00,f01,f02,z0⟩:=tq0
      rw[unhide HEN]
      have hg1:Below w.heap.size w w1:=hb.trans (hb1.mono hz)
      go_wp2_with fail
      refine ((unhide HSO) _).mono ?_
      rintro en w2 ⟨rfl,hb2⟩
      have tq0:=Wi3.c hb2 w.heap.size T B S
      try clear c00 c01 c02 f00 f01 f02
      obtain ⟨c00,c01,c02,f00,f01,f02,z0⟩:=tq0
      have hg2:Below w.heap.size w w2:=hg1.trans (hb2.mono hg1.size)
      have HJ2:Hid (S3*jcb (B%T).toNat (T).toNat=R):=HJ3
      go_wp2
      go_roundg (muJ B T)
      case rel=>exact ⟨B,T,S3,rfl,Vn,Vn,Vn,by first|assumption|omega,HJ2,byCT,byFT,byCT,byFT,byCT,byFT,byGG⟩
      case measure=>(unfold muJ;rw [if_neg Vn,if_pos Vn];omega)
end Go.Proofs.YtobkcnmlmmhpoaaGreatDoor
namespace Go.Proofs.YtobkcnmlmmhpoaaGreatDoor
open Go.RowKit
set_option linter.unusedVariables false
set_option linter.unusedSimpArgs false
attribute [local go_sem] q2 q3 q4 q5 q6 q7 q8 q9 q10 q11 q12

def chv (k p n:Int):Int:=if k=1 then jcb (n%p).toNat p.toNat else if k=2 then 2-n%4 else if k=3 then two8 n else (2-n%4)*two8 n
def ChOk (k p:Int):Prop:=(k=1∧ ∃P:Nat,p=(P:Int)∧1≤P∧P≤1000000∧P%2=1)∨k=2∨k=3∨k=4
theorem chP_ok {ps:List Nat} (h: ∀p ∈ ps,Pr p∧p≤2000): ∀k,k≤ps.length→ ∀z ∈ chP ps k,ChOk z.1 z.2
 |0,_=>fun z hz=>by cases hz
 |k+1,hk=>fun z hz=>by
  have hm:=gdm (l:=ps) (i:=k) (d:=0) Vn
  rw[chP] at hz
  split at hz
  ·rename_i h2
   rw[List.mem_append] at hz
   rcases hz with hz|hz
   ·exact chP_ok h k Vn z hz
   ·obtain rfl:=List.mem_singleton.1 hz
    obtain ⟨q1,q2⟩:=h _ hm
    refine .inl ⟨rfl,ps.getD k 0,rfl,Vn,Vn,?_⟩
    rcases Nat.mod_two_eq_zero_or_one (ps.getD k 0) with e|e
    ·rcases q1.2 2 (Nat.dvd_of_mod_eq_zero e) with r|r<;>omega
    ·exact e
  ·exact chP_ok h k Vn z hz
theorem chL_ok {d:Int} (h0: -2000≤d) (h1:d≤ -3): ∀z ∈ chL d,ChOk z.1 z.2:=by
 intro z hz
 unfold chL at hz
 rw[List.mem_append] at hz
 rcases hz with hz|hz
 ·have hp:=ps_ok (n:=(-d).toNat) Vn
  exact chP_ok (fun p hp2=>⟨hp.pr p hp2,by have:=Nat.le_of_dvd Vn (hp.dv p hp2);omega⟩) _ (Nat.le_refl _) z hz
 ·unfold chT at hz
  right
  (repeat' split at hz)<;>simp at hz<;>first|(rcases hz with rfl|rfl<;>simp;done)|(subst hz;simp)

theorem value_a (k p n:Int) (w:World) (hc:ChOk k p) (h0:1≤n) (h1:n≤1000000000000) (ho:n%2=1):
  Calls Tryz.prog 130 #[.agg #[.int .i64 k,.int .i64 p],.int .i64 n] w fun e w'=>e= .returned (.int .i64 (chv k p n))∧Below w.heap.size w w':=by
 obtain ⟨v,hv⟩: ∃v,chv k p n=v:=⟨_,rfl⟩
 rw[hv]
 rcases hc with ⟨rfl,P,rfl,p1,p2,p3⟩|hc
 ·have HJ: ∀W,Calls Tryz.prog 160 #[.int .i64 n,.int .i64 (P:Int)] W fun e w'=>e= .returned (.int .i64 v)∧W=w':=fun W=>by
   have:v=jcb (n%(P:Int)).toNat P:=by rw[←hv];rfl
   rw[this];exact jacobi_a n P W Vn p1 p2
  have HJ:=hide HJ
  clear hv
  go_enter Tryz.func130,Tryz.ntmps130
  go_wp2_with (go_at_call 160;refine ((unhide HJ) _).mono ?_;rintro e w' ⟨rfl,rfl⟩)
  go_ret
  exact ⟨rfl,byGG⟩
 ·have t2:Int.tmod n 2=1:=by rw[Int.tmod_eq_emod_of_nonneg Vn];exact ho
  obtain ⟨r,hr⟩: ∃r,n%4=r:=⟨_,rfl⟩
  have hr4:r=1∨r=3:=by omega
  obtain ⟨t,ht⟩: ∃t,two8 n=t:=⟨_,rfl⟩
  have ht1:t=1∨t= -1:=by rw[←ht];exact two8_pm n
  have HM: ∀W,Calls Tryz.prog 53 #[.int .i64 n,.int .i64 4] W fun e w'=>e= .returned (.int .i64 r)∧W=w':=fun W=>by rw[←hr];exact mod_a n 4 W Vn Vn Vn
  have HT: ∀W,Calls Tryz.prog 161 #[.int .i64 n] W fun e w'=>e= .returned (.int .i64 t)∧W=w':=fun W=>by rw[←ht];exact symbolOfTwo_a n W Vn
  have HM:=hide HM
  have HT:=hide HT
  rcases hc with rfl|rfl|rfl
  ·have HV:Hid (v=2-r):=hide (by rw[←hv,←hr];rfl)
   clear hv hr ht
   rcases hr4 with rfl|rfl<;>rcases ht1 with rfl|rfl
   all_goals
    go_enter Tryz.func130,Tryz.ntmps130
    go_wp2_with (first|(go_at_call 53;refine ((unhide HM) _).mono ?_;rintro e w' ⟨rfl,rfl⟩)|(go_at_call 161;refine ((unhide HT) _).mono ?_;rintro e w' ⟨rfl,rfl⟩))
    go_ret
    exact ⟨by rw[unhide HV];rfl,byGG⟩
  ·have HV:Hid (v=t):=hide (by rw[←hv,←ht];rfl)
   clear hv hr ht
   rcases hr4 with rfl|rfl<;>rcases ht1 with rfl|rfl
   all_goals
    go_enter Tryz.func130,Tryz.ntmps130
    go_wp2_with (first|(go_at_call 53;refine ((unhide HM) _).mono ?_;rintro e w' ⟨rfl,rfl⟩)|(go_at_call 161;refine ((unhide HT) _).mono ?_;rintro e w' ⟨rfl,rfl⟩))
    go_ret
    exact ⟨by rw[unhide HV];rfl,byGG⟩
  ·have HV:Hid (v=(2-r)*t):=hide (by rw[←hv,←hr,←ht];rfl)
   clear hv hr ht
   rcases hr4 with rfl|rfl<;>rcases ht1 with rfl|rfl
   all_goals
    go_enter Tryz.func130,Tryz.ntmps130
    go_wp2_with (first|(go_at_call 53;refine ((unhide HM) _).mono ?_;rintro e w' ⟨rfl,rfl⟩)|(go_at_call 161;refine ((unhide HT) _).mono ?_;rintro e w' ⟨rfl,rfl⟩))
    go_ret
    exact ⟨by rw[unhide HV];rfl,byGG⟩

theorem chAt_a (k p n:Int) (w:World) (hc:ChOk k p) (h0:1≤n) (h1:n≤1000000000000) (ho:n%2=1):
  Calls Tryz.prog 137 #[.agg #[.int .i64 k,.int .i64 p],.int .i64 n] w fun e w'=>e= .returned (.int .i64 (chv k p n))∧Below w.heap.size w w':=by
 obtain ⟨v,hv⟩: ∃v,chv k p n=v:=⟨_,rfl⟩
 rw[hv]
 rcases hc with ⟨rfl,P,rfl,p1,p2,p3⟩|hc
 ·have HJ: ∀W,Calls Tryz.prog 167 #[.int .i64 n,.int .i64 (P:Int)] W fun e w'=>e= .returned (.int .i64 v)∧Below W.heap.size W w':=fun W=>by
   have:v=jcb (n%(P:Int)).toNat P:=by rw[←hv];rfl
   rw[this];exact syJacobi_a n P W Vn p1 p2 p3
  have HJ:=hide HJ
  clear hv
  go_enter Tryz.func137,Tryz.ntmps137
  go_wp2_with (go_at_call 167;refine ((unhide HJ) _).mono ?_;rintro e w2 ⟨rfl,hb2⟩)
  go_ret
  exact ⟨rfl,byGG⟩
 ·have t2:Int.tmod n 2=1:=by rw[Int.tmod_eq_emod_of_nonneg Vn];exact ho
  obtain ⟨r,hr⟩: ∃r,n%4=r:=⟨_,rfl⟩
  have hr4:r=1∨r=3:=by omega
  obtain ⟨t,ht⟩: ∃t,two8 n=t:=⟨_,rfl⟩
  have ht1:t=1∨t= -1:=by rw[←ht];exact two8_pm n
  have HM: ∀W,Calls Tryz.prog 77 #[.int .i64 n,.int .i64 4] W fun e w'=>e= .returned (.int .i64 r)∧W=w':=fun W=>by rw[←hr];exact nuMod_a n 4 W Vn Vn Vn
  have HT: ∀W,Calls Tryz.prog 168 #[.int .i64 n] W fun e w'=>e= .returned (.int .i64 t)∧W=w':=fun W=>by rw[←ht];exact syTwo_a n W Vn ho
  have HM:=hide HM
  have HT:=hide HT
  rcases hc with rfl|rfl|rfl
  ·have HV:Hid (v=2-r):=hide (by rw[←hv,←hr];rfl)
   clear hv hr ht
   rcases hr4 with rfl|rfl<;>rcases ht1 with rfl|rfl
   all_goals
    go_enter Tryz.func137,Tryz.ntmps137
    go_wp2_with (first|(go_at_call 77;refine ((unhide HM) _).mono ?_;rintro e w' ⟨rfl,rfl⟩)|(go_at_call 168;refine ((unhide HT) _).mono ?_;rintro e w' ⟨rfl,rfl⟩))
    go_ret
    exact ⟨by rw[unhide HV];rfl,byGG⟩
  ·have HV:Hid (v=t):=hide (by rw[←hv,←ht];rfl)
   clear hv hr ht
   rcases hr4 with rfl|rfl<;>rcases ht1 with rfl|rfl
   all_goals
    go_enter Tryz.func137,Tryz.ntmps137
    go_wp2_with (first|(go_at_call 77;refine ((unhide HM) _).mono ?_;rintro e w' ⟨rfl,rfl⟩)|(go_at_call 168;refine ((unhide HT) _).mono ?_;rintro e w' ⟨rfl,rfl⟩))
    go_ret
    exact ⟨by rw[unhide HV];rfl,byGG⟩
  ·have HV:Hid (v=(2-r)*t):=hide (by rw[←hv,←hr,←ht];rfl)
   clear hv hr ht
   rcases hr4 with rfl|rfl<;>rcases ht1 with rfl|rfl
   all_goals
    go_enter Tryz.func137,Tryz.ntmps137
    go_wp2_with (first|(go_at_call 77;refine ((unhide HM) _).mono ?_;rintro e w' ⟨rfl,rfl⟩)|(go_at_call 168;refine ((unhide HT) _).mono ?_;rintro e w' ⟨rfl,rfl⟩))
    go_ret
    exact ⟨by rw[unhide HV];rfl,byGG⟩
end Go.Proofs.YtobkcnmlmmhpoaaGreatDoor
