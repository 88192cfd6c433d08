/- The level form of a reduced form, on both sides. -/
import Derived.Test.YtobkcnmlmmhpoaaGreatLvP
import Derived.Test.YtobkcnmlmmhpoaaGreatRule
import Derived.Test.YtobkcnmlmmhpoaaGreatOwn
namespace Go.Proofs.YtobkcnmlmmhpoaaGreat
open Go.RowKit
set_option linter.unusedVariables false
set_option linter.unusedSimpArgs false
attribute [local go_sem] q2 q3 q4 q5 q6 q7 q8 q9 q10 q11 q12

noncomputable def lvF (D e B n r:Int):T3:=(lvA D e B n r,-(lvS e B n r),e)
noncomputable def lvX (F:T3) (n r:Int):T3:=lvF (dT F) (cpE F.1 F.2.1 F.2.2 (fpP F.1 F.2.1 F.2.2 n).1 (fpP F.1 F.2.1 F.2.2 n).2) (cpB F.1 F.2.1 F.2.2 (fpP F.1 F.2.1 F.2.2 n).1 (fpP F.1 F.2.1 F.2.2 n).2) n r

theorem E1 {a b c:Int} (h:RedC a b c):rfA a b c=a∧rfB a b c=b∧rfC a b c=c:=by
 have:=h.same
 unfold rfA rfB rfC
 rw[this];exact ⟨rfl,rfl,rfl⟩
set_option maxRecDepth 100000 in
set_option maxHeartbeats 8000000 in
theorem lvMake_v (p q u a b c n r:Int) (w:World) (hp:OkF p q u) (hE:rfA p q u=a∧rfB p q u=b∧rfC p q u=c) (h0:RedC a b c) (h1:1≤n) (h2:n≤30) (h3:0≤r) (h4:r<2*n) (h5:(r*r-discI a b c)%(4*n)=0):
  Calls Tryz.prog 46 #[.agg #[.int .i64 p,.int .i64 q,.int .i64 u],.int .i64 n,.int .i64 r] w fun e w'=>e= .returned (frm (lvX (a,b,c) n r))∧Below w.heap.size w w':=by
 have hs:=red_small h0.cls.ok h0.red
 have a0:=h0.cls.ok.a0
 have hform:=red_form h0
 have d0:=h0.cls.ok.d0
 have d1:=h0.cls.ok.d1
 go_enter Tryz.func46,Tryz.ntmps46
 go_wp2_with fail
 refine (reClass_rw p q u a b c hp hE _).mono ?_
 rintro en w1 ⟨rfl,hb1⟩
 have hcs9:=cells_calls hb1 [⟨w.heap.size,0,none⟩,⟨w.heap.size,1,none⟩,⟨w.heap.size,2,none⟩,⟨w.heap.size+1,0,none⟩,⟨w.heap.size+1,1,none⟩,⟨w.heap.size+1,2,none⟩] [.int .i64 p,.int .i64 q,.int .i64 u,.int .i64 0,.int .i64 0,.int .i64 0] (by refine ⟨?_,?_,?_,?_,?_,?_,trivial⟩<;>exact byCT)
 have hfs9:=frees_calls hb1 [⟨w.heap.size+1,0,none⟩,⟨w.heap.size+1,1,none⟩,⟨w.heap.size+1,2,none⟩] (by refine ⟨?_,?_,?_,trivial⟩<;>first|with_reducible assumption|omega|(simp;omega)|(simp;done)) (by refine ⟨?_,?_,?_,trivial⟩<;>exact byFT)
 have hzs9:=blocks_calls hb1 [w.heap.size,w.heap.size+1] (by refine ⟨?_,?_,trivial⟩<;>first|with_reducible assumption|omega|(simp;omega)|(simp;done))
 try clear c00 c01 c02
 try clear c10 c11 c12 f10 f11 f12
 obtain ⟨c00,c01,c02,c10,c11,c12,-⟩:=hcs9
 obtain ⟨f10,f11,f12,-⟩:=hfs9
 obtain ⟨z0,z1,-⟩:=hzs9
 have hs1:=hb1.size
 have o10:=z0
 have o11:=z1
 clear hE hp
 go_wp2_with fail
 refine (coPoint_r a b c n _ h0 h1 h2).mono ?_
 rintro en w2 ⟨k,x,y,rfl,hfp,hb2⟩
 have hcs9:=cells_calls hb2 [⟨w.heap.size,0,none⟩,⟨w.heap.size,1,none⟩,⟨w.heap.size,2,none⟩,⟨w.heap.size+1,0,none⟩,⟨w.heap.size+1,1,none⟩,⟨w.heap.size+1,2,none⟩,⟨w1.heap.size,0,none⟩,⟨w1.heap.size,1,none⟩,⟨w1.heap.size,2,none⟩] [.int .i64 p,.int .i64 q,.int .i64 u,.int .i64 0,.int .i64 0,.int .i64 0,.int .i64 a,.int .i64 b,.int .i64 c] (by refine ⟨?_,?_,?_,?_,?_,?_,?_,?_,?_,trivial⟩<;>exact byCT)
 have hfs9:=frees_calls hb2 [⟨w.heap.size+1,0,none⟩,⟨w.heap.size+1,1,none⟩,⟨w.heap.size+1,2,none⟩] (by refine ⟨?_,?_,?_,trivial⟩<;>first|with_reducible assumption|omega|(simp;omega)|(simp;done)) (by refine ⟨?_,?_,?_,trivial⟩<;>exact byFT)
 have hzs9:=blocks_calls hb2 [w.heap.size,w.heap.size+1,w1.heap.size] (by refine ⟨?_,?_,?_,trivial⟩<;>first|with_reducible assumption|omega|(simp;omega)|(simp;done))
 try clear c00 c01 c02
 try clear c10 c11 c12 f10 f11 f12
 try clear c20 c21 c22
 obtain ⟨c00,c01,c02,c10,c11,c12,c20,c21,c22,-⟩:=hcs9
 obtain ⟨f10,f11,f12,-⟩:=hfs9
 obtain ⟨z0,z1,z2,-⟩:=hzs9
 have hs2:=hb2.size
 have o20:=z0
 have o21:=z1
 have o22:=z2
 obtain ⟨⟨hx,hy,hg⟩,hL⟩:=lv_facts h0 rfl h1 h2 h3 h4 h5 hfp
 obtain ⟨q1,q2⟩:=fp_eq hfp
 have HV:Hid (lvX (a,b,c) n r=lvF (discI a b c) (cpE a b c x y) (cpB a b c x y) n r):=hide (by
  show lvF (discI a b c) (cpE a b c (fpP a b c n).1 (fpP a b c n).2) (cpB a b c (fpP a b c n).1 (fpP a b c n).2) n r=_
  rw[q1,q2])
 clear q1 q2
 go_wp2_with fail
 refine (vaComplete_c a b c x y _ h0 hx hy hg).mono ?_
 rintro en w3 ⟨P,Q,R,S,rfl,hpm,hb3⟩
 have hcs9:=cells_calls hb3 [⟨w.heap.size,0,none⟩,⟨w.heap.size,1,none⟩,⟨w.heap.size,2,none⟩,⟨w.heap.size+1,0,none⟩,⟨w.heap.size+1,1,none⟩,⟨w.heap.size+1,2,none⟩,⟨w1.heap.size,0,none⟩,⟨w1.heap.size,1,none⟩,⟨w1.heap.size,2,none⟩] [.int .i64 p,.int .i64 q,.int .i64 u,.int .i64 0,.int .i64 0,.int .i64 0,.int .i64 a,.int .i64 b,.int .i64 c] (by refine ⟨?_,?_,?_,?_,?_,?_,?_,?_,?_,trivial⟩<;>exact byCT)
 have hfs9:=frees_calls hb3 [⟨w.heap.size+1,0,none⟩,⟨w.heap.size+1,1,none⟩,⟨w.heap.size+1,2,none⟩] (by refine ⟨?_,?_,?_,trivial⟩<;>first|with_reducible assumption|omega|(simp;omega)|(simp;done)) (by refine ⟨?_,?_,?_,trivial⟩<;>exact byFT)
 have hzs9:=blocks_calls hb3 [w.heap.size,w.heap.size+1,w1.heap.size] (by refine ⟨?_,?_,?_,trivial⟩<;>first|with_reducible assumption|omega|(simp;omega)|(simp;done))
 try clear c00 c01 c02
 try clear c10 c11 c12 f10 f11 f12
 try clear c20 c21 c22
 obtain ⟨c00,c01,c02,c10,c11,c12,c20,c21,c22,-⟩:=hcs9
 obtain ⟨f10,f11,f12,-⟩:=hfs9
 obtain ⟨z0,z1,z2,-⟩:=hzs9
 have hs3:=hb3.size
 have o30:=z0
 have o31:=z1
 have o32:=z2
 clear hpm hfp
 replace HV:Hid (lvX (a,b,c) n r=(lvA (discI a b c) (cpE a b c x y) (cpB a b c x y) n r,-(lvS (cpE a b c x y) (cpB a b c x y) n r),cpE a b c x y)):=HV
 have hT:lvT (cpE a b c x y) (cpB a b c x y) n r=cmT (cpB a b c x y) (cpE a b c x y) ((-r)%(2*n)) n:=rfl
 generalize lvA (discI a b c) (cpE a b c x y) (cpB a b c x y) n r=A at*
 generalize lvS (cpE a b c x y) (cpB a b c x y) n r=s at*
 generalize lvT (cpE a b c x y) (cpB a b c x y) n r=t at*
 generalize cpE a b c x y=e at*
 generalize cpB a b c x y=B at*
 generalize cpC a b c x y=C at*
 obtain ⟨e0,e1,v0,v1,g1,par,m0,m1,t0,t1,Bt,⟨en0,en1⟩,te,tr,uni,bt,bb,⟨b0,b1⟩,⟨b20,b21⟩,aa,⟨A0,A1⟩⟩:=hL
 have E2:2*e*n=2*(e*n):=Int.mul_assoc _ _ _
 have EB2:0<2*e*n∧2*e*n≤1200000:=by omega
 have HV:Hid ((frm (lvX (a,b,c) n r):Value)= .agg #[.int .i64 A,.int .i64 (-s),.int .i64 e]):=hide (by rw[unhide HV]<;>rfl)
 have HX1:IntKind.i64.wrap (e*n-(e*n-t)%(2*e*n))=s:=by rw[bt];exact int_in (by omega)
 have HX2:IntKind.i64.wrap ((s*s-discI a b c).tdiv (4*e))=A:=by rw[aa];exact int_in (by omega)
 have HT:=hide hT.symm
 replace par:=hide par
 have bb2:s=if e*n<t then t-2*e*n else t:=bb
 have HH:IntKind.i64.wrap ((e*(2*n)).tdiv 2)=e*n:=by
  rw[show e*(2*n)=2*(e*n) by grind,Int.mul_tdiv_cancel_left _ (by omega)];exact int_in (by omega)
 have EX:0<e*(2*n)∧e*(2*n)≤1200000:=by rw[show e*(2*n)=2*(e*n) by grind];omega
 clear hT uni bt te tr aa bb hx hy hg h0 h5 HX1
 go_upto_region 4 with fail
 go_cut [12,13] (fun s12 s13 wx=>s12= .int .i64 t∧s13= .int .i64 (e*(2*n))∧wx.cell? ⟨w.heap.size+1,0,none⟩=some (.int .i64 0)∧wx.frozen? ⟨w.heap.size+1,0,none⟩=false∧wx.cell? ⟨w.heap.size+1,1,none⟩=some (.int .i64 0)∧wx.frozen? ⟨w.heap.size+1,1,none⟩=false∧wx.cell? ⟨w.heap.size+1,2,none⟩=some (.int .i64 0)∧wx.frozen? ⟨w.heap.size+1,2,none⟩=false∧wx.cell? ⟨w1.heap.size,0,none⟩=some (.int .i64 a)∧wx.cell? ⟨w1.heap.size,1,none⟩=some (.int .i64 b)∧wx.cell? ⟨w1.heap.size,2,none⟩=some (.int .i64 c)∧wx.cell? ⟨w3.heap.size,0,none⟩=some (.int .i64 e)∧wx.cell? ⟨w3.heap.size,1,none⟩=some (.int .i64 B)∧wx.cell? ⟨w3.heap.size,2,none⟩=some (.int .i64 C)∧Below w.heap.size w wx)
 case first=>
  have h1:=trivial
  rename_i K2 h2 h3
  refine region_n0 (by kernel_rfl) (fun j=> #[31,32,33,34,35,36,37,38,39,40,41,42,43,30,44,45,46,12,13,14].getD j 0) (fun j=>Kd.ok ((fun j=>match j with|0=>Kd.val (.pointer (some ⟨w3.heap.size,1,none⟩))|1=>Kd.val (.int .i64 B)|2=>Kd.val (.pointer (some ⟨w3.heap.size,0,none⟩))|3=>Kd.val (.int .i64 e)|4=>Kd.val (.int .i64 (2*e))|5=>Kd.val (.int .i64 r)|6=>Kd.val (.int .i64 (-r))|7=>Kd.val (.int .i64 n)|8=>Kd.val (.int .i64 (2*n))|9=>Kd.val (.int .i64 ((-r)%(2*n)))|10=>Kd.val (.int .i64 n)|11=>Kd.val (.int .i64 (2*n))|12=>Kd.val (.tuple #[.int .i64 t,.int .i64 (e*(2*n)),.bool true])|13=>Kd.val (.tuple #[.int .i64 t,.int .i64 (e*(2*n)),.bool true])|14=>Kd.val (.int .i64 t)|15=>Kd.val (.int .i64 (e*(2*n)))|16=>Kd.val (.bool true)|17=>Kd.val (.int .i64 t)|18=>Kd.val (.int .i64 (e*(2*n)))|19=>Kd.val (.bool true)|_=>Kd.any:Nat→Kd) j)) (Sy w (w3.heap.size+1+1) [(⟨w.heap.size+1,0,none⟩,.int .i64 0),(⟨w.heap.size+1,1,none⟩,.int .i64 0),(⟨w.heap.size+1,2,none⟩,.int .i64 0),(⟨w1.heap.size,0,none⟩,.int .i64 a),(⟨w1.heap.size,1,none⟩,.int .i64 b),(⟨w1.heap.size,2,none⟩,.int .i64 c),(⟨w3.heap.size,0,none⟩,.int .i64 e),(⟨w3.heap.size,1,none⟩,.int .i64 B),(⟨w3.heap.size,2,none⟩,.int .i64 C)] [⟨w.heap.size+1,0,none⟩,⟨w.heap.size+1,1,none⟩,⟨w.heap.size+1,2,none⟩]) (by kernel_rfl) (by kernel_rfl) ?_ ?_ ?_ ?_
  ·intro j hj
   have hj2:j<20:=hj
   have: ∀j,j<20→(#[31,32,33,34,35,36,37,38,39,40,41,42,43,30,44,45,46,12,13,14]:Array Nat).getD j 0<69:=by decide
   exact this j hj2
  ·refine Sy.drew (Sy.mk_of ?_ ?_ ?_ ?_)
   ·first|rfl|(simp;done)|(simp;omega)
   ·intro c hc
    simp only[List.mem_cons,List.not_mem_nil,or_false] at hc
    rcases hc with rfl|rfl|rfl|rfl|rfl|rfl|rfl|rfl|rfl<;>exact byCT
   ·intro p hp
    simp only[List.mem_cons,List.not_mem_nil,or_false] at hp
    rcases hp with rfl|rfl|rfl<;>exact ⟨by first|((repeat' with_reducible (first|refine ex_set _ ?_|refine ex_al _ ?_|exact ⟨_,by assumption⟩));done)|first|exact ⟨_,by assumption⟩|assumption|(go_simp;done)|(go_simp;exact ⟨_,rfl⟩),by first|((repeat' first|with_reducible (first|assumption|refine frz_al _ ?_ ?_|refine frz_set _ ?_)|omega|(simp;omega));done)|assumption|(go_simp;done)⟩
   ·(repeat' first|with_reducible (first|exact Below.refl _ _|assumption|refine gr_alloc ?_ _|refine below_drewN ?_ _|refine below_drew ?_|refine gr_call ?_ (by assumption)|refine Below.setCell ?_ ?_ _)|go_size|omega|(simp;omega))
  ·clear h1 h2 h3
   try clear c00
   try clear c01
   try clear c02
   try clear c10
   try clear c11
   try clear c12
   try clear c20
   try clear c21
   try clear c22
   try clear c30
   try clear c31
   try clear c32
   try clear f10
   try clear f11
   try clear f12
   refine ⟨?r20x0,?r20x1,?r20x2,?r20x3,?r20x4,?r20x5,?r20x6,?r20x7,?r20x8,?r20x9,?r20x10,?r20x11,?r20x12,?r20x13,?r20x14,?r20x15,?r20x16,?r20x17,?r20x18,?r20x19,trivial⟩
   all_goals intro _ aq wx Kq hf hS hdep ev1 ev2 hK
   case' r20x0=>
    have F10:aq.eval (.tmp 10)= .pointer (some ⟨w3.heap.size,0,none⟩):=hf 10
   case' r20x1=>
    have D0:aq.eval (.tmp 31)=_:=hdep 0
    have c0:=hS.cells (⟨w3.heap.size,1,none⟩,.int .i64 B) (by simp)
   case' r20x2=>
    have F10:aq.eval (.tmp 10)= .pointer (some ⟨w3.heap.size,0,none⟩):=hf 10
   case' r20x3=>
    have D2:aq.eval (.tmp 33)=_:=hdep 2
    have c0:=hS.cells (⟨w3.heap.size,0,none⟩,.int .i64 e) (by simp)
   case' r20x4=>
    have D3:aq.eval (.tmp 34)=_:=hdep 3
   case' r20x5=>
    have F2:aq.eval (.tmp 2)= .int .i64 r:=hf 2
   case' r20x6=>
    have D5:aq.eval (.tmp 36)=_:=hdep 5
   case' r20x7=>
    have F1:aq.eval (.tmp 1)= .int .i64 n:=hf 1
   case' r20x8=>
    have D7:aq.eval (.tmp 38)=_:=hdep 7
   case' r20x9=>
    have D6:aq.eval (.tmp 37)=_:=hdep 6
    have D8:aq.eval (.tmp 39)=_:=hdep 8
   case' r20x10=>
    have F1:aq.eval (.tmp 1)= .int .i64 n:=hf 1
   case' r20x11=>
    have D10:aq.eval (.tmp 41)=_:=hdep 10
   case' r20x12=>
    have D1:aq.eval (.tmp 32)=_:=hdep 1
    have D4:aq.eval (.tmp 35)=_:=hdep 4
    have D9:aq.eval (.tmp 40)=_:=hdep 9
    have D11:aq.eval (.tmp 42)=_:=hdep 11
   case' r20x13=>
    have D12:aq.eval (.tmp 43)=_:=hdep 12
   case' r20x14=>
    have D13:aq.eval (.tmp 30)=_:=hdep 13
   case' r20x15=>
    have D13:aq.eval (.tmp 30)=_:=hdep 13
   case' r20x16=>
    have D13:aq.eval (.tmp 30)=_:=hdep 13
   case' r20x17=>
    have D14:aq.eval (.tmp 44)=_:=hdep 14
   case' r20x18=>
    have D15:aq.eval (.tmp 45)=_:=hdep 15
   case' r20x19=>
    have D16:aq.eval (.tmp 46)=_:=hdep 16
   all_goals (clear hf hdep;unfold Oper.wp;generalize Act.eval _=ev at *;go_simp)
   case r20x9=>
    refine ((nuMod_a (-r) (2*n) _ (by omega) (by omega) (by omega))).mono ?_
    rintro e w2 ⟨rfl,rfl⟩
    refine hK _ _ (hS.call (below_refl_self _)) ?_ (fun j u _ h=>Kd.ok_below (below_refl_self _) h)
    rw[if_pos (by rfl)]
    show (_:Value)=_
    first|rfl|(refine congrArg (Value.int .i64) ?_;first|rfl|exact int_in (by omega)|exact quo_in (by omega) (by omega) (by omega)|exact rem_in (by omega) (by omega)|omega)|(simp;done)|(simp [*];done)
   case r20x12=>
    refine ((nuCommon_rw _ _ _ _ t _ (by omega) (by omega) (by omega) (by omega) (by omega) (by omega) g1 (unhide par) (unhide HT))).mono ?_
    rintro e w2 ⟨rfl,hb⟩
    refine hK _ _ (hS.call hb) ?_ (fun j u _ h=>Kd.ok_below hb h)
    rw[if_pos (by rfl)]
    show (_:Value)=_
    first|rfl|(refine congrArg (Value.int .i64) ?_;first|rfl|exact int_in (by omega)|exact quo_in (by omega) (by omega) (by omega)|exact rem_in (by omega) (by omega)|omega)|(simp;done)|(simp [*];done)
   all_goals (refine hK _ _ hS ?_ (fun j u _ h=>h);rw [if_pos (by rfl)];show (_:Value)=_;(first|rfl|(refine congrArg (Value.int .i64) ?_;first|rfl|exact int_in (by omega)|exact quo_in (by omega) (by omega) (by omega)|exact rem_in (by omega) (by omega)|omega)|(simp;done)|(simp [*];done)))
  ·intro aq wx hd hw hf hS hg
   have G12:tau aq 12= .int .i64 t:=hg 17 (by decide)
   have G13:tau aq 13= .int .i64 (e*(2*n)):=hg 18 (by decide)
   have haq:aq=⟨#[tau aq 0,tau aq 1,tau aq 2,tau aq 3,tau aq 4,tau aq 5,tau aq 6,tau aq 7,tau aq 8,tau aq 9,tau aq 10,tau aq 11,tau aq 12,tau aq 13,tau aq 14,tau aq 15,tau aq 16,tau aq 17,tau aq 18,tau aq 19,tau aq 20,tau aq 21,tau aq 22,tau aq 23,tau aq 24,tau aq 25,tau aq 26,tau aq 27,tau aq 28,tau aq 29,tau aq 30,tau aq 31,tau aq 32,tau aq 33,tau aq 34,tau aq 35,tau aq 36,tau aq 37,tau aq 38,tau aq 39,tau aq 40,tau aq 41,tau aq 42,tau aq 43,tau aq 44,tau aq 45,tau aq 46,tau aq 47,tau aq 48,tau aq 49,tau aq 50,tau aq 51,tau aq 52,tau aq 53,tau aq 54,tau aq 55,tau aq 56,tau aq 57,tau aq 58,tau aq 59,tau aq 60,tau aq 61,tau aq 62,tau aq 63,tau aq 64,tau aq 65,tau aq 66,tau aq 67,tau aq 68],[]⟩:=by
    obtain ⟨tq,dq⟩:=aq
    have h5:=arr_eq (show tq.size=69 from hw)
    have h6:dq= []:=hd
    subst h6
    exact congrArg (fun z=>Act.mk z []) h5
   show K2 aq wx
   rw[haq,hf 0,hf 1,hf 2,hf 3,hf 4,hf 5,hf 6,hf 7,hf 8,hf 9,hf 10,hf 11,hf 15,hf 16,hf 17,hf 18,hf 19,hf 20,hf 21,hf 22,hf 23,hf 24,hf 25,hf 26,hf 27,hf 28,hf 29,hf 47,hf 48,hf 49,hf 50,hf 51,hf 52,hf 53,hf 54,hf 55,hf 56,hf 57,hf 58,hf 59,hf 60,hf 61,hf 62,hf 63,hf 64,hf 65,hf 66,hf 67,hf 68,G12,G13]
   clear haq hf hd hw
   try dsimp only
   refine h3 _ _ ?_
   go_meet
   exact ⟨rfl,rfl,hS.cells (⟨w.heap.size+1,0,none⟩,.int .i64 0) (by simp),(hS.free ⟨w.heap.size+1,0,none⟩ (by simp)).2,hS.cells (⟨w.heap.size+1,1,none⟩,.int .i64 0) (by simp),(hS.free ⟨w.heap.size+1,1,none⟩ (by simp)).2,hS.cells (⟨w.heap.size+1,2,none⟩,.int .i64 0) (by simp),(hS.free ⟨w.heap.size+1,2,none⟩ (by simp)).2,hS.cells (⟨w1.heap.size,0,none⟩,.int .i64 a) (by simp),hS.cells (⟨w1.heap.size,1,none⟩,.int .i64 b) (by simp),hS.cells (⟨w1.heap.size,2,none⟩,.int .i64 c) (by simp),hS.cells (⟨w3.heap.size,0,none⟩,.int .i64 e) (by simp),hS.cells (⟨w3.heap.size,1,none⟩,.int .i64 B) (by simp),hS.cells (⟨w3.heap.size,2,none⟩,.int .i64 C) (by simp),hS.below⟩
 try clear c00
 try clear c01
 try clear c02
 try clear c10
 try clear c11
 try clear c12
 try clear c20
 try clear c21
 try clear c22
 try clear c30
 try clear c31
 try clear c32
 try clear f10
 try clear f11
 try clear f12
 obtain ⟨rfl,rfl,c00,f00,c01,f01,c02,f02,c10,c11,c12,c20,c21,c22,hb0⟩:=hcut
 have z0:=World.block_lt_of_cell? _ _ c00
 have z1:=World.block_lt_of_cell? _ _ c10
 have z2:=World.block_lt_of_cell? _ _ c20
 change w.heap.size+1<wc.heap.size at z0
 change w1.heap.size<wc.heap.size at z1
 change w3.heap.size<wc.heap.size at z2
 obtain ⟨wd4,rfl⟩: ∃wd4:World,wd4=wc:=⟨_,rfl⟩
 clear par HT g1
 by_cases qq:e*n<t
 ·have hss:t-e*(2*n)=s:=by rw[bb2,if_pos qq];grind
  clear bb2
  go_upto_region 7 with fail
  go_cut [] (fun  wx=>wx.cell? ⟨w.heap.size+1,0,none⟩=some (.int .i64 A)∧wx.frozen? ⟨w.heap.size+1,0,none⟩=false∧wx.cell? ⟨w.heap.size+1,1,none⟩=some (.int .i64 (-s))∧wx.frozen? ⟨w.heap.size+1,1,none⟩=false∧wx.cell? ⟨w.heap.size+1,2,none⟩=some (.int .i64 e)∧wx.frozen? ⟨w.heap.size+1,2,none⟩=false∧wx.cell? ⟨w1.heap.size,0,none⟩=some (.int .i64 a)∧wx.cell? ⟨w1.heap.size,1,none⟩=some (.int .i64 b)∧wx.cell? ⟨w1.heap.size,2,none⟩=some (.int .i64 c)∧wx.cell? ⟨w3.heap.size,0,none⟩=some (.int .i64 e)∧wx.cell? ⟨w3.heap.size,1,none⟩=some (.int .i64 B)∧wx.cell? ⟨w3.heap.size,2,none⟩=some (.int .i64 C)∧Below w.heap.size w wx)
  case first=>
   have h1:=trivial
   rename_i K2 h2 h3
   refine region_n0 (by kernel_rfl) (fun j=> #[54,55,56,57,58,59,60,61,62,63,64,65,66,67,68,6].getD j 0) (fun j=>Kd.ok ((fun j=>match j with|0=>Kd.val (.int .i64 s)|1=>Kd.val (.int .i64 s)|2=>Kd.val (.int .i64 (s*s))|3=>Kd.val (.agg #[.int .i64 a,.int .i64 b,.int .i64 c])|4=>Kd.val (.int .i64 (discI a b c))|5=>Kd.val (.int .i64 ((s*s)-(discI a b c)))|6=>Kd.val (.pointer (some ⟨w3.heap.size,0,none⟩))|7=>Kd.val (.int .i64 e)|8=>Kd.val (.int .i64 (4*e))|9=>Kd.val (.int .i64 A)|10=>Kd.val (.int .i64 s)|11=>Kd.val (.int .i64 (-s))|12=>Kd.val (.pointer (some ⟨w3.heap.size,0,none⟩))|13=>Kd.val (.int .i64 e)|14=>Kd.val (.agg #[.int .i64 A,.int .i64 (-s),.int .i64 e])|15=>Kd.old (wd4.heap.size) [(⟨w.heap.size+1,0,none⟩,.int .i64 A),(⟨w.heap.size+1,1,none⟩,.int .i64 (-s)),(⟨w.heap.size+1,2,none⟩,.int .i64 e)]|_=>Kd.any:Nat→Kd) j)) (Sy w (wd4.heap.size) [(⟨w1.heap.size,0,none⟩,.int .i64 a),(⟨w1.heap.size,1,none⟩,.int .i64 b),(⟨w1.heap.size,2,none⟩,.int .i64 c),(⟨w3.heap.size,0,none⟩,.int .i64 e),(⟨w3.heap.size,1,none⟩,.int .i64 B),(⟨w3.heap.size,2,none⟩,.int .i64 C)] [⟨w.heap.size+1,0,none⟩,⟨w.heap.size+1,1,none⟩,⟨w.heap.size+1,2,none⟩]) (by kernel_rfl) (by kernel_rfl) ?_ ?_ ?_ ?_
   ·intro j hj
    have hj2:j<16:=hj
    have: ∀j,j<16→(#[54,55,56,57,58,59,60,61,62,63,64,65,66,67,68,6]:Array Nat).getD j 0<69:=by decide
    exact this j hj2
   ·refine Sy.drew (Sy.mk_of ?_ ?_ ?_ ?_)
    ·first|rfl|(simp;done)|(simp;omega)
    ·intro c hc
     simp only[List.mem_cons,List.not_mem_nil,or_false] at hc
     rcases hc with rfl|rfl|rfl|rfl|rfl|rfl<;>exact byCT
    ·intro p hp
     simp only[List.mem_cons,List.not_mem_nil,or_false] at hp
     rcases hp with rfl|rfl|rfl<;>exact ⟨by first|((repeat' with_reducible (first|refine ex_set _ ?_|refine ex_al _ ?_|exact ⟨_,by assumption⟩));done)|first|exact ⟨_,by assumption⟩|assumption|(go_simp;done)|(go_simp;exact ⟨_,rfl⟩),by first|((repeat' first|with_reducible (first|assumption|refine frz_al _ ?_ ?_|refine frz_set _ ?_)|omega|(simp;omega));done)|assumption|(go_simp;done)⟩
    ·(repeat' first|with_reducible (first|exact Below.refl _ _|assumption|refine gr_alloc ?_ _|refine below_drewN ?_ _|refine below_drew ?_|refine gr_call ?_ (by assumption)|refine Below.setCell ?_ ?_ _)|go_size|omega|(simp;omega))
   ·clear h1 h2 h3
    try clear c00
    try clear c01
    try clear c02
    try clear c10
    try clear c11
    try clear c12
    try clear c20
    try clear c21
    try clear c22
    try clear f00
    try clear f01
    try clear f02
    refine ⟨?r22x0,?r22x1,?r22x2,?r22x3,?r22x4,?r22x5,?r22x6,?r22x7,?r22x8,?r22x9,?r22x10,?r22x11,?r22x12,?r22x13,?r22x14,?r22x15,trivial⟩
    all_goals intro _ aq wx Kq hf hS hdep ev1 ev2 hK
    case' r22x0=>
     have F12:aq.eval (.tmp 12)= .int .i64 s:=hf 12
    case' r22x1=>
     have F12:aq.eval (.tmp 12)= .int .i64 s:=hf 12
    case' r22x2=>
     have D0:aq.eval (.tmp 54)=_:=hdep 0
     have D1:aq.eval (.tmp 55)=_:=hdep 1
    case' r22x3=>
     have F7:aq.eval (.tmp 7)= .pointer (some ⟨w1.heap.size,0,none⟩):=hf 7
     have c0:=hS.cells (⟨w1.heap.size,0,none⟩,.int .i64 a) (by simp)
     have c1:=hS.cells (⟨w1.heap.size,1,none⟩,.int .i64 b) (by simp)
     have c2:=hS.cells (⟨w1.heap.size,2,none⟩,.int .i64 c) (by simp)
    case' r22x4=>
     have D3:aq.eval (.tmp 57)=_:=hdep 3
    case' r22x5=>
     have D2:aq.eval (.tmp 56)=_:=hdep 2
     have D4:aq.eval (.tmp 58)=_:=hdep 4
    case' r22x6=>
     have F10:aq.eval (.tmp 10)= .pointer (some ⟨w3.heap.size,0,none⟩):=hf 10
    case' r22x7=>
     have D6:aq.eval (.tmp 60)=_:=hdep 6
     have c0:=hS.cells (⟨w3.heap.size,0,none⟩,.int .i64 e) (by simp)
    case' r22x8=>
     have D7:aq.eval (.tmp 61)=_:=hdep 7
    case' r22x9=>
     have D5:aq.eval (.tmp 59)=_:=hdep 5
     have D8:aq.eval (.tmp 62)=_:=hdep 8
    case' r22x10=>
     have F12:aq.eval (.tmp 12)= .int .i64 s:=hf 12
    case' r22x11=>
     have D10:aq.eval (.tmp 64)=_:=hdep 10
    case' r22x12=>
     have F10:aq.eval (.tmp 10)= .pointer (some ⟨w3.heap.size,0,none⟩):=hf 10
    case' r22x13=>
     have D12:aq.eval (.tmp 66)=_:=hdep 12
     have c0:=hS.cells (⟨w3.heap.size,0,none⟩,.int .i64 e) (by simp)
    case' r22x14=>
     have D9:aq.eval (.tmp 63)=_:=hdep 9
     have D11:aq.eval (.tmp 65)=_:=hdep 11
     have D13:aq.eval (.tmp 67)=_:=hdep 13
    case' r22x15=>
     have D14:aq.eval (.tmp 68)=_:=hdep 14
     have F6:aq.eval (.tmp 6)= .pointer (some ⟨w.heap.size+1,0,none⟩):=hf 6
     obtain ⟨⟨vx0,cx0⟩,cf0⟩:=hS.free ⟨w.heap.size+1,0,none⟩ (by simp)
     obtain ⟨⟨vx1,cx1⟩,cf1⟩:=hS.free ⟨w.heap.size+1,1,none⟩ (by simp)
     obtain ⟨⟨vx2,cx2⟩,cf2⟩:=hS.free ⟨w.heap.size+1,2,none⟩ (by simp)
    all_goals (clear hf hdep;unfold Oper.wp;generalize Act.eval _=ev at *;go_simp)
    case r22x4=>
     refine ((foDisc_a a b c _ hform)).mono ?_
     rintro e w2 ⟨rfl,hb⟩
     refine hK _ _ (hS.call hb) ?_ (fun j u _ h=>Kd.ok_below hb h)
     rw[if_pos (by rfl)]
     show (_:Value)=_
     first|rfl|(refine congrArg (Value.int .i64) ?_;first|rfl|exact int_in (by omega)|exact quo_in (by omega) (by omega) (by omega)|exact rem_in (by omega) (by omega)|omega|exact HX2)|(simp;done)|(simp [*];done)
    case' r22x9=>
     try rw[if_neg (by omega),Oper.upon_value]
    case r22x15=>
     refine hK undef (setAll (w.heap.size+1) 0 [.int .i64 A,.int .i64 (-s),.int .i64 e] wx) (Sy.setAll (by first|omega|(simp;omega)|(simp;done)) (fa (far_blk (by first|(with_reducible assumption)|omega)) (fa (far_blk (by first|(with_reducible assumption)|omega)) (fa (far_blk (by first|(with_reducible assumption)|omega)) (fa (far_blk (by first|(with_reducible assumption)|omega)) (fa (far_blk (by first|(with_reducible assumption)|omega)) (fa (far_blk (by first|(with_reducible assumption)|omega)) (fa0))))))) hS) ?_ (fun j u hj h=> ?_)
     ·rw [if_neg (by decide)]
      exact fa ⟨setAll_at (w.heap.size+1) [.int .i64 A,.int .i64 (-s),.int .i64 e] 0 wx 0 (show 0<3 by decide) ⟨vx0,cx0⟩,(by first|omega|(simp;omega)|(simp;done))⟩ (fa ⟨setAll_at (w.heap.size+1) [.int .i64 A,.int .i64 (-s),.int .i64 e] 0 wx 1 (show 1<3 by decide) ⟨vx1,cx1⟩,(by first|omega|(simp;omega)|(simp;done))⟩ (fa ⟨setAll_at (w.heap.size+1) [.int .i64 A,.int .i64 (-s),.int .i64 e] 0 wx 2 (show 2<3 by decide) ⟨vx2,cx2⟩,(by first|omega|(simp;omega)|(simp;done))⟩ (fa0)))
     ·match j,hj with
      |0,hj=>exact (show (u:Value)=_ from h)
      |1,hj=>exact (show (u:Value)=_ from h)
      |2,hj=>exact (show (u:Value)=_ from h)
      |3,hj=>exact (show (u:Value)=_ from h)
      |4,hj=>exact (show (u:Value)=_ from h)
      |5,hj=>exact (show (u:Value)=_ from h)
      |6,hj=>exact (show (u:Value)=_ from h)
      |7,hj=>exact (show (u:Value)=_ from h)
      |8,hj=>exact (show (u:Value)=_ from h)
      |9,hj=>exact (show (u:Value)=_ from h)
      |10,hj=>exact (show (u:Value)=_ from h)
      |11,hj=>exact (show (u:Value)=_ from h)
      |12,hj=>exact (show (u:Value)=_ from h)
      |13,hj=>exact (show (u:Value)=_ from h)
      |14,hj=>exact (show (u:Value)=_ from h)
      |15,hj=>exact absurd rfl hj
      |j+16,_=>trivial
    all_goals (refine hK _ _ hS ?_ (fun j u _ h=>h);rw [if_pos (by rfl)];show (_:Value)=_;(first|rfl|(refine congrArg (Value.int .i64) ?_;first|rfl|exact int_in (by omega)|exact quo_in (by omega) (by omega) (by omega)|exact rem_in (by omega) (by omega)|omega|exact HX2)|(simp;done)|(simp [*];done)))
   ·intro aq wx hd hw hf hS hg
    have haq:aq=⟨#[tau aq 0,tau aq 1,tau aq 2,tau aq 3,tau aq 4,tau aq 5,tau aq 6,tau aq 7,tau aq 8,tau aq 9,tau aq 10,tau aq 11,tau aq 12,tau aq 13,tau aq 14,tau aq 15,tau aq 16,tau aq 17,tau aq 18,tau aq 19,tau aq 20,tau aq 21,tau aq 22,tau aq 23,tau aq 24,tau aq 25,tau aq 26,tau aq 27,tau aq 28,tau aq 29,tau aq 30,tau aq 31,tau aq 32,tau aq 33,tau aq 34,tau aq 35,tau aq 36,tau aq 37,tau aq 38,tau aq 39,tau aq 40,tau aq 41,tau aq 42,tau aq 43,tau aq 44,tau aq 45,tau aq 46,tau aq 47,tau aq 48,tau aq 49,tau aq 50,tau aq 51,tau aq 52,tau aq 53,tau aq 54,tau aq 55,tau aq 56,tau aq 57,tau aq 58,tau aq 59,tau aq 60,tau aq 61,tau aq 62,tau aq 63,tau aq 64,tau aq 65,tau aq 66,tau aq 67,tau aq 68],[]⟩:=by
     obtain ⟨tq,dq⟩:=aq
     have h5:=arr_eq (show tq.size=69 from hw)
     have h6:dq= []:=hd
     subst h6
     exact congrArg (fun z=>Act.mk z []) h5
    show K2 aq wx
    rw[haq,hf 0,hf 1,hf 2,hf 3,hf 4,hf 5,hf 6,hf 7,hf 8,hf 9,hf 10,hf 11,hf 12,hf 13,hf 14,hf 15,hf 16,hf 17,hf 18,hf 19,hf 20,hf 21,hf 22,hf 23,hf 24,hf 25,hf 26,hf 27,hf 28,hf 29,hf 30,hf 31,hf 32,hf 33,hf 34,hf 35,hf 36,hf 37,hf 38,hf 39,hf 40,hf 41,hf 42,hf 43,hf 44,hf 45,hf 46,hf 47,hf 48,hf 49,hf 50,hf 51,hf 52,hf 53]
    clear haq hf hd hw
    try dsimp only
    refine h3 _ _ ?_
    go_meet
    exact ⟨(hg 15 (by decide) (⟨w.heap.size+1,0,none⟩,.int .i64 A) (by simp)).1,(hS.free ⟨w.heap.size+1,0,none⟩ (by simp)).2,(hg 15 (by decide) (⟨w.heap.size+1,1,none⟩,.int .i64 (-s)) (by simp)).1,(hS.free ⟨w.heap.size+1,1,none⟩ (by simp)).2,(hg 15 (by decide) (⟨w.heap.size+1,2,none⟩,.int .i64 e) (by simp)).1,(hS.free ⟨w.heap.size+1,2,none⟩ (by simp)).2,hS.cells (⟨w1.heap.size,0,none⟩,.int .i64 a) (by simp),hS.cells (⟨w1.heap.size,1,none⟩,.int .i64 b) (by simp),hS.cells (⟨w1.heap.size,2,none⟩,.int .i64 c) (by simp),hS.cells (⟨w3.heap.size,0,none⟩,.int .i64 e) (by simp),hS.cells (⟨w3.heap.size,1,none⟩,.int .i64 B) (by simp),hS.cells (⟨w3.heap.size,2,none⟩,.int .i64 C) (by simp),hS.below⟩
  try clear c00
  try clear c01
  try clear c02
  try clear c10
  try clear c11
  try clear c12
  try clear c20
  try clear c21
  try clear c22
  try clear f00
  try clear f01
  try clear f02
  obtain ⟨c00,f00,c01,f01,c02,f02,c10,c11,c12,c20,c21,c22,hb0⟩:=hcut
  have z0:=World.block_lt_of_cell? _ _ c00
  have z1:=World.block_lt_of_cell? _ _ c10
  have z2:=World.block_lt_of_cell? _ _ c20
  change w.heap.size+1<wc.heap.size at z0
  change w1.heap.size<wc.heap.size at z1
  change w3.heap.size<wc.heap.size at z2
  go_wp2
  refine bodyPost_ret (v:= .agg #[.int .i64 A,.int .i64 (-s),.int .i64 e]) (by simp [results,Tryz.results46,go_sem, *]) rfl ?_
  exact ⟨by rw[unhide HV],hb0⟩
 ·rw [if_neg qq] at bb2
  obtain rfl:s=t:=bb2
  go_upto_region 7 with fail
  go_cut [] (fun  wx=>wx.cell? ⟨w.heap.size+1,0,none⟩=some (.int .i64 A)∧wx.frozen? ⟨w.heap.size+1,0,none⟩=false∧wx.cell? ⟨w.heap.size+1,1,none⟩=some (.int .i64 (-s))∧wx.frozen? ⟨w.heap.size+1,1,none⟩=false∧wx.cell? ⟨w.heap.size+1,2,none⟩=some (.int .i64 e)∧wx.frozen? ⟨w.heap.size+1,2,none⟩=false∧wx.cell? ⟨w1.heap.size,0,none⟩=some (.int .i64 a)∧wx.cell? ⟨w1.heap.size,1,none⟩=some (.int .i64 b)∧wx.cell? ⟨w1.heap.size,2,none⟩=some (.int .i64 c)∧wx.cell? ⟨w3.heap.size,0,none⟩=some (.int .i64 e)∧wx.cell? ⟨w3.heap.size,1,none⟩=some (.int .i64 B)∧wx.cell? ⟨w3.heap.size,2,none⟩=some (.int .i64 C)∧Below w.heap.size w wx)
  case first=>
   have h1:=trivial
   rename_i K2 h2 h3
   refine region_n0 (by kernel_rfl) (fun j=> #[54,55,56,57,58,59,60,61,62,63,64,65,66,67,68,6].getD j 0) (fun j=>Kd.ok ((fun j=>match j with|0=>Kd.val (.int .i64 s)|1=>Kd.val (.int .i64 s)|2=>Kd.val (.int .i64 (s*s))|3=>Kd.val (.agg #[.int .i64 a,.int .i64 b,.int .i64 c])|4=>Kd.val (.int .i64 (discI a b c))|5=>Kd.val (.int .i64 ((s*s)-(discI a b c)))|6=>Kd.val (.pointer (some ⟨w3.heap.size,0,none⟩))|7=>Kd.val (.int .i64 e)|8=>Kd.val (.int .i64 (4*e))|9=>Kd.val (.int .i64 A)|10=>Kd.val (.int .i64 s)|11=>Kd.val (.int .i64 (-s))|12=>Kd.val (.pointer (some ⟨w3.heap.size,0,none⟩))|13=>Kd.val (.int .i64 e)|14=>Kd.val (.agg #[.int .i64 A,.int .i64 (-s),.int .i64 e])|15=>Kd.old (wd4.heap.size) [(⟨w.heap.size+1,0,none⟩,.int .i64 A),(⟨w.heap.size+1,1,none⟩,.int .i64 (-s)),(⟨w.heap.size+1,2,none⟩,.int .i64 e)]|_=>Kd.any:Nat→Kd) j)) (Sy w (wd4.heap.size) [(⟨w1.heap.size,0,none⟩,.int .i64 a),(⟨w1.heap.size,1,none⟩,.int .i64 b),(⟨w1.heap.size,2,none⟩,.int .i64 c),(⟨w3.heap.size,0,none⟩,.int .i64 e),(⟨w3.heap.size,1,none⟩,.int .i64 B),(⟨w3.heap.size,2,none⟩,.int .i64 C)] [⟨w.heap.size+1,0,none⟩,⟨w.heap.size+1,1,none⟩,⟨w.heap.size+1,2,none⟩]) (by kernel_rfl) (by kernel_rfl) ?_ ?_ ?_ ?_
   ·intro j hj
    have hj2:j<16:=hj
    have: ∀j,j<16→(#[54,55,56,57,58,59,60,61,62,63,64,65,66,67,68,6]:Array Nat).getD j 0<69:=by decide
    exact this j hj2
   ·refine Sy.drew (Sy.mk_of ?_ ?_ ?_ ?_)
    ·first|rfl|(simp;done)|(simp;omega)
    ·intro c hc
     simp only[List.mem_cons,List.not_mem_nil,or_false] at hc
     rcases hc with rfl|rfl|rfl|rfl|rfl|rfl<;>exact byCT
    ·intro p hp
     simp only[List.mem_cons,List.not_mem_nil,or_false] at hp
     rcases hp with rfl|rfl|rfl<;>exact ⟨by first|((repeat' with_reducible (first|refine ex_set _ ?_|refine ex_al _ ?_|exact ⟨_,by assumption⟩));done)|first|exact ⟨_,by assumption⟩|assumption|(go_simp;done)|(go_simp;exact ⟨_,rfl⟩),by first|((repeat' first|with_reducible (first|assumption|refine frz_al _ ?_ ?_|refine frz_set _ ?_)|omega|(simp;omega));done)|assumption|(go_simp;done)⟩
    ·(repeat' first|with_reducible (first|exact Below.refl _ _|assumption|refine gr_alloc ?_ _|refine below_drewN ?_ _|refine below_drew ?_|refine gr_call ?_ (by assumption)|refine Below.setCell ?_ ?_ _)|go_size|omega|(simp;omega))
   ·clear h1 h2 h3
    try clear c00
    try clear c01
    try clear c02
    try clear c10
    try clear c11
    try clear c12
    try clear c20
    try clear c21
    try clear c22
    try clear f00
    try clear f01
    try clear f02
    refine ⟨?r23x0,?r23x1,?r23x2,?r23x3,?r23x4,?r23x5,?r23x6,?r23x7,?r23x8,?r23x9,?r23x10,?r23x11,?r23x12,?r23x13,?r23x14,?r23x15,trivial⟩
    all_goals intro _ aq wx Kq hf hS hdep ev1 ev2 hK
    case' r23x0=>
     have F12:aq.eval (.tmp 12)= .int .i64 s:=hf 12
    case' r23x1=>
     have F12:aq.eval (.tmp 12)= .int .i64 s:=hf 12
    case' r23x2=>
     have D0:aq.eval (.tmp 54)=_:=hdep 0
     have D1:aq.eval (.tmp 55)=_:=hdep 1
    case' r23x3=>
     have F7:aq.eval (.tmp 7)= .pointer (some ⟨w1.heap.size,0,none⟩):=hf 7
     have c0:=hS.cells (⟨w1.heap.size,0,none⟩,.int .i64 a) (by simp)
     have c1:=hS.cells (⟨w1.heap.size,1,none⟩,.int .i64 b) (by simp)
     have c2:=hS.cells (⟨w1.heap.size,2,none⟩,.int .i64 c) (by simp)
    case' r23x4=>
     have D3:aq.eval (.tmp 57)=_:=hdep 3
    case' r23x5=>
     have D2:aq.eval (.tmp 56)=_:=hdep 2
     have D4:aq.eval (.tmp 58)=_:=hdep 4
    case' r23x6=>
     have F10:aq.eval (.tmp 10)= .pointer (some ⟨w3.heap.size,0,none⟩):=hf 10
    case' r23x7=>
     have D6:aq.eval (.tmp 60)=_:=hdep 6
     have c0:=hS.cells (⟨w3.heap.size,0,none⟩,.int .i64 e) (by simp)
    case' r23x8=>
     have D7:aq.eval (.tmp 61)=_:=hdep 7
    case' r23x9=>
     have D5:aq.eval (.tmp 59)=_:=hdep 5
     have D8:aq.eval (.tmp 62)=_:=hdep 8
    case' r23x10=>
     have F12:aq.eval (.tmp 12)= .int .i64 s:=hf 12
    case' r23x11=>
     have D10:aq.eval (.tmp 64)=_:=hdep 10
    case' r23x12=>
     have F10:aq.eval (.tmp 10)= .pointer (some ⟨w3.heap.size,0,none⟩):=hf 10
    case' r23x13=>
     have D12:aq.eval (.tmp 66)=_:=hdep 12
     have c0:=hS.cells (⟨w3.heap.size,0,none⟩,.int .i64 e) (by simp)
    case' r23x14=>
     have D9:aq.eval (.tmp 63)=_:=hdep 9
     have D11:aq.eval (.tmp 65)=_:=hdep 11
     have D13:aq.eval (.tmp 67)=_:=hdep 13
    case' r23x15=>
     have D14:aq.eval (.tmp 68)=_:=hdep 14
     have F6:aq.eval (.tmp 6)= .pointer (some ⟨w.heap.size+1,0,none⟩):=hf 6
     obtain ⟨⟨vx0,cx0⟩,cf0⟩:=hS.free ⟨w.heap.size+1,0,none⟩ (by simp)
     obtain ⟨⟨vx1,cx1⟩,cf1⟩:=hS.free ⟨w.heap.size+1,1,none⟩ (by simp)
     obtain ⟨⟨vx2,cx2⟩,cf2⟩:=hS.free ⟨w.heap.size+1,2,none⟩ (by simp)
    all_goals (clear hf hdep;unfold Oper.wp;generalize Act.eval _=ev at *;go_simp)
    case r23x4=>
     refine ((foDisc_a a b c _ hform)).mono ?_
     rintro e w2 ⟨rfl,hb⟩
     refine hK _ _ (hS.call hb) ?_ (fun j u _ h=>Kd.ok_below hb h)
     rw[if_pos (by rfl)]
     show (_:Value)=_
     first|rfl|(refine congrArg (Value.int .i64) ?_;first|rfl|exact int_in (by omega)|exact quo_in (by omega) (by omega) (by omega)|exact rem_in (by omega) (by omega)|omega|exact HX2)|(simp;done)|(simp [*];done)
    case' r23x9=>
     try rw[if_neg (by omega),Oper.upon_value]
    case r23x15=>
     refine hK undef (setAll (w.heap.size+1) 0 [.int .i64 A,.int .i64 (-s),.int .i64 e] wx) (Sy.setAll (by first|omega|(simp;omega)|(simp;done)) (fa (far_blk (by first|(with_reducible assumption)|omega)) (fa (far_blk (by first|(with_reducible assumption)|omega)) (fa (far_blk (by first|(with_reducible assumption)|omega)) (fa (far_blk (by first|(with_reducible assumption)|omega)) (fa (far_blk (by first|(with_reducible assumption)|omega)) (fa (far_blk (by first|(with_reducible assumption)|omega)) (fa0))))))) hS) ?_ (fun j u hj h=> ?_)
     ·rw [if_neg (by decide)]
      exact fa ⟨setAll_at (w.heap.size+1) [.int .i64 A,.int .i64 (-s),.int .i64 e] 0 wx 0 (show 0<3 by decide) ⟨vx0,cx0⟩,(by first|omega|(simp;omega)|(simp;done))⟩ (fa ⟨setAll_at (w.heap.size+1) [.int .i64 A,.int .i64 (-s),.int .i64 e] 0 wx 1 (show 1<3 by decide) ⟨vx1,cx1⟩,(by first|omega|(simp;omega)|(simp;done))⟩ (fa ⟨setAll_at (w.heap.size+1) [.int .i64 A,.int .i64 (-s),.int .i64 e] 0 wx 2 (show 2<3 by decide) ⟨vx2,cx2⟩,(by first|omega|(simp;omega)|(simp;done))⟩ (fa0)))
     ·match j,hj with
      |0,hj=>exact (show (u:Value)=_ from h)
      |1,hj=>exact (show (u:Value)=_ from h)
      |2,hj=>exact (show (u:Value)=_ from h)
      |3,hj=>exact (show (u:Value)=_ from h)
      |4,hj=>exact (show (u:Value)=_ from h)
      |5,hj=>exact (show (u:Value)=_ from h)
      |6,hj=>exact (show (u:Value)=_ from h)
      |7,hj=>exact (show (u:Value)=_ from h)
      |8,hj=>exact (show (u:Value)=_ from h)
      |9,hj=>exact (show (u:Value)=_ from h)
      |10,hj=>exact (show (u:Value)=_ from h)
      |11,hj=>exact (show (u:Value)=_ from h)
      |12,hj=>exact (show (u:Value)=_ from h)
      |13,hj=>exact (show (u:Value)=_ from h)
      |14,hj=>exact (show (u:Value)=_ from h)
      |15,hj=>exact absurd rfl hj
      |j+16,_=>trivial
    all_goals (refine hK _ _ hS ?_ (fun j u _ h=>h);rw [if_pos (by rfl)];show (_:Value)=_;(first|rfl|(refine congrArg (Value.int .i64) ?_;first|rfl|exact int_in (by omega)|exact quo_in (by omega) (by omega) (by omega)|exact rem_in (by omega) (by omega)|omega|exact HX2)|(simp;done)|(simp [*];done)))
   ·intro aq wx hd hw hf hS hg
    have haq:aq=⟨#[tau aq 0,tau aq 1,tau aq 2,tau aq 3,tau aq 4,tau aq 5,tau aq 6,tau aq 7,tau aq 8,tau aq 9,tau aq 10,tau aq 11,tau aq 12,tau aq 13,tau aq 14,tau aq 15,tau aq 16,tau aq 17,tau aq 18,tau aq 19,tau aq 20,tau aq 21,tau aq 22,tau aq 23,tau aq 24,tau aq 25,tau aq 26,tau aq 27,tau aq 28,tau aq 29,tau aq 30,tau aq 31,tau aq 32,tau aq 33,tau aq 34,tau aq 35,tau aq 36,tau aq 37,tau aq 38,tau aq 39,tau aq 40,tau aq 41,tau aq 42,tau aq 43,tau aq 44,tau aq 45,tau aq 46,tau aq 47,tau aq 48,tau aq 49,tau aq 50,tau aq 51,tau aq 52,tau aq 53,tau aq 54,tau aq 55,tau aq 56,tau aq 57,tau aq 58,tau aq 59,tau aq 60,tau aq 61,tau aq 62,tau aq 63,tau aq 64,tau aq 65,tau aq 66,tau aq 67,tau aq 68],[]⟩:=by
     obtain ⟨tq,dq⟩:=aq
     have h5:=arr_eq (show tq.size=69 from hw)
     have h6:dq= []:=hd
     subst h6
     exact congrArg (fun z=>Act.mk z []) h5
    show K2 aq wx
    rw[haq,hf 0,hf 1,hf 2,hf 3,hf 4,hf 5,hf 6,hf 7,hf 8,hf 9,hf 10,hf 11,hf 12,hf 13,hf 14,hf 15,hf 16,hf 17,hf 18,hf 19,hf 20,hf 21,hf 22,hf 23,hf 24,hf 25,hf 26,hf 27,hf 28,hf 29,hf 30,hf 31,hf 32,hf 33,hf 34,hf 35,hf 36,hf 37,hf 38,hf 39,hf 40,hf 41,hf 42,hf 43,hf 44,hf 45,hf 46,hf 47,hf 48,hf 49,hf 50,hf 51,hf 52,hf 53]
    clear haq hf hd hw
    try dsimp only
    refine h3 _ _ ?_
    go_meet
    exact ⟨(hg 15 (by decide) (⟨w.heap.size+1,0,none⟩,.int .i64 A) (by simp)).1,(hS.free ⟨w.heap.size+1,0,none⟩ (by simp)).2,(hg 15 (by decide) (⟨w.heap.size+1,1,none⟩,.int .i64 (-s)) (by simp)).1,(hS.free ⟨w.heap.size+1,1,none⟩ (by simp)).2,(hg 15 (by decide) (⟨w.heap.size+1,2,none⟩,.int .i64 e) (by simp)).1,(hS.free ⟨w.heap.size+1,2,none⟩ (by simp)).2,hS.cells (⟨w1.heap.size,0,none⟩,.int .i64 a) (by simp),hS.cells (⟨w1.heap.size,1,none⟩,.int .i64 b) (by simp),hS.cells (⟨w1.heap.size,2,none⟩,.int .i64 c) (by simp),hS.cells (⟨w3.heap.size,0,none⟩,.int .i64 e) (by simp),hS.cells (⟨w3.heap.size,1,none⟩,.int .i64 B) (by simp),hS.cells (⟨w3.heap.size,2,none⟩,.int .i64 C) (by simp),hS.below⟩
  try clear c00
  try clear c01
  try clear c02
  try clear c10
  try clear c11
  try clear c12
  try clear c20
  try clear c21
  try clear c22
  try clear f00
  try clear f01
  try clear f02
  obtain ⟨c00,f00,c01,f01,c02,f02,c10,c11,c12,c20,c21,c22,hb0⟩:=hcut
  have z0:=World.block_lt_of_cell? _ _ c00
  have z1:=World.block_lt_of_cell? _ _ c10
  have z2:=World.block_lt_of_cell? _ _ c20
  change w.heap.size+1<wc.heap.size at z0
  change w1.heap.size<wc.heap.size at z1
  change w3.heap.size<wc.heap.size at z2
  go_wp2
  refine bodyPost_ret (v:= .agg #[.int .i64 A,.int .i64 (-s),.int .i64 e]) (by simp [results,Tryz.results46,go_sem, *]) rfl ?_
  exact ⟨by rw[unhide HV],hb0⟩
end Go.Proofs.YtobkcnmlmmhpoaaGreat
