/- FrickeForm and projective points on both sides. -/
import Derived.Test.YtobkcnmlmmhpoaaGreatLevel
import Derived.Test.YtobkcnmlmmhpoaaGreatRule
namespace Go.Proofs.YtobkcnmlmmhpoaaGreat
open Go.RowKit
set_option linter.unusedVariables false
set_option linter.unusedSimpArgs false
attribute [local go_sem] q2 q3 q4 q5 q6 q7 q8 q9 q10 q11 q12

def frOk (a b c n:Int):Bool:=lvB a b c n&&numB (n*c)
def frA (a b c n:Int):Int:=if frOk a b c n then n*c else 0
def frB (a b c n:Int):Int:=if frOk a b c n then -b else 0
def frC (a b c n:Int):Int:=if frOk a b c n then a / n else 0
def frV (a b c n:Int):Value:= .tuple #[.agg #[.int .i64 (frA a b c n),.int .i64 (frB a b c n),.int .i64 (frC a b c n)],.bool (frOk a b c n)]
theorem frV_no {a b c n:Int} (h:frOk a b c n=false):Ending.returned (.tuple #[.agg #[.int .i64 0,.int .i64 0,.int .i64 0],.bool false])= .returned (frV a b c n):=by simp [frV,frA,frB,frC,h]
theorem frV_yes {a b c n:Int} (h:frOk a b c n=true):Ending.returned (.tuple #[.agg #[.int .i64 (n*c),.int .i64 (-b),.int .i64 (a / n)],.bool true])= .returned (frV a b c n):=by simp [frV,frA,frB,frC,h]
theorem div_bd {a n:Int} (ha:0<a) (h:a≤1000000) (hn:1≤n):0≤a / n∧a / n≤1000000:=⟨Int.ediv_nonneg (by omega) (by omega),by have:=Int.ediv_le_self n (show 0≤a by omega);omega⟩
theorem fr_form {a b c n:Int} (h:hasB a b c n=true):formB (n*c) (-b) (a / n)=numB (n*c):=by
 obtain ⟨_,e1,e2,e3,e4,e5,e6,_⟩:=has_facts h
 obtain ⟨d1,d2⟩:=div_bd e3 e4 e1
 have h1:numB (-b)=true:=by simp [numB,inB];omega
 have h2:numB (a / n)=true:=by simp [numB,inB];omega
 rw[form_num,h1,h2];simp
theorem nc_bd {c n:Int} (h0:0<c) (h1:c≤1000000) (h2:1≤n) (h3:n≤30):0≤n*c∧n*c≤30000000:=by
 have:=mul_bd (a:=n) (b:=c) (A:=30) (B:=1000000) (by omega) (by omega) (by omega)
 exact ⟨Int.mul_nonneg (by omega) (by omega),by omega⟩

set_option maxRecDepth 100000 in
set_option maxHeartbeats 2000000 in
theorem implFrickeForm_a (a b c n:Int) (w:World) (h0:I64 a) (h1:I64 b) (h2:I64 c):
  Calls Tryz.prog 11 #[.agg #[.int .i64 a,.int .i64 b,.int .i64 c],.int .i64 n] w fun e w'=>e= .returned (frV a b c n)∧Below w.heap.size w w':=by
 cases k0:lvB a b c n
 ·have hv:=frV_no (a:=a) (b:=b) (c:=c) (n:=n) (by simp [frOk,k0])
  have HV:=hide hv
  clear hv
  go_enter Tryz.func11,Tryz.ntmps11
  go_wp2_with (go_at_call 20;refine (isLevelForm_a _ _ _ _ _ (by first|assumption|omega) (by first|assumption|omega) (by first|assumption|omega)).mono ?_;rintro e w1 ⟨rfl,hb⟩;have c00:=cell_call hb (a:=⟨w.heap.size,0,none⟩) (v:= .int .i64 a) (by first|assumption|go_simp);have c01:=cell_call hb (a:=⟨w.heap.size,1,none⟩) (v:= .int .i64 b) (by first|assumption|go_simp);have c02:=cell_call hb (a:=⟨w.heap.size,2,none⟩) (v:= .int .i64 c) (by first|assumption|go_simp);have z0:=lt_keep hb (w.heap.size) (by first|assumption|(simp;omega)|(simp;done));have c10:=cell_call hb (a:=⟨w.heap.size+1,0,none⟩) (v:= .int .i64 0) (by first|assumption|go_simp);have f10:=frz_call hb (a:=⟨w.heap.size+1,0,none⟩) (by first|assumption|(simp;omega)|(simp;done)) (by first|assumption|go_simp);have c11:=cell_call hb (a:=⟨w.heap.size+1,1,none⟩) (v:= .int .i64 0) (by first|assumption|go_simp);have f11:=frz_call hb (a:=⟨w.heap.size+1,1,none⟩) (by first|assumption|(simp;omega)|(simp;done)) (by first|assumption|go_simp);have c12:=cell_call hb (a:=⟨w.heap.size+1,2,none⟩) (v:= .int .i64 0) (by first|assumption|go_simp);have f12:=frz_call hb (a:=⟨w.heap.size+1,2,none⟩) (by first|assumption|(simp;omega)|(simp;done)) (by first|assumption|go_simp);have z1:=lt_keep hb (w.heap.size+1) (by first|assumption|(simp;omega)|(simp;done));have hs:=hb.size)
  first|go_returns|(refine bodyPost_ret (v:= .tuple #[.agg #[.int .i64 0,.int .i64 0,.int .i64 0],.bool false]) (by simp [results,Tryz.results11,go_sem, *]) rfl ?_)
  refine ⟨unhide HV,?_⟩
  (repeat' (first|(with_reducible exact Below.refl _ _)|(with_reducible assumption)|(with_reducible refine gr_alloc ?_ _)|(with_reducible refine below_drewN ?_ _)|(with_reducible refine below_drew ?_)|(with_reducible refine gr_call ?_ (by assumption))|(with_reducible refine Below.setCell ?_ ?_ _)|go_size|omega|(simp;omega)))
 ·obtain ⟨_,e1,e2,e3,e4,e5,e6,e7,e8⟩:=has_facts (lv_has k0)
  obtain ⟨n1,n2⟩:=nc_bd e7 e8 e1 e2
  have hff:=fr_form (lv_has k0)
  have HF:=hide hff
  clear hff
  obtain ⟨d1,d2⟩:=div_bd e3 e4 e1
  cases k1:formB (n*c) (-b) (a / n)
  ·have hv:=frV_no (a:=a) (b:=b) (c:=c) (n:=n) (by simp [frOk,k0];exact ((unhide HF).symm.trans k1))
   have HV:=hide hv
   clear hv
   go_enter Tryz.func11,Tryz.ntmps11
   go_upto_region 3 with (go_at_call 20;refine (isLevelForm_a _ _ _ _ _ (by first|assumption|omega) (by first|assumption|omega) (by first|assumption|omega)).mono ?_;rintro e w1 ⟨rfl,hb⟩;have c00:=cell_call hb (a:=⟨w.heap.size,0,none⟩) (v:= .int .i64 a) (by first|assumption|go_simp);have c01:=cell_call hb (a:=⟨w.heap.size,1,none⟩) (v:= .int .i64 b) (by first|assumption|go_simp);have c02:=cell_call hb (a:=⟨w.heap.size,2,none⟩) (v:= .int .i64 c) (by first|assumption|go_simp);have z0:=lt_keep hb (w.heap.size) (by first|assumption|(simp;omega)|(simp;done));have c10:=cell_call hb (a:=⟨w.heap.size+1,0,none⟩) (v:= .int .i64 0) (by first|assumption|go_simp);have f10:=frz_call hb (a:=⟨w.heap.size+1,0,none⟩) (by first|assumption|(simp;omega)|(simp;done)) (by first|assumption|go_simp);have c11:=cell_call hb (a:=⟨w.heap.size+1,1,none⟩) (v:= .int .i64 0) (by first|assumption|go_simp);have f11:=frz_call hb (a:=⟨w.heap.size+1,1,none⟩) (by first|assumption|(simp;omega)|(simp;done)) (by first|assumption|go_simp);have c12:=cell_call hb (a:=⟨w.heap.size+1,2,none⟩) (v:= .int .i64 0) (by first|assumption|go_simp);have f12:=frz_call hb (a:=⟨w.heap.size+1,2,none⟩) (by first|assumption|(simp;omega)|(simp;done)) (by first|assumption|go_simp);have z1:=lt_keep hb (w.heap.size+1) (by first|assumption|(simp;omega)|(simp;done));have hs:=hb.size)
   go_cut [6] (fun s6 wx=> ∃g:Nat,s6= .pointer (some ⟨g,0,none⟩)∧wx.cell? ⟨w.heap.size,0,none⟩=some (.int .i64 a)∧wx.cell? ⟨w.heap.size,1,none⟩=some (.int .i64 b)∧wx.cell? ⟨w.heap.size,2,none⟩=some (.int .i64 c)∧wx.cell? ⟨w.heap.size+1,0,none⟩=some (.int .i64 0)∧wx.frozen? ⟨w.heap.size+1,0,none⟩=false∧wx.cell? ⟨w.heap.size+1,1,none⟩=some (.int .i64 0)∧wx.frozen? ⟨w.heap.size+1,1,none⟩=false∧wx.cell? ⟨w.heap.size+1,2,none⟩=some (.int .i64 0)∧wx.frozen? ⟨w.heap.size+1,2,none⟩=false∧wx.cell? ⟨g,0,none⟩=some (.int .i64 (n*c))∧wx.frozen? ⟨g,0,none⟩=false∧wx.cell? ⟨g,1,none⟩=some (.int .i64 (-b))∧wx.frozen? ⟨g,1,none⟩=false∧wx.cell? ⟨g,2,none⟩=some (.int .i64 (a / n))∧wx.frozen? ⟨g,2,none⟩=false∧Below w.heap.size w wx∧w1.heap.size≤g)
   case first=>
    rename_i Q1 K1 h1 J1 K2 h2 h3
    refine region_inv2 (by kernel_rfl) (fun j=> #[12,13,14,15,16,17,18,19,20,21,22,23,6,6].getD j 0) (fun j=>Kd.ok ((fun j=>match j with|0=>Kd.val (.int .i64 n)|1=>Kd.val (.pointer (some ⟨w.heap.size,2,none⟩))|2=>Kd.val (.int .i64 c)|3=>Kd.val (.int .i64 (n*c))|4=>Kd.val (.pointer (some ⟨w.heap.size,1,none⟩))|5=>Kd.val (.int .i64 b)|6=>Kd.val (.int .i64 (-b))|7=>Kd.val (.pointer (some ⟨w.heap.size,0,none⟩))|8=>Kd.val (.int .i64 a)|9=>Kd.val (.int .i64 n)|10=>Kd.val (.int .i64 (a / n))|11=>Kd.val (.agg #[.int .i64 (n*c),.int .i64 (-b),.int .i64 (a / n)])|12=>Kd.own (w1.heap.size) 3|13=>Kd.held (w1.heap.size) [.int .i64 (n*c),.int .i64 (-b),.int .i64 (a / n)]|_=>Kd.any:Nat→Kd) j)) (Sy w (w1.heap.size) [(⟨w.heap.size,0,none⟩,.int .i64 a),(⟨w.heap.size,1,none⟩,.int .i64 b),(⟨w.heap.size,2,none⟩,.int .i64 c),(⟨w.heap.size+1,0,none⟩,.int .i64 0),(⟨w.heap.size+1,1,none⟩,.int .i64 0),(⟨w.heap.size+1,2,none⟩,.int .i64 0)] [⟨w.heap.size+1,0,none⟩,⟨w.heap.size+1,1,none⟩,⟨w.heap.size+1,2,none⟩]) (fun j=> #[true,true,true,true,true,true,true,true,true,true,true,true,true,true].getD j true) (by kernel_rfl) ?_ ?_ ?_ ?_ ?_ ?_
    ·intro j hj
     have hj2:j<14:=hj
     have: ∀j,j<14→(#[12,13,14,15,16,17,18,19,20,21,22,23,6,6]:Array Nat).getD j 0<29:=by decide
     exact this j hj2
    ·intro i o ho
     match i,ho with
     |0,ho=>cases ho;intro aq wq hd;exact wanted_free rfl
     |1,ho=>cases ho;intro aq wq hd;exact wanted_free rfl
     |2,ho=>cases ho;intro aq wq hd;exact wanted_free rfl
     |3,ho=>cases ho;intro aq wq hd;exact wanted_free rfl
     |4,ho=>cases ho;intro aq wq hd;exact wanted_free rfl
     |5,ho=>cases ho;intro aq wq hd;exact wanted_free rfl
     |6,ho=>cases ho;intro aq wq hd;exact wanted_free rfl
     |7,ho=>cases ho;intro aq wq hd;exact wanted_free rfl
     |8,ho=>cases ho;intro aq wq hd;exact wanted_free rfl
     |9,ho=>cases ho;intro aq wq hd;exact wanted_free rfl
     |10,ho=>cases ho;intro aq wq hd;exact wanted_free rfl
     |11,ho=>cases ho;intro aq wq hd;exact wanted_free rfl
     |12,ho=>cases ho;intro aq wq hd;exact wanted_free rfl
     |13,ho=>cases ho;intro aq wq hd;exact wanted_free rfl
     |i+14,ho=>exact absurd ho (by simp)
    ·refine Sy.drew (Sy.mk_of ?_ ?_ ?_ ?_)
     ·first|rfl|(simp;done)|(simp;omega)
     ·intro c hc
      simp only[List.mem_cons,List.not_mem_nil,or_false] at hc
      rcases hc with rfl|rfl|rfl|rfl|rfl|rfl<;>first|assumption|(go_simp;done)
     ·intro p hp
      simp only[List.mem_cons,List.not_mem_nil,or_false] at hp
      rcases hp with rfl|rfl|rfl<;>exact ⟨by first|exact ⟨_,by assumption⟩|assumption|(go_simp;done)|(go_simp;exact ⟨_,rfl⟩),by first|assumption|(go_simp;done)⟩
     ·(repeat' (first|(with_reducible exact Below.refl _ _)|(with_reducible assumption)|(with_reducible refine gr_alloc ?_ _)|(with_reducible refine below_drewN ?_ _)|(with_reducible refine below_drew ?_)|(with_reducible refine gr_call ?_ (by assumption))|(with_reducible refine Below.setCell ?_ ?_ _)|go_size|omega|(simp;omega)))
    ·clear h1 h2 h3
     intro i o ho
     match i,ho with
     |0,ho=>
      cases ho
      intro _ aq wx Kq hf hS hdep hw hK
      have F1:aq.eval (.tmp 1)= .int .i64 n:=hf 1 (by decide +kernel)
      clear hf hw hdep
      have ev1:=ev_const aq
      have ev2:=ev_func aq
      unfold Oper.wp
      generalize Act.eval _=ev at*
      go_simp
      refine hK _ _ hS ?_ (fun j u _ h=>h)
      rw[if_pos (by rfl)]
      show (_:Value)=_
      first|rfl|(refine congrArg (Value.int IntKind.i64) ?_;first|rfl|exact int_in (by omega)|exact quo_in (by omega) (by omega) (by omega)|exact rem_in (by omega) (by omega)|omega)|(simp;done)|(simp [*];done)
     |1,ho=>
      cases ho
      intro _ aq wx Kq hf hS hdep hw hK
      have F2:aq.eval (.tmp 2)= .pointer (some ⟨w.heap.size,0,none⟩):=hf 2 (by decide +kernel)
      clear hf hw hdep
      have ev1:=ev_const aq
      have ev2:=ev_func aq
      unfold Oper.wp
      generalize Act.eval _=ev at*
      go_simp
      refine hK _ _ hS ?_ (fun j u _ h=>h)
      rw[if_pos (by rfl)]
      show (_:Value)=_
      first|rfl|(refine congrArg (Value.int IntKind.i64) ?_;first|rfl|exact int_in (by omega)|exact quo_in (by omega) (by omega) (by omega)|exact rem_in (by omega) (by omega)|omega)|(simp;done)|(simp [*];done)
     |2,ho=>
      cases ho
      intro _ aq wx Kq hf hS hdep hw hK
      have D1:aq.eval (.tmp 13)=_:=hdep 1 (by decide +kernel)
      have c0:=hS.cells (⟨w.heap.size,2,none⟩,.int .i64 c) (by simp)
      clear hf hw hdep
      have ev1:=ev_const aq
      have ev2:=ev_func aq
      unfold Oper.wp
      generalize Act.eval _=ev at*
      go_simp
      refine hK _ _ hS ?_ (fun j u _ h=>h)
      rw[if_pos (by rfl)]
      show (_:Value)=_
      first|rfl|(refine congrArg (Value.int IntKind.i64) ?_;first|rfl|exact int_in (by omega)|exact quo_in (by omega) (by omega) (by omega)|exact rem_in (by omega) (by omega)|omega)|(simp;done)|(simp [*];done)
     |3,ho=>
      cases ho
      intro _ aq wx Kq hf hS hdep hw hK
      have D0:aq.eval (.tmp 12)=_:=hdep 0 (by decide +kernel)
      have D2:aq.eval (.tmp 14)=_:=hdep 2 (by decide +kernel)
      clear hf hw hdep
      have ev1:=ev_const aq
      have ev2:=ev_func aq
      unfold Oper.wp
      generalize Act.eval _=ev at*
      go_simp
      refine hK _ _ hS ?_ (fun j u _ h=>h)
      rw[if_pos (by rfl)]
      show (_:Value)=_
      first|rfl|(refine congrArg (Value.int IntKind.i64) ?_;first|rfl|exact int_in (by omega)|exact quo_in (by omega) (by omega) (by omega)|exact rem_in (by omega) (by omega)|omega)|(simp;done)|(simp [*];done)
     |4,ho=>
      cases ho
      intro _ aq wx Kq hf hS hdep hw hK
      have F2:aq.eval (.tmp 2)= .pointer (some ⟨w.heap.size,0,none⟩):=hf 2 (by decide +kernel)
      clear hf hw hdep
      have ev1:=ev_const aq
      have ev2:=ev_func aq
      unfold Oper.wp
      generalize Act.eval _=ev at*
      go_simp
      refine hK _ _ hS ?_ (fun j u _ h=>h)
      rw[if_pos (by rfl)]
      show (_:Value)=_
      first|rfl|(refine congrArg (Value.int IntKind.i64) ?_;first|rfl|exact int_in (by omega)|exact quo_in (by omega) (by omega) (by omega)|exact rem_in (by omega) (by omega)|omega)|(simp;done)|(simp [*];done)
     |5,ho=>
      cases ho
      intro _ aq wx Kq hf hS hdep hw hK
      have D4:aq.eval (.tmp 16)=_:=hdep 4 (by decide +kernel)
      have c0:=hS.cells (⟨w.heap.size,1,none⟩,.int .i64 b) (by simp)
      clear hf hw hdep
      have ev1:=ev_const aq
      have ev2:=ev_func aq
      unfold Oper.wp
      generalize Act.eval _=ev at*
      go_simp
      refine hK _ _ hS ?_ (fun j u _ h=>h)
      rw[if_pos (by rfl)]
      show (_:Value)=_
      first|rfl|(refine congrArg (Value.int IntKind.i64) ?_;first|rfl|exact int_in (by omega)|exact quo_in (by omega) (by omega) (by omega)|exact rem_in (by omega) (by omega)|omega)|(simp;done)|(simp [*];done)
     |6,ho=>
      cases ho
      intro _ aq wx Kq hf hS hdep hw hK
      have D5:aq.eval (.tmp 17)=_:=hdep 5 (by decide +kernel)
      clear hf hw hdep
      have ev1:=ev_const aq
      have ev2:=ev_func aq
      unfold Oper.wp
      generalize Act.eval _=ev at*
      go_simp
      refine hK _ _ hS ?_ (fun j u _ h=>h)
      rw[if_pos (by rfl)]
      show (_:Value)=_
      first|rfl|(refine congrArg (Value.int IntKind.i64) ?_;first|rfl|exact int_in (by omega)|exact quo_in (by omega) (by omega) (by omega)|exact rem_in (by omega) (by omega)|omega)|(simp;done)|(simp [*];done)
     |7,ho=>
      cases ho
      intro _ aq wx Kq hf hS hdep hw hK
      have F2:aq.eval (.tmp 2)= .pointer (some ⟨w.heap.size,0,none⟩):=hf 2 (by decide +kernel)
      clear hf hw hdep
      have ev1:=ev_const aq
      have ev2:=ev_func aq
      unfold Oper.wp
      generalize Act.eval _=ev at*
      go_simp
      refine hK _ _ hS ?_ (fun j u _ h=>h)
      rw[if_pos (by rfl)]
      show (_:Value)=_
      first|rfl|(refine congrArg (Value.int IntKind.i64) ?_;first|rfl|exact int_in (by omega)|exact quo_in (by omega) (by omega) (by omega)|exact rem_in (by omega) (by omega)|omega)|(simp;done)|(simp [*];done)
     |8,ho=>
      cases ho
      intro _ aq wx Kq hf hS hdep hw hK
      have D7:aq.eval (.tmp 19)=_:=hdep 7 (by decide +kernel)
      have c0:=hS.cells (⟨w.heap.size,0,none⟩,.int .i64 a) (by simp)
      clear hf hw hdep
      have ev1:=ev_const aq
      have ev2:=ev_func aq
      unfold Oper.wp
      generalize Act.eval _=ev at*
      go_simp
      refine hK _ _ hS ?_ (fun j u _ h=>h)
      rw[if_pos (by rfl)]
      show (_:Value)=_
      first|rfl|(refine congrArg (Value.int IntKind.i64) ?_;first|rfl|exact int_in (by omega)|exact quo_in (by omega) (by omega) (by omega)|exact rem_in (by omega) (by omega)|omega)|(simp;done)|(simp [*];done)
     |9,ho=>
      cases ho
      intro _ aq wx Kq hf hS hdep hw hK
      have F1:aq.eval (.tmp 1)= .int .i64 n:=hf 1 (by decide +kernel)
      clear hf hw hdep
      have ev1:=ev_const aq
      have ev2:=ev_func aq
      unfold Oper.wp
      generalize Act.eval _=ev at*
      go_simp
      refine hK _ _ hS ?_ (fun j u _ h=>h)
      rw[if_pos (by rfl)]
      show (_:Value)=_
      first|rfl|(refine congrArg (Value.int IntKind.i64) ?_;first|rfl|exact int_in (by omega)|exact quo_in (by omega) (by omega) (by omega)|exact rem_in (by omega) (by omega)|omega)|(simp;done)|(simp [*];done)
     |10,ho=>
      cases ho
      intro _ aq wx Kq hf hS hdep hw hK
      have D8:aq.eval (.tmp 20)=_:=hdep 8 (by decide +kernel)
      have D9:aq.eval (.tmp 21)=_:=hdep 9 (by decide +kernel)
      clear hf hw hdep
      have ev1:=ev_const aq
      have ev2:=ev_func aq
      unfold Oper.wp
      generalize Act.eval _=ev at*
      go_simp
      rw[if_neg (by omega),Oper.upon_value]
      refine hK _ _ hS ?_ (fun j u _ h=>h)
      rw[if_pos (by rfl)]
      show (_:Value)=_
      first|rfl|(refine congrArg (Value.int IntKind.i64) ?_;first|rfl|exact int_in (by omega)|exact quo_in (by omega) (by omega) (by omega)|exact rem_in (by omega) (by omega)|omega)|(simp;done)|(simp [*];done)
     |11,ho=>
      cases ho
      intro _ aq wx Kq hf hS hdep hw hK
      have D3:aq.eval (.tmp 15)=_:=hdep 3 (by decide +kernel)
      have D6:aq.eval (.tmp 18)=_:=hdep 6 (by decide +kernel)
      have D10:aq.eval (.tmp 22)=_:=hdep 10 (by decide +kernel)
      clear hf hw hdep
      have ev1:=ev_const aq
      have ev2:=ev_func aq
      unfold Oper.wp
      generalize Act.eval _=ev at*
      go_simp
      refine hK _ _ hS ?_ (fun j u _ h=>h)
      rw[if_pos (by rfl)]
      show (_:Value)=_
      first|rfl|(refine congrArg (Value.int IntKind.i64) ?_;first|rfl|exact int_in (by omega)|exact quo_in (by omega) (by omega) (by omega)|exact rem_in (by omega) (by omega)|omega)|(simp;done)|(simp [*];done)
     |12,ho=>
      cases ho
      intro _ aq wx Kq hf hS hdep hw hK
      clear hf hw hdep
      have ev1:=ev_const aq
      have ev2:=ev_func aq
      unfold Oper.wp
      generalize Act.eval _=ev at*
      go_simp
      refine hK _ _ (hS.call (below_alloc_self _ _)) ?_ (fun j u _ h=>Kd.ok_below (below_alloc_self _ _) h)
      rw[if_pos (by rfl)]
      exact kd_new hS.size rfl
     |13,ho=>
      cases ho
      intro _ aq wx Kq hf hS hdep hw hK
      have D11:aq.eval (.tmp 23)=_:=hdep 11 (by decide +kernel)
      obtain ⟨gn,D12,r1,r2,r3⟩:=hdep 12 (by decide +kernel)
      change aq.eval (.tmp 6)=_ at D12
      obtain ⟨⟨vx0,cx0⟩,cf0⟩:=r3 0 (by decide)
      obtain ⟨⟨vx1,cx1⟩,cf1⟩:=r3 1 (by decide)
      obtain ⟨⟨vx2,cx2⟩,cf2⟩:=r3 2 (by decide)
      have D12':tau aq 6=_:=D12
      clear hf hw hdep
      have ev1:=ev_const aq
      have ev2:=ev_func aq
      unfold Oper.wp
      generalize Act.eval _=ev at*
      go_simp
      refine hK undef _ (Sy.set_new (p:=⟨gn,2,none⟩) r1 (Sy.set_new (p:=⟨gn,1,none⟩) r1 (Sy.set_new (p:=⟨gn,0,none⟩) r1 (hS)))) ?_ (fun j u hj h=> ?_)
      ·rw [if_neg (by decide)]
       refine ⟨gn,D12',r1,by simpa using r2,fun j hj=> ?_⟩
       match j,hj with
       |0,_=>exact ⟨by go_simp,by go_simp⟩
       |1,_=>exact ⟨by go_simp,by go_simp⟩
       |2,_=>exact ⟨by go_simp,by go_simp⟩
       |j+3,hj=>exact absurd (show j+3<3 from hj) (by omega)
      ·match j,hj with
       |0,hj=>exact h
       |1,hj=>exact h
       |2,hj=>exact h
       |3,hj=>exact h
       |4,hj=>exact h
       |5,hj=>exact h
       |6,hj=>exact h
       |7,hj=>exact h
       |8,hj=>exact h
       |9,hj=>exact h
       |10,hj=>exact h
       |11,hj=>exact h
       |12,hj=>exact Kd.ok_set (p:=⟨gn,2,none⟩) rfl trivial (Kd.ok_set (p:=⟨gn,1,none⟩) rfl trivial (Kd.ok_set (p:=⟨gn,0,none⟩) rfl trivial (h)))
       |13,hj=>exact absurd rfl hj
       |j+14,_=>exact h
     |i+14,ho=>exact absurd ho (by simp)
    ·intro i o ho hr
     match i,ho with
     |0,ho=>exact absurd hr (by decide)
     |1,ho=>exact absurd hr (by decide)
     |2,ho=>exact absurd hr (by decide)
     |3,ho=>exact absurd hr (by decide)
     |4,ho=>exact absurd hr (by decide)
     |5,ho=>exact absurd hr (by decide)
     |6,ho=>exact absurd hr (by decide)
     |7,ho=>exact absurd hr (by decide)
     |8,ho=>exact absurd hr (by decide)
     |9,ho=>exact absurd hr (by decide)
     |10,ho=>exact absurd hr (by decide)
     |11,ho=>exact absurd hr (by decide)
     |12,ho=>exact absurd hr (by decide)
     |13,ho=>exact absurd hr (by decide)
     |i+14,ho=>exact absurd ho (by simp)
    ·intro aq wx hd hw hf hS hg
     have F0:tau aq 0=_:=hf 0 (by decide +kernel)
     have F1:tau aq 1=_:=hf 1 (by decide +kernel)
     have F2:tau aq 2=_:=hf 2 (by decide +kernel)
     have F3:tau aq 3=_:=hf 3 (by decide +kernel)
     have F4:tau aq 4=_:=hf 4 (by decide +kernel)
     have F5:tau aq 5=_:=hf 5 (by decide +kernel)
     have F7:tau aq 7=_:=hf 7 (by decide +kernel)
     have F8:tau aq 8=_:=hf 8 (by decide +kernel)
     have F9:tau aq 9=_:=hf 9 (by decide +kernel)
     have F10:tau aq 10=_:=hf 10 (by decide +kernel)
     have F11:tau aq 11=_:=hf 11 (by decide +kernel)
     have F24:tau aq 24=_:=hf 24 (by decide +kernel)
     have F25:tau aq 25=_:=hf 25 (by decide +kernel)
     have F26:tau aq 26=_:=hf 26 (by decide +kernel)
     have F27:tau aq 27=_:=hf 27 (by decide +kernel)
     have F28:tau aq 28=_:=hf 28 (by decide +kernel)
     obtain ⟨g,G6,r1g,r2g,r3g⟩:=hg 13 (by decide)
     change tau aq 6=_ at G6
     have haq:aq=⟨#[tau aq 0,tau aq 1,tau aq 2,tau aq 3,tau aq 4,tau aq 5,tau aq 6,tau aq 7,tau aq 8,tau aq 9,tau aq 10,tau aq 11,tau aq 12,tau aq 13,tau aq 14,tau aq 15,tau aq 16,tau aq 17,tau aq 18,tau aq 19,tau aq 20,tau aq 21,tau aq 22,tau aq 23,tau aq 24,tau aq 25,tau aq 26,tau aq 27,tau aq 28],[]⟩:=by
      obtain ⟨tq,dq⟩:=aq
      have h5:=arr_eq (show tq.size=29 from hw)
      have h6:dq= []:=hd
      subst h6
      exact congrArg (fun z=>Act.mk z []) h5
     show K2 aq wx
     rw[haq,F0,F1,F2,F3,F4,F5,F7,F8,F9,F10,F11,F24,F25,F26,F27,F28,G6]
     clear haq hf hd hw
     try dsimp only
     refine h3 _ _ ?_
     go_meet
     exact ⟨g,rfl,hS.cells (⟨w.heap.size,0,none⟩,.int .i64 a) (by simp),hS.cells (⟨w.heap.size,1,none⟩,.int .i64 b) (by simp),hS.cells (⟨w.heap.size,2,none⟩,.int .i64 c) (by simp),hS.cells (⟨w.heap.size+1,0,none⟩,.int .i64 0) (by simp),(hS.free ⟨w.heap.size+1,0,none⟩ (by simp)).2,hS.cells (⟨w.heap.size+1,1,none⟩,.int .i64 0) (by simp),(hS.free ⟨w.heap.size+1,1,none⟩ (by simp)).2,hS.cells (⟨w.heap.size+1,2,none⟩,.int .i64 0) (by simp),(hS.free ⟨w.heap.size+1,2,none⟩ (by simp)).2,(r3g 0 (by simp)).1,(r3g 0 (by simp)).2,(r3g 1 (by simp)).1,(r3g 1 (by simp)).2,(r3g 2 (by simp)).1,(r3g 2 (by simp)).2,hS.below,r1g⟩
   case rest=>
    obtain ⟨g,rfl,c00,c01,c02,c10,f10,c11,f11,c12,f12,c20,f20,c21,f21,c22,f22,hb0,ng⟩:=hcut
    have z0:=World.block_lt_of_cell? _ _ c00
    have z1:=World.block_lt_of_cell? _ _ c10
    have z2:=World.block_lt_of_cell? _ _ c20
    change _<wc.heap.size at z0
    change _<wc.heap.size at z1
    change _<wc.heap.size at z2
    go_wp2_with (go_at_call 26;refine (IsForm_a (n*c) (-b) (a / n) _ ⟨by omega,by omega⟩ ⟨by omega,by omega⟩ ⟨by omega,by omega⟩).mono ?_;rintro e w1 ⟨rfl,hb⟩;have c00:=cell_call hb (a:=⟨w.heap.size,0,none⟩) (v:= .int .i64 a) (by first|assumption|go_simp);have c01:=cell_call hb (a:=⟨w.heap.size,1,none⟩) (v:= .int .i64 b) (by first|assumption|go_simp);have c02:=cell_call hb (a:=⟨w.heap.size,2,none⟩) (v:= .int .i64 c) (by first|assumption|go_simp);have z0:=lt_keep hb (w.heap.size) (by first|assumption|(simp;omega)|(simp;done));have c10:=cell_call hb (a:=⟨w.heap.size+1,0,none⟩) (v:= .int .i64 0) (by first|assumption|go_simp);have f10:=frz_call hb (a:=⟨w.heap.size+1,0,none⟩) (by first|assumption|(simp;omega)|(simp;done)) (by first|assumption|go_simp);have c11:=cell_call hb (a:=⟨w.heap.size+1,1,none⟩) (v:= .int .i64 0) (by first|assumption|go_simp);have f11:=frz_call hb (a:=⟨w.heap.size+1,1,none⟩) (by first|assumption|(simp;omega)|(simp;done)) (by first|assumption|go_simp);have c12:=cell_call hb (a:=⟨w.heap.size+1,2,none⟩) (v:= .int .i64 0) (by first|assumption|go_simp);have f12:=frz_call hb (a:=⟨w.heap.size+1,2,none⟩) (by first|assumption|(simp;omega)|(simp;done)) (by first|assumption|go_simp);have z1:=lt_keep hb (w.heap.size+1) (by first|assumption|(simp;omega)|(simp;done));have c20:=cell_call hb (a:=⟨g,0,none⟩) (v:= .int .i64 (n*c)) (by first|assumption|go_simp);have f20:=frz_call hb (a:=⟨g,0,none⟩) (by first|assumption|(simp;omega)|(simp;done)) (by first|assumption|go_simp);have c21:=cell_call hb (a:=⟨g,1,none⟩) (v:= .int .i64 (-b)) (by first|assumption|go_simp);have f21:=frz_call hb (a:=⟨g,1,none⟩) (by first|assumption|(simp;omega)|(simp;done)) (by first|assumption|go_simp);have c22:=cell_call hb (a:=⟨g,2,none⟩) (v:= .int .i64 (a / n)) (by first|assumption|go_simp);have f22:=frz_call hb (a:=⟨g,2,none⟩) (by first|assumption|(simp;omega)|(simp;done)) (by first|assumption|go_simp);have z2:=lt_keep hb (g) (by first|assumption|(simp;omega)|(simp;done));have hs:=hb.size)
    first|go_returns|(refine bodyPost_ret (v:= .tuple #[.agg #[.int .i64 0,.int .i64 0,.int .i64 0],.bool false]) (by simp [results,Tryz.results11,go_sem, *]) rfl ?_)
    refine ⟨unhide HV,?_⟩
    (repeat' (first|(with_reducible exact Below.refl _ _)|(with_reducible assumption)|(with_reducible refine gr_alloc ?_ _)|(with_reducible refine below_drewN ?_ _)|(with_reducible refine below_drew ?_)|(with_reducible refine gr_call ?_ (by assumption))|(with_reducible refine Below.setCell ?_ ?_ _)|go_size|omega|(simp;omega)))
  ·have hv:=frV_yes (a:=a) (b:=b) (c:=c) (n:=n) (by simp [frOk,k0];exact ((unhide HF).symm.trans k1))
   have HV:=hide hv
   clear hv
   go_enter Tryz.func11,Tryz.ntmps11
   go_upto_region 3 with (go_at_call 20;refine (isLevelForm_a _ _ _ _ _ (by first|assumption|omega) (by first|assumption|omega) (by first|assumption|omega)).mono ?_;rintro e w1 ⟨rfl,hb⟩;have c00:=cell_call hb (a:=⟨w.heap.size,0,none⟩) (v:= .int .i64 a) (by first|assumption|go_simp);have c01:=cell_call hb (a:=⟨w.heap.size,1,none⟩) (v:= .int .i64 b) (by first|assumption|go_simp);have c02:=cell_call hb (a:=⟨w.heap.size,2,none⟩) (v:= .int .i64 c) (by first|assumption|go_simp);have z0:=lt_keep hb (w.heap.size) (by first|assumption|(simp;omega)|(simp;done));have c10:=cell_call hb (a:=⟨w.heap.size+1,0,none⟩) (v:= .int .i64 0) (by first|assumption|go_simp);have f10:=frz_call hb (a:=⟨w.heap.size+1,0,none⟩) (by first|assumption|(simp;omega)|(simp;done)) (by first|assumption|go_simp);have c11:=cell_call hb (a:=⟨w.heap.size+1,1,none⟩) (v:= .int .i64 0) (by first|assumption|go_simp);have f11:=frz_call hb (a:=⟨w.heap.size+1,1,none⟩) (by first|assumption|(simp;omega)|(simp;done)) (by first|assumption|go_simp);have c12:=cell_call hb (a:=⟨w.heap.size+1,2,none⟩) (v:= .int .i64 0) (by first|assumption|go_simp);have f12:=frz_call hb (a:=⟨w.heap.size+1,2,none⟩) (by first|assumption|(simp;omega)|(simp;done)) (by first|assumption|go_simp);have z1:=lt_keep hb (w.heap.size+1) (by first|assumption|(simp;omega)|(simp;done));have hs:=hb.size)
   go_cut [6] (fun s6 wx=> ∃g:Nat,s6= .pointer (some ⟨g,0,none⟩)∧wx.cell? ⟨w.heap.size,0,none⟩=some (.int .i64 a)∧wx.cell? ⟨w.heap.size,1,none⟩=some (.int .i64 b)∧wx.cell? ⟨w.heap.size,2,none⟩=some (.int .i64 c)∧wx.cell? ⟨w.heap.size+1,0,none⟩=some (.int .i64 0)∧wx.frozen? ⟨w.heap.size+1,0,none⟩=false∧wx.cell? ⟨w.heap.size+1,1,none⟩=some (.int .i64 0)∧wx.frozen? ⟨w.heap.size+1,1,none⟩=false∧wx.cell? ⟨w.heap.size+1,2,none⟩=some (.int .i64 0)∧wx.frozen? ⟨w.heap.size+1,2,none⟩=false∧wx.cell? ⟨g,0,none⟩=some (.int .i64 (n*c))∧wx.frozen? ⟨g,0,none⟩=false∧wx.cell? ⟨g,1,none⟩=some (.int .i64 (-b))∧wx.frozen? ⟨g,1,none⟩=false∧wx.cell? ⟨g,2,none⟩=some (.int .i64 (a / n))∧wx.frozen? ⟨g,2,none⟩=false∧Below w.heap.size w wx∧w1.heap.size≤g)
   case first=>
    rename_i Q1 K1 h1 J1 K2 h2 h3
    refine region_inv2 (by kernel_rfl) (fun j=> #[12,13,14,15,16,17,18,19,20,21,22,23,6,6].getD j 0) (fun j=>Kd.ok ((fun j=>match j with|0=>Kd.val (.int .i64 n)|1=>Kd.val (.pointer (some ⟨w.heap.size,2,none⟩))|2=>Kd.val (.int .i64 c)|3=>Kd.val (.int .i64 (n*c))|4=>Kd.val (.pointer (some ⟨w.heap.size,1,none⟩))|5=>Kd.val (.int .i64 b)|6=>Kd.val (.int .i64 (-b))|7=>Kd.val (.pointer (some ⟨w.heap.size,0,none⟩))|8=>Kd.val (.int .i64 a)|9=>Kd.val (.int .i64 n)|10=>Kd.val (.int .i64 (a / n))|11=>Kd.val (.agg #[.int .i64 (n*c),.int .i64 (-b),.int .i64 (a / n)])|12=>Kd.own (w1.heap.size) 3|13=>Kd.held (w1.heap.size) [.int .i64 (n*c),.int .i64 (-b),.int .i64 (a / n)]|_=>Kd.any:Nat→Kd) j)) (Sy w (w1.heap.size) [(⟨w.heap.size,0,none⟩,.int .i64 a),(⟨w.heap.size,1,none⟩,.int .i64 b),(⟨w.heap.size,2,none⟩,.int .i64 c),(⟨w.heap.size+1,0,none⟩,.int .i64 0),(⟨w.heap.size+1,1,none⟩,.int .i64 0),(⟨w.heap.size+1,2,none⟩,.int .i64 0)] [⟨w.heap.size+1,0,none⟩,⟨w.heap.size+1,1,none⟩,⟨w.heap.size+1,2,none⟩]) (fun j=> #[true,true,true,true,true,true,true,true,true,true,true,true,true,true].getD j true) (by kernel_rfl) ?_ ?_ ?_ ?_ ?_ ?_
    ·intro j hj
     have hj2:j<14:=hj
     have: ∀j,j<14→(#[12,13,14,15,16,17,18,19,20,21,22,23,6,6]:Array Nat).getD j 0<29:=by decide
     exact this j hj2
    ·intro i o ho
     match i,ho with
     |0,ho=>cases ho;intro aq wq hd;exact wanted_free rfl
     |1,ho=>cases ho;intro aq wq hd;exact wanted_free rfl
     |2,ho=>cases ho;intro aq wq hd;exact wanted_free rfl
     |3,ho=>cases ho;intro aq wq hd;exact wanted_free rfl
     |4,ho=>cases ho;intro aq wq hd;exact wanted_free rfl
     |5,ho=>cases ho;intro aq wq hd;exact wanted_free rfl
     |6,ho=>cases ho;intro aq wq hd;exact wanted_free rfl
     |7,ho=>cases ho;intro aq wq hd;exact wanted_free rfl
     |8,ho=>cases ho;intro aq wq hd;exact wanted_free rfl
     |9,ho=>cases ho;intro aq wq hd;exact wanted_free rfl
     |10,ho=>cases ho;intro aq wq hd;exact wanted_free rfl
     |11,ho=>cases ho;intro aq wq hd;exact wanted_free rfl
     |12,ho=>cases ho;intro aq wq hd;exact wanted_free rfl
     |13,ho=>cases ho;intro aq wq hd;exact wanted_free rfl
     |i+14,ho=>exact absurd ho (by simp)
    ·refine Sy.drew (Sy.mk_of ?_ ?_ ?_ ?_)
     ·first|rfl|(simp;done)|(simp;omega)
     ·intro c hc
      simp only[List.mem_cons,List.not_mem_nil,or_false] at hc
      rcases hc with rfl|rfl|rfl|rfl|rfl|rfl<;>first|assumption|(go_simp;done)
     ·intro p hp
      simp only[List.mem_cons,List.not_mem_nil,or_false] at hp
      rcases hp with rfl|rfl|rfl<;>exact ⟨by first|exact ⟨_,by assumption⟩|assumption|(go_simp;done)|(go_simp;exact ⟨_,rfl⟩),by first|assumption|(go_simp;done)⟩
     ·(repeat' (first|(with_reducible exact Below.refl _ _)|(with_reducible assumption)|(with_reducible refine gr_alloc ?_ _)|(with_reducible refine below_drewN ?_ _)|(with_reducible refine below_drew ?_)|(with_reducible refine gr_call ?_ (by assumption))|(with_reducible refine Below.setCell ?_ ?_ _)|go_size|omega|(simp;omega)))
    ·clear h1 h2 h3
     intro i o ho
     match i,ho with
     |0,ho=>
      cases ho
      intro _ aq wx Kq hf hS hdep hw hK
      have F1:aq.eval (.tmp 1)= .int .i64 n:=hf 1 (by decide +kernel)
      clear hf hw hdep
      have ev1:=ev_const aq
      have ev2:=ev_func aq
      unfold Oper.wp
      generalize Act.eval _=ev at*
      go_simp
      refine hK _ _ hS ?_ (fun j u _ h=>h)
      rw[if_pos (by rfl)]
      show (_:Value)=_
      first|rfl|(refine congrArg (Value.int IntKind.i64) ?_;first|rfl|exact int_in (by omega)|exact quo_in (by omega) (by omega) (by omega)|exact rem_in (by omega) (by omega)|omega)|(simp;done)|(simp [*];done)
     |1,ho=>
      cases ho
      intro _ aq wx Kq hf hS hdep hw hK
      have F2:aq.eval (.tmp 2)= .pointer (some ⟨w.heap.size,0,none⟩):=hf 2 (by decide +kernel)
      clear hf hw hdep
      have ev1:=ev_const aq
      have ev2:=ev_func aq
      unfold Oper.wp
      generalize Act.eval _=ev at*
      go_simp
      refine hK _ _ hS ?_ (fun j u _ h=>h)
      rw[if_pos (by rfl)]
      show (_:Value)=_
      first|rfl|(refine congrArg (Value.int IntKind.i64) ?_;first|rfl|exact int_in (by omega)|exact quo_in (by omega) (by omega) (by omega)|exact rem_in (by omega) (by omega)|omega)|(simp;done)|(simp [*];done)
     |2,ho=>
      cases ho
      intro _ aq wx Kq hf hS hdep hw hK
      have D1:aq.eval (.tmp 13)=_:=hdep 1 (by decide +kernel)
      have c0:=hS.cells (⟨w.heap.size,2,none⟩,.int .i64 c) (by simp)
      clear hf hw hdep
      have ev1:=ev_const aq
      have ev2:=ev_func aq
      unfold Oper.wp
      generalize Act.eval _=ev at*
      go_simp
      refine hK _ _ hS ?_ (fun j u _ h=>h)
      rw[if_pos (by rfl)]
      show (_:Value)=_
      first|rfl|(refine congrArg (Value.int IntKind.i64) ?_;first|rfl|exact int_in (by omega)|exact quo_in (by omega) (by omega) (by omega)|exact rem_in (by omega) (by omega)|omega)|(simp;done)|(simp [*];done)
     |3,ho=>
      cases ho
      intro _ aq wx Kq hf hS hdep hw hK
      have D0:aq.eval (.tmp 12)=_:=hdep 0 (by decide +kernel)
      have D2:aq.eval (.tmp 14)=_:=hdep 2 (by decide +kernel)
      clear hf hw hdep
      have ev1:=ev_const aq
      have ev2:=ev_func aq
      unfold Oper.wp
      generalize Act.eval _=ev at*
      go_simp
      refine hK _ _ hS ?_ (fun j u _ h=>h)
      rw[if_pos (by rfl)]
      show (_:Value)=_
      first|rfl|(refine congrArg (Value.int IntKind.i64) ?_;first|rfl|exact int_in (by omega)|exact quo_in (by omega) (by omega) (by omega)|exact rem_in (by omega) (by omega)|omega)|(simp;done)|(simp [*];done)
     |4,ho=>
      cases ho
      intro _ aq wx Kq hf hS hdep hw hK
      have F2:aq.eval (.tmp 2)= .pointer (some ⟨w.heap.size,0,none⟩):=hf 2 (by decide +kernel)
      clear hf hw hdep
      have ev1:=ev_const aq
      have ev2:=ev_func aq
      unfold Oper.wp
      generalize Act.eval _=ev at*
      go_simp
      refine hK _ _ hS ?_ (fun j u _ h=>h)
      rw[if_pos (by rfl)]
      show (_:Value)=_
      first|rfl|(refine congrArg (Value.int IntKind.i64) ?_;first|rfl|exact int_in (by omega)|exact quo_in (by omega) (by omega) (by omega)|exact rem_in (by omega) (by omega)|omega)|(simp;done)|(simp [*];done)
     |5,ho=>
      cases ho
      intro _ aq wx Kq hf hS hdep hw hK
      have D4:aq.eval (.tmp 16)=_:=hdep 4 (by decide +kernel)
      have c0:=hS.cells (⟨w.heap.size,1,none⟩,.int .i64 b) (by simp)
      clear hf hw hdep
      have ev1:=ev_const aq
      have ev2:=ev_func aq
      unfold Oper.wp
      generalize Act.eval _=ev at*
      go_simp
      refine hK _ _ hS ?_ (fun j u _ h=>h)
      rw[if_pos (by rfl)]
      show (_:Value)=_
      first|rfl|(refine congrArg (Value.int IntKind.i64) ?_;first|rfl|exact int_in (by omega)|exact quo_in (by omega) (by omega) (by omega)|exact rem_in (by omega) (by omega)|omega)|(simp;done)|(simp [*];done)
     |6,ho=>
      cases ho
      intro _ aq wx Kq hf hS hdep hw hK
      have D5:aq.eval (.tmp 17)=_:=hdep 5 (by decide +kernel)
      clear hf hw hdep
      have ev1:=ev_const aq
      have ev2:=ev_func aq
      unfold Oper.wp
      generalize Act.eval _=ev at*
      go_simp
      refine hK _ _ hS ?_ (fun j u _ h=>h)
      rw[if_pos (by rfl)]
      show (_:Value)=_
      first|rfl|(refine congrArg (Value.int IntKind.i64) ?_;first|rfl|exact int_in (by omega)|exact quo_in (by omega) (by omega) (by omega)|exact rem_in (by omega) (by omega)|omega)|(simp;done)|(simp [*];done)
     |7,ho=>
      cases ho
      intro _ aq wx Kq hf hS hdep hw hK
      have F2:aq.eval (.tmp 2)= .pointer (some ⟨w.heap.size,0,none⟩):=hf 2 (by decide +kernel)
      clear hf hw hdep
      have ev1:=ev_const aq
      have ev2:=ev_func aq
      unfold Oper.wp
      generalize Act.eval _=ev at*
      go_simp
      refine hK _ _ hS ?_ (fun j u _ h=>h)
      rw[if_pos (by rfl)]
      show (_:Value)=_
      first|rfl|(refine congrArg (Value.int IntKind.i64) ?_;first|rfl|exact int_in (by omega)|exact quo_in (by omega) (by omega) (by omega)|exact rem_in (by omega) (by omega)|omega)|(simp;done)|(simp [*];done)
     |8,ho=>
      cases ho
      intro _ aq wx Kq hf hS hdep hw hK
      have D7:aq.eval (.tmp 19)=_:=hdep 7 (by decide +kernel)
      have c0:=hS.cells (⟨w.heap.size,0,none⟩,.int .i64 a) (by simp)
      clear hf hw hdep
      have ev1:=ev_const aq
      have ev2:=ev_func aq
      unfold Oper.wp
      generalize Act.eval _=ev at*
      go_simp
      refine hK _ _ hS ?_ (fun j u _ h=>h)
      rw[if_pos (by rfl)]
      show (_:Value)=_
      first|rfl|(refine congrArg (Value.int IntKind.i64) ?_;first|rfl|exact int_in (by omega)|exact quo_in (by omega) (by omega) (by omega)|exact rem_in (by omega) (by omega)|omega)|(simp;done)|(simp [*];done)
     |9,ho=>
      cases ho
      intro _ aq wx Kq hf hS hdep hw hK
      have F1:aq.eval (.tmp 1)= .int .i64 n:=hf 1 (by decide +kernel)
      clear hf hw hdep
      have ev1:=ev_const aq
      have ev2:=ev_func aq
      unfold Oper.wp
      generalize Act.eval _=ev at*
      go_simp
      refine hK _ _ hS ?_ (fun j u _ h=>h)
      rw[if_pos (by rfl)]
      show (_:Value)=_
      first|rfl|(refine congrArg (Value.int IntKind.i64) ?_;first|rfl|exact int_in (by omega)|exact quo_in (by omega) (by omega) (by omega)|exact rem_in (by omega) (by omega)|omega)|(simp;done)|(simp [*];done)
     |10,ho=>
      cases ho
      intro _ aq wx Kq hf hS hdep hw hK
      have D8:aq.eval (.tmp 20)=_:=hdep 8 (by decide +kernel)
      have D9:aq.eval (.tmp 21)=_:=hdep 9 (by decide +kernel)
      clear hf hw hdep
      have ev1:=ev_const aq
      have ev2:=ev_func aq
      unfold Oper.wp
      generalize Act.eval _=ev at*
      go_simp
      rw[if_neg (by omega),Oper.upon_value]
      refine hK _ _ hS ?_ (fun j u _ h=>h)
      rw[if_pos (by rfl)]
      show (_:Value)=_
      first|rfl|(refine congrArg (Value.int IntKind.i64) ?_;first|rfl|exact int_in (by omega)|exact quo_in (by omega) (by omega) (by omega)|exact rem_in (by omega) (by omega)|omega)|(simp;done)|(simp [*];done)
     |11,ho=>
      cases ho
      intro _ aq wx Kq hf hS hdep hw hK
      have D3:aq.eval (.tmp 15)=_:=hdep 3 (by decide +kernel)
      have D6:aq.eval (.tmp 18)=_:=hdep 6 (by decide +kernel)
      have D10:aq.eval (.tmp 22)=_:=hdep 10 (by decide +kernel)
      clear hf hw hdep
      have ev1:=ev_const aq
      have ev2:=ev_func aq
      unfold Oper.wp
      generalize Act.eval _=ev at*
      go_simp
      refine hK _ _ hS ?_ (fun j u _ h=>h)
      rw[if_pos (by rfl)]
      show (_:Value)=_
      first|rfl|(refine congrArg (Value.int IntKind.i64) ?_;first|rfl|exact int_in (by omega)|exact quo_in (by omega) (by omega) (by omega)|exact rem_in (by omega) (by omega)|omega)|(simp;done)|(simp [*];done)
     |12,ho=>
      cases ho
      intro _ aq wx Kq hf hS hdep hw hK
      clear hf hw hdep
      have ev1:=ev_const aq
      have ev2:=ev_func aq
      unfold Oper.wp
      generalize Act.eval _=ev at*
      go_simp
      refine hK _ _ (hS.call (below_alloc_self _ _)) ?_ (fun j u _ h=>Kd.ok_below (below_alloc_self _ _) h)
      rw[if_pos (by rfl)]
      exact kd_new hS.size rfl
     |13,ho=>
      cases ho
      intro _ aq wx Kq hf hS hdep hw hK
      have D11:aq.eval (.tmp 23)=_:=hdep 11 (by decide +kernel)
      obtain ⟨gn,D12,r1,r2,r3⟩:=hdep 12 (by decide +kernel)
      change aq.eval (.tmp 6)=_ at D12
      obtain ⟨⟨vx0,cx0⟩,cf0⟩:=r3 0 (by decide)
      obtain ⟨⟨vx1,cx1⟩,cf1⟩:=r3 1 (by decide)
      obtain ⟨⟨vx2,cx2⟩,cf2⟩:=r3 2 (by decide)
      have D12':tau aq 6=_:=D12
      clear hf hw hdep
      have ev1:=ev_const aq
      have ev2:=ev_func aq
      unfold Oper.wp
      generalize Act.eval _=ev at*
      go_simp
      refine hK undef _ (Sy.set_new (p:=⟨gn,2,none⟩) r1 (Sy.set_new (p:=⟨gn,1,none⟩) r1 (Sy.set_new (p:=⟨gn,0,none⟩) r1 (hS)))) ?_ (fun j u hj h=> ?_)
      ·rw [if_neg (by decide)]
       refine ⟨gn,D12',r1,by simpa using r2,fun j hj=> ?_⟩
       match j,hj with
       |0,_=>exact ⟨by go_simp,by go_simp⟩
       |1,_=>exact ⟨by go_simp,by go_simp⟩
       |2,_=>exact ⟨by go_simp,by go_simp⟩
       |j+3,hj=>exact absurd (show j+3<3 from hj) (by omega)
      ·match j,hj with
       |0,hj=>exact h
       |1,hj=>exact h
       |2,hj=>exact h
       |3,hj=>exact h
       |4,hj=>exact h
       |5,hj=>exact h
       |6,hj=>exact h
       |7,hj=>exact h
       |8,hj=>exact h
       |9,hj=>exact h
       |10,hj=>exact h
       |11,hj=>exact h
       |12,hj=>exact Kd.ok_set (p:=⟨gn,2,none⟩) rfl trivial (Kd.ok_set (p:=⟨gn,1,none⟩) rfl trivial (Kd.ok_set (p:=⟨gn,0,none⟩) rfl trivial (h)))
       |13,hj=>exact absurd rfl hj
       |j+14,_=>exact h
     |i+14,ho=>exact absurd ho (by simp)
    ·intro i o ho hr
     match i,ho with
     |0,ho=>exact absurd hr (by decide)
     |1,ho=>exact absurd hr (by decide)
     |2,ho=>exact absurd hr (by decide)
     |3,ho=>exact absurd hr (by decide)
     |4,ho=>exact absurd hr (by decide)
     |5,ho=>exact absurd hr (by decide)
     |6,ho=>exact absurd hr (by decide)
     |7,ho=>exact absurd hr (by decide)
     |8,ho=>exact absurd hr (by decide)
     |9,ho=>exact absurd hr (by decide)
     |10,ho=>exact absurd hr (by decide)
     |11,ho=>exact absurd hr (by decide)
     |12,ho=>exact absurd hr (by decide)
     |13,ho=>exact absurd hr (by decide)
     |i+14,ho=>exact absurd ho (by simp)
    ·intro aq wx hd hw hf hS hg
     have F0:tau aq 0=_:=hf 0 (by decide +kernel)
     have F1:tau aq 1=_:=hf 1 (by decide +kernel)
     have F2:tau aq 2=_:=hf 2 (by decide +kernel)
     have F3:tau aq 3=_:=hf 3 (by decide +kernel)
     have F4:tau aq 4=_:=hf 4 (by decide +kernel)
     have F5:tau aq 5=_:=hf 5 (by decide +kernel)
     have F7:tau aq 7=_:=hf 7 (by decide +kernel)
     have F8:tau aq 8=_:=hf 8 (by decide +kernel)
     have F9:tau aq 9=_:=hf 9 (by decide +kernel)
     have F10:tau aq 10=_:=hf 10 (by decide +kernel)
     have F11:tau aq 11=_:=hf 11 (by decide +kernel)
     have F24:tau aq 24=_:=hf 24 (by decide +kernel)
     have F25:tau aq 25=_:=hf 25 (by decide +kernel)
     have F26:tau aq 26=_:=hf 26 (by decide +kernel)
     have F27:tau aq 27=_:=hf 27 (by decide +kernel)
     have F28:tau aq 28=_:=hf 28 (by decide +kernel)
     obtain ⟨g,G6,r1g,r2g,r3g⟩:=hg 13 (by decide)
     change tau aq 6=_ at G6
     have haq:aq=⟨#[tau aq 0,tau aq 1,tau aq 2,tau aq 3,tau aq 4,tau aq 5,tau aq 6,tau aq 7,tau aq 8,tau aq 9,tau aq 10,tau aq 11,tau aq 12,tau aq 13,tau aq 14,tau aq 15,tau aq 16,tau aq 17,tau aq 18,tau aq 19,tau aq 20,tau aq 21,tau aq 22,tau aq 23,tau aq 24,tau aq 25,tau aq 26,tau aq 27,tau aq 28],[]⟩:=by
      obtain ⟨tq,dq⟩:=aq
      have h5:=arr_eq (show tq.size=29 from hw)
      have h6:dq= []:=hd
      subst h6
      exact congrArg (fun z=>Act.mk z []) h5
     show K2 aq wx
     rw[haq,F0,F1,F2,F3,F4,F5,F7,F8,F9,F10,F11,F24,F25,F26,F27,F28,G6]
     clear haq hf hd hw
     try dsimp only
     refine h3 _ _ ?_
     go_meet
     exact ⟨g,rfl,hS.cells (⟨w.heap.size,0,none⟩,.int .i64 a) (by simp),hS.cells (⟨w.heap.size,1,none⟩,.int .i64 b) (by simp),hS.cells (⟨w.heap.size,2,none⟩,.int .i64 c) (by simp),hS.cells (⟨w.heap.size+1,0,none⟩,.int .i64 0) (by simp),(hS.free ⟨w.heap.size+1,0,none⟩ (by simp)).2,hS.cells (⟨w.heap.size+1,1,none⟩,.int .i64 0) (by simp),(hS.free ⟨w.heap.size+1,1,none⟩ (by simp)).2,hS.cells (⟨w.heap.size+1,2,none⟩,.int .i64 0) (by simp),(hS.free ⟨w.heap.size+1,2,none⟩ (by simp)).2,(r3g 0 (by simp)).1,(r3g 0 (by simp)).2,(r3g 1 (by simp)).1,(r3g 1 (by simp)).2,(r3g 2 (by simp)).1,(r3g 2 (by simp)).2,hS.below,r1g⟩
   case rest=>
    obtain ⟨g,rfl,c00,c01,c02,c10,f10,c11,f11,c12,f12,c20,f20,c21,f21,c22,f22,hb0,ng⟩:=hcut
    have z0:=World.block_lt_of_cell? _ _ c00
    have z1:=World.block_lt_of_cell? _ _ c10
    have z2:=World.block_lt_of_cell? _ _ c20
    change _<wc.heap.size at z0
    change _<wc.heap.size at z1
    change _<wc.heap.size at z2
    go_wp2_with (go_at_call 26;refine (IsForm_a (n*c) (-b) (a / n) _ ⟨by omega,by omega⟩ ⟨by omega,by omega⟩ ⟨by omega,by omega⟩).mono ?_;rintro e w1 ⟨rfl,hb⟩;have c00:=cell_call hb (a:=⟨w.heap.size,0,none⟩) (v:= .int .i64 a) (by first|assumption|go_simp);have c01:=cell_call hb (a:=⟨w.heap.size,1,none⟩) (v:= .int .i64 b) (by first|assumption|go_simp);have c02:=cell_call hb (a:=⟨w.heap.size,2,none⟩) (v:= .int .i64 c) (by first|assumption|go_simp);have z0:=lt_keep hb (w.heap.size) (by first|assumption|(simp;omega)|(simp;done));have c10:=cell_call hb (a:=⟨w.heap.size+1,0,none⟩) (v:= .int .i64 0) (by first|assumption|go_simp);have f10:=frz_call hb (a:=⟨w.heap.size+1,0,none⟩) (by first|assumption|(simp;omega)|(simp;done)) (by first|assumption|go_simp);have c11:=cell_call hb (a:=⟨w.heap.size+1,1,none⟩) (v:= .int .i64 0) (by first|assumption|go_simp);have f11:=frz_call hb (a:=⟨w.heap.size+1,1,none⟩) (by first|assumption|(simp;omega)|(simp;done)) (by first|assumption|go_simp);have c12:=cell_call hb (a:=⟨w.heap.size+1,2,none⟩) (v:= .int .i64 0) (by first|assumption|go_simp);have f12:=frz_call hb (a:=⟨w.heap.size+1,2,none⟩) (by first|assumption|(simp;omega)|(simp;done)) (by first|assumption|go_simp);have z1:=lt_keep hb (w.heap.size+1) (by first|assumption|(simp;omega)|(simp;done));have c20:=cell_call hb (a:=⟨g,0,none⟩) (v:= .int .i64 (n*c)) (by first|assumption|go_simp);have f20:=frz_call hb (a:=⟨g,0,none⟩) (by first|assumption|(simp;omega)|(simp;done)) (by first|assumption|go_simp);have c21:=cell_call hb (a:=⟨g,1,none⟩) (v:= .int .i64 (-b)) (by first|assumption|go_simp);have f21:=frz_call hb (a:=⟨g,1,none⟩) (by first|assumption|(simp;omega)|(simp;done)) (by first|assumption|go_simp);have c22:=cell_call hb (a:=⟨g,2,none⟩) (v:= .int .i64 (a / n)) (by first|assumption|go_simp);have f22:=frz_call hb (a:=⟨g,2,none⟩) (by first|assumption|(simp;omega)|(simp;done)) (by first|assumption|go_simp);have z2:=lt_keep hb (g) (by first|assumption|(simp;omega)|(simp;done));have hs:=hb.size)
    first|go_returns|(refine bodyPost_ret (v:= .tuple #[.agg #[.int .i64 (n*c),.int .i64 (-b),.int .i64 (a / n)],.bool true]) (by simp [results,Tryz.results11,go_sem, *]) rfl ?_)
    refine ⟨unhide HV,?_⟩
    (repeat' (first|(with_reducible exact Below.refl _ _)|(with_reducible assumption)|(with_reducible refine gr_alloc ?_ _)|(with_reducible refine below_drewN ?_ _)|(with_reducible refine below_drew ?_)|(with_reducible refine gr_call ?_ (by assumption))|(with_reducible refine Below.setCell ?_ ?_ _)|go_size|omega|(simp;omega)))

def lessB (x1 y1 x2 y2:Int):Bool:=decide (x1<x2) || (decide (x1=x2)&&decide (y1<y2))

set_option maxRecDepth 100000 in
set_option maxHeartbeats 1000000 in
theorem lessPoint_a (x1 y1 x2 y2:Int) (w:World):
  Calls Tryz.prog 67 #[.agg #[.int .i64 x1,.int .i64 y1],.agg #[.int .i64 x2,.int .i64 y2]] w fun e w'=>e= .returned (.bool (lessB x1 y1 x2 y2))∧Below w.heap.size w w':=by
 by_cases k0:x1<x2
 ·go_enter Tryz.func67,Tryz.ntmps67
  go_wp2
  go_returns
  refine ⟨ret_bool (by simp [lessB, *]<;>(try (intros;omega))),?_⟩
  (repeat' (first|(with_reducible exact Below.refl _ _)|(with_reducible assumption)|(with_reducible refine gr_alloc ?_ _)|(with_reducible refine below_drewN ?_ _)|(with_reducible refine below_drew ?_)|(with_reducible refine gr_call ?_ (by assumption))|(with_reducible refine Below.setCell ?_ ?_ _)|go_size|omega|(simp;omega)))
 ·by_cases k1:x1=x2
  ·subst k1
   by_cases k2:y1<y2
   ·go_enter Tryz.func67,Tryz.ntmps67
    go_wp2
    go_returns
    refine ⟨ret_bool (by simp [lessB,k2]),?_⟩
    (repeat' (first|(with_reducible exact Below.refl _ _)|(with_reducible assumption)|(with_reducible refine gr_alloc ?_ _)|(with_reducible refine below_drewN ?_ _)|(with_reducible refine below_drew ?_)|(with_reducible refine gr_call ?_ (by assumption))|(with_reducible refine Below.setCell ?_ ?_ _)|go_size|omega|(simp;omega)))
   ·go_enter Tryz.func67,Tryz.ntmps67
    go_wp2
    go_returns
    refine ⟨ret_bool (by simp [lessB,k2]),?_⟩
    (repeat' (first|(with_reducible exact Below.refl _ _)|(with_reducible assumption)|(with_reducible refine gr_alloc ?_ _)|(with_reducible refine below_drewN ?_ _)|(with_reducible refine below_drew ?_)|(with_reducible refine gr_call ?_ (by assumption))|(with_reducible refine Below.setCell ?_ ?_ _)|go_size|omega|(simp;omega)))
  ·go_enter Tryz.func67,Tryz.ntmps67
   go_wp2
   go_returns
   refine ⟨ret_bool (by simp [lessB,k0,k1]),?_⟩
   (repeat' (first|(with_reducible exact Below.refl _ _)|(with_reducible assumption)|(with_reducible refine gr_alloc ?_ _)|(with_reducible refine below_drewN ?_ _)|(with_reducible refine below_drew ?_)|(with_reducible refine gr_call ?_ (by assumption))|(with_reducible refine Below.setCell ?_ ?_ _)|go_size|omega|(simp;omega)))

set_option maxRecDepth 100000 in
set_option maxHeartbeats 1000000 in
theorem tpLess_a (x1 y1 x2 y2:Int) (w:World):
  Calls Tryz.prog 71 #[.agg #[.int .i64 x1,.int .i64 y1],.agg #[.int .i64 x2,.int .i64 y2]] w fun e w'=>e= .returned (.bool (lessB x1 y1 x2 y2))∧Below w.heap.size w w':=by
 by_cases k0:x1<x2
 ·go_enter Tryz.func71,Tryz.ntmps71
  go_wp2
  go_returns
  refine ⟨ret_bool (by simp [lessB, *]<;>(try (intros;omega))),?_⟩
  (repeat' (first|(with_reducible exact Below.refl _ _)|(with_reducible assumption)|(with_reducible refine gr_alloc ?_ _)|(with_reducible refine below_drewN ?_ _)|(with_reducible refine below_drew ?_)|(with_reducible refine gr_call ?_ (by assumption))|(with_reducible refine Below.setCell ?_ ?_ _)|go_size|omega|(simp;omega)))
 ·by_cases k1:x1=x2
  ·subst k1
   by_cases k2:y1<y2
   ·go_enter Tryz.func71,Tryz.ntmps71
    go_wp2
    go_returns
    refine ⟨ret_bool (by simp [lessB,k2]),?_⟩
    (repeat' (first|(with_reducible exact Below.refl _ _)|(with_reducible assumption)|(with_reducible refine gr_alloc ?_ _)|(with_reducible refine below_drewN ?_ _)|(with_reducible refine below_drew ?_)|(with_reducible refine gr_call ?_ (by assumption))|(with_reducible refine Below.setCell ?_ ?_ _)|go_size|omega|(simp;omega)))
   ·go_enter Tryz.func71,Tryz.ntmps71
    go_wp2
    go_returns
    refine ⟨ret_bool (by simp [lessB,k2]),?_⟩
    (repeat' (first|(with_reducible exact Below.refl _ _)|(with_reducible assumption)|(with_reducible refine gr_alloc ?_ _)|(with_reducible refine below_drewN ?_ _)|(with_reducible refine below_drew ?_)|(with_reducible refine gr_call ?_ (by assumption))|(with_reducible refine Below.setCell ?_ ?_ _)|go_size|omega|(simp;omega)))
  ·go_enter Tryz.func71,Tryz.ntmps71
   go_wp2
   go_returns
   refine ⟨ret_bool (by simp [lessB,k0,k1]),?_⟩
   (repeat' (first|(with_reducible exact Below.refl _ _)|(with_reducible assumption)|(with_reducible refine gr_alloc ?_ _)|(with_reducible refine below_drewN ?_ _)|(with_reducible refine below_drew ?_)|(with_reducible refine gr_call ?_ (by assumption))|(with_reducible refine Below.setCell ?_ ?_ _)|go_size|omega|(simp;omega)))

def okB (k n:Int):Bool:=igcd k n==1
def pmX (x n:Int) (k:Nat):Int:=(k*x)%n
def lpN (x y n:Int):Nat→Int × Int
 |0=>(x%n,y%n)
 |k+1=>if k=0 then (x%n,y%n) else if okB k n&&lessB (pmX x n k) (pmX y n k) (lpN x y n k).1 (lpN x y n k).2 then (pmX x n k,pmX y n k) else lpN x y n k
theorem lpN_one (x y n:Int):lpN x y n 1=(x%n,y%n):=by simp [lpN]
theorem lpN_no1 {x y n:Int} {k:Nat} (hk:1≤k) (h:okB k n=false):lpN x y n (k+1)=lpN x y n k:=by
 rw[lpN,if_neg (by omega),h];simp
theorem lpN_no2 {x y n:Int} {k:Nat} (hk:1≤k) (h:lessB (pmX x n k) (pmX y n k) (lpN x y n k).1 (lpN x y n k).2=false):lpN x y n (k+1)=lpN x y n k:=by
 rw[lpN,if_neg (by omega),h];simp
theorem lpN_yes {x y n:Int} {k:Nat} (hk:1≤k) (h1:okB k n=true) (h:lessB (pmX x n k) (pmX y n k) (lpN x y n k).1 (lpN x y n k).2=true):lpN x y n (k+1)=(pmX x n k,pmX y n k):=by
 rw[lpN,if_neg (by omega),h1,h];simp
def lpX (x y n:Int):Int:=(lpN x y n n.toNat).1
def lpY (x y n:Int):Int:=(lpN x y n n.toNat).2
theorem kx_bd {x:Int} {k:Nat} (hx: -1000000≤x∧x≤1000000) (hk:k≤30): -30000000≤(k:Int)*x∧(k:Int)*x≤30000000:=by
 have:=mul_bd (a:=(k:Int)) (b:=x) (A:=30) (B:=1000000) (by omega) (by omega) hx;omega

set_option maxRecDepth 100000 in
set_option maxHeartbeats 4000000 in
theorem projective_a (x y n:Int) (w:World) (h0: -1000000≤x∧x≤1000000) (h1: -1000000≤y∧y≤1000000) (h2:1≤n) (h3:n≤30):
  Calls Tryz.prog 32 #[.agg #[.int .i64 x,.int .i64 y],.int .i64 n] w fun e w'=>e= .returned (.agg #[.int .i64 (lpX x y n),.int .i64 (lpY x y n)])∧Below w.heap.size w w':=by
 go_enter Tryz.func32,Tryz.ntmps32
 go_upto_region 1 with fail
 go_cut [5] (fun s5 wx=> ∃gb:Nat,s5= .pointer (some ⟨gb,0,none⟩)∧wx.cell? ⟨w.heap.size,0,none⟩=some (.int .i64 x)∧wx.cell? ⟨w.heap.size,1,none⟩=some (.int .i64 y)∧wx.cell? ⟨w.heap.size+1,0,none⟩=some (.int .i64 0)∧wx.frozen? ⟨w.heap.size+1,0,none⟩=false∧wx.cell? ⟨w.heap.size+1,1,none⟩=some (.int .i64 0)∧wx.frozen? ⟨w.heap.size+1,1,none⟩=false∧wx.cell? ⟨gb,0,none⟩=some (.int .i64 (x%n))∧wx.frozen? ⟨gb,0,none⟩=false∧wx.cell? ⟨gb,1,none⟩=some (.int .i64 (y%n))∧wx.frozen? ⟨gb,1,none⟩=false∧Below w.heap.size w wx∧w.heap.size+1+1≤gb)
 case first=>
  rename_i Q1 K1 h1 J1 K2 h2 h3
  refine region_inv2 (by kernel_rfl) (fun j=> #[8,9,10,11,12,13,14,15,16,5,5].getD j 0) (fun j=>Kd.ok ((fun j=>match j with|0=>Kd.val (.pointer (some ⟨w.heap.size,0,none⟩))|1=>Kd.val (.int .i64 x)|2=>Kd.val (.int .i64 n)|3=>Kd.val (.int .i64 (x%n))|4=>Kd.val (.pointer (some ⟨w.heap.size,1,none⟩))|5=>Kd.val (.int .i64 y)|6=>Kd.val (.int .i64 n)|7=>Kd.val (.int .i64 (y%n))|8=>Kd.val (.agg #[.int .i64 (x%n),.int .i64 (y%n)])|9=>Kd.own (w.heap.size+1+1) 2|10=>Kd.held (w.heap.size+1+1) [.int .i64 (x%n),.int .i64 (y%n)]|_=>Kd.any:Nat→Kd) j)) (Sy w (w.heap.size+1+1) [(⟨w.heap.size,0,none⟩,.int .i64 x),(⟨w.heap.size,1,none⟩,.int .i64 y),(⟨w.heap.size+1,0,none⟩,.int .i64 0),(⟨w.heap.size+1,1,none⟩,.int .i64 0)] [⟨w.heap.size+1,0,none⟩,⟨w.heap.size+1,1,none⟩]) (fun j=> #[true,true,true,true,true,true,true,true,true,true,true].getD j true) (by kernel_rfl) ?_ ?_ ?_ ?_ ?_ ?_
  ·intro j hj
   have hj2:j<11:=hj
   have: ∀j,j<11→(#[8,9,10,11,12,13,14,15,16,5,5]:Array Nat).getD j 0<46:=by decide
   exact this j hj2
  ·intro i o ho
   match i,ho with
   |0,ho=>cases ho;intro aq wq hd;exact wanted_free rfl
   |1,ho=>cases ho;intro aq wq hd;exact wanted_free rfl
   |2,ho=>cases ho;intro aq wq hd;exact wanted_free rfl
   |3,ho=>cases ho;intro aq wq hd;exact wanted_free rfl
   |4,ho=>cases ho;intro aq wq hd;exact wanted_free rfl
   |5,ho=>cases ho;intro aq wq hd;exact wanted_free rfl
   |6,ho=>cases ho;intro aq wq hd;exact wanted_free rfl
   |7,ho=>cases ho;intro aq wq hd;exact wanted_free rfl
   |8,ho=>cases ho;intro aq wq hd;exact wanted_free rfl
   |9,ho=>cases ho;intro aq wq hd;exact wanted_free rfl
   |10,ho=>cases ho;intro aq wq hd;exact wanted_free rfl
   |i+11,ho=>exact absurd ho (by simp)
  ·refine Sy.drew (Sy.mk_of ?_ ?_ ?_ ?_)
   ·first|rfl|(simp;done)|(simp;omega)
   ·intro c hc
    simp only[List.mem_cons,List.not_mem_nil,or_false] at hc
    rcases hc with rfl|rfl|rfl|rfl<;>first|assumption|(go_simp;done)
   ·intro p hp
    simp only[List.mem_cons,List.not_mem_nil,or_false] at hp
    rcases hp with rfl|rfl<;>exact ⟨by first|exact ⟨_,by assumption⟩|assumption|(go_simp;done)|(go_simp;exact ⟨_,rfl⟩),by first|assumption|(go_simp;done)⟩
   ·(repeat' (first|(with_reducible exact Below.refl _ _)|(with_reducible assumption)|(with_reducible refine gr_alloc ?_ _)|(with_reducible refine below_drewN ?_ _)|(with_reducible refine below_drew ?_)|(with_reducible refine gr_call ?_ (by assumption))|(with_reducible refine Below.setCell ?_ ?_ _)|go_size|omega|(simp;omega)))
  ·clear h1 h2 h3
   intro i o ho
   match i,ho with
   |0,ho=>
    cases ho
    intro _ aq wx Kq hf hS hdep hw hK
    have F2:aq.eval (.tmp 2)= .pointer (some ⟨w.heap.size,0,none⟩):=hf 2 (by decide +kernel)
    clear hf hw hdep
    have ev1:=ev_const aq
    have ev2:=ev_func aq
    unfold Oper.wp
    generalize Act.eval _=ev at*
    go_simp
    refine hK _ _ hS ?_ (fun j u _ h=>h)
    rw[if_pos (by rfl)]
    show (_:Value)=_
    first|rfl|(refine congrArg (Value.int IntKind.i64) ?_;first|rfl|exact int_in (by omega)|exact quo_in (by omega) (by omega) (by omega)|exact rem_in (by omega) (by omega)|omega)|(simp;done)|(simp [*];done)
   |1,ho=>
    cases ho
    intro _ aq wx Kq hf hS hdep hw hK
    have D0:aq.eval (.tmp 8)=_:=hdep 0 (by decide +kernel)
    have c0:=hS.cells (⟨w.heap.size,0,none⟩,.int .i64 x) (by simp)
    clear hf hw hdep
    have ev1:=ev_const aq
    have ev2:=ev_func aq
    unfold Oper.wp
    generalize Act.eval _=ev at*
    go_simp
    refine hK _ _ hS ?_ (fun j u _ h=>h)
    rw[if_pos (by rfl)]
    show (_:Value)=_
    first|rfl|(refine congrArg (Value.int IntKind.i64) ?_;first|rfl|exact int_in (by omega)|exact quo_in (by omega) (by omega) (by omega)|exact rem_in (by omega) (by omega)|omega)|(simp;done)|(simp [*];done)
   |2,ho=>
    cases ho
    intro _ aq wx Kq hf hS hdep hw hK
    have F1:aq.eval (.tmp 1)= .int .i64 n:=hf 1 (by decide +kernel)
    clear hf hw hdep
    have ev1:=ev_const aq
    have ev2:=ev_func aq
    unfold Oper.wp
    generalize Act.eval _=ev at*
    go_simp
    refine hK _ _ hS ?_ (fun j u _ h=>h)
    rw[if_pos (by rfl)]
    show (_:Value)=_
    first|rfl|(refine congrArg (Value.int IntKind.i64) ?_;first|rfl|exact int_in (by omega)|exact quo_in (by omega) (by omega) (by omega)|exact rem_in (by omega) (by omega)|omega)|(simp;done)|(simp [*];done)
   |3,ho=>
    cases ho
    intro _ aq wx Kq hf hS hdep hw hK
    have D1:aq.eval (.tmp 9)=_:=hdep 1 (by decide +kernel)
    have D2:aq.eval (.tmp 10)=_:=hdep 2 (by decide +kernel)
    clear hf hw hdep
    have ev1:=ev_const aq
    have ev2:=ev_func aq
    unfold Oper.wp
    generalize Act.eval _=ev at*
    go_simp
    refine ((mod_a _ _ _ (by omega) (by omega) (by omega))).mono ?_
    rintro e w2 ⟨rfl,rfl⟩
    refine hK _ _ (hS.call (below_refl_self _)) ?_ (fun j u _ h=>Kd.ok_below (below_refl_self _) h)
    rw[if_pos (by rfl)]
    show (_:Value)=_
    first|rfl|(refine congrArg (Value.int IntKind.i64) ?_;first|rfl|exact int_in (by omega)|exact quo_in (by omega) (by omega) (by omega)|exact rem_in (by omega) (by omega)|omega)|(simp;done)|(simp [*];done)
   |4,ho=>
    cases ho
    intro _ aq wx Kq hf hS hdep hw hK
    have F2:aq.eval (.tmp 2)= .pointer (some ⟨w.heap.size,0,none⟩):=hf 2 (by decide +kernel)
    clear hf hw hdep
    have ev1:=ev_const aq
    have ev2:=ev_func aq
    unfold Oper.wp
    generalize Act.eval _=ev at*
    go_simp
    refine hK _ _ hS ?_ (fun j u _ h=>h)
    rw[if_pos (by rfl)]
    show (_:Value)=_
    first|rfl|(refine congrArg (Value.int IntKind.i64) ?_;first|rfl|exact int_in (by omega)|exact quo_in (by omega) (by omega) (by omega)|exact rem_in (by omega) (by omega)|omega)|(simp;done)|(simp [*];done)
   |5,ho=>
    cases ho
    intro _ aq wx Kq hf hS hdep hw hK
    have D4:aq.eval (.tmp 12)=_:=hdep 4 (by decide +kernel)
    have c0:=hS.cells (⟨w.heap.size,1,none⟩,.int .i64 y) (by simp)
    clear hf hw hdep
    have ev1:=ev_const aq
    have ev2:=ev_func aq
    unfold Oper.wp
    generalize Act.eval _=ev at*
    go_simp
    refine hK _ _ hS ?_ (fun j u _ h=>h)
    rw[if_pos (by rfl)]
    show (_:Value)=_
    first|rfl|(refine congrArg (Value.int IntKind.i64) ?_;first|rfl|exact int_in (by omega)|exact quo_in (by omega) (by omega) (by omega)|exact rem_in (by omega) (by omega)|omega)|(simp;done)|(simp [*];done)
   |6,ho=>
    cases ho
    intro _ aq wx Kq hf hS hdep hw hK
    have F1:aq.eval (.tmp 1)= .int .i64 n:=hf 1 (by decide +kernel)
    clear hf hw hdep
    have ev1:=ev_const aq
    have ev2:=ev_func aq
    unfold Oper.wp
    generalize Act.eval _=ev at*
    go_simp
    refine hK _ _ hS ?_ (fun j u _ h=>h)
    rw[if_pos (by rfl)]
    show (_:Value)=_
    first|rfl|(refine congrArg (Value.int IntKind.i64) ?_;first|rfl|exact int_in (by omega)|exact quo_in (by omega) (by omega) (by omega)|exact rem_in (by omega) (by omega)|omega)|(simp;done)|(simp [*];done)
   |7,ho=>
    cases ho
    intro _ aq wx Kq hf hS hdep hw hK
    have D5:aq.eval (.tmp 13)=_:=hdep 5 (by decide +kernel)
    have D6:aq.eval (.tmp 14)=_:=hdep 6 (by decide +kernel)
    clear hf hw hdep
    have ev1:=ev_const aq
    have ev2:=ev_func aq
    unfold Oper.wp
    generalize Act.eval _=ev at*
    go_simp
    refine ((mod_a _ _ _ (by omega) (by omega) (by omega))).mono ?_
    rintro e w2 ⟨rfl,rfl⟩
    refine hK _ _ (hS.call (below_refl_self _)) ?_ (fun j u _ h=>Kd.ok_below (below_refl_self _) h)
    rw[if_pos (by rfl)]
    show (_:Value)=_
    first|rfl|(refine congrArg (Value.int IntKind.i64) ?_;first|rfl|exact int_in (by omega)|exact quo_in (by omega) (by omega) (by omega)|exact rem_in (by omega) (by omega)|omega)|(simp;done)|(simp [*];done)
   |8,ho=>
    cases ho
    intro _ aq wx Kq hf hS hdep hw hK
    have D3:aq.eval (.tmp 11)=_:=hdep 3 (by decide +kernel)
    have D7:aq.eval (.tmp 15)=_:=hdep 7 (by decide +kernel)
    clear hf hw hdep
    have ev1:=ev_const aq
    have ev2:=ev_func aq
    unfold Oper.wp
    generalize Act.eval _=ev at*
    go_simp
    refine hK _ _ hS ?_ (fun j u _ h=>h)
    rw[if_pos (by rfl)]
    show (_:Value)=_
    first|rfl|(refine congrArg (Value.int IntKind.i64) ?_;first|rfl|exact int_in (by omega)|exact quo_in (by omega) (by omega) (by omega)|exact rem_in (by omega) (by omega)|omega)|(simp;done)|(simp [*];done)
   |9,ho=>
    cases ho
    intro _ aq wx Kq hf hS hdep hw hK
    clear hf hw hdep
    have ev1:=ev_const aq
    have ev2:=ev_func aq
    unfold Oper.wp
    generalize Act.eval _=ev at*
    go_simp
    refine hK _ _ (hS.call (below_alloc_self _ _)) ?_ (fun j u _ h=>Kd.ok_below (below_alloc_self _ _) h)
    rw[if_pos (by rfl)]
    exact kd_new hS.size rfl
   |10,ho=>
    cases ho
    intro _ aq wx Kq hf hS hdep hw hK
    have D8:aq.eval (.tmp 16)=_:=hdep 8 (by decide +kernel)
    obtain ⟨gn,D9,r1,r2,r3⟩:=hdep 9 (by decide +kernel)
    change aq.eval (.tmp 5)=_ at D9
    obtain ⟨⟨vx0,cx0⟩,cf0⟩:=r3 0 (by decide)
    obtain ⟨⟨vx1,cx1⟩,cf1⟩:=r3 1 (by decide)
    have D9':tau aq 5=_:=D9
    clear hf hw hdep
    have ev1:=ev_const aq
    have ev2:=ev_func aq
    unfold Oper.wp
    generalize Act.eval _=ev at*
    go_simp
    refine hK undef _ (Sy.set_new (p:=⟨gn,1,none⟩) r1 (Sy.set_new (p:=⟨gn,0,none⟩) r1 (hS))) ?_ (fun j u hj h=> ?_)
    ·rw [if_neg (by decide)]
     refine ⟨gn,D9',r1,by simpa using r2,fun j hj=> ?_⟩
     match j,hj with
     |0,_=>exact ⟨by go_simp,by go_simp⟩
     |1,_=>exact ⟨by go_simp,by go_simp⟩
     |j+2,hj=>exact absurd (show j+2<2 from hj) (by omega)
    ·match j,hj with
     |0,hj=>exact h
     |1,hj=>exact h
     |2,hj=>exact h
     |3,hj=>exact h
     |4,hj=>exact h
     |5,hj=>exact h
     |6,hj=>exact h
     |7,hj=>exact h
     |8,hj=>exact h
     |9,hj=>exact Kd.ok_set (p:=⟨gn,1,none⟩) rfl trivial (Kd.ok_set (p:=⟨gn,0,none⟩) rfl trivial (h))
     |10,hj=>exact absurd rfl hj
     |j+11,_=>exact h
   |i+11,ho=>exact absurd ho (by simp)
  ·intro i o ho hr
   match i,ho with
   |0,ho=>exact absurd hr (by decide)
   |1,ho=>exact absurd hr (by decide)
   |2,ho=>exact absurd hr (by decide)
   |3,ho=>exact absurd hr (by decide)
   |4,ho=>exact absurd hr (by decide)
   |5,ho=>exact absurd hr (by decide)
   |6,ho=>exact absurd hr (by decide)
   |7,ho=>exact absurd hr (by decide)
   |8,ho=>exact absurd hr (by decide)
   |9,ho=>exact absurd hr (by decide)
   |10,ho=>exact absurd hr (by decide)
   |i+11,ho=>exact absurd ho (by simp)
  ·intro aq wx hd hw hf hS hg
   have F0:tau aq 0=_:=hf 0 (by decide +kernel)
   have F1:tau aq 1=_:=hf 1 (by decide +kernel)
   have F2:tau aq 2=_:=hf 2 (by decide +kernel)
   have F3:tau aq 3=_:=hf 3 (by decide +kernel)
   have F4:tau aq 4=_:=hf 4 (by decide +kernel)
   have F6:tau aq 6=_:=hf 6 (by decide +kernel)
   have F7:tau aq 7=_:=hf 7 (by decide +kernel)
   have F17:tau aq 17=_:=hf 17 (by decide +kernel)
   have F18:tau aq 18=_:=hf 18 (by decide +kernel)
   have F19:tau aq 19=_:=hf 19 (by decide +kernel)
   have F20:tau aq 20=_:=hf 20 (by decide +kernel)
   have F21:tau aq 21=_:=hf 21 (by decide +kernel)
   have F22:tau aq 22=_:=hf 22 (by decide +kernel)
   have F23:tau aq 23=_:=hf 23 (by decide +kernel)
   have F24:tau aq 24=_:=hf 24 (by decide +kernel)
   have F25:tau aq 25=_:=hf 25 (by decide +kernel)
   have F26:tau aq 26=_:=hf 26 (by decide +kernel)
   have F27:tau aq 27=_:=hf 27 (by decide +kernel)
   have F28:tau aq 28=_:=hf 28 (by decide +kernel)
   have F29:tau aq 29=_:=hf 29 (by decide +kernel)
   have F30:tau aq 30=_:=hf 30 (by decide +kernel)
   have F31:tau aq 31=_:=hf 31 (by decide +kernel)
   have F32:tau aq 32=_:=hf 32 (by decide +kernel)
   have F33:tau aq 33=_:=hf 33 (by decide +kernel)
   have F34:tau aq 34=_:=hf 34 (by decide +kernel)
   have F35:tau aq 35=_:=hf 35 (by decide +kernel)
   have F36:tau aq 36=_:=hf 36 (by decide +kernel)
   have F37:tau aq 37=_:=hf 37 (by decide +kernel)
   have F38:tau aq 38=_:=hf 38 (by decide +kernel)
   have F39:tau aq 39=_:=hf 39 (by decide +kernel)
   have F40:tau aq 40=_:=hf 40 (by decide +kernel)
   have F41:tau aq 41=_:=hf 41 (by decide +kernel)
   have F42:tau aq 42=_:=hf 42 (by decide +kernel)
   have F43:tau aq 43=_:=hf 43 (by decide +kernel)
   have F44:tau aq 44=_:=hf 44 (by decide +kernel)
   have F45:tau aq 45=_:=hf 45 (by decide +kernel)
   obtain ⟨gb,G5,r1gb,r2gb,r3gb⟩:=hg 10 (by decide)
   change tau aq 5=_ at G5
   have haq:aq=⟨#[tau aq 0,tau aq 1,tau aq 2,tau aq 3,tau aq 4,tau aq 5,tau aq 6,tau aq 7,tau aq 8,tau aq 9,tau aq 10,tau aq 11,tau aq 12,tau aq 13,tau aq 14,tau aq 15,tau aq 16,tau aq 17,tau aq 18,tau aq 19,tau aq 20,tau aq 21,tau aq 22,tau aq 23,tau aq 24,tau aq 25,tau aq 26,tau aq 27,tau aq 28,tau aq 29,tau aq 30,tau aq 31,tau aq 32,tau aq 33,tau aq 34,tau aq 35,tau aq 36,tau aq 37,tau aq 38,tau aq 39,tau aq 40,tau aq 41,tau aq 42,tau aq 43,tau aq 44,tau aq 45],[]⟩:=by
    obtain ⟨tq,dq⟩:=aq
    have h5:=arr_eq (show tq.size=46 from hw)
    have h6:dq= []:=hd
    subst h6
    exact congrArg (fun z=>Act.mk z []) h5
   show K2 aq wx
   rw[haq,F0,F1,F2,F3,F4,F6,F7,F17,F18,F19,F20,F21,F22,F23,F24,F25,F26,F27,F28,F29,F30,F31,F32,F33,F34,F35,F36,F37,F38,F39,F40,F41,F42,F43,F44,F45,G5]
   clear haq hf hd hw
   try dsimp only
   refine h3 _ _ ?_
   go_meet
   exact ⟨gb,rfl,hS.cells (⟨w.heap.size,0,none⟩,.int .i64 x) (by simp),hS.cells (⟨w.heap.size,1,none⟩,.int .i64 y) (by simp),hS.cells (⟨w.heap.size+1,0,none⟩,.int .i64 0) (by simp),(hS.free ⟨w.heap.size+1,0,none⟩ (by simp)).2,hS.cells (⟨w.heap.size+1,1,none⟩,.int .i64 0) (by simp),(hS.free ⟨w.heap.size+1,1,none⟩ (by simp)).2,(r3gb 0 (by simp)).1,(r3gb 0 (by simp)).2,(r3gb 1 (by simp)).1,(r3gb 1 (by simp)).2,hS.below,r1gb⟩
 case rest=>
  obtain ⟨gb,rfl,c00,c01,c10,f10,c11,f11,c20,f20,c21,f21,hb0,ngb⟩:=hcut
  have z0:=World.block_lt_of_cell? _ _ c00
  have z1:=World.block_lt_of_cell? _ _ c10
  have z2:=World.block_lt_of_cell? _ _ c20
  change _<wc.heap.size at z0
  change _<wc.heap.size at z1
  change _<wc.heap.size at z2
  go_wp2
  go_loopw [6] (fun sk wr=> ∃(k:Nat) (bx bz:Int),1≤k∧(k:Int)≤n∧sk= .int .i64 (k:Int)∧lpN x y n k=(bx,bz)∧Below w.heap.size w wr∧w.heap.size+2≤gb∧wr.cell? ⟨w.heap.size,0,none⟩=some (.int .i64 x)∧wr.cell? ⟨w.heap.size,1,none⟩=some (.int .i64 y)∧wr.cell? ⟨w.heap.size+1,0,none⟩=some (.int .i64 0)∧wr.cell? ⟨w.heap.size+1,1,none⟩=some (.int .i64 0)∧wr.cell? ⟨gb,0,none⟩=some (.int .i64 bx)∧wr.cell? ⟨gb,1,none⟩=some (.int .i64 bz)∧wr.frozen? ⟨w.heap.size+1,0,none⟩=false∧wr.frozen? ⟨w.heap.size+1,1,none⟩=false∧wr.frozen? ⟨gb,0,none⟩=false∧wr.frozen? ⟨gb,1,none⟩=false) (fun sk _=>(n-intOf sk).toNat)
  case atStart=>
   refine ⟨1,x%n,y%n,by omega,by omega,rfl,lpN_one _ _ _,?_,?_,?_,?_,?_,?_,?_,?_,?_,?_,?_,?_⟩
   all_goals first|assumption|rfl|omega|(go_simp;done)|(simp;omega)|(repeat' (first|(with_reducible exact Below.refl _ _)|(with_reducible assumption)|(with_reducible refine gr_alloc ?_ _)|(with_reducible refine below_drewN ?_ _)|(with_reducible refine below_drew ?_)|(with_reducible refine gr_call ?_ (by assumption))|(with_reducible refine Below.setCell ?_ ?_ _)|go_size|omega|(simp;omega)))
  case round=>
   obtain ⟨k,bx,bz,k1,k2,rfl,hl,hb0,ng,c00,c01,c10,c11,c20,c21,f10,f11,f20,f21⟩:=hrel
   have HL:=hide hl
   clear hl
   by_cases c:(k:Int)<n
   ·have m1:=kx_bd h0 (show k≤30 by omega)
    have m2:=kx_bd h1 (show k≤30 by omega)
    have zg:=World.block_lt_of_cell? _ _ c20
    change gb<wr.heap.size at zg
    have zr:=World.block_lt_of_cell? _ _ c10
    change w.heap.size+1<wr.heap.size at zr
    have zp:=World.block_lt_of_cell? _ _ c00
    change w.heap.size<wr.heap.size at zp
    go_upto_region 5 with fail
    go_cut [7] (fun s7 wx=> ∃gq:Nat,s7= .pointer (some ⟨gq,0,none⟩)∧wx.cell? ⟨w.heap.size,0,none⟩=some (.int .i64 x)∧wx.cell? ⟨w.heap.size,1,none⟩=some (.int .i64 y)∧wx.cell? ⟨w.heap.size+1,0,none⟩=some (.int .i64 0)∧wx.frozen? ⟨w.heap.size+1,0,none⟩=false∧wx.cell? ⟨w.heap.size+1,1,none⟩=some (.int .i64 0)∧wx.frozen? ⟨w.heap.size+1,1,none⟩=false∧wx.cell? ⟨gb,0,none⟩=some (.int .i64 bx)∧wx.frozen? ⟨gb,0,none⟩=false∧wx.cell? ⟨gb,1,none⟩=some (.int .i64 bz)∧wx.frozen? ⟨gb,1,none⟩=false∧wx.cell? ⟨gq,0,none⟩=some (.int .i64 ((k:Int)*x%n))∧wx.frozen? ⟨gq,0,none⟩=false∧wx.cell? ⟨gq,1,none⟩=some (.int .i64 ((k:Int)*y%n))∧wx.frozen? ⟨gq,1,none⟩=false∧Below w.heap.size w wx∧wr.heap.size≤gq)
    case first=>
     rename_i Q1 K1 h1 J1 K2 h2 h3
     refine region_inv2 (by kernel_rfl) (fun j=> #[22,23,24,25,26,27,28,29,30,31,32,33,34,7,7].getD j 0) (fun j=>Kd.ok ((fun j=>match j with|0=>Kd.val (.int .i64 ((k:Int)))|1=>Kd.val (.pointer (some ⟨w.heap.size,0,none⟩))|2=>Kd.val (.int .i64 x)|3=>Kd.val (.int .i64 (((k:Int))*x))|4=>Kd.val (.int .i64 n)|5=>Kd.val (.int .i64 ((k:Int)*x%n))|6=>Kd.val (.int .i64 ((k:Int)))|7=>Kd.val (.pointer (some ⟨w.heap.size,1,none⟩))|8=>Kd.val (.int .i64 y)|9=>Kd.val (.int .i64 (((k:Int))*y))|10=>Kd.val (.int .i64 n)|11=>Kd.val (.int .i64 ((k:Int)*y%n))|12=>Kd.val (.agg #[.int .i64 ((k:Int)*x%n),.int .i64 ((k:Int)*y%n)])|13=>Kd.own (wr.heap.size) 2|14=>Kd.held (wr.heap.size) [.int .i64 ((k:Int)*x%n),.int .i64 ((k:Int)*y%n)]|_=>Kd.any:Nat→Kd) j)) (Sy w (wr.heap.size) [(⟨w.heap.size,0,none⟩,.int .i64 x),(⟨w.heap.size,1,none⟩,.int .i64 y),(⟨w.heap.size+1,0,none⟩,.int .i64 0),(⟨w.heap.size+1,1,none⟩,.int .i64 0),(⟨gb,0,none⟩,.int .i64 bx),(⟨gb,1,none⟩,.int .i64 bz)] [⟨w.heap.size+1,0,none⟩,⟨w.heap.size+1,1,none⟩,⟨gb,0,none⟩,⟨gb,1,none⟩]) (fun j=> #[true,true,true,true,true,true,true,true,true,true,true,true,true,true,true].getD j true) (by kernel_rfl) ?_ ?_ ?_ ?_ ?_ ?_
     ·intro j hj
      have hj2:j<15:=hj
      have: ∀j,j<15→(#[22,23,24,25,26,27,28,29,30,31,32,33,34,7,7]:Array Nat).getD j 0<46:=by decide
      exact this j hj2
     ·intro i o ho
      match i,ho with
      |0,ho=>cases ho;intro aq wq hd;exact wanted_free rfl
      |1,ho=>cases ho;intro aq wq hd;exact wanted_free rfl
      |2,ho=>cases ho;intro aq wq hd;exact wanted_free rfl
      |3,ho=>cases ho;intro aq wq hd;exact wanted_free rfl
      |4,ho=>cases ho;intro aq wq hd;exact wanted_free rfl
      |5,ho=>cases ho;intro aq wq hd;exact wanted_free rfl
      |6,ho=>cases ho;intro aq wq hd;exact wanted_free rfl
      |7,ho=>cases ho;intro aq wq hd;exact wanted_free rfl
      |8,ho=>cases ho;intro aq wq hd;exact wanted_free rfl
      |9,ho=>cases ho;intro aq wq hd;exact wanted_free rfl
      |10,ho=>cases ho;intro aq wq hd;exact wanted_free rfl
      |11,ho=>cases ho;intro aq wq hd;exact wanted_free rfl
      |12,ho=>cases ho;intro aq wq hd;exact wanted_free rfl
      |13,ho=>cases ho;intro aq wq hd;exact wanted_free rfl
      |14,ho=>cases ho;intro aq wq hd;exact wanted_free rfl
      |i+15,ho=>exact absurd ho (by simp)
     ·refine Sy.drew (Sy.mk_of ?_ ?_ ?_ ?_)
      ·first|rfl|(simp;done)|(simp;omega)
      ·intro c hc
       simp only[List.mem_cons,List.not_mem_nil,or_false] at hc
       rcases hc with rfl|rfl|rfl|rfl|rfl|rfl<;>first|assumption|(go_simp;done)
      ·intro p hp
       simp only[List.mem_cons,List.not_mem_nil,or_false] at hp
       rcases hp with rfl|rfl|rfl|rfl<;>exact ⟨by first|exact ⟨_,by assumption⟩|assumption|(go_simp;done)|(go_simp;exact ⟨_,rfl⟩),by first|assumption|(go_simp;done)⟩
      ·(repeat' (first|(with_reducible exact Below.refl _ _)|(with_reducible assumption)|(with_reducible refine gr_alloc ?_ _)|(with_reducible refine below_drewN ?_ _)|(with_reducible refine below_drew ?_)|(with_reducible refine gr_call ?_ (by assumption))|(with_reducible refine Below.setCell ?_ ?_ _)|go_size|omega|(simp;omega)))
     ·clear h1 h2 h3
      intro i o ho
      match i,ho with
      |0,ho=>
       cases ho
       intro _ aq wx Kq hf hS hdep hw hK
       have F6:aq.eval (.tmp 6)= .int .i64 ((k:Int)):=hf 6 (by decide +kernel)
       clear hf hw hdep
       have ev1:=ev_const aq
       have ev2:=ev_func aq
       unfold Oper.wp
       generalize Act.eval _=ev at*
       go_simp
       refine hK _ _ hS ?_ (fun j u _ h=>h)
       rw[if_pos (by rfl)]
       show (_:Value)=_
       first|rfl|(refine congrArg (Value.int IntKind.i64) ?_;first|rfl|exact int_in (by omega)|exact quo_in (by omega) (by omega) (by omega)|exact rem_in (by omega) (by omega)|omega)|(simp;done)|(simp [*];done)
      |1,ho=>
       cases ho
       intro _ aq wx Kq hf hS hdep hw hK
       have F2:aq.eval (.tmp 2)= .pointer (some ⟨w.heap.size,0,none⟩):=hf 2 (by decide +kernel)
       clear hf hw hdep
       have ev1:=ev_const aq
       have ev2:=ev_func aq
       unfold Oper.wp
       generalize Act.eval _=ev at*
       go_simp
       refine hK _ _ hS ?_ (fun j u _ h=>h)
       rw[if_pos (by rfl)]
       show (_:Value)=_
       first|rfl|(refine congrArg (Value.int IntKind.i64) ?_;first|rfl|exact int_in (by omega)|exact quo_in (by omega) (by omega) (by omega)|exact rem_in (by omega) (by omega)|omega)|(simp;done)|(simp [*];done)
      |2,ho=>
       cases ho
       intro _ aq wx Kq hf hS hdep hw hK
       have D1:aq.eval (.tmp 23)=_:=hdep 1 (by decide +kernel)
       have c0:=hS.cells (⟨w.heap.size,0,none⟩,.int .i64 x) (by simp)
       clear hf hw hdep
       have ev1:=ev_const aq
       have ev2:=ev_func aq
       unfold Oper.wp
       generalize Act.eval _=ev at*
       go_simp
       refine hK _ _ hS ?_ (fun j u _ h=>h)
       rw[if_pos (by rfl)]
       show (_:Value)=_
       first|rfl|(refine congrArg (Value.int IntKind.i64) ?_;first|rfl|exact int_in (by omega)|exact quo_in (by omega) (by omega) (by omega)|exact rem_in (by omega) (by omega)|omega)|(simp;done)|(simp [*];done)
      |3,ho=>
       cases ho
       intro _ aq wx Kq hf hS hdep hw hK
       have D0:aq.eval (.tmp 22)=_:=hdep 0 (by decide +kernel)
       have D2:aq.eval (.tmp 24)=_:=hdep 2 (by decide +kernel)
       clear hf hw hdep
       have ev1:=ev_const aq
       have ev2:=ev_func aq
       unfold Oper.wp
       generalize Act.eval _=ev at*
       go_simp
       refine hK _ _ hS ?_ (fun j u _ h=>h)
       rw[if_pos (by rfl)]
       show (_:Value)=_
       first|rfl|(refine congrArg (Value.int IntKind.i64) ?_;first|rfl|exact int_in (by omega)|exact quo_in (by omega) (by omega) (by omega)|exact rem_in (by omega) (by omega)|omega)|(simp;done)|(simp [*];done)
      |4,ho=>
       cases ho
       intro _ aq wx Kq hf hS hdep hw hK
       have F1:aq.eval (.tmp 1)= .int .i64 n:=hf 1 (by decide +kernel)
       clear hf hw hdep
       have ev1:=ev_const aq
       have ev2:=ev_func aq
       unfold Oper.wp
       generalize Act.eval _=ev at*
       go_simp
       refine hK _ _ hS ?_ (fun j u _ h=>h)
       rw[if_pos (by rfl)]
       show (_:Value)=_
       first|rfl|(refine congrArg (Value.int IntKind.i64) ?_;first|rfl|exact int_in (by omega)|exact quo_in (by omega) (by omega) (by omega)|exact rem_in (by omega) (by omega)|omega)|(simp;done)|(simp [*];done)
      |5,ho=>
       cases ho
       intro _ aq wx Kq hf hS hdep hw hK
       have D3:aq.eval (.tmp 25)=_:=hdep 3 (by decide +kernel)
       have D4:aq.eval (.tmp 26)=_:=hdep 4 (by decide +kernel)
       clear hf hw hdep
       have ev1:=ev_const aq
       have ev2:=ev_func aq
       unfold Oper.wp
       generalize Act.eval _=ev at*
       go_simp
       refine ((mod_a _ _ _ (by omega) (by omega) (by omega))).mono ?_
       rintro e w2 ⟨rfl,rfl⟩
       refine hK _ _ (hS.call (below_refl_self _)) ?_ (fun j u _ h=>Kd.ok_below (below_refl_self _) h)
       rw[if_pos (by rfl)]
       show (_:Value)=_
       first|rfl|(refine congrArg (Value.int IntKind.i64) ?_;first|rfl|exact int_in (by omega)|exact quo_in (by omega) (by omega) (by omega)|exact rem_in (by omega) (by omega)|omega)|(simp;done)|(simp [*];done)
      |6,ho=>
       cases ho
       intro _ aq wx Kq hf hS hdep hw hK
       have F6:aq.eval (.tmp 6)= .int .i64 ((k:Int)):=hf 6 (by decide +kernel)
       clear hf hw hdep
       have ev1:=ev_const aq
       have ev2:=ev_func aq
       unfold Oper.wp
       generalize Act.eval _=ev at*
       go_simp
       refine hK _ _ hS ?_ (fun j u _ h=>h)
       rw[if_pos (by rfl)]
       show (_:Value)=_
       first|rfl|(refine congrArg (Value.int IntKind.i64) ?_;first|rfl|exact int_in (by omega)|exact quo_in (by omega) (by omega) (by omega)|exact rem_in (by omega) (by omega)|omega)|(simp;done)|(simp [*];done)
      |7,ho=>
       cases ho
       intro _ aq wx Kq hf hS hdep hw hK
       have F2:aq.eval (.tmp 2)= .pointer (some ⟨w.heap.size,0,none⟩):=hf 2 (by decide +kernel)
       clear hf hw hdep
       have ev1:=ev_const aq
       have ev2:=ev_func aq
       unfold Oper.wp
       generalize Act.eval _=ev at*
       go_simp
       refine hK _ _ hS ?_ (fun j u _ h=>h)
       rw[if_pos (by rfl)]
       show (_:Value)=_
       first|rfl|(refine congrArg (Value.int IntKind.i64) ?_;first|rfl|exact int_in (by omega)|exact quo_in (by omega) (by omega) (by omega)|exact rem_in (by omega) (by omega)|omega)|(simp;done)|(simp [*];done)
      |8,ho=>
       cases ho
       intro _ aq wx Kq hf hS hdep hw hK
       have D7:aq.eval (.tmp 29)=_:=hdep 7 (by decide +kernel)
       have c0:=hS.cells (⟨w.heap.size,1,none⟩,.int .i64 y) (by simp)
       clear hf hw hdep
       have ev1:=ev_const aq
       have ev2:=ev_func aq
       unfold Oper.wp
       generalize Act.eval _=ev at*
       go_simp
       refine hK _ _ hS ?_ (fun j u _ h=>h)
       rw[if_pos (by rfl)]
       show (_:Value)=_
       first|rfl|(refine congrArg (Value.int IntKind.i64) ?_;first|rfl|exact int_in (by omega)|exact quo_in (by omega) (by omega) (by omega)|exact rem_in (by omega) (by omega)|omega)|(simp;done)|(simp [*];done)
      |9,ho=>
       cases ho
       intro _ aq wx Kq hf hS hdep hw hK
       have D6:aq.eval (.tmp 28)=_:=hdep 6 (by decide +kernel)
       have D8:aq.eval (.tmp 30)=_:=hdep 8 (by decide +kernel)
       clear hf hw hdep
       have ev1:=ev_const aq
       have ev2:=ev_func aq
       unfold Oper.wp
       generalize Act.eval _=ev at*
       go_simp
       refine hK _ _ hS ?_ (fun j u _ h=>h)
       rw[if_pos (by rfl)]
       show (_:Value)=_
       first|rfl|(refine congrArg (Value.int IntKind.i64) ?_;first|rfl|exact int_in (by omega)|exact quo_in (by omega) (by omega) (by omega)|exact rem_in (by omega) (by omega)|omega)|(simp;done)|(simp [*];done)
      |10,ho=>
       cases ho
       intro _ aq wx Kq hf hS hdep hw hK
       have F1:aq.eval (.tmp 1)= .int .i64 n:=hf 1 (by decide +kernel)
       clear hf hw hdep
       have ev1:=ev_const aq
       have ev2:=ev_func aq
       unfold Oper.wp
       generalize Act.eval _=ev at*
       go_simp
       refine hK _ _ hS ?_ (fun j u _ h=>h)
       rw[if_pos (by rfl)]
       show (_:Value)=_
       first|rfl|(refine congrArg (Value.int IntKind.i64) ?_;first|rfl|exact int_in (by omega)|exact quo_in (by omega) (by omega) (by omega)|exact rem_in (by omega) (by omega)|omega)|(simp;done)|(simp [*];done)
      |11,ho=>
       cases ho
       intro _ aq wx Kq hf hS hdep hw hK
       have D9:aq.eval (.tmp 31)=_:=hdep 9 (by decide +kernel)
       have D10:aq.eval (.tmp 32)=_:=hdep 10 (by decide +kernel)
       clear hf hw hdep
       have ev1:=ev_const aq
       have ev2:=ev_func aq
       unfold Oper.wp
       generalize Act.eval _=ev at*
       go_simp
       refine ((mod_a _ _ _ (by omega) (by omega) (by omega))).mono ?_
       rintro e w2 ⟨rfl,rfl⟩
       refine hK _ _ (hS.call (below_refl_self _)) ?_ (fun j u _ h=>Kd.ok_below (below_refl_self _) h)
       rw[if_pos (by rfl)]
       show (_:Value)=_
       first|rfl|(refine congrArg (Value.int IntKind.i64) ?_;first|rfl|exact int_in (by omega)|exact quo_in (by omega) (by omega) (by omega)|exact rem_in (by omega) (by omega)|omega)|(simp;done)|(simp [*];done)
      |12,ho=>
       cases ho
       intro _ aq wx Kq hf hS hdep hw hK
       have D5:aq.eval (.tmp 27)=_:=hdep 5 (by decide +kernel)
       have D11:aq.eval (.tmp 33)=_:=hdep 11 (by decide +kernel)
       clear hf hw hdep
       have ev1:=ev_const aq
       have ev2:=ev_func aq
       unfold Oper.wp
       generalize Act.eval _=ev at*
       go_simp
       refine hK _ _ hS ?_ (fun j u _ h=>h)
       rw[if_pos (by rfl)]
       show (_:Value)=_
       first|rfl|(refine congrArg (Value.int IntKind.i64) ?_;first|rfl|exact int_in (by omega)|exact quo_in (by omega) (by omega) (by omega)|exact rem_in (by omega) (by omega)|omega)|(simp;done)|(simp [*];done)
      |13,ho=>
       cases ho
       intro _ aq wx Kq hf hS hdep hw hK
       clear hf hw hdep
       have ev1:=ev_const aq
       have ev2:=ev_func aq
       unfold Oper.wp
       generalize Act.eval _=ev at*
       go_simp
       refine hK _ _ (hS.call (below_alloc_self _ _)) ?_ (fun j u _ h=>Kd.ok_below (below_alloc_self _ _) h)
       rw[if_pos (by rfl)]
       exact kd_new hS.size rfl
      |14,ho=>
       cases ho
       intro _ aq wx Kq hf hS hdep hw hK
       have D12:aq.eval (.tmp 34)=_:=hdep 12 (by decide +kernel)
       obtain ⟨gn,D13,r1,r2,r3⟩:=hdep 13 (by decide +kernel)
       change aq.eval (.tmp 7)=_ at D13
       obtain ⟨⟨vx0,cx0⟩,cf0⟩:=r3 0 (by decide)
       obtain ⟨⟨vx1,cx1⟩,cf1⟩:=r3 1 (by decide)
       have D13':tau aq 7=_:=D13
       clear hf hw hdep
       have ev1:=ev_const aq
       have ev2:=ev_func aq
       unfold Oper.wp
       generalize Act.eval _=ev at*
       go_simp
       refine hK undef _ (Sy.set_new (p:=⟨gn,1,none⟩) r1 (Sy.set_new (p:=⟨gn,0,none⟩) r1 (hS))) ?_ (fun j u hj h=> ?_)
       ·rw [if_neg (by decide)]
        refine ⟨gn,D13',r1,by simpa using r2,fun j hj=> ?_⟩
        match j,hj with
        |0,_=>exact ⟨by go_simp,by go_simp⟩
        |1,_=>exact ⟨by go_simp,by go_simp⟩
        |j+2,hj=>exact absurd (show j+2<2 from hj) (by omega)
       ·match j,hj with
        |0,hj=>exact h
        |1,hj=>exact h
        |2,hj=>exact h
        |3,hj=>exact h
        |4,hj=>exact h
        |5,hj=>exact h
        |6,hj=>exact h
        |7,hj=>exact h
        |8,hj=>exact h
        |9,hj=>exact h
        |10,hj=>exact h
        |11,hj=>exact h
        |12,hj=>exact h
        |13,hj=>exact Kd.ok_set (p:=⟨gn,1,none⟩) rfl trivial (Kd.ok_set (p:=⟨gn,0,none⟩) rfl trivial (h))
        |14,hj=>exact absurd rfl hj
        |j+15,_=>exact h
      |i+15,ho=>exact absurd ho (by simp)
     ·intro i o ho hr
      match i,ho with
      |0,ho=>exact absurd hr (by decide)
      |1,ho=>exact absurd hr (by decide)
      |2,ho=>exact absurd hr (by decide)
      |3,ho=>exact absurd hr (by decide)
      |4,ho=>exact absurd hr (by decide)
      |5,ho=>exact absurd hr (by decide)
      |6,ho=>exact absurd hr (by decide)
      |7,ho=>exact absurd hr (by decide)
      |8,ho=>exact absurd hr (by decide)
      |9,ho=>exact absurd hr (by decide)
      |10,ho=>exact absurd hr (by decide)
      |11,ho=>exact absurd hr (by decide)
      |12,ho=>exact absurd hr (by decide)
      |13,ho=>exact absurd hr (by decide)
      |14,ho=>exact absurd hr (by decide)
      |i+15,ho=>exact absurd ho (by simp)
     ·intro aq wx hd hw hf hS hg
      have F0:tau aq 0=_:=hf 0 (by decide +kernel)
      have F1:tau aq 1=_:=hf 1 (by decide +kernel)
      have F2:tau aq 2=_:=hf 2 (by decide +kernel)
      have F3:tau aq 3=_:=hf 3 (by decide +kernel)
      have F4:tau aq 4=_:=hf 4 (by decide +kernel)
      have F5:tau aq 5=_:=hf 5 (by decide +kernel)
      have F6:tau aq 6=_:=hf 6 (by decide +kernel)
      have F8:tau aq 8=_:=hf 8 (by decide +kernel)
      have F9:tau aq 9=_:=hf 9 (by decide +kernel)
      have F10:tau aq 10=_:=hf 10 (by decide +kernel)
      have F11:tau aq 11=_:=hf 11 (by decide +kernel)
      have F12:tau aq 12=_:=hf 12 (by decide +kernel)
      have F13:tau aq 13=_:=hf 13 (by decide +kernel)
      have F14:tau aq 14=_:=hf 14 (by decide +kernel)
      have F15:tau aq 15=_:=hf 15 (by decide +kernel)
      have F16:tau aq 16=_:=hf 16 (by decide +kernel)
      have F17:tau aq 17=_:=hf 17 (by decide +kernel)
      have F18:tau aq 18=_:=hf 18 (by decide +kernel)
      have F19:tau aq 19=_:=hf 19 (by decide +kernel)
      have F20:tau aq 20=_:=hf 20 (by decide +kernel)
      have F21:tau aq 21=_:=hf 21 (by decide +kernel)
      have F35:tau aq 35=_:=hf 35 (by decide +kernel)
      have F36:tau aq 36=_:=hf 36 (by decide +kernel)
      have F37:tau aq 37=_:=hf 37 (by decide +kernel)
      have F38:tau aq 38=_:=hf 38 (by decide +kernel)
      have F39:tau aq 39=_:=hf 39 (by decide +kernel)
      have F40:tau aq 40=_:=hf 40 (by decide +kernel)
      have F41:tau aq 41=_:=hf 41 (by decide +kernel)
      have F42:tau aq 42=_:=hf 42 (by decide +kernel)
      have F43:tau aq 43=_:=hf 43 (by decide +kernel)
      have F44:tau aq 44=_:=hf 44 (by decide +kernel)
      have F45:tau aq 45=_:=hf 45 (by decide +kernel)
      obtain ⟨gq,G7,r1gq,r2gq,r3gq⟩:=hg 14 (by decide)
      change tau aq 7=_ at G7
      have haq:aq=⟨#[tau aq 0,tau aq 1,tau aq 2,tau aq 3,tau aq 4,tau aq 5,tau aq 6,tau aq 7,tau aq 8,tau aq 9,tau aq 10,tau aq 11,tau aq 12,tau aq 13,tau aq 14,tau aq 15,tau aq 16,tau aq 17,tau aq 18,tau aq 19,tau aq 20,tau aq 21,tau aq 22,tau aq 23,tau aq 24,tau aq 25,tau aq 26,tau aq 27,tau aq 28,tau aq 29,tau aq 30,tau aq 31,tau aq 32,tau aq 33,tau aq 34,tau aq 35,tau aq 36,tau aq 37,tau aq 38,tau aq 39,tau aq 40,tau aq 41,tau aq 42,tau aq 43,tau aq 44,tau aq 45],[]⟩:=by
       obtain ⟨tq,dq⟩:=aq
       have h5:=arr_eq (show tq.size=46 from hw)
       have h6:dq= []:=hd
       subst h6
       exact congrArg (fun z=>Act.mk z []) h5
      show K2 aq wx
      rw[haq,F0,F1,F2,F3,F4,F5,F6,F8,F9,F10,F11,F12,F13,F14,F15,F16,F17,F18,F19,F20,F21,F35,F36,F37,F38,F39,F40,F41,F42,F43,F44,F45,G7]
      clear haq hf hd hw
      try dsimp only
      refine h3 _ _ ?_
      go_meet
      exact ⟨gq,rfl,hS.cells (⟨w.heap.size,0,none⟩,.int .i64 x) (by simp),hS.cells (⟨w.heap.size,1,none⟩,.int .i64 y) (by simp),hS.cells (⟨w.heap.size+1,0,none⟩,.int .i64 0) (by simp),(hS.free ⟨w.heap.size+1,0,none⟩ (by simp)).2,hS.cells (⟨w.heap.size+1,1,none⟩,.int .i64 0) (by simp),(hS.free ⟨w.heap.size+1,1,none⟩ (by simp)).2,hS.cells (⟨gb,0,none⟩,.int .i64 bx) (by simp),(hS.free ⟨gb,0,none⟩ (by simp)).2,hS.cells (⟨gb,1,none⟩,.int .i64 bz) (by simp),(hS.free ⟨gb,1,none⟩ (by simp)).2,(r3gq 0 (by simp)).1,(r3gq 0 (by simp)).2,(r3gq 1 (by simp)).1,(r3gq 1 (by simp)).2,hS.below,r1gq⟩
    case rest=>
     obtain ⟨gq,rfl,c00,c01,c10,f10,c11,f11,c20,f20,c21,f21,c30,f30,c31,f31,hb0,ngq⟩:=hcut
     have z0:=World.block_lt_of_cell? _ _ c00
     have z1:=World.block_lt_of_cell? _ _ c10
     have z2:=World.block_lt_of_cell? _ _ c20
     have z3:=World.block_lt_of_cell? _ _ c30
     change _<wc.heap.size at z0
     change _<wc.heap.size at z1
     change _<wc.heap.size at z2
     change _<wc.heap.size at z3
     by_cases hg:igcd (k:Int) n=1
     ·cases hq:lessB ((k:Int)*x%n) ((k:Int)*y%n) bx bz
      ·have hn:lpN x y n (k+1)=(bx,bz):=(lpN_no2 k1 (by rw[unhide HL];exact hq)).trans (unhide HL)
       have HN:=hide hn
       clear hn
       go_wp2_with (first|(go_at_call 66;refine (mod_a _ _ _ (by first|assumption|omega) (by first|assumption|omega) (by first|assumption|omega)).mono ?_;rintro e w' ⟨rfl,rfl⟩)|(go_at_call 40;refine (gcd_a _ _ _ (by first|assumption|omega) (by first|assumption|omega)).mono ?_;rintro e w' ⟨rfl,nq,rfl⟩)|(go_at_call 67;refine (lessPoint_a _ _ _ _ _).mono ?_;rintro e w1 ⟨rfl,hb⟩;have c00:=cell_call hb (a:=⟨w.heap.size,0,none⟩) (v:= .int .i64 x) (by first|assumption|go_simp);have c01:=cell_call hb (a:=⟨w.heap.size,1,none⟩) (v:= .int .i64 y) (by first|assumption|go_simp);have z0:=lt_keep hb (w.heap.size) (by first|assumption|(simp;omega)|(simp;done));have c10:=cell_call hb (a:=⟨w.heap.size+1,0,none⟩) (v:= .int .i64 0) (by first|assumption|go_simp);have f10:=frz_call hb (a:=⟨w.heap.size+1,0,none⟩) (by first|assumption|(simp;omega)|(simp;done)) (by first|assumption|go_simp);have c11:=cell_call hb (a:=⟨w.heap.size+1,1,none⟩) (v:= .int .i64 0) (by first|assumption|go_simp);have f11:=frz_call hb (a:=⟨w.heap.size+1,1,none⟩) (by first|assumption|(simp;omega)|(simp;done)) (by first|assumption|go_simp);have z1:=lt_keep hb (w.heap.size+1) (by first|assumption|(simp;omega)|(simp;done));have c20:=cell_call hb (a:=⟨gb,0,none⟩) (v:= .int .i64 bx) (by first|assumption|go_simp);have f20:=frz_call hb (a:=⟨gb,0,none⟩) (by first|assumption|(simp;omega)|(simp;done)) (by first|assumption|go_simp);have c21:=cell_call hb (a:=⟨gb,1,none⟩) (v:= .int .i64 bz) (by first|assumption|go_simp);have f21:=frz_call hb (a:=⟨gb,1,none⟩) (by first|assumption|(simp;omega)|(simp;done)) (by first|assumption|go_simp);have z2:=lt_keep hb (gb) (by first|assumption|(simp;omega)|(simp;done));have c30:=cell_call hb (a:=⟨gq,0,none⟩) (v:= .int .i64 ((k:Int)*x%n)) (by first|assumption|go_simp);have f30:=frz_call hb (a:=⟨gq,0,none⟩) (by first|assumption|(simp;omega)|(simp;done)) (by first|assumption|go_simp);have c31:=cell_call hb (a:=⟨gq,1,none⟩) (v:= .int .i64 ((k:Int)*y%n)) (by first|assumption|go_simp);have f31:=frz_call hb (a:=⟨gq,1,none⟩) (by first|assumption|(simp;omega)|(simp;done)) (by first|assumption|go_simp);have z3:=lt_keep hb (gq) (by first|assumption|(simp;omega)|(simp;done));have hs:=hb.size))
       go_roundw
       case rel=>
        first|refine ⟨k+1,bx,bz,by omega,by omega,rfl,unhide HN,?_,?_,?_,?_,?_,?_,?_,?_,?_,?_,?_,?_⟩|((repeat apply Exists.intro);refine ⟨⟨k+1,bx,bz,by omega,by omega,rfl,unhide HN,?_,?_,?_,?_,?_,?_,?_,?_,?_,?_,?_,?_⟩,rfl⟩)
        all_goals first|assumption|rfl|omega|(go_simp;done)|(simp;omega)|(repeat' (first|(with_reducible exact Below.refl _ _)|(with_reducible assumption)|(with_reducible refine gr_alloc ?_ _)|(with_reducible refine below_drewN ?_ _)|(with_reducible refine below_drew ?_)|(with_reducible refine gr_call ?_ (by assumption))|(with_reducible refine Below.setCell ?_ ?_ _)|go_size|omega|(simp;omega)))
       case measure=>simp [intOf];omega
      ·have hn:lpN x y n (k+1)=((k:Int)*x%n,(k:Int)*y%n):=lpN_yes k1 (by simp [okB,hg]) (by rw[unhide HL];exact hq)
       have HN:=hide hn
       clear hn
       go_wp2_with (first|(go_at_call 66;refine (mod_a _ _ _ (by first|assumption|omega) (by first|assumption|omega) (by first|assumption|omega)).mono ?_;rintro e w' ⟨rfl,rfl⟩)|(go_at_call 40;refine (gcd_a _ _ _ (by first|assumption|omega) (by first|assumption|omega)).mono ?_;rintro e w' ⟨rfl,nq,rfl⟩)|(go_at_call 67;refine (lessPoint_a _ _ _ _ _).mono ?_;rintro e w1 ⟨rfl,hb⟩;have c00:=cell_call hb (a:=⟨w.heap.size,0,none⟩) (v:= .int .i64 x) (by first|assumption|go_simp);have c01:=cell_call hb (a:=⟨w.heap.size,1,none⟩) (v:= .int .i64 y) (by first|assumption|go_simp);have z0:=lt_keep hb (w.heap.size) (by first|assumption|(simp;omega)|(simp;done));have c10:=cell_call hb (a:=⟨w.heap.size+1,0,none⟩) (v:= .int .i64 0) (by first|assumption|go_simp);have f10:=frz_call hb (a:=⟨w.heap.size+1,0,none⟩) (by first|assumption|(simp;omega)|(simp;done)) (by first|assumption|go_simp);have c11:=cell_call hb (a:=⟨w.heap.size+1,1,none⟩) (v:= .int .i64 0) (by first|assumption|go_simp);have f11:=frz_call hb (a:=⟨w.heap.size+1,1,none⟩) (by first|assumption|(simp;omega)|(simp;done)) (by first|assumption|go_simp);have z1:=lt_keep hb (w.heap.size+1) (by first|assumption|(simp;omega)|(simp;done));have c20:=cell_call hb (a:=⟨gb,0,none⟩) (v:= .int .i64 bx) (by first|assumption|go_simp);have f20:=frz_call hb (a:=⟨gb,0,none⟩) (by first|assumption|(simp;omega)|(simp;done)) (by first|assumption|go_simp);have c21:=cell_call hb (a:=⟨gb,1,none⟩) (v:= .int .i64 bz) (by first|assumption|go_simp);have f21:=frz_call hb (a:=⟨gb,1,none⟩) (by first|assumption|(simp;omega)|(simp;done)) (by first|assumption|go_simp);have z2:=lt_keep hb (gb) (by first|assumption|(simp;omega)|(simp;done));have c30:=cell_call hb (a:=⟨gq,0,none⟩) (v:= .int .i64 ((k:Int)*x%n)) (by first|assumption|go_simp);have f30:=frz_call hb (a:=⟨gq,0,none⟩) (by first|assumption|(simp;omega)|(simp;done)) (by first|assumption|go_simp);have c31:=cell_call hb (a:=⟨gq,1,none⟩) (v:= .int .i64 ((k:Int)*y%n)) (by first|assumption|go_simp);have f31:=frz_call hb (a:=⟨gq,1,none⟩) (by first|assumption|(simp;omega)|(simp;done)) (by first|assumption|go_simp);have z3:=lt_keep hb (gq) (by first|assumption|(simp;omega)|(simp;done));have hs:=hb.size))
       go_roundw
       case rel=>
        first|refine ⟨k+1,(k:Int)*x%n,(k:Int)*y%n,by omega,by omega,rfl,unhide HN,?_,?_,?_,?_,?_,?_,?_,?_,?_,?_,?_,?_⟩|((repeat apply Exists.intro);refine ⟨⟨k+1,(k:Int)*x%n,(k:Int)*y%n,by omega,by omega,rfl,unhide HN,?_,?_,?_,?_,?_,?_,?_,?_,?_,?_,?_,?_⟩,rfl⟩)
        all_goals first|assumption|rfl|omega|(go_simp;done)|(simp;omega)|(repeat' (first|(with_reducible exact Below.refl _ _)|(with_reducible assumption)|(with_reducible refine gr_alloc ?_ _)|(with_reducible refine below_drewN ?_ _)|(with_reducible refine below_drew ?_)|(with_reducible refine gr_call ?_ (by assumption))|(with_reducible refine Below.setCell ?_ ?_ _)|go_size|omega|(simp;omega)))
       case measure=>simp [intOf];omega
     ·have hn:lpN x y n (k+1)=(bx,bz):=(lpN_no1 k1 (by simp [okB,hg])).trans (unhide HL)
      have HN:=hide hn
      clear hn
      go_wp2_with (first|(go_at_call 66;refine (mod_a _ _ _ (by first|assumption|omega) (by first|assumption|omega) (by first|assumption|omega)).mono ?_;rintro e w' ⟨rfl,rfl⟩)|(go_at_call 40;refine (gcd_a _ _ _ (by first|assumption|omega) (by first|assumption|omega)).mono ?_;rintro e w' ⟨rfl,nq,rfl⟩)|(go_at_call 67;refine (lessPoint_a _ _ _ _ _).mono ?_;rintro e w1 ⟨rfl,hb⟩;have c00:=cell_call hb (a:=⟨w.heap.size,0,none⟩) (v:= .int .i64 x) (by first|assumption|go_simp);have c01:=cell_call hb (a:=⟨w.heap.size,1,none⟩) (v:= .int .i64 y) (by first|assumption|go_simp);have z0:=lt_keep hb (w.heap.size) (by first|assumption|(simp;omega)|(simp;done));have c10:=cell_call hb (a:=⟨w.heap.size+1,0,none⟩) (v:= .int .i64 0) (by first|assumption|go_simp);have f10:=frz_call hb (a:=⟨w.heap.size+1,0,none⟩) (by first|assumption|(simp;omega)|(simp;done)) (by first|assumption|go_simp);have c11:=cell_call hb (a:=⟨w.heap.size+1,1,none⟩) (v:= .int .i64 0) (by first|assumption|go_simp);have f11:=frz_call hb (a:=⟨w.heap.size+1,1,none⟩) (by first|assumption|(simp;omega)|(simp;done)) (by first|assumption|go_simp);have z1:=lt_keep hb (w.heap.size+1) (by first|assumption|(simp;omega)|(simp;done));have c20:=cell_call hb (a:=⟨gb,0,none⟩) (v:= .int .i64 bx) (by first|assumption|go_simp);have f20:=frz_call hb (a:=⟨gb,0,none⟩) (by first|assumption|(simp;omega)|(simp;done)) (by first|assumption|go_simp);have c21:=cell_call hb (a:=⟨gb,1,none⟩) (v:= .int .i64 bz) (by first|assumption|go_simp);have f21:=frz_call hb (a:=⟨gb,1,none⟩) (by first|assumption|(simp;omega)|(simp;done)) (by first|assumption|go_simp);have z2:=lt_keep hb (gb) (by first|assumption|(simp;omega)|(simp;done));have c30:=cell_call hb (a:=⟨gq,0,none⟩) (v:= .int .i64 ((k:Int)*x%n)) (by first|assumption|go_simp);have f30:=frz_call hb (a:=⟨gq,0,none⟩) (by first|assumption|(simp;omega)|(simp;done)) (by first|assumption|go_simp);have c31:=cell_call hb (a:=⟨gq,1,none⟩) (v:= .int .i64 ((k:Int)*y%n)) (by first|assumption|go_simp);have f31:=frz_call hb (a:=⟨gq,1,none⟩) (by first|assumption|(simp;omega)|(simp;done)) (by first|assumption|go_simp);have z3:=lt_keep hb (gq) (by first|assumption|(simp;omega)|(simp;done));have hs:=hb.size))
      go_roundw
      case rel=>
       first|refine ⟨k+1,bx,bz,by omega,by omega,rfl,unhide HN,?_,?_,?_,?_,?_,?_,?_,?_,?_,?_,?_,?_⟩|((repeat apply Exists.intro);refine ⟨⟨k+1,bx,bz,by omega,by omega,rfl,unhide HN,?_,?_,?_,?_,?_,?_,?_,?_,?_,?_,?_,?_⟩,rfl⟩)
       all_goals first|assumption|rfl|omega|(go_simp;done)|(simp;omega)|(repeat' (first|(with_reducible exact Below.refl _ _)|(with_reducible assumption)|(with_reducible refine gr_alloc ?_ _)|(with_reducible refine below_drewN ?_ _)|(with_reducible refine below_drew ?_)|(with_reducible refine gr_call ?_ (by assumption))|(with_reducible refine Below.setCell ?_ ?_ _)|go_size|omega|(simp;omega)))
      case measure=>simp [intOf];omega
   ·have he:n.toNat=k:=by omega
    have hx:lpX x y n=bx:=by unfold lpX;rw [he,unhide HL]
    have hy:lpY x y n=bz:=by unfold lpY;rw [he,unhide HL]
    have HX:=hide hx
    have HY:=hide hy
    clear he hx hy
    go_wp2
    first|go_returns|(refine bodyPost_ret (v:= .agg #[.int .i64 bx,.int .i64 bz]) (by simp [results,Tryz.results32,go_sem, *]) rfl ?_)
    refine ⟨by rw[unhide HX,unhide HY],?_⟩
    (repeat' (first|(with_reducible exact Below.refl _ _)|(with_reducible assumption)|(with_reducible refine gr_alloc ?_ _)|(with_reducible refine below_drewN ?_ _)|(with_reducible refine below_drew ?_)|(with_reducible refine gr_call ?_ (by assumption))|(with_reducible refine Below.setCell ?_ ?_ _)|go_size|omega|(simp;omega)))

set_option maxRecDepth 100000 in
set_option maxHeartbeats 4000000 in
theorem lvPoint_a (x y n:Int) (w:World) (h0: -1000000≤x∧x≤1000000) (h1: -1000000≤y∧y≤1000000) (h2:1≤n) (h3:n≤30):
  Calls Tryz.prog 35 #[.int .i64 x,.int .i64 y,.int .i64 n] w fun e w'=>e= .returned (.agg #[.int .i64 (lpX x y n),.int .i64 (lpY x y n)])∧Below w.heap.size w w':=by
 go_enter Tryz.func35,Tryz.ntmps35
 go_wp2_with (go_at_call 69;refine (nuMod_a _ _ _ (by first|assumption|omega) (by first|assumption|omega) (by first|assumption|omega)).mono ?_;rintro e w' ⟨rfl,rfl⟩)
 go_loopw [8] (fun sk wr=> ∃(k:Nat) (bx bz:Int),1≤k∧(k:Int)≤n∧sk= .int .i64 (k:Int)∧lpN x y n k=(bx,bz)∧Below w.heap.size w wr∧w.heap.size+1≤w.heap.size+1∧wr.cell? ⟨w.heap.size,0,none⟩=some (.int .i64 0)∧wr.cell? ⟨w.heap.size,1,none⟩=some (.int .i64 0)∧wr.cell? ⟨w.heap.size+1,0,none⟩=some (.int .i64 bx)∧wr.cell? ⟨w.heap.size+1,1,none⟩=some (.int .i64 bz)∧wr.frozen? ⟨w.heap.size,0,none⟩=false∧wr.frozen? ⟨w.heap.size,1,none⟩=false∧wr.frozen? ⟨w.heap.size+1,0,none⟩=false∧wr.frozen? ⟨w.heap.size+1,1,none⟩=false) (fun sk _=>(n-intOf sk).toNat)
 case atStart=>
  refine ⟨1,x%n,y%n,by omega,by omega,rfl,lpN_one _ _ _,?_,?_,?_,?_,?_,?_,?_,?_,?_,?_⟩
  all_goals first|assumption|rfl|omega|(go_simp;done)|(simp;omega)|(repeat' (first|(with_reducible exact Below.refl _ _)|(with_reducible assumption)|(with_reducible refine gr_alloc ?_ _)|(with_reducible refine below_drewN ?_ _)|(with_reducible refine below_drew ?_)|(with_reducible refine gr_call ?_ (by assumption))|(with_reducible refine Below.setCell ?_ ?_ _)|go_size|omega|(simp;omega)))
 case round=>
  obtain ⟨k,bx,bz,k1,k2,rfl,hl,hb0,ng,c00,c01,c10,c11,f00,f01,f10,f11⟩:=hrel
  have HL:=hide hl
  clear hl
  by_cases c:(k:Int)<n
  ·have m1:=kx_bd h0 (show k≤30 by omega)
   have m2:=kx_bd h1 (show k≤30 by omega)
   have zg:=World.block_lt_of_cell? _ _ c10
   change w.heap.size+1<wr.heap.size at zg
   have zr:=World.block_lt_of_cell? _ _ c00
   change w.heap.size<wr.heap.size at zr

   by_cases hg:igcd (k:Int) n=1
   ·cases hq:lessB ((k:Int)*x%n) ((k:Int)*y%n) bx bz
    ·have hn:lpN x y n (k+1)=(bx,bz):=(lpN_no2 k1 (by rw[unhide HL];exact hq)).trans (unhide HL)
     have HN:=hide hn
     clear hn
     go_wp2_with (first|(go_at_call 69;refine (nuMod_a _ _ _ (by first|assumption|omega) (by first|assumption|omega) (by first|assumption|omega)).mono ?_;rintro e w' ⟨rfl,rfl⟩)|(go_at_call 70;refine (nuGcd_a _ _ _ (by first|assumption|omega) (by first|assumption|omega)).mono ?_;rintro e w' ⟨rfl,nq,rfl⟩)|(go_at_call 71;refine (tpLess_a _ _ _ _ _).mono ?_;rintro e w1 ⟨rfl,hb⟩;have c00:=cell_call hb (a:=⟨w.heap.size,0,none⟩) (v:= .int .i64 0) (by first|assumption|go_simp);have f00:=frz_call hb (a:=⟨w.heap.size,0,none⟩) (by first|assumption|(simp;omega)|(simp;done)) (by first|assumption|go_simp);have c01:=cell_call hb (a:=⟨w.heap.size,1,none⟩) (v:= .int .i64 0) (by first|assumption|go_simp);have f01:=frz_call hb (a:=⟨w.heap.size,1,none⟩) (by first|assumption|(simp;omega)|(simp;done)) (by first|assumption|go_simp);have z0:=lt_keep hb (w.heap.size) (by first|assumption|(simp;omega)|(simp;done));have c10:=cell_call hb (a:=⟨w.heap.size+1,0,none⟩) (v:= .int .i64 bx) (by first|assumption|go_simp);have f10:=frz_call hb (a:=⟨w.heap.size+1,0,none⟩) (by first|assumption|(simp;omega)|(simp;done)) (by first|assumption|go_simp);have c11:=cell_call hb (a:=⟨w.heap.size+1,1,none⟩) (v:= .int .i64 bz) (by first|assumption|go_simp);have f11:=frz_call hb (a:=⟨w.heap.size+1,1,none⟩) (by first|assumption|(simp;omega)|(simp;done)) (by first|assumption|go_simp);have z1:=lt_keep hb (w.heap.size+1) (by first|assumption|(simp;omega)|(simp;done));have c20:=cell_call hb (a:=⟨wr.heap.size,0,none⟩) (v:= .int .i64 ((k:Int)*x%n)) (by first|assumption|go_simp);have f20:=frz_call hb (a:=⟨wr.heap.size,0,none⟩) (by first|assumption|(simp;omega)|(simp;done)) (by first|assumption|go_simp);have c21:=cell_call hb (a:=⟨wr.heap.size,1,none⟩) (v:= .int .i64 ((k:Int)*y%n)) (by first|assumption|go_simp);have f21:=frz_call hb (a:=⟨wr.heap.size,1,none⟩) (by first|assumption|(simp;omega)|(simp;done)) (by first|assumption|go_simp);have z2:=lt_keep hb (wr.heap.size) (by first|assumption|(simp;omega)|(simp;done));have hs:=hb.size))
     go_roundw
     case rel=>
      first|refine ⟨k+1,bx,bz,by omega,by omega,rfl,unhide HN,?_,?_,?_,?_,?_,?_,?_,?_,?_,?_⟩|((repeat apply Exists.intro);refine ⟨⟨k+1,bx,bz,by omega,by omega,rfl,unhide HN,?_,?_,?_,?_,?_,?_,?_,?_,?_,?_⟩,rfl⟩)
      all_goals first|assumption|rfl|omega|(go_simp;done)|(simp;omega)|(repeat' (first|(with_reducible exact Below.refl _ _)|(with_reducible assumption)|(with_reducible refine gr_alloc ?_ _)|(with_reducible refine below_drewN ?_ _)|(with_reducible refine below_drew ?_)|(with_reducible refine gr_call ?_ (by assumption))|(with_reducible refine Below.setCell ?_ ?_ _)|go_size|omega|(simp;omega)))
     case measure=>simp [intOf];omega
    ·have hn:lpN x y n (k+1)=((k:Int)*x%n,(k:Int)*y%n):=lpN_yes k1 (by simp [okB,hg]) (by rw[unhide HL];exact hq)
     have HN:=hide hn
     clear hn
     go_wp2_with (first|(go_at_call 69;refine (nuMod_a _ _ _ (by first|assumption|omega) (by first|assumption|omega) (by first|assumption|omega)).mono ?_;rintro e w' ⟨rfl,rfl⟩)|(go_at_call 70;refine (nuGcd_a _ _ _ (by first|assumption|omega) (by first|assumption|omega)).mono ?_;rintro e w' ⟨rfl,nq,rfl⟩)|(go_at_call 71;refine (tpLess_a _ _ _ _ _).mono ?_;rintro e w1 ⟨rfl,hb⟩;have c00:=cell_call hb (a:=⟨w.heap.size,0,none⟩) (v:= .int .i64 0) (by first|assumption|go_simp);have f00:=frz_call hb (a:=⟨w.heap.size,0,none⟩) (by first|assumption|(simp;omega)|(simp;done)) (by first|assumption|go_simp);have c01:=cell_call hb (a:=⟨w.heap.size,1,none⟩) (v:= .int .i64 0) (by first|assumption|go_simp);have f01:=frz_call hb (a:=⟨w.heap.size,1,none⟩) (by first|assumption|(simp;omega)|(simp;done)) (by first|assumption|go_simp);have z0:=lt_keep hb (w.heap.size) (by first|assumption|(simp;omega)|(simp;done));have c10:=cell_call hb (a:=⟨w.heap.size+1,0,none⟩) (v:= .int .i64 bx) (by first|assumption|go_simp);have f10:=frz_call hb (a:=⟨w.heap.size+1,0,none⟩) (by first|assumption|(simp;omega)|(simp;done)) (by first|assumption|go_simp);have c11:=cell_call hb (a:=⟨w.heap.size+1,1,none⟩) (v:= .int .i64 bz) (by first|assumption|go_simp);have f11:=frz_call hb (a:=⟨w.heap.size+1,1,none⟩) (by first|assumption|(simp;omega)|(simp;done)) (by first|assumption|go_simp);have z1:=lt_keep hb (w.heap.size+1) (by first|assumption|(simp;omega)|(simp;done));have c20:=cell_call hb (a:=⟨wr.heap.size,0,none⟩) (v:= .int .i64 ((k:Int)*x%n)) (by first|assumption|go_simp);have f20:=frz_call hb (a:=⟨wr.heap.size,0,none⟩) (by first|assumption|(simp;omega)|(simp;done)) (by first|assumption|go_simp);have c21:=cell_call hb (a:=⟨wr.heap.size,1,none⟩) (v:= .int .i64 ((k:Int)*y%n)) (by first|assumption|go_simp);have f21:=frz_call hb (a:=⟨wr.heap.size,1,none⟩) (by first|assumption|(simp;omega)|(simp;done)) (by first|assumption|go_simp);have z2:=lt_keep hb (wr.heap.size) (by first|assumption|(simp;omega)|(simp;done));have hs:=hb.size))
     go_roundw
     case rel=>
      first|refine ⟨k+1,(k:Int)*x%n,(k:Int)*y%n,by omega,by omega,rfl,unhide HN,?_,?_,?_,?_,?_,?_,?_,?_,?_,?_⟩|((repeat apply Exists.intro);refine ⟨⟨k+1,(k:Int)*x%n,(k:Int)*y%n,by omega,by omega,rfl,unhide HN,?_,?_,?_,?_,?_,?_,?_,?_,?_,?_⟩,rfl⟩)
      all_goals first|assumption|rfl|omega|(go_simp;done)|(simp;omega)|(repeat' (first|(with_reducible exact Below.refl _ _)|(with_reducible assumption)|(with_reducible refine gr_alloc ?_ _)|(with_reducible refine below_drewN ?_ _)|(with_reducible refine below_drew ?_)|(with_reducible refine gr_call ?_ (by assumption))|(with_reducible refine Below.setCell ?_ ?_ _)|go_size|omega|(simp;omega)))
     case measure=>simp [intOf];omega
   ·have hn:lpN x y n (k+1)=(bx,bz):=(lpN_no1 k1 (by simp [okB,hg])).trans (unhide HL)
    have HN:=hide hn
    clear hn
    go_wp2_with (first|(go_at_call 69;refine (nuMod_a _ _ _ (by first|assumption|omega) (by first|assumption|omega) (by first|assumption|omega)).mono ?_;rintro e w' ⟨rfl,rfl⟩)|(go_at_call 70;refine (nuGcd_a _ _ _ (by first|assumption|omega) (by first|assumption|omega)).mono ?_;rintro e w' ⟨rfl,nq,rfl⟩)|(go_at_call 71;refine (tpLess_a _ _ _ _ _).mono ?_;rintro e w1 ⟨rfl,hb⟩;have c00:=cell_call hb (a:=⟨w.heap.size,0,none⟩) (v:= .int .i64 0) (by first|assumption|go_simp);have f00:=frz_call hb (a:=⟨w.heap.size,0,none⟩) (by first|assumption|(simp;omega)|(simp;done)) (by first|assumption|go_simp);have c01:=cell_call hb (a:=⟨w.heap.size,1,none⟩) (v:= .int .i64 0) (by first|assumption|go_simp);have f01:=frz_call hb (a:=⟨w.heap.size,1,none⟩) (by first|assumption|(simp;omega)|(simp;done)) (by first|assumption|go_simp);have z0:=lt_keep hb (w.heap.size) (by first|assumption|(simp;omega)|(simp;done));have c10:=cell_call hb (a:=⟨w.heap.size+1,0,none⟩) (v:= .int .i64 bx) (by first|assumption|go_simp);have f10:=frz_call hb (a:=⟨w.heap.size+1,0,none⟩) (by first|assumption|(simp;omega)|(simp;done)) (by first|assumption|go_simp);have c11:=cell_call hb (a:=⟨w.heap.size+1,1,none⟩) (v:= .int .i64 bz) (by first|assumption|go_simp);have f11:=frz_call hb (a:=⟨w.heap.size+1,1,none⟩) (by first|assumption|(simp;omega)|(simp;done)) (by first|assumption|go_simp);have z1:=lt_keep hb (w.heap.size+1) (by first|assumption|(simp;omega)|(simp;done));have c20:=cell_call hb (a:=⟨wr.heap.size,0,none⟩) (v:= .int .i64 ((k:Int)*x%n)) (by first|assumption|go_simp);have f20:=frz_call hb (a:=⟨wr.heap.size,0,none⟩) (by first|assumption|(simp;omega)|(simp;done)) (by first|assumption|go_simp);have c21:=cell_call hb (a:=⟨wr.heap.size,1,none⟩) (v:= .int .i64 ((k:Int)*y%n)) (by first|assumption|go_simp);have f21:=frz_call hb (a:=⟨wr.heap.size,1,none⟩) (by first|assumption|(simp;omega)|(simp;done)) (by first|assumption|go_simp);have z2:=lt_keep hb (wr.heap.size) (by first|assumption|(simp;omega)|(simp;done));have hs:=hb.size))
    go_roundw
    case rel=>
     first|refine ⟨k+1,bx,bz,by omega,by omega,rfl,unhide HN,?_,?_,?_,?_,?_,?_,?_,?_,?_,?_⟩|((repeat apply Exists.intro);refine ⟨⟨k+1,bx,bz,by omega,by omega,rfl,unhide HN,?_,?_,?_,?_,?_,?_,?_,?_,?_,?_⟩,rfl⟩)
     all_goals first|assumption|rfl|omega|(go_simp;done)|(simp;omega)|(repeat' (first|(with_reducible exact Below.refl _ _)|(with_reducible assumption)|(with_reducible refine gr_alloc ?_ _)|(with_reducible refine below_drewN ?_ _)|(with_reducible refine below_drew ?_)|(with_reducible refine gr_call ?_ (by assumption))|(with_reducible refine Below.setCell ?_ ?_ _)|go_size|omega|(simp;omega)))
    case measure=>simp [intOf];omega
  ·have he:n.toNat=k:=by omega
   have hx:lpX x y n=bx:=by unfold lpX;rw [he,unhide HL]
   have hy:lpY x y n=bz:=by unfold lpY;rw [he,unhide HL]
   have HX:=hide hx
   have HY:=hide hy
   clear he hx hy
   go_wp2
   first|go_returns|(refine bodyPost_ret (v:= .agg #[.int .i64 bx,.int .i64 bz]) (by simp [results,Tryz.results35,go_sem, *]) rfl ?_)
   refine ⟨by rw[unhide HX,unhide HY],?_⟩
   (repeat' (first|(with_reducible exact Below.refl _ _)|(with_reducible assumption)|(with_reducible refine gr_alloc ?_ _)|(with_reducible refine below_drewN ?_ _)|(with_reducible refine below_drew ?_)|(with_reducible refine gr_call ?_ (by assumption))|(with_reducible refine Below.setCell ?_ ?_ _)|go_size|omega|(simp;omega)))
end Go.Proofs.YtobkcnmlmmhpoaaGreat
