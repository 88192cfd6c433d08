/- reAutomorphs (spec). -/
import Derived.Test.YtobkcnmlmmhpoaaGreatAm
namespace Go.Proofs.YtobkcnmlmmhpoaaGreat
open Go.RowKit
set_option linter.unusedVariables false
set_option linter.unusedSimpArgs false
attribute [local go_sem] q2 q3 q4 q5 q6 q7 q8 q9 q10 q11 q12

def SpRel (w0 w:World) (a b c:Int) (m:Nat) (ls:Value):Prop:=
 ∃n av cv L,ls= .slice av n cv∧ML w (w0.heap.size+1) (.slice av n cv) L∧Hid (L=putB [] (spK a b c m))∧Hid (L.length=n)∧n≤m∧Below w0.heap.size w0 w∧
  w.cell? ⟨w0.heap.size,0,none⟩=some (.int .i64 a)∧w.cell? ⟨w0.heap.size,1,none⟩=some (.int .i64 b)∧w.cell? ⟨w0.heap.size,2,none⟩=some (.int .i64 c)
theorem SpRel.same {w0 w:World} {a b c:Int} {m:Nat} {ls:Value} (h:SpRel w0 w a b c m ls) (hq:spK a b c (m+1)=spK a b c m):SpRel w0 w a b c (m+1) ls:=by
 obtain ⟨n,av,cv,L,h1,h2,h3,h4,h5,h6⟩:=h
 exact ⟨n,av,cv,L,h1,h2,hide (by rw[hq];exact unhide h3),h4,by omega,h6⟩
theorem blk_farR {w w':World} {row:Option Nat} {b:Nat} (hg:w.grownBy w' row) (hb:b<w.heap.size) (hr: ∀k,row=some k→ ¬b=k):w'.heap[b]? =w.heap[b]? :=
 hg.block b hb (fun e=>hr b e.symm rfl)
theorem cell_farR {w w':World} {row:Option Nat} {b j:Nat} {v:Value} (hg:w.grownBy w' row) (h:w.cell? ⟨b,j,none⟩=some v) (hr: ∀k,row=some k→ ¬b=k):w'.cell? ⟨b,j,none⟩=some v:=by
 have hb:b<w.heap.size:=World.block_lt_of_cell? _ _ h
 rw[World.cell?_of_block (w:=w) (w':=w') (a:=⟨b,j,none⟩) (blk_farR hg hb hr)]
 exact h
theorem cell_set4 {w:World} {g k b j:Nat} {p q r s:Int} {v:Value} (h:w.cell? ⟨b,j,none⟩=some v) (n: ¬b=g):(set4 w g k p q r s).cell? ⟨b,j,none⟩=some v:=by
 rw[World.cell?_of_block (w:=w) (w':=set4 w g k p q r s) (a:=⟨b,j,none⟩) (set4_block _ _ _ _ _ _ _ n)]
 exact h
structure ShRel (w0 w:World) (a b c:Int) (L:List M4) (m:M4) (n g c6 B k:Nat) (x:M4):Prop where
 ml:ML w (w0.heap.size+1) (.slice (some ⟨g,0,none⟩) (n+1) c6) (L.take k++x :: L.drop k)
 len:L.length=n
 ne: ¬B=g
 lo:w0.heap.size+1≤g
 m0:w.cell? ⟨B,0,none⟩=some (.int .i64 m.1)
 m1:w.cell? ⟨B,1,none⟩=some (.int .i64 m.2.1)
 m2:w.cell? ⟨B,2,none⟩=some (.int .i64 m.2.2.1)
 m3:w.cell? ⟨B,3,none⟩=some (.int .i64 m.2.2.2)
 b0:w.cell? ⟨w0.heap.size,0,none⟩=some (.int .i64 a)
 b1:w.cell? ⟨w0.heap.size,1,none⟩=some (.int .i64 b)
 b2:w.cell? ⟨w0.heap.size,2,none⟩=some (.int .i64 c)
 be:Below w0.heap.size w0 w
theorem ShRel.below {w0 w w':World} {a b c:Int} {L:List M4} {m x:M4} {n g c6 B k:Nat} (h:ShRel w0 w a b c L m n g c6 B k x) (hb:Below w.heap.size w w'):ShRel w0 w' a b c L m n g c6 B k x:=
 ⟨h.ml.below hb,h.len,h.ne,h.lo,cell_call hb h.m0,cell_call hb h.m1,cell_call hb h.m2,cell_call hb h.m3,cell_call hb h.b0,cell_call hb h.b1,cell_call hb h.b2,h.be.trans (hb.mono h.be.size)⟩
theorem ShRel.set {w0 w:World} {a b c:Int} {L:List M4} {m x:M4} {n g c6 B k:Nat} (h:ShRel w0 w a b c L m n g c6 B k x) (hk:k≤n) (e0 e1 e2 e3:Int):ShRel w0 (set4 w g k e0 e1 e2 e3) a b c L m n g c6 B k (e0,e1,e2,e3):=by
 have hlo:=h.lo
 refine ⟨?_,h.len,h.ne,h.lo,cell_set4 h.m0 h.ne,cell_set4 h.m1 h.ne,cell_set4 h.m2 h.ne,cell_set4 h.m3 h.ne,cell_set4 h.b0 (by omega),cell_set4 h.b1 (by omega),cell_set4 h.b2 (by omega),set4_below h.be (by omega) _ _ _ _ _⟩
 have:=h.ml.stored k e0 e1 e2 e3
 rw[sh_put L x _ k (by rw[h.len];exact hk)] at this
 exact this
theorem ShRel.shift {w0 w:World} {a b c:Int} {L:List M4} {m e:M4} {n g c6 B k:Nat} (h:ShRel w0 w a b c L m n g c6 B (k+1) e) (hk:k<n) (he:L.getD k m40=e):ShRel w0 w a b c L m n g c6 B k e:=by
 refine ⟨?_,h.len,h.ne,h.lo,h.m0,h.m1,h.m2,h.m3,h.b0,h.b1,h.b2,h.be⟩
 have h1:=h.ml
 have h2:=sh_step L e k (by rw[h.len];exact hk)
 have h3:=sh_put L e e (k+1) (by rw[h.len];exact hk)
 rw[he] at h2
 rw[h3] at h2
 rw[h2] at h1
 exact h1
theorem ShRel.fin {w0 w:World} {a b c:Int} {L:List M4} {m:M4} {n g c6 B k M:Nat} (h:ShRel w0 w a b c L m n g c6 B k m) (hat:atB m L n=k) (hL:L=putB [] (spK a b c M)) (hs:spK a b c (M+1)=spK a b c M++ [m]) (hn:n≤M):
  SpRel w0 w a b c (M+1) (.slice (some ⟨g,0,none⟩) (n+1) c6):=by
 have e:L.take k++m :: L.drop k=putB [] (spK a b c (M+1)):=by
  rw[hs,putB_snoc,←hL]
  unfold insB
  rw[h.len,hat]
 refine ⟨n+1,some ⟨g,0,none⟩,c6,L.take k++m :: L.drop k,rfl,h.ml,hide e,hide ?_,by omega,h.be,h.b0,h.b1,h.b2⟩
 have hk:k≤n:=by rw[←hat];exact atB_le m L n
 rw[List.length_append,List.length_cons,List.length_take,List.length_drop,h.len]
 omega
theorem content_y (a b c:Int) (w:World) (h:formB a b c=true) (hc:contI a b c=1):
  Calls Tryz.prog 93 #[.agg #[.int .i64 a,.int .i64 b,.int .i64 c]] w fun e w'=>e= .returned (.int .i64 1)∧Below w.heap.size w w':=by
 have:=foContent_a a b c w h
 rw[hc] at this
 exact this
theorem disc_y (a b c d:Int) (w:World) (h:formB a b c=true) (hd:discI a b c=d):
  Calls Tryz.prog 45 #[.agg #[.int .i64 a,.int .i64 b,.int .i64 c]] w fun e w'=>e= .returned (.int .i64 d)∧Below w.heap.size w w':=by
 subst hd
 exact foDisc_a a b c w h

set_option maxRecDepth 100000 in
set_option maxHeartbeats 8000000 in
theorem reAutomorphs_c (a b c d:Int) (w:World) (h:classB a b c=true) (hd:discI a b c=d):
  Calls Tryz.prog 55 #[.agg #[.int .i64 a,.int .i64 b,.int .i64 c]] w (RetML w (putB [] (spK a b c 15))):=by
 have hf:=class_form h
 obtain ⟨ha,hb,hc⟩:=form_true hf
 have hd0:=class_disc h
 rw[hd] at hd0
 have HD:=hide hd
 have HF:=hide hf
 have HCT:Hid (contI a b c=1):=hide (by unfold classB at h;simp at h;exact h.2)
 have HQa:Hid (IntKind.i64.wrap (a.tdiv 1)=a):=hide (by rw[Int.tdiv_one];exact int_in (by omega))
 have HQb:Hid (IntKind.i64.wrap (b.tdiv 1)=b):=hide (by rw[Int.tdiv_one];exact int_in (by omega))
 have HQc:Hid (IntKind.i64.wrap (c.tdiv 1)=c):=hide (by rw[Int.tdiv_one];exact int_in (by omega))
 clear h hd hf
 go_enter Tryz.func55,Tryz.ntmps55
 go_wp2_with fail
 refine (content_y a b c _ (unhide HF) (unhide HCT)).mono ?_
 rintro en w1 ⟨rfl,hb1⟩
 have hcs9:=cells_calls hb1 [⟨w.heap.size,0,none⟩,⟨w.heap.size,1,none⟩,⟨w.heap.size,2,none⟩] [.int .i64 a,.int .i64 b,.int .i64 c] (by refine ⟨?_,?_,?_,trivial⟩<;>exact byCT)
 have hfs9:=frees_calls hb1 [⟨w.heap.size,0,none⟩,⟨w.heap.size,1,none⟩,⟨w.heap.size,2,none⟩] (by refine ⟨?_,?_,?_,trivial⟩<;>first|with_reducible assumption|omega|(simp;omega)|(simp;done)) (by refine ⟨?_,?_,?_,trivial⟩<;>exact byFT)
 have hzs9:=blocks_calls hb1 [w.heap.size] (by refine ⟨?_,trivial⟩<;>first|with_reducible assumption|omega|(simp;omega)|(simp;done))
 try clear c00 c01 c02 f00 f01 f02
 obtain ⟨c00,c01,c02,-⟩:=hcs9
 obtain ⟨f00,f01,f02,-⟩:=hfs9
 obtain ⟨z0,-⟩:=hzs9
 have hs1:=hb1.size
 go_upto_region 2 with fail
 go_cut [] (fun  wx=>wx.cell? ⟨w.heap.size,0,none⟩=some (.int .i64 a)∧wx.frozen? ⟨w.heap.size,0,none⟩=false∧wx.cell? ⟨w.heap.size,1,none⟩=some (.int .i64 b)∧wx.frozen? ⟨w.heap.size,1,none⟩=false∧wx.cell? ⟨w.heap.size,2,none⟩=some (.int .i64 c)∧wx.frozen? ⟨w.heap.size,2,none⟩=false∧Below w.heap.size w wx)
 case first=>
  have h1:=trivial
  rename_i K2 h2 h3
  refine region_n3 (by kernel_rfl) (fun j=> #[12,13,14,15,16,17,18,19,20,21,22,23,24,1].getD j 0) (fun j=>Kd.ok ((fun j=>match j with|0=>Kd.val (.pointer (some ⟨w.heap.size,0,none⟩))|1=>Kd.val (.int .i64 a)|2=>Kd.val (.int .i64 1)|3=>Kd.val (.int .i64 a)|4=>Kd.val (.pointer (some ⟨w.heap.size,1,none⟩))|5=>Kd.val (.int .i64 b)|6=>Kd.val (.int .i64 1)|7=>Kd.val (.int .i64 b)|8=>Kd.val (.pointer (some ⟨w.heap.size,2,none⟩))|9=>Kd.val (.int .i64 c)|10=>Kd.val (.int .i64 1)|11=>Kd.val (.int .i64 c)|12=>Kd.val (.agg #[.int .i64 a,.int .i64 b,.int .i64 c])|13=>Kd.old (w1.heap.size) [(⟨w.heap.size,0,none⟩,.int .i64 a),(⟨w.heap.size,1,none⟩,.int .i64 b),(⟨w.heap.size,2,none⟩,.int .i64 c)]|_=>Kd.any:Nat→Kd) j)) (Sy w (w1.heap.size) [] [⟨w.heap.size,0,none⟩,⟨w.heap.size,1,none⟩,⟨w.heap.size,2,none⟩]) (fun j wq9=>Kd.ok ((fun j=>match j with|0=>Kd.any|1=>Kd.any|2=>Kd.any|3=>Kd.any|4=>Kd.any|5=>Kd.any|6=>Kd.any|7=>Kd.any|8=>Kd.any|9=>Kd.any|10=>Kd.any|11=>Kd.any|12=>Kd.any|13=>Kd.old (w1.heap.size) [(⟨w.heap.size,0,none⟩,.int .i64 a),(⟨w.heap.size,1,none⟩,.int .i64 b),(⟨w.heap.size,2,none⟩,.int .i64 c)]|_=>Kd.any:Nat→Kd) j) wq9 undef) (fun _=>true) (by kernel_rfl) ?_ (hrun_none (by kernel_rfl)) (fun i o ho h=>by cases h) ?_ ?_ ?_ ?_
  ·intro j hj
   have hj2:j<14:=hj
   have: ∀j,j<14→(#[12,13,14,15,16,17,18,19,20,21,22,23,24,1]:Array Nat).getD j 0<101:=by decide
   exact this j hj2
  ·refine Sy.drew (Sy.mk_of ?_ ?_ ?_ ?_)
   ·first|rfl|(simp;done)|(simp;omega)
   ·intro c hc;cases hc
   ·intro p hp
    simp only[List.mem_cons,List.not_mem_nil,or_false] at hp
    rcases hp with rfl|rfl|rfl<;>exact ⟨by first|((repeat' with_reducible (first|refine ex_set _ ?_|refine ex_al _ ?_|exact ⟨_,by assumption⟩));done)|first|exact ⟨_,by assumption⟩|assumption|(go_simp;done)|(go_simp;exact ⟨_,rfl⟩),by first|((repeat' first|with_reducible (first|assumption|refine frz_al _ ?_ ?_|refine frz_set _ ?_)|omega|(simp;omega));done)|assumption|(go_simp;done)⟩
   ·(repeat' first|with_reducible (first|exact Below.refl _ _|assumption|refine gr_alloc ?_ _|refine below_drewN ?_ _|refine below_drew ?_|refine gr_call ?_ (by assumption)|refine Below.setCell ?_ ?_ _)|go_size|omega|(simp;omega))
  ·intro j hj
   match j,hj with
   |0,_=>trivial
   |1,_=>trivial
   |2,_=>trivial
   |3,_=>trivial
   |4,_=>trivial
   |5,_=>trivial
   |6,_=>trivial
   |7,_=>trivial
   |8,_=>trivial
   |9,_=>trivial
   |10,_=>trivial
   |11,_=>trivial
   |12,_=>trivial
   |13,_=>
    intro c hc
    simp only[List.mem_cons,List.not_mem_nil,or_false] at hc
    rcases hc with rfl|rfl|rfl<;>exact ⟨byCT,(by first|omega|(simp;omega)|(simp;done))⟩
   |j+14,hj=>exact absurd (show j+14<14 from hj) (by omega)
  ·clear h1 h2 h3
   refine ⟨?r10x0,?r10x1,?r10x2,?r10x3,?r10x4,?r10x5,?r10x6,?r10x7,?r10x8,?r10x9,?r10x10,?r10x11,?r10x12,?r10x13,trivial⟩
   all_goals intro _ aq wx Kq hf hS hdep ev1 ev2 _ hpr hK
   case' r10x0=>
    have F1:aq.eval (.tmp 1)= .pointer (some ⟨w.heap.size,0,none⟩):=hf 1
   case' r10x1=>
    have D0:aq.eval (.tmp 12)=_:=hdep 0
    have c0:=(hpr 13 (by decide +kernel) (⟨w.heap.size,0,none⟩,.int .i64 a) (by simp)).1
   case' r10x2=>
    have F3:aq.eval (.tmp 3)= .int .i64 1:=hf 3
   case' r10x3=>
    have D1:aq.eval (.tmp 13)=_:=hdep 1
    have D2:aq.eval (.tmp 14)=_:=hdep 2
   case' r10x4=>
    have F1:aq.eval (.tmp 1)= .pointer (some ⟨w.heap.size,0,none⟩):=hf 1
   case' r10x5=>
    have D4:aq.eval (.tmp 16)=_:=hdep 4
    have c0:=(hpr 13 (by decide +kernel) (⟨w.heap.size,1,none⟩,.int .i64 b) (by simp)).1
   case' r10x6=>
    have F3:aq.eval (.tmp 3)= .int .i64 1:=hf 3
   case' r10x7=>
    have D5:aq.eval (.tmp 17)=_:=hdep 5
    have D6:aq.eval (.tmp 18)=_:=hdep 6
   case' r10x8=>
    have F1:aq.eval (.tmp 1)= .pointer (some ⟨w.heap.size,0,none⟩):=hf 1
   case' r10x9=>
    have D8:aq.eval (.tmp 20)=_:=hdep 8
    have c0:=(hpr 13 (by decide +kernel) (⟨w.heap.size,2,none⟩,.int .i64 c) (by simp)).1
   case' r10x10=>
    have F3:aq.eval (.tmp 3)= .int .i64 1:=hf 3
   case' r10x11=>
    have D9:aq.eval (.tmp 21)=_:=hdep 9
    have D10:aq.eval (.tmp 22)=_:=hdep 10
   case' r10x12=>
    have D3:aq.eval (.tmp 15)=_:=hdep 3
    have D7:aq.eval (.tmp 19)=_:=hdep 7
    have D11:aq.eval (.tmp 23)=_:=hdep 11
   case' r10x13=>
    have D12:aq.eval (.tmp 24)=_:=hdep 12
    have F1:aq.eval (.tmp 1)= .pointer (some ⟨w.heap.size,0,none⟩):=hf 1
    obtain ⟨⟨vx0,cx0⟩,cf0⟩:=hS.free ⟨w.heap.size,0,none⟩ (by simp)
    obtain ⟨⟨vx1,cx1⟩,cf1⟩:=hS.free ⟨w.heap.size,1,none⟩ (by simp)
    obtain ⟨⟨vx2,cx2⟩,cf2⟩:=hS.free ⟨w.heap.size,2,none⟩ (by simp)
   all_goals (clear hf hdep hpr;unfold Oper.wp;generalize Act.eval _=ev at *;go_simp)
   case' r10x3=>
    try rw[if_neg (by omega),Oper.upon_value]
   case' r10x7=>
    try rw[if_neg (by omega),Oper.upon_value]
   case' r10x11=>
    try rw[if_neg (by omega),Oper.upon_value]
   case r10x13=>
    refine hK undef (setAll w.heap.size 0 [.int .i64 a,.int .i64 b,.int .i64 c] wx) (Sy.setAll (by first|omega|(simp;omega)|(simp;done)) (fa0) hS) ?_ (fun j u hj h=> ?_) (fun j hj h=> ?_)
    ·rw [if_neg (by decide)]
     exact fa ⟨setAll_at w.heap.size [.int .i64 a,.int .i64 b,.int .i64 c] 0 wx 0 (show 0<3 by decide) ⟨vx0,cx0⟩,(by first|omega|(simp;omega)|(simp;done))⟩ (fa ⟨setAll_at w.heap.size [.int .i64 a,.int .i64 b,.int .i64 c] 0 wx 1 (show 1<3 by decide) ⟨vx1,cx1⟩,(by first|omega|(simp;omega)|(simp;done))⟩ (fa ⟨setAll_at w.heap.size [.int .i64 a,.int .i64 b,.int .i64 c] 0 wx 2 (show 2<3 by decide) ⟨vx2,cx2⟩,(by first|omega|(simp;omega)|(simp;done))⟩ (fa0)))
    ·match j,hj with
     |0,hj=>exact (show (u:Value)=_ from h)
     |1,hj=>exact (show (u:Value)=_ from h)
     |2,hj=>exact (show (u:Value)=_ from h)
     |3,hj=>exact (show (u:Value)=_ from h)
     |4,hj=>exact (show (u:Value)=_ from h)
     |5,hj=>exact (show (u:Value)=_ from h)
     |6,hj=>exact (show (u:Value)=_ from h)
     |7,hj=>exact (show (u:Value)=_ from h)
     |8,hj=>exact (show (u:Value)=_ from h)
     |9,hj=>exact (show (u:Value)=_ from h)
     |10,hj=>exact (show (u:Value)=_ from h)
     |11,hj=>exact (show (u:Value)=_ from h)
     |12,hj=>exact (show (u:Value)=_ from h)
     |13,hj=>exact absurd rfl hj
     |j+14,_=>trivial
    ·match j,hj with
     |0,hj=>trivial
     |1,hj=>trivial
     |2,hj=>trivial
     |3,hj=>trivial
     |4,hj=>trivial
     |5,hj=>trivial
     |6,hj=>trivial
     |7,hj=>trivial
     |8,hj=>trivial
     |9,hj=>trivial
     |10,hj=>trivial
     |11,hj=>trivial
     |12,hj=>trivial
     |13,hj=>exact absurd rfl hj
     |j+14,_=>exact h
   all_goals (refine hK _ _ hS ?_ (fun j u _ h=>h) (fun j _ h=>h);rw [if_pos (by rfl)];show (_:Value)=_;(first|rfl|(refine congrArg (Value.int .i64) ?_;first|rfl|exact int_in (by omega)|exact quo_in (by omega) (by omega) (by omega)|exact rem_in (by omega) (by omega)|omega|exact unhide HQa|exact unhide HQb|exact unhide HQc)|(simp;done)|(simp [*];done)))
  ·intro aq wx hd hw hf hS hg
   have haq:aq=⟨#[tau aq 0,tau aq 1,tau aq 2,tau aq 3,tau aq 4,tau aq 5,tau aq 6,tau aq 7,tau aq 8,tau aq 9,tau aq 10,tau aq 11,tau aq 12,tau aq 13,tau aq 14,tau aq 15,tau aq 16,tau aq 17,tau aq 18,tau aq 19,tau aq 20,tau aq 21,tau aq 22,tau aq 23,tau aq 24,tau aq 25,tau aq 26,tau aq 27,tau aq 28,tau aq 29,tau aq 30,tau aq 31,tau aq 32,tau aq 33,tau aq 34,tau aq 35,tau aq 36,tau aq 37,tau aq 38,tau aq 39,tau aq 40,tau aq 41,tau aq 42,tau aq 43,tau aq 44,tau aq 45,tau aq 46,tau aq 47,tau aq 48,tau aq 49,tau aq 50,tau aq 51,tau aq 52,tau aq 53,tau aq 54,tau aq 55,tau aq 56,tau aq 57,tau aq 58,tau aq 59,tau aq 60,tau aq 61,tau aq 62,tau aq 63,tau aq 64,tau aq 65,tau aq 66,tau aq 67,tau aq 68,tau aq 69,tau aq 70,tau aq 71,tau aq 72,tau aq 73,tau aq 74,tau aq 75,tau aq 76,tau aq 77,tau aq 78,tau aq 79,tau aq 80,tau aq 81,tau aq 82,tau aq 83,tau aq 84,tau aq 85,tau aq 86,tau aq 87,tau aq 88,tau aq 89,tau aq 90,tau aq 91,tau aq 92,tau aq 93,tau aq 94,tau aq 95,tau aq 96,tau aq 97,tau aq 98,tau aq 99,tau aq 100],[]⟩:=by
    obtain ⟨tq,dq⟩:=aq
    have h5:=arr_eq (show tq.size=101 from hw)
    have h6:dq= []:=hd
    subst h6
    exact congrArg (fun z=>Act.mk z []) h5
   show K2 aq wx
   rw[haq,hf 0,hf 1,hf 2,hf 3,hf 4,hf 5,hf 6,hf 7,hf 8,hf 9,hf 10,hf 11,hf 25,hf 26,hf 27,hf 28,hf 29,hf 30,hf 31,hf 32,hf 33,hf 34,hf 35,hf 36,hf 37,hf 38,hf 39,hf 40,hf 41,hf 42,hf 43,hf 44,hf 45,hf 46,hf 47,hf 48,hf 49,hf 50,hf 51,hf 52,hf 53,hf 54,hf 55,hf 56,hf 57,hf 58,hf 59,hf 60,hf 61,hf 62,hf 63,hf 64,hf 65,hf 66,hf 67,hf 68,hf 69,hf 70,hf 71,hf 72,hf 73,hf 74,hf 75,hf 76,hf 77,hf 78,hf 79,hf 80,hf 81,hf 82,hf 83,hf 84,hf 85,hf 86,hf 87,hf 88,hf 89,hf 90,hf 91,hf 92,hf 93,hf 94,hf 95,hf 96,hf 97,hf 98,hf 99,hf 100]
   clear haq hf hd hw
   try dsimp only
   refine h3 _ _ ?_
   go_meet
   exact ⟨(hg 13 (by decide) (⟨w.heap.size,0,none⟩,.int .i64 a) (by simp)).1,(hS.free ⟨w.heap.size,0,none⟩ (by simp)).2,(hg 13 (by decide) (⟨w.heap.size,1,none⟩,.int .i64 b) (by simp)).1,(hS.free ⟨w.heap.size,1,none⟩ (by simp)).2,(hg 13 (by decide) (⟨w.heap.size,2,none⟩,.int .i64 c) (by simp)).1,(hS.free ⟨w.heap.size,2,none⟩ (by simp)).2,hS.below⟩
 try clear c00
 try clear c01
 try clear c02
 try clear f00
 try clear f01
 try clear f02
 obtain ⟨c00,f00,c01,f01,c02,f02,hb0⟩:=hcut
 have z0:=World.block_lt_of_cell? _ _ c00
 change w.heap.size<wc.heap.size at z0
 go_wp2_with fail
 refine (disc_y a b c d _ (unhide HF) (unhide HD)).mono ?_
 rintro en w2 ⟨rfl,hb2⟩
 have hcs9:=cells_calls hb2 [⟨w.heap.size,0,none⟩,⟨w.heap.size,1,none⟩,⟨w.heap.size,2,none⟩] [.int .i64 a,.int .i64 b,.int .i64 c] (by refine ⟨?_,?_,?_,trivial⟩<;>exact byCT)
 have hfs9:=frees_calls hb2 [⟨w.heap.size,0,none⟩,⟨w.heap.size,1,none⟩,⟨w.heap.size,2,none⟩] (by refine ⟨?_,?_,?_,trivial⟩<;>first|with_reducible assumption|omega|(simp;omega)|(simp;done)) (by refine ⟨?_,?_,?_,trivial⟩<;>exact byFT)
 have hzs9:=blocks_calls hb2 [w.heap.size] (by refine ⟨?_,trivial⟩<;>first|with_reducible assumption|omega|(simp;omega)|(simp;done))
 try clear c00 c01 c02 f00 f01 f02
 obtain ⟨c00,c01,c02,-⟩:=hcs9
 obtain ⟨f00,f01,f02,-⟩:=hfs9
 obtain ⟨z0,-⟩:=hzs9
 have hs2:=hb2.size
 have HB0:Below w.heap.size w w2:=byGG
 go_wp2
 have HST:Hid (SpRel w w2 a b c 0 (.slice none 0 0)):=hide ⟨0,none,0,[],rfl,ML.nil _ _,hide rfl,hide rfl,Nat.le_refl _,HB0,c00,c01,c02⟩
 clear HB0 c00 c01 c02 hb1 hb2 hb0
 go_loopw [5,6] (fun ls is wr=> ∃i:Nat,∃t:Int,i≤5∧t≤(i:Int)-2∧(i:Int)-2≤t∧is= .int .i64 t∧SpRel w wr a b c (i*3) ls) (fun _ is _=>(3-intOf is).toNat)
 case atStart=>exact ⟨0,-2,by omega,by omega,by omega,rfl,unhide HST⟩
 case round=>
  clear HST
  obtain ⟨i,t,hi,ht1,ht2,rfl,hR⟩:=hrel
  by_cases qi:i<5
  ·have qt:t≤2:=by omega
   have hR0:Hid (SpRel w wr a b c (i*3+0) _):=hide hR
   clear hR
   go_wp2
   go_loopw [5,7] (fun ls us wv=> ∃j:Nat,∃u:Int,j≤3∧u≤(j:Int)-1∧(j:Int)-1≤u∧us= .int .i64 u∧SpRel w wv a b c (i*3+j) ls) (fun _ us _=>(2-intOf us).toNat)
   case atStart=>exact ⟨0,-1,by omega,by omega,by omega,rfl,unhide hR0⟩
   case round=>
    clear hR0
    obtain ⟨j,u,hj,hu1,hu2,rfl,hR⟩:=hrel
    by_cases qj:j<3
    ·have qu:u≤1:=by omega
     have htt:0≤t*t∧t*t≤4:=by rcases (show t= -2∨t= -1∨t=0∨t=1∨t=2 by omega) with rfl|rfl|rfl|rfl|rfl<;>decide
     have hdu: -2000≤d*u∧d*u≤2000:=by rcases (show u= -1∨u=0∨u=1 by omega) with rfl|rfl|rfl<;>simp<;>omega
     have hduu: -2000≤d*u*u∧d*u*u≤2000:=by rcases (show u= -1∨u=0∨u=1 by omega) with rfl|rfl|rfl<;>simp<;>omega
     have hcT:candT (i*3+j)=t:=by unfold candT;omega
     have hcU:candU (i*3+j)=u:=by unfold candU;omega
     by_cases q4:t*t-d*u*u=4
     ·skip
      obtain ⟨wl,rfl⟩: ∃wl:World,wl=wr:=⟨_,rfl⟩
      obtain ⟨n,av,cv,L,rfl,hl,hL,hn,hnm,hb,c0,c1,c2⟩:=hR
      have hzl:=hb.size
      have hbu: -1000000≤b*u∧b*u≤1000000:=by rcases (show u= -1∨u=0∨u=1 by omega) with rfl|rfl|rfl<;>simp<;>omega
      have hcu: -1000000≤c*u∧c*u≤1000000:=by rcases (show u= -1∨u=0∨u=1 by omega) with rfl|rfl|rfl<;>simp<;>omega
      have hau: -1000000≤a*u∧a*u≤1000000:=by rcases (show u= -1∨u=0∨u=1 by omega) with rfl|rfl|rfl<;>simp<;>omega
      obtain ⟨hpar,hsum,-,-,-,-⟩:=cand_ok (unhide HF) (t:=t) (u:=u) (by omega) (by omega) (by rw[unhide HD];exact q4)
      obtain ⟨m0,e0⟩: ∃m0,(t-b*u) / 2=m0:=⟨_,rfl⟩
      obtain ⟨m1,e1⟩: ∃m1,-(c*u)=m1:=⟨_,rfl⟩
      obtain ⟨m2,e2⟩: ∃m2,a*u=m2:=⟨_,rfl⟩
      obtain ⟨m3,e3⟩: ∃m3,m0+b*u=m3:=⟨_,rfl⟩
      have HSPK:Hid (spK a b c (i*3+j+1)=spK a b c (i*3+j)++ [(m0,m1,m2,m3)]):=hide (by
       rw[spK,hcT,hcU,unhide HD,if_pos q4]
       unfold candM aM
       rw[hcT,hcU,e0,e1,e2,e3])
      have hT0:(t-b*u).tdiv 2=m0:=by rw[←e0];exact Int.tdiv_eq_ediv_of_dvd (Int.dvd_of_emod_eq_zero hpar)
      have hT3:(t+b*u).tdiv 2=m3:=by rw[←e3,←e0,←hsum];exact Int.tdiv_eq_ediv_of_dvd (Int.dvd_of_emod_eq_zero (by omega))
      have hm0: -1000000≤m0∧m0≤1000010:=by omega
      have hm3: -1000010≤m3∧m3≤1000010:=by omega
      have q4n:(t*t-d*u*u != 4)=false:=by simpa using q4
      have e1n: -c*u=m1:=by rw[Int.neg_mul];exact e1
      have hm1: -1000000≤m1∧m1≤1000000:=by omega
      clear hpar hsum hcT hcU q4 e0 e3 e1
      have HL:=hide hl
      have HN:=hide hn
      have HN':=hn
      have hlt0:=hl.lt
      have HBB:=hide hb
      have hi100:n≤100000000:=by omega
      clear hl hn
      go_wp2_with (at_builtin;refine app_MLn _ rfl (.tmp 71) (.tmp 73) rfl (w.heap.size+1) n (.slice av n cv) L m0 m1 m2 m3 (wl.heap.size+1) rfl rfl (((unhide HL).alloc _).alloc _) (unhide (unhide HN)) byCT byCT byCT byCT hi100 (by simp;omega) ?_;intro g6 c6 w6 hown hgrow hat hlt6)
      have hav: ∀k,(Value.slice av n cv).ownBlock=some k→w.heap.size+1≤k∧k<wl.heap.size:=hlt0
      have hg6:w.heap.size+1≤g6∧ ¬wl.heap.size=g6:=by
       rcases hat with e|e
       ·have:=hav _ e;omega
       ·simp at e;omega
      have HSH:Hid (ShRel w w6 a b c L (m0,m1,m2,m3) n g6 c6 wl.heap.size n (m0,m1,m2,m3)):=hide (by
       refine ⟨?_,unhide HN',hg6.2,hg6.1,cell_farR hgrow byCT (fun k hk=>by have:=hav k hk;omega),cell_farR hgrow byCT (fun k hk=>by have:=hav k hk;omega),cell_farR hgrow byCT (fun k hk=>by have:=hav k hk;omega),cell_farR hgrow byCT (fun k hk=>by have:=hav k hk;omega),cell_farR hgrow byCT (fun k hk=>by have:=hav k hk;omega),cell_farR hgrow byCT (fun k hk=>by have:=hav k hk;omega),cell_farR hgrow byCT (fun k hk=>by have:=hav k hk;omega),Below.grown (((unhide HBB).alloc hzl _).alloc (by simp;omega) _) hgrow (by simp;omega) (fun k hk=>by have:=hav k hk;omega)⟩
       rw[List.take_of_length_le (by rw[unhide HN'];omega),List.drop_eq_nil_of_le (by rw[unhide HN'];omega)]
       exact hown)
      clear hown hgrow hat hav hlt0 c0 c1 c2
      go_loopw [9] (fun ats wq=> ∃k:Nat,∃x:M4,k≤n∧ats= .int .i64 (k:Int)∧Hid (atB (m0,m1,m2,m3) L n=atB (m0,m1,m2,m3) L k)∧ShRel w wq a b c L (m0,m1,m2,m3) n g6 c6 wl.heap.size k x) (fun ats _=>(intOf ats).toNat)
      case atStart=>exact ⟨n,_,Nat.le_refl _,rfl,hide rfl,unhide HSH⟩
      case round=>
       clear HSH
       obtain ⟨k,x,hk9,rfl,hat9,hsh⟩:=hrel
       obtain ⟨wm,rfl⟩: ∃wm:World,wm=wr:=⟨_,rfl⟩
       have q0:=hsh.m0
       have q1:=hsh.m1
       have q2:=hsh.m2
       have q3:=hsh.m3
       by_cases hk0:k=0
       ·have HAT:Hid (atB (m0,m1,m2,m3) L n=k):=hide (by rw[unhide hat9,hk0];rfl)
        have hkz: ¬0<(k:Int):=by omega
        have HSH:=hide hsh
        clear hat9 hk0 hsh
        go_upto_region 15 with fail
        go_cut [85] (fun s85 wx=>s85= .bool false∧wx.cell? ⟨wl.heap.size,0,none⟩=some (.int .i64 m0)∧wx.cell? ⟨wl.heap.size,1,none⟩=some (.int .i64 m1)∧wx.cell? ⟨wl.heap.size,2,none⟩=some (.int .i64 m2)∧wx.cell? ⟨wl.heap.size,3,none⟩=some (.int .i64 m3)∧Below wm.heap.size wm wx)
        case first=>
         have h1:=trivial
         rename_i K2 h2 h3
         refine region_n (by kernel_rfl) (fun j=> #[75,76,77,78,79,80,81,82,83,84,85].getD j 0) (fun j=>Kd.ok ((fun j=>match j with|0=>Kd.val (.int .i64 ((k:Int)))|1=>Kd.val (.bool false)|2=>Kd.val (.bool false)|3=>Kd.val undef|4=>Kd.val undef|5=>Kd.val undef|6=>Kd.val undef|7=>Kd.val undef|8=>Kd.val undef|9=>Kd.val undef|10=>Kd.val (.bool false)|_=>Kd.any:Nat→Kd) j)) (Sy wm (wm.heap.size) [(⟨wl.heap.size,0,none⟩,.int .i64 m0),(⟨wl.heap.size,1,none⟩,.int .i64 m1),(⟨wl.heap.size,2,none⟩,.int .i64 m2),(⟨wl.heap.size,3,none⟩,.int .i64 m3)] []) (fun j=> #[true,true,true,false,false,false,false,false,false,false,true].getD j true) (by kernel_rfl) ?_ ?_ ?_ ?_ ?_ ?_
         ·intro j hj
          have hj2:j<11:=hj
          have: ∀j,j<11→(#[75,76,77,78,79,80,81,82,83,84,85]:Array Nat).getD j 0<101:=by decide
          exact this j hj2
         ·intro i o ho
          match i,ho with
          |0,ho=>cases ho;intro aq wq hd;exact wanted_free rfl
          |1,ho=>cases ho;intro aq wq hd;exact wanted_free rfl
          |2,ho=>cases ho;intro aq wq hd;exact wanted_free rfl
          |3,ho=>cases ho;intro aq wq hd;exact wanted_of (j:=2) (t:=77) (want:=true) (b:=false) rfl rfl (hd 2 (by decide +kernel))
          |4,ho=>cases ho;intro aq wq hd;exact wanted_of (j:=2) (t:=77) (want:=true) (b:=false) rfl rfl (hd 2 (by decide +kernel))
          |5,ho=>cases ho;intro aq wq hd;exact wanted_of (j:=2) (t:=77) (want:=true) (b:=false) rfl rfl (hd 2 (by decide +kernel))
          |6,ho=>cases ho;intro aq wq hd;exact wanted_of (j:=2) (t:=77) (want:=true) (b:=false) rfl rfl (hd 2 (by decide +kernel))
          |7,ho=>cases ho;intro aq wq hd;exact wanted_of (j:=2) (t:=77) (want:=true) (b:=false) rfl rfl (hd 2 (by decide +kernel))
          |8,ho=>cases ho;intro aq wq hd;exact wanted_of (j:=2) (t:=77) (want:=true) (b:=false) rfl rfl (hd 2 (by decide +kernel))
          |9,ho=>cases ho;intro aq wq hd;exact wanted_of (j:=2) (t:=77) (want:=true) (b:=false) rfl rfl (hd 2 (by decide +kernel))
          |10,ho=>cases ho;intro aq wq hd;exact wanted_free rfl
          |i+11,ho=>exact absurd ho (by simp)
         ·intro i o ho hr
          match i,ho with
          |0,ho=>exact absurd hr (by decide)
          |1,ho=>exact absurd hr (by decide)
          |2,ho=>exact absurd hr (by decide)
          |3,ho=>cases ho;exact ⟨rfl,fun _ _=>rfl⟩
          |4,ho=>cases ho;exact ⟨rfl,fun _ _=>rfl⟩
          |5,ho=>cases ho;exact ⟨rfl,fun _ _=>rfl⟩
          |6,ho=>cases ho;exact ⟨rfl,fun _ _=>rfl⟩
          |7,ho=>cases ho;exact ⟨rfl,fun _ _=>rfl⟩
          |8,ho=>cases ho;exact ⟨rfl,fun _ _=>rfl⟩
          |9,ho=>cases ho;exact ⟨rfl,fun _ _=>rfl⟩
          |10,ho=>exact absurd hr (by decide)
          |i+11,ho=>exact absurd ho (by simp)
         ·refine Sy.drew (Sy.mk_of ?_ ?_ ?_ ?_)
          ·first|rfl|(simp;done)|(simp;omega)
          ·intro c hc
           simp only[List.mem_cons,List.not_mem_nil,or_false] at hc
           rcases hc with rfl|rfl|rfl|rfl<;>exact byCT
          ·intro p hp;cases hp
          ·(repeat' first|with_reducible (first|exact Below.refl _ _|assumption|refine gr_alloc ?_ _|refine below_drewN ?_ _|refine below_drew ?_|refine gr_call ?_ (by assumption)|refine Below.setCell ?_ ?_ _)|go_size|omega|(simp;omega))
         ·clear h1 h2 h3
          refine ⟨?r11x0,?r11x1,?r11x2,?r11x3,?r11x4,?r11x5,?r11x6,?r11x7,?r11x8,?r11x9,?r11x10,trivial⟩
          case r11x3=>intro hr;exact absurd hr (by decide)
          case r11x4=>intro hr;exact absurd hr (by decide)
          case r11x5=>intro hr;exact absurd hr (by decide)
          case r11x6=>intro hr;exact absurd hr (by decide)
          case r11x7=>intro hr;exact absurd hr (by decide)
          case r11x8=>intro hr;exact absurd hr (by decide)
          case r11x9=>intro hr;exact absurd hr (by decide)
          all_goals intro _ aq wx Kq hf hS hdep ev1 ev2 hK
          case' r11x0=>
           have F9:aq.eval (.tmp 9)= .int .i64 ((k:Int)):=hf 9
          case' r11x1=>
           have D0:aq.eval (.tmp 75)=_:=hdep 0
          case' r11x2=>
           have D1:aq.eval (.tmp 76)=_:=hdep 1
          case' r11x10=>
           have D2:aq.eval (.tmp 77)=_:=hdep 2
           have D9:aq.eval (.tmp 84)=_:=hdep 9
          all_goals (clear hf hdep;unfold Oper.wp;generalize Act.eval _=ev at *;go_simp)
          all_goals (refine hK _ _ hS ?_ (fun j u _ h=>h);rw [if_pos (by rfl)];show (_:Value)=_;(first|rfl|(refine congrArg (Value.int .i64) ?_;first|rfl|exact int_in (by omega)|exact quo_in (by omega) (by omega) (by omega)|exact rem_in (by omega) (by omega)|omega|exact unhide HKW|exact (IntWalk.i64_in _ (by omega)).trans (unhide HKW)|(simp [*];done)|(simp;omega))|(simp;done)|(simp [*];done)|(simp;omega)))
         ·intro aq wx hd hw hf hS hg
          have G85:tau aq 85= .bool false:=hg 10 (by decide)
          have haq:aq=⟨#[tau aq 0,tau aq 1,tau aq 2,tau aq 3,tau aq 4,tau aq 5,tau aq 6,tau aq 7,tau aq 8,tau aq 9,tau aq 10,tau aq 11,tau aq 12,tau aq 13,tau aq 14,tau aq 15,tau aq 16,tau aq 17,tau aq 18,tau aq 19,tau aq 20,tau aq 21,tau aq 22,tau aq 23,tau aq 24,tau aq 25,tau aq 26,tau aq 27,tau aq 28,tau aq 29,tau aq 30,tau aq 31,tau aq 32,tau aq 33,tau aq 34,tau aq 35,tau aq 36,tau aq 37,tau aq 38,tau aq 39,tau aq 40,tau aq 41,tau aq 42,tau aq 43,tau aq 44,tau aq 45,tau aq 46,tau aq 47,tau aq 48,tau aq 49,tau aq 50,tau aq 51,tau aq 52,tau aq 53,tau aq 54,tau aq 55,tau aq 56,tau aq 57,tau aq 58,tau aq 59,tau aq 60,tau aq 61,tau aq 62,tau aq 63,tau aq 64,tau aq 65,tau aq 66,tau aq 67,tau aq 68,tau aq 69,tau aq 70,tau aq 71,tau aq 72,tau aq 73,tau aq 74,tau aq 75,tau aq 76,tau aq 77,tau aq 78,tau aq 79,tau aq 80,tau aq 81,tau aq 82,tau aq 83,tau aq 84,tau aq 85,tau aq 86,tau aq 87,tau aq 88,tau aq 89,tau aq 90,tau aq 91,tau aq 92,tau aq 93,tau aq 94,tau aq 95,tau aq 96,tau aq 97,tau aq 98,tau aq 99,tau aq 100],[]⟩:=by
           obtain ⟨tq,dq⟩:=aq
           have h5:=arr_eq (show tq.size=101 from hw)
           have h6:dq= []:=hd
           subst h6
           exact congrArg (fun z=>Act.mk z []) h5
          show K2 aq wx
          rw[haq,hf 0,hf 1,hf 2,hf 3,hf 4,hf 5,hf 6,hf 7,hf 8,hf 9,hf 10,hf 11,hf 12,hf 13,hf 14,hf 15,hf 16,hf 17,hf 18,hf 19,hf 20,hf 21,hf 22,hf 23,hf 24,hf 25,hf 26,hf 27,hf 28,hf 29,hf 30,hf 31,hf 32,hf 33,hf 34,hf 35,hf 36,hf 37,hf 38,hf 39,hf 40,hf 41,hf 42,hf 43,hf 44,hf 45,hf 46,hf 47,hf 48,hf 49,hf 50,hf 51,hf 52,hf 53,hf 54,hf 55,hf 56,hf 57,hf 58,hf 59,hf 60,hf 61,hf 62,hf 63,hf 64,hf 65,hf 66,hf 67,hf 68,hf 69,hf 70,hf 71,hf 72,hf 73,hf 74,hf 86,hf 87,hf 88,hf 89,hf 90,hf 91,hf 92,hf 93,hf 94,hf 95,hf 96,hf 97,hf 98,hf 99,hf 100,G85]
          clear haq hf hd hw
          try dsimp only
          refine h3 _ _ ?_
          go_meet
          exact ⟨rfl,hS.cells (⟨wl.heap.size,0,none⟩,.int .i64 m0) (by simp),hS.cells (⟨wl.heap.size,1,none⟩,.int .i64 m1) (by simp),hS.cells (⟨wl.heap.size,2,none⟩,.int .i64 m2) (by simp),hS.cells (⟨wl.heap.size,3,none⟩,.int .i64 m3) (by simp),hS.below⟩
        try clear c00
        try clear c01
        try clear c02
        try clear c03
        obtain ⟨rfl,c00,c01,c02,c03,hb0⟩:=hcut
        have z0:=World.block_lt_of_cell? _ _ c00
        change wl.heap.size<wc.heap.size at z0
        have hsc:=(unhide HSH).below hb0
        have hkl:k<(L.take k++x :: L.drop k).length:=by rw[List.length_append,List.length_cons,List.length_take,List.length_drop,hsc.len];omega
        obtain ⟨t0,t1,t2,t3⟩:=hsc.ml.cells hkl
        have fz:=hsc.ml.frozen
        have y0:=fz (k*4)
        have y1:=fz (k*4+1)
        have y2:=fz (k*4+2)
        have y3:=fz (k*4+3)
        have q0:=hsc.m0
        have q1:=hsc.m1
        have q2:=hsc.m2
        have q3:=hsc.m3
        have HSC:=hide hsc
        clear hsc fz hkl
        have hki3:(k:Int)≤n:=by omega
        have hki4:k<n+1:=by omega
        have hki5:(k:Int)<(n:Int)+1:=by omega
        go_wp2
        go_roundw
        case rel=>exact ⟨j+1,u+1,by omega,by omega,by omega,by first|rfl|go_num,((unhide HSC).set hk9 m0 m1 m2 m3).fin (unhide HAT) (unhide hL) (unhide HSPK) hnm⟩
        case measure=>simp [intOf];omega
       ·obtain ⟨kq,hkq1,hkq2⟩: ∃kq,k≤kq+1∧kq+1≤k:=⟨k-1,by omega,by omega⟩
        have hkz:0<(k:Int):=by omega
        obtain ⟨l0,l1,l2,l3⟩:=hsh.ml.cells (i:=kq) (by rw[List.length_append,List.length_cons,List.length_take,List.length_drop,hsh.len];omega)
        rw[sh_get L x k kq (by rw[hsh.len];exact hk9) (by omega)] at l0 l1 l2 l3
        obtain ⟨e,he⟩: ∃e,L.getD kq m40=e:=⟨_,rfl⟩
        rw[he] at l0 l1 l2 l3
        obtain ⟨e0,e1,e2,e3⟩:=e
        have hki:(kq:Int)<(n:Int)+1:=by omega
        have hkw0:(k:Int)-1=(kq:Int):=by omega
        have HK1:Hid (atB (m0,m1,m2,m3) L k=if ltM (m0,m1,m2,m3) (e0,e1,e2,e3) then atB (m0,m1,m2,m3) L kq else k):=hide (by
         obtain rfl:k=kq+1:=by omega
         rw[←he];rfl)
        have HKW:=hide hkw0
        have HEE:=hide he
        have HSH:=hide hsh
        clear he hk0 hkw0 hsh
        cases hlt:ltM (m0,m1,m2,m3) (e0,e1,e2,e3)
        ·have HLT:=hide hlt
         have HAT:Hid (atB (m0,m1,m2,m3) L n=k):=hide (by rw[unhide hat9,unhide HK1,hlt];rfl)
         clear hlt hat9 HK1
         go_upto_region 15 with fail
         go_cut [85] (fun s85 wx=>s85= .bool false∧wx.cell? ⟨wl.heap.size,0,none⟩=some (.int .i64 m0)∧wx.cell? ⟨wl.heap.size,1,none⟩=some (.int .i64 m1)∧wx.cell? ⟨wl.heap.size,2,none⟩=some (.int .i64 m2)∧wx.cell? ⟨wl.heap.size,3,none⟩=some (.int .i64 m3)∧wx.cell? ⟨g6,kq*4,none⟩=some (.int .i64 e0)∧wx.cell? ⟨g6,kq*4+1,none⟩=some (.int .i64 e1)∧wx.cell? ⟨g6,kq*4+2,none⟩=some (.int .i64 e2)∧wx.cell? ⟨g6,kq*4+3,none⟩=some (.int .i64 e3)∧Below wm.heap.size wm wx)
         case first=>
          have h1:=trivial
          rename_i K2 h2 h3
          refine region_n (by kernel_rfl) (fun j=> #[75,76,77,78,79,80,81,82,83,84,85].getD j 0) (fun j=>Kd.ok ((fun j=>match j with|0=>Kd.val (.int .i64 ((k:Int)))|1=>Kd.val (.bool true)|2=>Kd.val (.bool true)|3=>Kd.val (.agg #[.int .i64 m0,.int .i64 m1,.int .i64 m2,.int .i64 m3])|4=>Kd.val (.slice (some ⟨g6,0,none⟩) (n+1) c6)|5=>Kd.val (.int .i64 ((k:Int)))|6=>Kd.val (.int .i64 ((kq:Int)))|7=>Kd.val (.pointer (some ⟨g6,kq*4,none⟩))|8=>Kd.val (.agg #[.int .i64 e0,.int .i64 e1,.int .i64 e2,.int .i64 e3])|9=>Kd.val (.bool false)|10=>Kd.val (.bool false)|_=>Kd.any:Nat→Kd) j)) (Sy wm (wm.heap.size) [(⟨wl.heap.size,0,none⟩,.int .i64 m0),(⟨wl.heap.size,1,none⟩,.int .i64 m1),(⟨wl.heap.size,2,none⟩,.int .i64 m2),(⟨wl.heap.size,3,none⟩,.int .i64 m3),(⟨g6,kq*4,none⟩,.int .i64 e0),(⟨g6,kq*4+1,none⟩,.int .i64 e1),(⟨g6,kq*4+2,none⟩,.int .i64 e2),(⟨g6,kq*4+3,none⟩,.int .i64 e3)] []) (fun j=> #[true,true,true,true,true,true,true,true,true,true,true].getD j true) (by kernel_rfl) ?_ ?_ ?_ ?_ ?_ ?_
          ·intro j hj
           have hj2:j<11:=hj
           have: ∀j,j<11→(#[75,76,77,78,79,80,81,82,83,84,85]:Array Nat).getD j 0<101:=by decide
           exact this j hj2
          ·intro i o ho
           match i,ho with
           |0,ho=>cases ho;intro aq wq hd;exact wanted_free rfl
           |1,ho=>cases ho;intro aq wq hd;exact wanted_free rfl
           |2,ho=>cases ho;intro aq wq hd;exact wanted_free rfl
           |3,ho=>cases ho;intro aq wq hd;exact wanted_of (j:=2) (t:=77) (want:=true) (b:=true) rfl rfl (hd 2 (by decide +kernel))
           |4,ho=>cases ho;intro aq wq hd;exact wanted_of (j:=2) (t:=77) (want:=true) (b:=true) rfl rfl (hd 2 (by decide +kernel))
           |5,ho=>cases ho;intro aq wq hd;exact wanted_of (j:=2) (t:=77) (want:=true) (b:=true) rfl rfl (hd 2 (by decide +kernel))
           |6,ho=>cases ho;intro aq wq hd;exact wanted_of (j:=2) (t:=77) (want:=true) (b:=true) rfl rfl (hd 2 (by decide +kernel))
           |7,ho=>cases ho;intro aq wq hd;exact wanted_of (j:=2) (t:=77) (want:=true) (b:=true) rfl rfl (hd 2 (by decide +kernel))
           |8,ho=>cases ho;intro aq wq hd;exact wanted_of (j:=2) (t:=77) (want:=true) (b:=true) rfl rfl (hd 2 (by decide +kernel))
           |9,ho=>cases ho;intro aq wq hd;exact wanted_of (j:=2) (t:=77) (want:=true) (b:=true) rfl rfl (hd 2 (by decide +kernel))
           |10,ho=>cases ho;intro aq wq hd;exact wanted_free rfl
           |i+11,ho=>exact absurd ho (by simp)
          ·intro i o ho hr
           match i,ho with
           |0,ho=>exact absurd hr (by decide)
           |1,ho=>exact absurd hr (by decide)
           |2,ho=>exact absurd hr (by decide)
           |3,ho=>exact absurd hr (by decide)
           |4,ho=>exact absurd hr (by decide)
           |5,ho=>exact absurd hr (by decide)
           |6,ho=>exact absurd hr (by decide)
           |7,ho=>exact absurd hr (by decide)
           |8,ho=>exact absurd hr (by decide)
           |9,ho=>exact absurd hr (by decide)
           |10,ho=>exact absurd hr (by decide)
           |i+11,ho=>exact absurd ho (by simp)
          ·refine Sy.drew (Sy.mk_of ?_ ?_ ?_ ?_)
           ·first|rfl|(simp;done)|(simp;omega)
           ·intro c hc
            simp only[List.mem_cons,List.not_mem_nil,or_false] at hc
            rcases hc with rfl|rfl|rfl|rfl|rfl|rfl|rfl|rfl<;>exact byCT
           ·intro p hp;cases hp
           ·(repeat' first|with_reducible (first|exact Below.refl _ _|assumption|refine gr_alloc ?_ _|refine below_drewN ?_ _|refine below_drew ?_|refine gr_call ?_ (by assumption)|refine Below.setCell ?_ ?_ _)|go_size|omega|(simp;omega))
          ·clear h1 h2 h3
           refine ⟨?r12x0,?r12x1,?r12x2,?r12x3,?r12x4,?r12x5,?r12x6,?r12x7,?r12x8,?r12x9,?r12x10,trivial⟩
           all_goals intro _ aq wx Kq hf hS hdep ev1 ev2 hK
           case' r12x0=>
            have F9:aq.eval (.tmp 9)= .int .i64 ((k:Int)):=hf 9
           case' r12x1=>
            have D0:aq.eval (.tmp 75)=_:=hdep 0
           case' r12x2=>
            have D1:aq.eval (.tmp 76)=_:=hdep 1
           case' r12x3=>
            have F8:aq.eval (.tmp 8)= .pointer (some ⟨wl.heap.size,0,none⟩):=hf 8
            have c0:=hS.cells (⟨wl.heap.size,0,none⟩,.int .i64 m0) (by simp)
            have c1:=hS.cells (⟨wl.heap.size,1,none⟩,.int .i64 m1) (by simp)
            have c2:=hS.cells (⟨wl.heap.size,2,none⟩,.int .i64 m2) (by simp)
            have c3:=hS.cells (⟨wl.heap.size,3,none⟩,.int .i64 m3) (by simp)
           case' r12x4=>
            have F5:aq.eval (.tmp 5)= .slice (some ⟨g6,0,none⟩) (n+1) c6:=hf 5
           case' r12x5=>
            have F9:aq.eval (.tmp 9)= .int .i64 ((k:Int)):=hf 9
           case' r12x6=>
            have D5:aq.eval (.tmp 80)=_:=hdep 5
           case' r12x7=>
            have D4:aq.eval (.tmp 79)=_:=hdep 4
            have D6:aq.eval (.tmp 81)=_:=hdep 6
           case' r12x8=>
            have D7:aq.eval (.tmp 82)=_:=hdep 7
            have c0:=hS.cells (⟨g6,kq*4,none⟩,.int .i64 e0) (by simp)
            have c1:=hS.cells (⟨g6,kq*4+1,none⟩,.int .i64 e1) (by simp)
            have c2:=hS.cells (⟨g6,kq*4+2,none⟩,.int .i64 e2) (by simp)
            have c3:=hS.cells (⟨g6,kq*4+3,none⟩,.int .i64 e3) (by simp)
           case' r12x9=>
            have D3:aq.eval (.tmp 78)=_:=hdep 3
            have D8:aq.eval (.tmp 83)=_:=hdep 8
           case' r12x10=>
            have D2:aq.eval (.tmp 77)=_:=hdep 2
            have D9:aq.eval (.tmp 84)=_:=hdep 9
           all_goals (clear hf hdep;unfold Oper.wp;generalize Act.eval _=ev at *;go_simp)
           case' r12x7=>
            try rw[if_pos (by omega),Oper.upon_value]
           case r12x9=>
            refine ((reLess_e m0 m1 m2 m3 e0 e1 e2 e3 false _ (unhide HLT))).mono ?_
            rintro e w2 ⟨rfl,hb⟩
            refine hK _ _ (hS.call hb) ?_ (fun j u _ h=>Kd.ok_below hb h)
            rw[if_pos (by rfl)]
            show (_:Value)=_
            first|rfl|(refine congrArg (Value.int .i64) ?_;first|rfl|exact int_in (by omega)|exact quo_in (by omega) (by omega) (by omega)|exact rem_in (by omega) (by omega)|omega|exact unhide HKW|exact (IntWalk.i64_in _ (by omega)).trans (unhide HKW)|(simp [*];done)|(simp;omega))|(simp;done)|(simp [*];done)
           all_goals (refine hK _ _ hS ?_ (fun j u _ h=>h);rw [if_pos (by rfl)];show (_:Value)=_;(first|rfl|(refine congrArg (Value.int .i64) ?_;first|rfl|exact int_in (by omega)|exact quo_in (by omega) (by omega) (by omega)|exact rem_in (by omega) (by omega)|omega|exact unhide HKW|exact (IntWalk.i64_in _ (by omega)).trans (unhide HKW)|(simp [*];done)|(simp;omega))|(simp;done)|(simp [*];done)|(simp;omega)))
          ·intro aq wx hd hw hf hS hg
           have G85:tau aq 85= .bool false:=hg 10 (by decide)
           have haq:aq=⟨#[tau aq 0,tau aq 1,tau aq 2,tau aq 3,tau aq 4,tau aq 5,tau aq 6,tau aq 7,tau aq 8,tau aq 9,tau aq 10,tau aq 11,tau aq 12,tau aq 13,tau aq 14,tau aq 15,tau aq 16,tau aq 17,tau aq 18,tau aq 19,tau aq 20,tau aq 21,tau aq 22,tau aq 23,tau aq 24,tau aq 25,tau aq 26,tau aq 27,tau aq 28,tau aq 29,tau aq 30,tau aq 31,tau aq 32,tau aq 33,tau aq 34,tau aq 35,tau aq 36,tau aq 37,tau aq 38,tau aq 39,tau aq 40,tau aq 41,tau aq 42,tau aq 43,tau aq 44,tau aq 45,tau aq 46,tau aq 47,tau aq 48,tau aq 49,tau aq 50,tau aq 51,tau aq 52,tau aq 53,tau aq 54,tau aq 55,tau aq 56,tau aq 57,tau aq 58,tau aq 59,tau aq 60,tau aq 61,tau aq 62,tau aq 63,tau aq 64,tau aq 65,tau aq 66,tau aq 67,tau aq 68,tau aq 69,tau aq 70,tau aq 71,tau aq 72,tau aq 73,tau aq 74,tau aq 75,tau aq 76,tau aq 77,tau aq 78,tau aq 79,tau aq 80,tau aq 81,tau aq 82,tau aq 83,tau aq 84,tau aq 85,tau aq 86,tau aq 87,tau aq 88,tau aq 89,tau aq 90,tau aq 91,tau aq 92,tau aq 93,tau aq 94,tau aq 95,tau aq 96,tau aq 97,tau aq 98,tau aq 99,tau aq 100],[]⟩:=by
            obtain ⟨tq,dq⟩:=aq
            have h5:=arr_eq (show tq.size=101 from hw)
            have h6:dq= []:=hd
            subst h6
            exact congrArg (fun z=>Act.mk z []) h5
           show K2 aq wx
           rw[haq,hf 0,hf 1,hf 2,hf 3,hf 4,hf 5,hf 6,hf 7,hf 8,hf 9,hf 10,hf 11,hf 12,hf 13,hf 14,hf 15,hf 16,hf 17,hf 18,hf 19,hf 20,hf 21,hf 22,hf 23,hf 24,hf 25,hf 26,hf 27,hf 28,hf 29,hf 30,hf 31,hf 32,hf 33,hf 34,hf 35,hf 36,hf 37,hf 38,hf 39,hf 40,hf 41,hf 42,hf 43,hf 44,hf 45,hf 46,hf 47,hf 48,hf 49,hf 50,hf 51,hf 52,hf 53,hf 54,hf 55,hf 56,hf 57,hf 58,hf 59,hf 60,hf 61,hf 62,hf 63,hf 64,hf 65,hf 66,hf 67,hf 68,hf 69,hf 70,hf 71,hf 72,hf 73,hf 74,hf 86,hf 87,hf 88,hf 89,hf 90,hf 91,hf 92,hf 93,hf 94,hf 95,hf 96,hf 97,hf 98,hf 99,hf 100,G85]
           clear haq hf hd hw
           try dsimp only
           refine h3 _ _ ?_
           go_meet
           exact ⟨rfl,hS.cells (⟨wl.heap.size,0,none⟩,.int .i64 m0) (by simp),hS.cells (⟨wl.heap.size,1,none⟩,.int .i64 m1) (by simp),hS.cells (⟨wl.heap.size,2,none⟩,.int .i64 m2) (by simp),hS.cells (⟨wl.heap.size,3,none⟩,.int .i64 m3) (by simp),hS.cells (⟨g6,kq*4,none⟩,.int .i64 e0) (by simp),hS.cells (⟨g6,kq*4+1,none⟩,.int .i64 e1) (by simp),hS.cells (⟨g6,kq*4+2,none⟩,.int .i64 e2) (by simp),hS.cells (⟨g6,kq*4+3,none⟩,.int .i64 e3) (by simp),hS.below⟩
         try clear c00
         try clear c01
         try clear c02
         try clear c03
         try clear c10
         try clear c11
         try clear c12
         try clear c13
         obtain ⟨rfl,c00,c01,c02,c03,c10,c11,c12,c13,hb0⟩:=hcut
         have z0:=World.block_lt_of_cell? _ _ c00
         have z1:=World.block_lt_of_cell? _ _ c10
         change wl.heap.size<wc.heap.size at z0
         change g6<wc.heap.size at z1
         have hsc:=(unhide HSH).below hb0
         have hkl:k<(L.take k++x :: L.drop k).length:=by rw[List.length_append,List.length_cons,List.length_take,List.length_drop,hsc.len];omega
         obtain ⟨t0,t1,t2,t3⟩:=hsc.ml.cells hkl
         have fz:=hsc.ml.frozen
         have y0:=fz (k*4)
         have y1:=fz (k*4+1)
         have y2:=fz (k*4+2)
         have y3:=fz (k*4+3)
         have q0:=hsc.m0
         have q1:=hsc.m1
         have q2:=hsc.m2
         have q3:=hsc.m3
         have HSC:=hide hsc
         clear hsc fz hkl
         have hki3:(k:Int)≤n:=by omega
         have hki4:k<n+1:=by omega
         have hki5:(k:Int)<(n:Int)+1:=by omega
         go_wp2
         go_roundw
         case rel=>exact ⟨j+1,u+1,by omega,by omega,by omega,by first|rfl|go_num,((unhide HSC).set hk9 m0 m1 m2 m3).fin (unhide HAT) (unhide hL) (unhide HSPK) hnm⟩
         case measure=>simp [intOf];omega
        ·have HLT:=hide hlt
         have HAT:Hid (atB (m0,m1,m2,m3) L n=atB (m0,m1,m2,m3) L kq):=hide (by rw[unhide hat9,unhide HK1,hlt];rfl)
         clear hlt hat9 HK1
         go_upto_region 15 with fail
         go_cut [85] (fun s85 wx=>s85= .bool true∧wx.cell? ⟨wl.heap.size,0,none⟩=some (.int .i64 m0)∧wx.cell? ⟨wl.heap.size,1,none⟩=some (.int .i64 m1)∧wx.cell? ⟨wl.heap.size,2,none⟩=some (.int .i64 m2)∧wx.cell? ⟨wl.heap.size,3,none⟩=some (.int .i64 m3)∧wx.cell? ⟨g6,kq*4,none⟩=some (.int .i64 e0)∧wx.cell? ⟨g6,kq*4+1,none⟩=some (.int .i64 e1)∧wx.cell? ⟨g6,kq*4+2,none⟩=some (.int .i64 e2)∧wx.cell? ⟨g6,kq*4+3,none⟩=some (.int .i64 e3)∧Below wm.heap.size wm wx)
         case first=>
          have h1:=trivial
          rename_i K2 h2 h3
          refine region_n (by kernel_rfl) (fun j=> #[75,76,77,78,79,80,81,82,83,84,85].getD j 0) (fun j=>Kd.ok ((fun j=>match j with|0=>Kd.val (.int .i64 ((k:Int)))|1=>Kd.val (.bool true)|2=>Kd.val (.bool true)|3=>Kd.val (.agg #[.int .i64 m0,.int .i64 m1,.int .i64 m2,.int .i64 m3])|4=>Kd.val (.slice (some ⟨g6,0,none⟩) (n+1) c6)|5=>Kd.val (.int .i64 ((k:Int)))|6=>Kd.val (.int .i64 ((kq:Int)))|7=>Kd.val (.pointer (some ⟨g6,kq*4,none⟩))|8=>Kd.val (.agg #[.int .i64 e0,.int .i64 e1,.int .i64 e2,.int .i64 e3])|9=>Kd.val (.bool true)|10=>Kd.val (.bool true)|_=>Kd.any:Nat→Kd) j)) (Sy wm (wm.heap.size) [(⟨wl.heap.size,0,none⟩,.int .i64 m0),(⟨wl.heap.size,1,none⟩,.int .i64 m1),(⟨wl.heap.size,2,none⟩,.int .i64 m2),(⟨wl.heap.size,3,none⟩,.int .i64 m3),(⟨g6,kq*4,none⟩,.int .i64 e0),(⟨g6,kq*4+1,none⟩,.int .i64 e1),(⟨g6,kq*4+2,none⟩,.int .i64 e2),(⟨g6,kq*4+3,none⟩,.int .i64 e3)] []) (fun j=> #[true,true,true,true,true,true,true,true,true,true,true].getD j true) (by kernel_rfl) ?_ ?_ ?_ ?_ ?_ ?_
          ·intro j hj
           have hj2:j<11:=hj
           have: ∀j,j<11→(#[75,76,77,78,79,80,81,82,83,84,85]:Array Nat).getD j 0<101:=by decide
           exact this j hj2
          ·intro i o ho
           match i,ho with
           |0,ho=>cases ho;intro aq wq hd;exact wanted_free rfl
           |1,ho=>cases ho;intro aq wq hd;exact wanted_free rfl
           |2,ho=>cases ho;intro aq wq hd;exact wanted_free rfl
           |3,ho=>cases ho;intro aq wq hd;exact wanted_of (j:=2) (t:=77) (want:=true) (b:=true) rfl rfl (hd 2 (by decide +kernel))
           |4,ho=>cases ho;intro aq wq hd;exact wanted_of (j:=2) (t:=77) (want:=true) (b:=true) rfl rfl (hd 2 (by decide +kernel))
           |5,ho=>cases ho;intro aq wq hd;exact wanted_of (j:=2) (t:=77) (want:=true) (b:=true) rfl rfl (hd 2 (by decide +kernel))
           |6,ho=>cases ho;intro aq wq hd;exact wanted_of (j:=2) (t:=77) (want:=true) (b:=true) rfl rfl (hd 2 (by decide +kernel))
           |7,ho=>cases ho;intro aq wq hd;exact wanted_of (j:=2) (t:=77) (want:=true) (b:=true) rfl rfl (hd 2 (by decide +kernel))
           |8,ho=>cases ho;intro aq wq hd;exact wanted_of (j:=2) (t:=77) (want:=true) (b:=true) rfl rfl (hd 2 (by decide +kernel))
           |9,ho=>cases ho;intro aq wq hd;exact wanted_of (j:=2) (t:=77) (want:=true) (b:=true) rfl rfl (hd 2 (by decide +kernel))
           |10,ho=>cases ho;intro aq wq hd;exact wanted_free rfl
           |i+11,ho=>exact absurd ho (by simp)
          ·intro i o ho hr
           match i,ho with
           |0,ho=>exact absurd hr (by decide)
           |1,ho=>exact absurd hr (by decide)
           |2,ho=>exact absurd hr (by decide)
           |3,ho=>exact absurd hr (by decide)
           |4,ho=>exact absurd hr (by decide)
           |5,ho=>exact absurd hr (by decide)
           |6,ho=>exact absurd hr (by decide)
           |7,ho=>exact absurd hr (by decide)
           |8,ho=>exact absurd hr (by decide)
           |9,ho=>exact absurd hr (by decide)
           |10,ho=>exact absurd hr (by decide)
           |i+11,ho=>exact absurd ho (by simp)
          ·refine Sy.drew (Sy.mk_of ?_ ?_ ?_ ?_)
           ·first|rfl|(simp;done)|(simp;omega)
           ·intro c hc
            simp only[List.mem_cons,List.not_mem_nil,or_false] at hc
            rcases hc with rfl|rfl|rfl|rfl|rfl|rfl|rfl|rfl<;>exact byCT
           ·intro p hp;cases hp
           ·(repeat' first|with_reducible (first|exact Below.refl _ _|assumption|refine gr_alloc ?_ _|refine below_drewN ?_ _|refine below_drew ?_|refine gr_call ?_ (by assumption)|refine Below.setCell ?_ ?_ _)|go_size|omega|(simp;omega))
          ·clear h1 h2 h3
           refine ⟨?r13x0,?r13x1,?r13x2,?r13x3,?r13x4,?r13x5,?r13x6,?r13x7,?r13x8,?r13x9,?r13x10,trivial⟩
           all_goals intro _ aq wx Kq hf hS hdep ev1 ev2 hK
           case' r13x0=>
            have F9:aq.eval (.tmp 9)= .int .i64 ((k:Int)):=hf 9
           case' r13x1=>
            have D0:aq.eval (.tmp 75)=_:=hdep 0
           case' r13x2=>
            have D1:aq.eval (.tmp 76)=_:=hdep 1
           case' r13x3=>
            have F8:aq.eval (.tmp 8)= .pointer (some ⟨wl.heap.size,0,none⟩):=hf 8
            have c0:=hS.cells (⟨wl.heap.size,0,none⟩,.int .i64 m0) (by simp)
            have c1:=hS.cells (⟨wl.heap.size,1,none⟩,.int .i64 m1) (by simp)
            have c2:=hS.cells (⟨wl.heap.size,2,none⟩,.int .i64 m2) (by simp)
            have c3:=hS.cells (⟨wl.heap.size,3,none⟩,.int .i64 m3) (by simp)
           case' r13x4=>
            have F5:aq.eval (.tmp 5)= .slice (some ⟨g6,0,none⟩) (n+1) c6:=hf 5
           case' r13x5=>
            have F9:aq.eval (.tmp 9)= .int .i64 ((k:Int)):=hf 9
           case' r13x6=>
            have D5:aq.eval (.tmp 80)=_:=hdep 5
           case' r13x7=>
            have D4:aq.eval (.tmp 79)=_:=hdep 4
            have D6:aq.eval (.tmp 81)=_:=hdep 6
           case' r13x8=>
            have D7:aq.eval (.tmp 82)=_:=hdep 7
            have c0:=hS.cells (⟨g6,kq*4,none⟩,.int .i64 e0) (by simp)
            have c1:=hS.cells (⟨g6,kq*4+1,none⟩,.int .i64 e1) (by simp)
            have c2:=hS.cells (⟨g6,kq*4+2,none⟩,.int .i64 e2) (by simp)
            have c3:=hS.cells (⟨g6,kq*4+3,none⟩,.int .i64 e3) (by simp)
           case' r13x9=>
            have D3:aq.eval (.tmp 78)=_:=hdep 3
            have D8:aq.eval (.tmp 83)=_:=hdep 8
           case' r13x10=>
            have D2:aq.eval (.tmp 77)=_:=hdep 2
            have D9:aq.eval (.tmp 84)=_:=hdep 9
           all_goals (clear hf hdep;unfold Oper.wp;generalize Act.eval _=ev at *;go_simp)
           case' r13x7=>
            try rw[if_pos (by omega),Oper.upon_value]
           case r13x9=>
            refine ((reLess_e m0 m1 m2 m3 e0 e1 e2 e3 true _ (unhide HLT))).mono ?_
            rintro e w2 ⟨rfl,hb⟩
            refine hK _ _ (hS.call hb) ?_ (fun j u _ h=>Kd.ok_below hb h)
            rw[if_pos (by rfl)]
            show (_:Value)=_
            first|rfl|(refine congrArg (Value.int .i64) ?_;first|rfl|exact int_in (by omega)|exact quo_in (by omega) (by omega) (by omega)|exact rem_in (by omega) (by omega)|omega|exact unhide HKW|exact (IntWalk.i64_in _ (by omega)).trans (unhide HKW)|(simp [*];done)|(simp;omega))|(simp;done)|(simp [*];done)
           all_goals (refine hK _ _ hS ?_ (fun j u _ h=>h);rw [if_pos (by rfl)];show (_:Value)=_;(first|rfl|(refine congrArg (Value.int .i64) ?_;first|rfl|exact int_in (by omega)|exact quo_in (by omega) (by omega) (by omega)|exact rem_in (by omega) (by omega)|omega|exact unhide HKW|exact (IntWalk.i64_in _ (by omega)).trans (unhide HKW)|(simp [*];done)|(simp;omega))|(simp;done)|(simp [*];done)|(simp;omega)))
          ·intro aq wx hd hw hf hS hg
           have G85:tau aq 85= .bool true:=hg 10 (by decide)
           have haq:aq=⟨#[tau aq 0,tau aq 1,tau aq 2,tau aq 3,tau aq 4,tau aq 5,tau aq 6,tau aq 7,tau aq 8,tau aq 9,tau aq 10,tau aq 11,tau aq 12,tau aq 13,tau aq 14,tau aq 15,tau aq 16,tau aq 17,tau aq 18,tau aq 19,tau aq 20,tau aq 21,tau aq 22,tau aq 23,tau aq 24,tau aq 25,tau aq 26,tau aq 27,tau aq 28,tau aq 29,tau aq 30,tau aq 31,tau aq 32,tau aq 33,tau aq 34,tau aq 35,tau aq 36,tau aq 37,tau aq 38,tau aq 39,tau aq 40,tau aq 41,tau aq 42,tau aq 43,tau aq 44,tau aq 45,tau aq 46,tau aq 47,tau aq 48,tau aq 49,tau aq 50,tau aq 51,tau aq 52,tau aq 53,tau aq 54,tau aq 55,tau aq 56,tau aq 57,tau aq 58,tau aq 59,tau aq 60,tau aq 61,tau aq 62,tau aq 63,tau aq 64,tau aq 65,tau aq 66,tau aq 67,tau aq 68,tau aq 69,tau aq 70,tau aq 71,tau aq 72,tau aq 73,tau aq 74,tau aq 75,tau aq 76,tau aq 77,tau aq 78,tau aq 79,tau aq 80,tau aq 81,tau aq 82,tau aq 83,tau aq 84,tau aq 85,tau aq 86,tau aq 87,tau aq 88,tau aq 89,tau aq 90,tau aq 91,tau aq 92,tau aq 93,tau aq 94,tau aq 95,tau aq 96,tau aq 97,tau aq 98,tau aq 99,tau aq 100],[]⟩:=by
            obtain ⟨tq,dq⟩:=aq
            have h5:=arr_eq (show tq.size=101 from hw)
            have h6:dq= []:=hd
            subst h6
            exact congrArg (fun z=>Act.mk z []) h5
           show K2 aq wx
           rw[haq,hf 0,hf 1,hf 2,hf 3,hf 4,hf 5,hf 6,hf 7,hf 8,hf 9,hf 10,hf 11,hf 12,hf 13,hf 14,hf 15,hf 16,hf 17,hf 18,hf 19,hf 20,hf 21,hf 22,hf 23,hf 24,hf 25,hf 26,hf 27,hf 28,hf 29,hf 30,hf 31,hf 32,hf 33,hf 34,hf 35,hf 36,hf 37,hf 38,hf 39,hf 40,hf 41,hf 42,hf 43,hf 44,hf 45,hf 46,hf 47,hf 48,hf 49,hf 50,hf 51,hf 52,hf 53,hf 54,hf 55,hf 56,hf 57,hf 58,hf 59,hf 60,hf 61,hf 62,hf 63,hf 64,hf 65,hf 66,hf 67,hf 68,hf 69,hf 70,hf 71,hf 72,hf 73,hf 74,hf 86,hf 87,hf 88,hf 89,hf 90,hf 91,hf 92,hf 93,hf 94,hf 95,hf 96,hf 97,hf 98,hf 99,hf 100,G85]
           clear haq hf hd hw
           try dsimp only
           refine h3 _ _ ?_
           go_meet
           exact ⟨rfl,hS.cells (⟨wl.heap.size,0,none⟩,.int .i64 m0) (by simp),hS.cells (⟨wl.heap.size,1,none⟩,.int .i64 m1) (by simp),hS.cells (⟨wl.heap.size,2,none⟩,.int .i64 m2) (by simp),hS.cells (⟨wl.heap.size,3,none⟩,.int .i64 m3) (by simp),hS.cells (⟨g6,kq*4,none⟩,.int .i64 e0) (by simp),hS.cells (⟨g6,kq*4+1,none⟩,.int .i64 e1) (by simp),hS.cells (⟨g6,kq*4+2,none⟩,.int .i64 e2) (by simp),hS.cells (⟨g6,kq*4+3,none⟩,.int .i64 e3) (by simp),hS.below⟩
         try clear c00
         try clear c01
         try clear c02
         try clear c03
         try clear c10
         try clear c11
         try clear c12
         try clear c13
         obtain ⟨rfl,c00,c01,c02,c03,c10,c11,c12,c13,hb0⟩:=hcut
         have z0:=World.block_lt_of_cell? _ _ c00
         have z1:=World.block_lt_of_cell? _ _ c10
         change wl.heap.size<wc.heap.size at z0
         change g6<wc.heap.size at z1
         have HKW2:=unhide HKW
         have hsc:=(unhide HSH).below hb0
         have hkl:k<(L.take k++x :: L.drop k).length:=by rw[List.length_append,List.length_cons,List.length_take,List.length_drop,hsc.len];omega
         obtain ⟨t0,t1,t2,t3⟩:=hsc.ml.cells hkl
         have fz:=hsc.ml.frozen
         have y0:=fz (k*4)
         have y1:=fz (k*4+1)
         have y2:=fz (k*4+2)
         have y3:=fz (k*4+3)
         have q0:=hsc.m0
         have q1:=hsc.m1
         have q2:=hsc.m2
         have q3:=hsc.m3
         have HSC:=hide hsc
         clear hsc fz hkl
         have hki3:(k:Int)≤n:=by omega
         have hki4:k<n+1:=by omega
         have hki5:(k:Int)<(n:Int)+1:=by omega
         have hkq3:(kq:Int)<(n:Int)+1:=by omega
         go_wp2
         go_roundw
         case rel=>exact ⟨kq,(e0,e1,e2,e3),by omega,by first|rfl|go_num,HAT,ShRel.shift (by
           have hh:=(unhide HSC).set hk9 e0 e1 e2 e3
           have hkk:k=kq+1:=by omega
           rw[hkk] at hh ⊢
           exact hh) (by omega) (unhide HEE)⟩
         case measure=>simp [intOf];omega
     ·have HSP:Hid (spK a b c (i*3+j+1)=spK a b c (i*3+j)):=hide (by
       rw[spK,hcT,hcU,unhide HD,if_neg q4])
      have hR2:=hide (SpRel.same hR (unhide HSP))
      have q4b:(t*t-d*u*u != 4)=true:=by simpa using q4
      clear hR q4 hcT hcU HSP
      go_wp2
      go_roundw
      case rel=>exact ⟨j+1,u+1,by omega,by omega,by omega,by first|rfl|go_num,unhide hR2⟩
      case measure=>simp [intOf];omega
    ·have qu: ¬u≤1:=by omega
     have hR2:Hid (SpRel w wr a b c ((i+1)*3) _):=hide (by
      obtain rfl:j=3:=by omega
      have e:(i+1)*3=i*3+3:=by omega
      rw[e];exact hR)
     clear hR
     go_wp2
     go_roundw
     case rel=>exact ⟨i+1,t+1,by omega,by omega,by omega,by first|rfl|go_num,unhide hR2⟩
     case measure=>simp [intOf];omega
  ·have qt: ¬t≤2:=by omega
   obtain rfl:i=5:=by omega
   obtain ⟨n,av,cv,L,rfl,hl,hL,hn,-,hb,-⟩:=hR
   have hl2:Hid (ML wr w.heap.size (.slice av (putB [] (spK a b c 15)).length cv) (putB [] (spK a b c 15))):=hide (by
    rw[←unhide hL,unhide hn]
    exact hl.weak (by omega))
   have HZ:Hid ((putB [] (spK a b c 15)).length=n):=hide (by rw[←unhide hL,unhide hn])
   have HBB:=hide hb
   clear hl hb
   go_wp2
   go_ret
   exact ⟨_,_,by first|(rw [unhide HZ];done)|(rw [unhide HZ];rfl),unhide hl2,unhide HBB⟩
end Go.Proofs.YtobkcnmlmmhpoaaGreat
