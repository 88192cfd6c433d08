/- The texts of rows on both sides. -/
import Derived.Test.YtobkcnmlmmhpoaaGreatDoorStrL
set_option maxRecDepth 100000
set_option maxHeartbeats 80000000
namespace Go.Proofs.YtobkcnmlmmhpoaaGreatDoor
open Go.RowKit
set_option linter.unusedVariables false
set_option linter.unusedSimpArgs false
attribute [local go_sem] q2 q3 q4 q5 q6 q7 q8 q9 q10 q11 q12

def itL (z:Nat→Int):Nat→List ByteArray
 |0=> []
 |k+1=>itL z k++ [tx (Lib.itoa (z k))]
theorem itL_len (z:Nat→Int): ∀k,(itL z k).length=k
 |0=>rfl
 |k+1=>by rw[itL,List.length_append,itL_len z k];rfl
def fcS (z:Nat→Int):Nat→List UInt8
 |0=> [45]
 |1=>Lib.itoa (z 0)
 |k+2=>fcS z (k+1)++ [44]++Lib.itoa (z (k+1))
theorem join_snoc (sep y:List UInt8): ∀(xs:List (List UInt8)),xs≠ []→Lib.join (xs++ [y]) sep=Lib.join xs sep++sep++y
 | [],h=>absurd rfl h
 | [x],_=>by simp [Lib.join,List.intercalate]
 |x :: x2 :: r,_=>by
  have ih:=join_snoc sep y (x2 :: r) Vs
  simp only[Lib.join,List.intercalate,List.cons_append,List.intersperse] at ih ⊢
  simp only[List.flatten_cons,List.append_assoc] at ih ⊢
  rw[ih]
theorem join_it (z:Nat→Int): ∀n,1≤n→Lib.join ((itL z n).map (·.data.toList)) [44]=fcS z n
 |1,_=>by simp [itL,fcS,tx,Lib.join,List.intercalate]
 |k+2,_=>by
  rw[itL,List.map_append,List.map_cons,List.map_nil,tx_list,join_snoc _ _ _ (by simp [itL]),join_it z (k+1) Vn]
  rfl
theorem fcS_len {z:Nat→Int} : ∀n,(∀i,i<n→I64 (z i))→(fcS z n).length≤22*n+1
 |0,_=>by simp [fcS]
 |1,h=>by have:=itoa_len (h 0 Vn);rw [fcS];omega
 |k+2,h=>by
  have:=itoa_len (h (k+1) Vn)
  have:=fcS_len (k+1) (fun i hi=>h i Vn)
  rw[fcS,List.length_append,List.length_append]
  simp only[List.length_cons,List.length_nil]
  omega
def rwT (r:RowV) (n:Nat) (z:Nat→Int):List UInt8:=Lib.itoa r.d++ [32]++Lib.itoa r.num++ [32]++fcS z n++ [32]++Lib.itoa r.ge++ [32]++Lib.itoa r.ex
theorem ch_each {z:Nat→Int} {n:Nat} (h:chB z n=true): ∀i,i<n→2≤z i∧z i≤1000:=by
 intro i hi
 cases q:chS z (i+1) with
 |none=>have:=chS_no q n Vn;unfold chB at h;rw [this] at h;cases h
 |some p=>exact ch_two q
theorem ch_val {z:Nat→Int} {n:Nat} (h:chB z n=true):1≤cprV z n∧cprV z n≤1000:=by
 cases q:chS z n with
 |none=>unfold chB at h;rw [q] at h;cases h
 |some p=>have:=ch_bd q;unfold cprV;rw [q];exact this
theorem SL.joins {w:World} {lo:Nat} {a:Option Addr} {n c:Nat} {zs:List ByteArray} (h:SL w lo (.slice a n c) zs) (hz:1≤zs.length): ∃g,a=some ⟨g,0,none⟩∧n=zs.length∧g<w.heap.size∧zs.length≤c∧ ∀(j:Nat) x,zs[j]? =some x→w.cell? ⟨g,0+j,none⟩=some (.string x):=by
 rcases h.2 with ⟨h1,h2⟩|⟨g,cap,cur,h1,h2,h3,h4,h5,h6,h7⟩
 ·omega
 ·simp only[Value.slice.injEq] at h1
  obtain ⟨rfl,rfl,rfl⟩:=h1
  refine ⟨g,rfl,rfl,(Array.getElem?_eq_some_iff.1 h3).1,h4,fun j x hx=> ?_⟩
  obtain ⟨hj,rfl⟩:=List.getElem?_eq_some_iff.1 hx
  have hs:=h.strs.2
  rcases hs with hs|⟨g1,cap1,F,e1,h1,h2,h3,r,e⟩
  ·omega
  ·obtain ⟨rfl⟩:g=g1:=by injection e1 with e1;injection e1
   rw[Nat.zero_add,r.cell (i:=j) Vn,e j hj]
   simp [List.getD_eq_getElem?_getD,hj]
theorem SL.made2 (w:World) (o:Obj):SL ((w.alloc o).alloc (.cells #[] 9)) (w.heap.size+1) (.slice (some ⟨w.heap.size+1,0,none⟩) 0 0) []:=by
 have:=SL.made (w.alloc o) (w.heap.size+1) Vs
 simpa using this
theorem join_sl (w:World) (lo:Nat) (a:Option Addr) (n c:Nat) (zs:List ByteArray) (sep l:List UInt8) (h:SL w lo (.slice a n c) zs) (hz:1≤zs.length) (hN:zs.length≤2000000) (hl:Lib.join (zs.map (·.data.toList)) sep=l) (hlen:l.length≤140737488355328):
  Calls Tryz.prog 62 #[.slice a n c,.string (tx sep)] w fun e w'=>e= .returned (.string (tx l))∧Below w.heap.size w w':=by
 obtain ⟨g,rfl,rfl,hg,hc,hcs⟩:=h.joins hz
 have e:(tx sep).data.toList=sep:=tx_list sep
 have k:=Any.strings_Join Tryz.lays156 Tryz.Builder_Extra_156 g 0 c zs (tx sep) w hcs hg Vn hc (by rw[e,hl];exact hlen)
 rw[e,hl] at k
 exact k

theorem rowText_a (r:RowV) (v:Value) (n:Nat) (z:Nat→Int) (w:World) (h:ArgI w v n z) (hn:n≤2000000) (hr:RowOk r) (hz: ∀i,i<n→0≤z i∧z i≤9223372036854775807) (hg:Tab w):
  Calls Tryz.prog 38 #[rwv r v] w fun e w'=>e= .returned (.string (tx (rwT r n z)))∧Below w.heap.size w w':=by
 have HA:=hide h
 have HZ:=hide hz
 have HT:=hide hg
 clear hg
 obtain ⟨a,c,rfl⟩:=h.len
 clear h hz
 obtain ⟨i1,i2,i3,i4⟩:=hr
 skip
 have l1:=itoa_len i1
 have l2:=itoa_len i2
 have l3:=itoa_len i3
 have l4:=itoa_len i4
 have HFL:=hide (fcS_len (z:=z) n (fun i hi=>⟨by have:=(unhide HZ) i hi;omega,((unhide HZ) i hi).2⟩))
 obtain ⟨A1,hA1⟩: ∃l,Lib.itoa r.d=l:=⟨_,rfl⟩
 obtain ⟨A2,hA2⟩: ∃l,Lib.itoa r.num=l:=⟨_,rfl⟩
 obtain ⟨A3,hA3⟩: ∃l,Lib.itoa r.ge=l:=⟨_,rfl⟩
 obtain ⟨A4,hA4⟩: ∃l,Lib.itoa r.ex=l:=⟨_,rfl⟩
 rw[hA1] at l1
 rw[hA2] at l2
 rw[hA3] at l3
 rw[hA4] at l4
 have HA1:=hide hA1
 have HA2:=hide hA2
 have HA3:=hide hA3
 have HA4:=hide hA4
 clear hA1 hA2 hA3 hA4
 go_enter Tryz.func38,Tryz.ntmps38
 go_wp2
 go_loopw [3,11] (fun ls is wr=> ∃(jx:Nat) (a':Option Addr) (c':Nat),jx≤n∧is= .int .i64 (jx:Int)∧ls= .slice a' (itL z jx).length c'∧SL wr (w.heap.size+1) (.slice a' (itL z jx).length c') (itL z jx)∧wr.cell? ⟨w.heap.size,0,none⟩=some (.int .i64 r.d)∧wr.cell? ⟨w.heap.size,1,none⟩=some (.int .i64 r.num)∧wr.cell? ⟨w.heap.size,2,none⟩=some (.slice a n c)∧wr.cell? ⟨w.heap.size,3,none⟩=some (.int .i64 r.ge)∧wr.cell? ⟨w.heap.size,4,none⟩=some (.int .i64 r.ex)∧Below w.heap.size w wr) (fun _ is _=>n-(intOf is).toNat)
 case atStart=>exact ⟨0,_,_,Vn,rfl,rfl,SL.made2 _ _,byCT,byCT,byCT,byCT,byCT,byGG⟩
 case round=>
  obtain ⟨jx,a',c',hj,rfl,rfl,hl,c00,c01,c02,c03,c04,hbl⟩:=hrel
  obtain ⟨wl,rfl⟩: ∃wl:World,wl=wr:=⟨_,rfl⟩
  have hzl:=hbl.size
  have HLn:=hide (itL_len z jx)
  have hbz:=World.block_lt_of_cell? _ _ c00
  change w.heap.size<wl.heap.size at hbz
  by_cases q:jx<n
  ·have hci:(jx:Int)<(n:Int):=by omega
   obtain ⟨b,off,hv,hcs⟩:=((unhide HA).below hbl).cells Vn
   have d0:=hcs jx q
   obtain ⟨x0,x1⟩:=(unhide HZ) jx q
   clear hcs
   subst hv
   have EL:Hid (itL z (jx+1)=itL z jx++ [tx (Lib.itoa (z jx))]):=hide rfl
   obtain ⟨x,hx⟩: ∃x,z jx=x:=⟨_,rfl⟩
   rw[hx] at d0 x0 x1 EL
   have HX:=hide hx
   clear hx
   go_wp2_with fail
   refine (itoa_a x _ ⟨Vn,x1⟩ ((unhide HT).below hbl)).mono ?_
   rintro e w2 ⟨rfl,hb2⟩
   have hcs9:=cells_calls hb2 [⟨w.heap.size,0,none⟩,⟨w.heap.size,1,none⟩,⟨w.heap.size,2,none⟩,⟨w.heap.size,3,none⟩,⟨w.heap.size,4,none⟩] [.int .i64 r.d,.int .i64 r.num,.slice (some ⟨b,off,none⟩) n c,.int .i64 r.ge,.int .i64 r.ex] VI
   have hzs9:=blocks_calls hb2 [w.heap.size] VD
   try clear c00 c01 c02 c03 c04
   obtain ⟨c00,c01,c02,c03,c04,-⟩:=hcs9
   obtain ⟨z0,-⟩:=hzs9
   have hz2:=hb2.size
   have hl2:=hl.below hb2
   have hbw:Below w.heap.size w w2:=hbl.trans (hb2.mono hzl)
   clear hl
   go_wp2_with (first|(at_builtin;refine app_str _ rfl (.tmp 15) (.tmp 18) rfl (w.heap.size+1) (.slice a' (itL z jx).length c') (itL z jx) (tx (Lib.itoa x)) w2.heap.size rfl rfl (hl2.alloc _) Vs (by have:=unhide HLn;omega) VX ?_;intro g cap w3 hown hgrow hat hlt))
   go_roundw
   case rel=>
    have hne: ∀k,(Value.slice a' (itL z jx).length c').ownBlock=some k→w.heap.size+1≤k:=fun k hk=>(hl2.lt k hk).1
    have hbx:some w.heap.size≠(Value.slice a' (itL z jx).length c').ownBlock:=fun hh=>by have:=hne _ hh.symm;omega
    refine ⟨jx+1,some ⟨g,0,none⟩,cap,Vn,by first|rfl|go_num,?_,?_,?_,?_,?_,?_,?_,(hbw.alloc Vn _).grown hgrow VX (fun k hk=>by have:=hne k hk;omega)⟩
    ·rw [unhide EL,List.length_append];rfl
    ·rw [unhide EL,List.length_append];exact hown
    ·rw [hgrow.cell_far _ VX hbx];exact byCT
    ·rw [hgrow.cell_far _ VX hbx];exact byCT
    ·rw [hgrow.cell_far _ VX hbx];exact byCT
    ·rw [hgrow.cell_far _ VX hbx];exact byCT
    ·rw [hgrow.cell_far _ VX hbx];exact byCT
   case measure=>simp [intOf];omega
  ·obtain rfl:jx=n:=by omega
   by_cases q0:jx=0
   ·subst q0
    have HL0:Hid ((itL z 0).length=0):=hide rfl
    skip
    have HE:Hid (rwT r 0 z=A1++ [32]++A2++ [32]++ [45]++ [32]++A3++ [32]++A4):=hide (by unfold rwT;rw [unhide HA1,unhide HA2,unhide HA3,unhide HA4,show fcS z 0= [45] from rfl])
    have HTl:Hid (Tab wl):=hide ((unhide HT).below hbl)
    go_upto_region 10 with fail
    go_cut [2] (fun s2 wx=>s2= .string (tx (A1++ [32]++A2++ [32]++ [45]++ [32]++A3++ [32]++A4))∧wx.cell? ⟨w.heap.size,0,none⟩=some (.int .i64 r.d)∧wx.cell? ⟨w.heap.size,1,none⟩=some (.int .i64 r.num)∧wx.cell? ⟨w.heap.size,2,none⟩=some (.slice a 0 c)∧wx.cell? ⟨w.heap.size,3,none⟩=some (.int .i64 r.ge)∧wx.cell? ⟨w.heap.size,4,none⟩=some (.int .i64 r.ex)∧Below wl.heap.size wl wx)
    case first=>
     have h1:=trivial
     rename_i K2 h2 h3
     refine region_n0 Vw (fun j=> #[26,27,28,29,30,31,32,33,34,35,36,37,38,39,40,41,42,43,44,45,46,2].getD j 0) (fun j=>Kd.ok ((fun j=>match j with|0=>Kd.val (.pointer (some ⟨w.heap.size,0,none⟩))|1=>Kd.val (.int .i64 (r.d))|2=>Kd.val (.string (tx A1))|3=>Kd.val (.string (tx (A1++ [32])))|4=>Kd.val (.pointer (some ⟨w.heap.size,1,none⟩))|5=>Kd.val (.int .i64 (r.num))|6=>Kd.val (.string (tx A2))|7=>Kd.val (.string (tx (A1++ [32]++A2)))|8=>Kd.val (.string (tx (A1++ [32]++A2++ [32])))|9=>Kd.val (.string { data:= #[45] })|10=>Kd.val (.string (tx (A1++ [32]++A2++ [32]++ [45])))|11=>Kd.val (.string (tx (A1++ [32]++A2++ [32]++ [45]++ [32])))|12=>Kd.val (.pointer (some ⟨w.heap.size,3,none⟩))|13=>Kd.val (.int .i64 (r.ge))|14=>Kd.val (.string (tx A3))|15=>Kd.val (.string (tx (A1++ [32]++A2++ [32]++ [45]++ [32]++A3)))|16=>Kd.val (.string (tx (A1++ [32]++A2++ [32]++ [45]++ [32]++A3++ [32])))|17=>Kd.val (.pointer (some ⟨w.heap.size,4,none⟩))|18=>Kd.val (.int .i64 (r.ex))|19=>Kd.val (.string (tx A4))|20=>Kd.val (.string (tx (A1++ [32]++A2++ [32]++ [45]++ [32]++A3++ [32]++A4)))|21=>Kd.val (.string (tx (A1++ [32]++A2++ [32]++ [45]++ [32]++A3++ [32]++A4)))|_=>Kd.any:Nat→Kd) j)) (Sy wl (wl.heap.size) [(⟨w.heap.size,0,none⟩,.int .i64 r.d),(⟨w.heap.size,1,none⟩,.int .i64 r.num),(⟨w.heap.size,2,none⟩,.slice a 0 c),(⟨w.heap.size,3,none⟩,.int .i64 r.ge),(⟨w.heap.size,4,none⟩,.int .i64 r.ex)] []) Vw Vw ?_ ?_ ?_ ?_
     ·intro j hj
      have hj2:j<22:=hj
      have: ∀j,j<22→(#[26,27,28,29,30,31,32,33,34,35,36,37,38,39,40,41,42,43,44,45,46,2]:Array Nat).getD j 0<47:=by decide
      exact this j hj2
     ·refine Sy.drew (Sy.mk_of ?_ ?_ ?_ ?_)
      ·first|rfl|(simp;done)|(simp;omega)
      ·intro c hc
       simp only[List.mem_cons,List.not_mem_nil,or_false] at hc
       rcases hc with rfl|rfl|rfl|rfl|rfl<;>exact byCT
      ·intro p hp;cases hp
      ·(repeat' first|with_reducible (first|exact Below.refl _ _|assumption|refine gr_alloc ?_ _|refine below_drewN ?_ _|refine below_drew ?_|refine gr_call ?_ VV|refine Below.setCell ?_ ?_ _)|go_size|omega|(simp;omega))
     ·clear h1 h2 h3
      refine ⟨?r4x0,?r4x1,?r4x2,?r4x3,?r4x4,?r4x5,?r4x6,?r4x7,?r4x8,?r4x9,?r4x10,?r4x11,?r4x12,?r4x13,?r4x14,?r4x15,?r4x16,?r4x17,?r4x18,?r4x19,?r4x20,?r4x21,trivial⟩
      all_goals intro _ aq wx Kq hf hS hdep ev1 ev2 hK
      case' r4x0=>
       have F1:aq.eval (.tmp 1)= .pointer (some ⟨w.heap.size,0,none⟩):=hf 1
      case' r4x1=>
       have D0:aq.eval (.tmp 26)=_:=hdep 0
       have c0:=hS.cells (⟨w.heap.size,0,none⟩,.int .i64 r.d) Vs
      case' r4x2=>
       have D1:aq.eval (.tmp 27)=_:=hdep 1
      case' r4x3=>
       have D2:aq.eval (.tmp 28)=_:=hdep 2
      case' r4x4=>
       have F1:aq.eval (.tmp 1)= .pointer (some ⟨w.heap.size,0,none⟩):=hf 1
      case' r4x5=>
       have D4:aq.eval (.tmp 30)=_:=hdep 4
       have c0:=hS.cells (⟨w.heap.size,1,none⟩,.int .i64 r.num) Vs
      case' r4x6=>
       have D5:aq.eval (.tmp 31)=_:=hdep 5
      case' r4x7=>
       have D3:aq.eval (.tmp 29)=_:=hdep 3
       have D6:aq.eval (.tmp 32)=_:=hdep 6
      case' r4x8=>
       have D7:aq.eval (.tmp 33)=_:=hdep 7
      case' r4x9=>
       have F6:aq.eval (.tmp 6)= .string { data:= #[45] } :=hf 6
      case' r4x10=>
       have D8:aq.eval (.tmp 34)=_:=hdep 8
       have D9:aq.eval (.tmp 35)=_:=hdep 9
      case' r4x11=>
       have D10:aq.eval (.tmp 36)=_:=hdep 10
      case' r4x12=>
       have F1:aq.eval (.tmp 1)= .pointer (some ⟨w.heap.size,0,none⟩):=hf 1
      case' r4x13=>
       have D12:aq.eval (.tmp 38)=_:=hdep 12
       have c0:=hS.cells (⟨w.heap.size,3,none⟩,.int .i64 r.ge) Vs
      case' r4x14=>
       have D13:aq.eval (.tmp 39)=_:=hdep 13
      case' r4x15=>
       have D11:aq.eval (.tmp 37)=_:=hdep 11
       have D14:aq.eval (.tmp 40)=_:=hdep 14
      case' r4x16=>
       have D15:aq.eval (.tmp 41)=_:=hdep 15
      case' r4x17=>
       have F1:aq.eval (.tmp 1)= .pointer (some ⟨w.heap.size,0,none⟩):=hf 1
      case' r4x18=>
       have D17:aq.eval (.tmp 43)=_:=hdep 17
       have c0:=hS.cells (⟨w.heap.size,4,none⟩,.int .i64 r.ex) Vs
      case' r4x19=>
       have D18:aq.eval (.tmp 44)=_:=hdep 18
      case' r4x20=>
       have D16:aq.eval (.tmp 42)=_:=hdep 16
       have D19:aq.eval (.tmp 45)=_:=hdep 19
      case' r4x21=>
       have D20:aq.eval (.tmp 46)=_:=hdep 20
      all_goals (clear hf hdep;unfold Oper.wp;generalize Act.eval _=ev at *;go_simp)
      case r4x2=>
       refine ((itoa_e r.d A1 _ VV (unhide HA1) ((unhide HTl).below hS.below))).mono ?_
       rintro e w2 ⟨rfl,hb⟩
       refine hK _ _ (hS.call hb) ?_ (fun j u _ h=>Kd.ok_below hb h)
       rw[if_pos VH]
       show (_:Value)=_
       first|rfl|(refine congrArg (Value.int .i64) ?_;first|rfl|exact int_in Vn|exact quo_in Vn Vn Vn|exact rem_in Vn Vn|omega)|(simp;done)|(simp [*];done)|exact vtx _ _|exact (vtx _ _).trans (congrArg (fun l=>Value.string (tx l)) Vs)
      case' r4x3=>
       rw[if_neg VU,Oper.upon_value]
      case r4x6=>
       refine ((itoa_e r.num A2 _ VV (unhide HA2) ((unhide HTl).below hS.below))).mono ?_
       rintro e w2 ⟨rfl,hb⟩
       refine hK _ _ (hS.call hb) ?_ (fun j u _ h=>Kd.ok_below hb h)
       rw[if_pos VH]
       show (_:Value)=_
       first|rfl|(refine congrArg (Value.int .i64) ?_;first|rfl|exact int_in Vn|exact quo_in Vn Vn Vn|exact rem_in Vn Vn|omega)|(simp;done)|(simp [*];done)|exact vtx _ _|exact (vtx _ _).trans (congrArg (fun l=>Value.string (tx l)) Vs)
      case' r4x7=>
       rw[if_neg VU,Oper.upon_value]
      case' r4x8=>
       rw[if_neg VU,Oper.upon_value]
      case' r4x10=>
       rw[if_neg VU,Oper.upon_value]
      case' r4x11=>
       rw[if_neg VU,Oper.upon_value]
      case r4x14=>
       refine ((itoa_e r.ge A3 _ VV (unhide HA3) ((unhide HTl).below hS.below))).mono ?_
       rintro e w2 ⟨rfl,hb⟩
       refine hK _ _ (hS.call hb) ?_ (fun j u _ h=>Kd.ok_below hb h)
       rw[if_pos VH]
       show (_:Value)=_
       first|rfl|(refine congrArg (Value.int .i64) ?_;first|rfl|exact int_in Vn|exact quo_in Vn Vn Vn|exact rem_in Vn Vn|omega)|(simp;done)|(simp [*];done)|exact vtx _ _|exact (vtx _ _).trans (congrArg (fun l=>Value.string (tx l)) Vs)
      case' r4x15=>
       rw[if_neg VU,Oper.upon_value]
      case' r4x16=>
       rw[if_neg VU,Oper.upon_value]
      case r4x19=>
       refine ((itoa_e r.ex A4 _ VV (unhide HA4) ((unhide HTl).below hS.below))).mono ?_
       rintro e w2 ⟨rfl,hb⟩
       refine hK _ _ (hS.call hb) ?_ (fun j u _ h=>Kd.ok_below hb h)
       rw[if_pos VH]
       show (_:Value)=_
       first|rfl|(refine congrArg (Value.int .i64) ?_;first|rfl|exact int_in Vn|exact quo_in Vn Vn Vn|exact rem_in Vn Vn|omega)|(simp;done)|(simp [*];done)|exact vtx _ _|exact (vtx _ _).trans (congrArg (fun l=>Value.string (tx l)) Vs)
      case' r4x20=>
       rw[if_neg VU,Oper.upon_value]
      all_goals (refine hK _ _ hS ?_ (fun j u _ h=>h);rw [if_pos VH];show (_:Value)=_;(first|rfl|(refine congrArg (Value.int .i64) ?_;first|rfl|exact int_in Vn|exact quo_in Vn Vn Vn|exact rem_in Vn Vn|omega)|(simp;done)|(simp [*];done)|exact vtx _ _|exact (vtx _ _).trans (congrArg (fun l=>Value.string (tx l)) Vs)))
     ·intro aq wx hd hw hf hS hg
      have G2:tau aq 2= .string (tx (A1++ [32]++A2++ [32]++ [45]++ [32]++A3++ [32]++A4)):=hg 21 VA
      have haq:aq=⟨#[tau aq 0,tau aq 1,tau aq 2,tau aq 3,tau aq 4,tau aq 5,tau aq 6,tau aq 7,tau aq 8,tau aq 9,tau aq 10,tau aq 11,tau aq 12,tau aq 13,tau aq 14,tau aq 15,tau aq 16,tau aq 17,tau aq 18,tau aq 19,tau aq 20,tau aq 21,tau aq 22,tau aq 23,tau aq 24,tau aq 25,tau aq 26,tau aq 27,tau aq 28,tau aq 29,tau aq 30,tau aq 31,tau aq 32,tau aq 33,tau aq 34,tau aq 35,tau aq 36,tau aq 37,tau aq 38,tau aq 39,tau aq 40,tau aq 41,tau aq 42,tau aq 43,tau aq 44,tau aq 45,tau aq 46],[]⟩:=by
       obtain ⟨tq,dq⟩:=aq
       have h5:=arr_eq (show tq.size=47 from hw)
       have h6:dq= []:=hd
       subst h6
       exact congrArg (fun z=>Act.mk z []) h5
      show K2 aq wx
      rw[haq,hf 0,hf 1,hf 3,hf 4,hf 5,hf 6,hf 7,hf 8,hf 9,hf 10,hf 11,hf 12,hf 13,hf 14,hf 15,hf 16,hf 17,hf 18,hf 19,hf 20,hf 21,hf 22,hf 23,hf 24,hf 25,G2]
      clear haq hf hd hw
      try dsimp only
      refine h3 _ _ ?_
      go_meet
      refine ⟨rfl,?_,?_,?_,?_,?_,hS.below⟩
      all_goals first|exact hS.cells (_,_) Vs|exact (hS.free _ Vs).2
    obtain ⟨rfl,c00,c01,c02,c03,c04,hb0⟩:=hcut
    have z0:=World.block_lt_of_cell? _ _ c00
    change w.heap.size<wc.heap.size at z0
    go_wp2
    go_ret
    exact ⟨by rw[unhide HE];rfl,hbl.trans (hb0.mono hzl)⟩
   ·have q1:1≤jx:=by omega
    have hci:(0:Int)<(((itL z jx).length:Nat):Int):=by have:=unhide HLn;omega
    have hJ:=join_it z jx q1
    have hlen:=unhide HFL
    obtain ⟨FL,hFL⟩: ∃l,fcS z jx=l:=⟨_,rfl⟩
    rw[hFL] at hJ hlen
    have HJ:=hide hJ
    clear hJ
    have HF:=hide hFL
    clear hFL
    go_wp2_with fail
    refine (join_sl _ _ a' _ c' (itL z jx) [44] FL hl (by have:=unhide HLn;omega) (by have:=unhide HLn;omega) (unhide HJ) Vn).mono ?_
    rintro e w2 ⟨rfl,hb2⟩
    have hcs9:=cells_calls hb2 [⟨w.heap.size,0,none⟩,⟨w.heap.size,1,none⟩,⟨w.heap.size,2,none⟩,⟨w.heap.size,3,none⟩,⟨w.heap.size,4,none⟩] [.int .i64 r.d,.int .i64 r.num,.slice a jx c,.int .i64 r.ge,.int .i64 r.ex] VI
    have hzs9:=blocks_calls hb2 [w.heap.size] VD
    try clear c00 c01 c02 c03 c04
    obtain ⟨c00,c01,c02,c03,c04,-⟩:=hcs9
    obtain ⟨z0,-⟩:=hzs9
    have hbl2:Below w.heap.size w w2:=hbl.trans (hb2.mono hzl)
    have hzl2:=hbl2.size
    clear hl hbl hzl hb2 hbz HJ HLn hci
    obtain ⟨wl2,rfl⟩: ∃wl2:World,wl2=w2:=⟨_,rfl⟩
    have hbl:=hbl2
    have hzl:=hzl2
    clear hbl2 hzl2
    skip
    have HE:Hid (rwT r jx z=A1++ [32]++A2++ [32]++FL++ [32]++A3++ [32]++A4):=hide (by unfold rwT;rw [unhide HA1,unhide HA2,unhide HA3,unhide HA4,unhide HF])
    have HTl:Hid (Tab wl2):=hide ((unhide HT).below hbl)
    go_upto_region 10 with fail
    go_cut [2] (fun s2 wx=>s2= .string (tx (A1++ [32]++A2++ [32]++FL++ [32]++A3++ [32]++A4))∧wx.cell? ⟨w.heap.size,0,none⟩=some (.int .i64 r.d)∧wx.cell? ⟨w.heap.size,1,none⟩=some (.int .i64 r.num)∧wx.cell? ⟨w.heap.size,2,none⟩=some (.slice a jx c)∧wx.cell? ⟨w.heap.size,3,none⟩=some (.int .i64 r.ge)∧wx.cell? ⟨w.heap.size,4,none⟩=some (.int .i64 r.ex)∧Below wl2.heap.size wl2 wx)
    case first=>
     have h1:=trivial
     rename_i K2 h2 h3
     refine region_n0 Vw (fun j=> #[26,27,28,29,30,31,32,33,34,35,36,37,38,39,40,41,42,43,44,45,46,2].getD j 0) (fun j=>Kd.ok ((fun j=>match j with|0=>Kd.val (.pointer (some ⟨w.heap.size,0,none⟩))|1=>Kd.val (.int .i64 (r.d))|2=>Kd.val (.string (tx A1))|3=>Kd.val (.string (tx (A1++ [32])))|4=>Kd.val (.pointer (some ⟨w.heap.size,1,none⟩))|5=>Kd.val (.int .i64 (r.num))|6=>Kd.val (.string (tx A2))|7=>Kd.val (.string (tx (A1++ [32]++A2)))|8=>Kd.val (.string (tx (A1++ [32]++A2++ [32])))|9=>Kd.val (.string (tx FL))|10=>Kd.val (.string (tx (A1++ [32]++A2++ [32]++FL)))|11=>Kd.val (.string (tx (A1++ [32]++A2++ [32]++FL++ [32])))|12=>Kd.val (.pointer (some ⟨w.heap.size,3,none⟩))|13=>Kd.val (.int .i64 (r.ge))|14=>Kd.val (.string (tx A3))|15=>Kd.val (.string (tx (A1++ [32]++A2++ [32]++FL++ [32]++A3)))|16=>Kd.val (.string (tx (A1++ [32]++A2++ [32]++FL++ [32]++A3++ [32])))|17=>Kd.val (.pointer (some ⟨w.heap.size,4,none⟩))|18=>Kd.val (.int .i64 (r.ex))|19=>Kd.val (.string (tx A4))|20=>Kd.val (.string (tx (A1++ [32]++A2++ [32]++FL++ [32]++A3++ [32]++A4)))|21=>Kd.val (.string (tx (A1++ [32]++A2++ [32]++FL++ [32]++A3++ [32]++A4)))|_=>Kd.any:Nat→Kd) j)) (Sy wl2 (wl2.heap.size) [(⟨w.heap.size,0,none⟩,.int .i64 r.d),(⟨w.heap.size,1,none⟩,.int .i64 r.num),(⟨w.heap.size,2,none⟩,.slice a jx c),(⟨w.heap.size,3,none⟩,.int .i64 r.ge),(⟨w.heap.size,4,none⟩,.int .i64 r.ex)] []) Vw Vw ?_ ?_ ?_ ?_
     ·intro j hj
      have hj2:j<22:=hj
      have: ∀j,j<22→(#[26,27,28,29,30,31,32,33,34,35,36,37,38,39,40,41,42,43,44,45,46,2]:Array Nat).getD j 0<47:=by decide
      exact this j hj2
     ·refine Sy.drew (Sy.mk_of ?_ ?_ ?_ ?_)
      ·first|rfl|(simp;done)|(simp;omega)
      ·intro c hc
       simp only[List.mem_cons,List.not_mem_nil,or_false] at hc
       rcases hc with rfl|rfl|rfl|rfl|rfl<;>exact byCT
      ·intro p hp;cases hp
      ·(repeat' first|with_reducible (first|exact Below.refl _ _|assumption|refine gr_alloc ?_ _|refine below_drewN ?_ _|refine below_drew ?_|refine gr_call ?_ VV|refine Below.setCell ?_ ?_ _)|go_size|omega|(simp;omega))
     ·clear h1 h2 h3
      refine ⟨?r5x0,?r5x1,?r5x2,?r5x3,?r5x4,?r5x5,?r5x6,?r5x7,?r5x8,?r5x9,?r5x10,?r5x11,?r5x12,?r5x13,?r5x14,?r5x15,?r5x16,?r5x17,?r5x18,?r5x19,?r5x20,?r5x21,trivial⟩
      all_goals intro _ aq wx Kq hf hS hdep ev1 ev2 hK
      case' r5x0=>
       have F1:aq.eval (.tmp 1)= .pointer (some ⟨w.heap.size,0,none⟩):=hf 1
      case' r5x1=>
       have D0:aq.eval (.tmp 26)=_:=hdep 0
       have c0:=hS.cells (⟨w.heap.size,0,none⟩,.int .i64 r.d) Vs
      case' r5x2=>
       have D1:aq.eval (.tmp 27)=_:=hdep 1
      case' r5x3=>
       have D2:aq.eval (.tmp 28)=_:=hdep 2
      case' r5x4=>
       have F1:aq.eval (.tmp 1)= .pointer (some ⟨w.heap.size,0,none⟩):=hf 1
      case' r5x5=>
       have D4:aq.eval (.tmp 30)=_:=hdep 4
       have c0:=hS.cells (⟨w.heap.size,1,none⟩,.int .i64 r.num) Vs
      case' r5x6=>
       have D5:aq.eval (.tmp 31)=_:=hdep 5
      case' r5x7=>
       have D3:aq.eval (.tmp 29)=_:=hdep 3
       have D6:aq.eval (.tmp 32)=_:=hdep 6
      case' r5x8=>
       have D7:aq.eval (.tmp 33)=_:=hdep 7
      case' r5x9=>
       have F6:aq.eval (.tmp 6)= .string (tx FL):=hf 6
      case' r5x10=>
       have D8:aq.eval (.tmp 34)=_:=hdep 8
       have D9:aq.eval (.tmp 35)=_:=hdep 9
      case' r5x11=>
       have D10:aq.eval (.tmp 36)=_:=hdep 10
      case' r5x12=>
       have F1:aq.eval (.tmp 1)= .pointer (some ⟨w.heap.size,0,none⟩):=hf 1
      case' r5x13=>
       have D12:aq.eval (.tmp 38)=_:=hdep 12
       have c0:=hS.cells (⟨w.heap.size,3,none⟩,.int .i64 r.ge) Vs
      case' r5x14=>
       have D13:aq.eval (.tmp 39)=_:=hdep 13
      case' r5x15=>
       have D11:aq.eval (.tmp 37)=_:=hdep 11
       have D14:aq.eval (.tmp 40)=_:=hdep 14
      case' r5x16=>
       have D15:aq.eval (.tmp 41)=_:=hdep 15
      case' r5x17=>
       have F1:aq.eval (.tmp 1)= .pointer (some ⟨w.heap.size,0,none⟩):=hf 1
      case' r5x18=>
       have D17:aq.eval (.tmp 43)=_:=hdep 17
       have c0:=hS.cells (⟨w.heap.size,4,none⟩,.int .i64 r.ex) Vs
      case' r5x19=>
       have D18:aq.eval (.tmp 44)=_:=hdep 18
      case' r5x20=>
       have D16:aq.eval (.tmp 42)=_:=hdep 16
       have D19:aq.eval (.tmp 45)=_:=hdep 19
      case' r5x21=>
       have D20:aq.eval (.tmp 46)=_:=hdep 20
      all_goals (clear hf hdep;unfold Oper.wp;generalize Act.eval _=ev at *;go_simp)
      case r5x2=>
       refine ((itoa_e r.d A1 _ VV (unhide HA1) ((unhide HTl).below hS.below))).mono ?_
       rintro e w2 ⟨rfl,hb⟩
       refine hK _ _ (hS.call hb) ?_ (fun j u _ h=>Kd.ok_below hb h)
       rw[if_pos VH]
       show (_:Value)=_
       first|rfl|(refine congrArg (Value.int .i64) ?_;first|rfl|exact int_in Vn|exact quo_in Vn Vn Vn|exact rem_in Vn Vn|omega)|(simp;done)|(simp [*];done)|exact vtx _ _|exact (vtx _ _).trans (congrArg (fun l=>Value.string (tx l)) Vs)
      case' r5x3=>
       rw[if_neg VU,Oper.upon_value]
      case r5x6=>
       refine ((itoa_e r.num A2 _ VV (unhide HA2) ((unhide HTl).below hS.below))).mono ?_
       rintro e w2 ⟨rfl,hb⟩
       refine hK _ _ (hS.call hb) ?_ (fun j u _ h=>Kd.ok_below hb h)
       rw[if_pos VH]
       show (_:Value)=_
       first|rfl|(refine congrArg (Value.int .i64) ?_;first|rfl|exact int_in Vn|exact quo_in Vn Vn Vn|exact rem_in Vn Vn|omega)|(simp;done)|(simp [*];done)|exact vtx _ _|exact (vtx _ _).trans (congrArg (fun l=>Value.string (tx l)) Vs)
      case' r5x7=>
       rw[if_neg VU,Oper.upon_value]
      case' r5x8=>
       rw[if_neg VU,Oper.upon_value]
      case' r5x10=>
       rw[if_neg VU,Oper.upon_value]
      case' r5x11=>
       rw[if_neg VU,Oper.upon_value]
      case r5x14=>
       refine ((itoa_e r.ge A3 _ VV (unhide HA3) ((unhide HTl).below hS.below))).mono ?_
       rintro e w2 ⟨rfl,hb⟩
       refine hK _ _ (hS.call hb) ?_ (fun j u _ h=>Kd.ok_below hb h)
       rw[if_pos VH]
       show (_:Value)=_
       first|rfl|(refine congrArg (Value.int .i64) ?_;first|rfl|exact int_in Vn|exact quo_in Vn Vn Vn|exact rem_in Vn Vn|omega)|(simp;done)|(simp [*];done)|exact vtx _ _|exact (vtx _ _).trans (congrArg (fun l=>Value.string (tx l)) Vs)
      case' r5x15=>
       rw[if_neg VU,Oper.upon_value]
      case' r5x16=>
       rw[if_neg VU,Oper.upon_value]
      case r5x19=>
       refine ((itoa_e r.ex A4 _ VV (unhide HA4) ((unhide HTl).below hS.below))).mono ?_
       rintro e w2 ⟨rfl,hb⟩
       refine hK _ _ (hS.call hb) ?_ (fun j u _ h=>Kd.ok_below hb h)
       rw[if_pos VH]
       show (_:Value)=_
       first|rfl|(refine congrArg (Value.int .i64) ?_;first|rfl|exact int_in Vn|exact quo_in Vn Vn Vn|exact rem_in Vn Vn|omega)|(simp;done)|(simp [*];done)|exact vtx _ _|exact (vtx _ _).trans (congrArg (fun l=>Value.string (tx l)) Vs)
      case' r5x20=>
       rw[if_neg VU,Oper.upon_value]
      all_goals (refine hK _ _ hS ?_ (fun j u _ h=>h);rw [if_pos VH];show (_:Value)=_;(first|rfl|(refine congrArg (Value.int .i64) ?_;first|rfl|exact int_in Vn|exact quo_in Vn Vn Vn|exact rem_in Vn Vn|omega)|(simp;done)|(simp [*];done)|exact vtx _ _|exact (vtx _ _).trans (congrArg (fun l=>Value.string (tx l)) Vs)))
     ·intro aq wx hd hw hf hS hg
      have G2:tau aq 2= .string (tx (A1++ [32]++A2++ [32]++FL++ [32]++A3++ [32]++A4)):=hg 21 VA
      have haq:aq=⟨#[tau aq 0,tau aq 1,tau aq 2,tau aq 3,tau aq 4,tau aq 5,tau aq 6,tau aq 7,tau aq 8,tau aq 9,tau aq 10,tau aq 11,tau aq 12,tau aq 13,tau aq 14,tau aq 15,tau aq 16,tau aq 17,tau aq 18,tau aq 19,tau aq 20,tau aq 21,tau aq 22,tau aq 23,tau aq 24,tau aq 25,tau aq 26,tau aq 27,tau aq 28,tau aq 29,tau aq 30,tau aq 31,tau aq 32,tau aq 33,tau aq 34,tau aq 35,tau aq 36,tau aq 37,tau aq 38,tau aq 39,tau aq 40,tau aq 41,tau aq 42,tau aq 43,tau aq 44,tau aq 45,tau aq 46],[]⟩:=by
       obtain ⟨tq,dq⟩:=aq
       have h5:=arr_eq (show tq.size=47 from hw)
       have h6:dq= []:=hd
       subst h6
       exact congrArg (fun z=>Act.mk z []) h5
      show K2 aq wx
      rw[haq,hf 0,hf 1,hf 3,hf 4,hf 5,hf 6,hf 7,hf 8,hf 9,hf 10,hf 11,hf 12,hf 13,hf 14,hf 15,hf 16,hf 17,hf 18,hf 19,hf 20,hf 21,hf 22,hf 23,hf 24,hf 25,G2]
      clear haq hf hd hw
      try dsimp only
      refine h3 _ _ ?_
      go_meet
      refine ⟨rfl,?_,?_,?_,?_,?_,hS.below⟩
      all_goals first|exact hS.cells (_,_) Vs|exact (hS.free _ Vs).2
    obtain ⟨rfl,c00,c01,c02,c03,c04,hb0⟩:=hcut
    have z0:=World.block_lt_of_cell? _ _ c00
    change w.heap.size<wc.heap.size at z0
    go_wp2
    go_ret
    exact ⟨by rw[unhide HE];rfl,hbl.trans (hb0.mono hzl)⟩

end Go.Proofs.YtobkcnmlmmhpoaaGreatDoor
