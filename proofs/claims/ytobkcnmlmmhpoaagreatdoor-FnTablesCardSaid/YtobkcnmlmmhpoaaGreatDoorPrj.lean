/- integersIn. eqRow, markRow, heldRow. RowText on both sides. ParseRow, impl. ParseRow, impl.: the ends. -/
import Derived.Test.YtobkcnmlmmhpoaaGreatDoorEnv
import Derived.Test.YtobkcnmlmmhpoaaGreatDoorRwo
import Derived.Test.YtobkcnmlmmhpoaaGreatDoorStrL
import Derived.Test.YtobkcnmlmmhpoaaGreatDoorConv
import Derived.Test.YtobkcnmlmmhpoaaGreatDoorRtx
import Derived.Deep.RegionHeld3
set_option maxRecDepth 100000
set_option maxHeartbeats 80000000
namespace Go.Proofs.YtobkcnmlmmhpoaaGreatDoor
open Go.RowKit
set_option linter.unusedVariables false
set_option linter.unusedSimpArgs false
attribute [local go_sem] q2 q3 q4 q5 q6 q7 q8 q9 q10 q11 q12

theorem integersIn_a (s:ByteArray) (hs:s.size≤9000000) (w:World) (hE:Env w):Calls Tryz.prog 40 #[.string s] w (RetIL w (iiL s)):=by
 have HF:Hid (∀W,Calls Tryz.prog 64 #[.string s,.func (.func 65) #[] #[]] W fun e w'=> ∃A,e= .returned (.slice (some ⟨A,0,none⟩) (Lib.goFieldsP nmP s).length (Lib.goFieldsP nmP s).length)∧SL w' W.heap.size (.slice (some ⟨A,0,none⟩) (Lib.goFieldsP nmP s).length (Lib.goFieldsP nmP s).length) (Lib.goFieldsP nmP s)∧Below W.heap.size W w'):=hide fun W=>fields_a s Vn W
 have hlen:=fields_len nmP s
 have HM:=hide (fields_sz s)
 have HV:Hid (iiL s=if (Lib.goFieldsP nmP s).all iiOk then (Lib.goFieldsP nmP s).map iiV else []):=hide rfl
 have HE:=hide hE
 clear hE
 generalize Lib.goFieldsP nmP s=zs at*
 generalize iiL s=R at*
 go_enter Tryz.func40,Tryz.ntmps40
 go_wp2_with (go_at_call 64;refine ((unhide HF) _).mono ?_;rintro e wA ⟨A,rfl,hlA,hbA⟩)
 have hS:StrsAt wA (w.heap.size+1) wA.heap.size (some ⟨A,0,none⟩) zs.length (fun i=>zs.getD i ⟨#[]⟩):=by have:=hlA.strs.2;simpa using this
 have hsd:=SI.startM (S:=srcStr (w.heap.size+1) wA.heap.size (some ⟨A,0,none⟩) zs.length (fun i=>zs.getD i ⟨#[]⟩)) hbA hS (Nat.le_refl _)
 have hK:=strs_kept (LO:=w.heap.size+1) (HI:=wA.heap.size) (n:=zs.length) (a:=some ⟨A,0,none⟩) (f:=fun i=>zs.getD i ⟨#[]⟩)
 obtain ⟨HI,hHI⟩: ∃HI,wA.heap.size=HI:=⟨_,rfl⟩
 rw[hHI] at hsd hK hS
 clear hlA hS
 go_loopw [3,12] (fun ls is wr=> ∃(k n9 c:Nat) (a:Option Addr) (l:List Int),is= .int .i64 (k:Int)∧ls= .slice a n9 c∧k≤zs.length∧n9≤k∧Hid (l=(zs.take k).map iiV)∧Hid ((zs.take k).all iiOk=true)∧SI w (w.heap.size+1) HI (srcStr (w.heap.size+1) HI (some ⟨A,0,none⟩) zs.length (fun i=>zs.getD i ⟨#[]⟩)) wr a n9 c l) (fun _ is _=>zs.length-(intOf is).toNat)
 case atStart=>exact ⟨0,0,0,_,_,rfl,rfl,Vn,Vn,hide rfl,hide rfl,hsd⟩
 case round=>
  clear hsd hbA
  obtain ⟨k,n9,c,a,l,rfl,rfl,hk,hnk,hl,hall,hsd⟩:=hrel
  obtain ⟨w1,rfl⟩: ∃w1:World,w1=wr:=⟨_,rfl⟩
  have hz:=hsd.sd.bel.size
  have hln:=hsd.len
  have hlb:l.length≤30000000:=by have:=unhide hln;omega
  by_cases c9:k<zs.length
  ·have hci:(k:Int)<(zs.length:Int):=by omega
   obtain ⟨g0,hg0,hg2,d0⟩:=StrsAt.cell hsd.sd.src c9
   have hx:=(unhide HM) _ (gdm (d:=⟨#[]⟩) c9)
   have ht:zs.take (k+1)=zs.take k++ [zs.getD k ⟨#[]⟩]:=by rw[List.take_succ_eq_append_getElem c9,List.getD_eq_getElem?_getD,List.getElem?_eq_getElem c9];rfl
   have hm9:=gdm (d:=(⟨#[]⟩:ByteArray)) c9
   obtain ⟨x,hxx⟩: ∃x,zs.getD k ⟨#[]⟩=x:=⟨_,rfl⟩
   rw[hxx] at d0 hx ht hm9
   injection hg0 with hg0
   injection hg0 with hg0
   subst hg0
   have hx2:x.size≤9000000:=by omega
   have HEw:=hide ((unhide HE).below hsd.sd.bel)
   cases cp:iiOk x
   ·have HA:Hid (∀W,Below w.heap.size w W→Calls Tryz.prog 66 #[.string x] W fun e w'=> ∃(x:Int) (T N:Nat),e= .returned (.tuple #[.int .i64 x,.iface T (.pointer (some ⟨N,0,none⟩))])∧Below W.heap.size W w'):=hide fun W hb=>atoi_no x hx2 W ((unhide HE).below hb) cp
    have NO:Hid (R= []):=hide (by
     rw[unhide HV,if_neg]
     intro h9
     rw[List.all_eq_true] at h9
     have:=h9 _ hm9
     rw[cp] at this;cases this)
    clear cp hxx ht
    go_wp2_with (go_at_call 66;refine ((unhide HA) _ (by first|exact hsd.sd.bel|exact byGG)).mono ?_;rintro e w2 ⟨x9,T9,N9,rfl,hb2⟩;have hs2:=hsd.call hK hb2;have hz2:=hs2.sd.bel.size)
    go_ret
    refine ⟨some ⟨w2.heap.size,0,none⟩,0,by rw[unhide NO];rfl,?_,hs2.sd.bel.trans ((below_alloc_self w2 _).mono hz2)⟩
    rw[unhide NO]
    exact IL.made w2 w.heap.size hz2
   ·have HA:Hid (∀W,Calls Tryz.prog 66 #[.string x] W fun e w'=>e= .returned (.tuple #[.int .i64 (iiV x),.nilIface])∧Below W.heap.size W w'):=hide fun W=>atoi_ok x hx2 W cp
    have YES:Hid (l++ [iiV x]=(zs.take (k+1)).map iiV):=hide (by rw[unhide hl,ht,List.map_append];rfl)
    have ALL:Hid ((zs.take (k+1)).all iiOk=true):=hide (by rw[ht,List.all_append,unhide hall];simp [cp])
    clear cp hxx ht
    generalize iiV x=v at*
    go_wp2_with (first|(go_at_call 66;refine ((unhide HA) _).mono ?_;rintro e w2 ⟨rfl,hb2⟩;have hs2:=hsd.call hK hb2;have hz2:=hs2.sd.bel.size)|(at_builtin;refine app_int _ rfl (.tmp 24) (.tmp 26) rfl w.heap.size (.slice a n9 c) l v w2.heap.size rfl rfl (hs2.alloc hK _).il VB Vn VW ?_;intro g cap w3 hown hgrow hat hlt))
    go_roundw
    case rel=>
     have hs3:=(hs2.alloc hK _).app hK hown hgrow hat
     exact ⟨k+1,l.length+1,cap,some ⟨g,0,none⟩,_,by go_num,rfl,Vn,by have:=unhide hln;omega,YES,ALL,hs3⟩
    case measure=>simp [intOf];omega
  ·obtain rfl:k=zs.length:=by omega
   have hR:l=R:=by
    have h1:=unhide hall
    have h2:=unhide hl
    rw[List.take_length] at h1 h2
    rw[h2,unhide HV,if_pos h1]
   go_wp2
   go_ret
   exact hsd.ret hR rfl
end Go.Proofs.YtobkcnmlmmhpoaaGreatDoor
namespace Go.Proofs.YtobkcnmlmmhpoaaGreatDoor
open Go.RowKit
set_option linter.unusedVariables false
set_option linter.unusedSimpArgs false
attribute [local go_sem] q2 q3 q4 q5 q6 q7 q8 q9 q10 q11 q12

def RetRowB (w:World) (r:RowV) (n:Nat) (f:Nat→Int) (ok:Bool) (e:Ending) (w':World):Prop:=
 ∃a c,e= .returned (.tuple #[rwv r (.slice a n c),.bool ok])∧IntsAt w' w.heap.size w'.heap.size a n f∧Below w.heap.size w w'
end Go.Proofs.YtobkcnmlmmhpoaaGreatDoor
namespace Go.Proofs.YtobkcnmlmmhpoaaGreatDoor
open Go.RowKit
set_option linter.unusedVariables false
set_option linter.unusedSimpArgs false
attribute [local go_sem] q2 q3 q4 q5 q6 q7 q8 q9 q10 q11 q12

def rtL (r:RowV) (n:Nat) (z:Nat→Int):List UInt8:=if rwB r n z then rwT r n z else []
theorem rw_all {r:RowV} {n:Nat} {z:Nat→Int} (h:rwB r n z=true):(∀i,i<n→0≤z i∧z i≤9223372036854775807)∧0≤r.num∧0≤r.ge∧0≤r.ex∧ -9223372036854775807≤r.d:=by
 unfold rwB at h
 rw[Bool.and_eq_true,Bool.and_eq_true,Bool.and_eq_true,Bool.and_eq_true,decide_eq_true_eq] at h
 obtain ⟨h1,h2,h3,h4,h5⟩:=h
 have:=inB_true h4
 have:=inB_true h5
 have:=neg_true h2
 have:=ch_val h1
 exact ⟨fun i hi=>by have:=ch_each h1 i hi;omega,Vn,Vn,Vn,Vn⟩

theorem implRowText (r:RowV) (v:Value) (n:Nat) (z:Nat→Int) (w:World) (h:ArgI w v n z) (hn:n≤2000000) (hr:RowOk r) (ht:Tab w):
  Calls Tryz.prog 13 #[rwv r v] w fun e w'=>e= .returned (.tuple #[.string (tx (rtL r n z)),.bool (rwB r n z)])∧Below w.heap.size w w':=by
 have HA:Hid (ArgI (w.alloc (.cells #[.int .i64 r.d,.int .i64 r.num,v,.int .i64 r.ge,.int .i64 r.ex] 31)) v n z):=hide (h.below (below_alloc_self _ _))
 have HR:=hide hr
 have HT:=hide ht
 clear h hr ht
 cases k:rwB r n z
 ·have HL:Hid (rtL r n z= []):=hide (by simp [rtL,k])
  have HK:=hide k
  clear k
  go_enter Tryz.func13,Tryz.ntmps13
  go_wp2_with fail
  refine (isRow_a r v n z _ (unhide HA) hn (unhide HR)).mono ?_
  rintro e w1 ⟨rfl,hb⟩
  have hcs9:=cells_calls hb [⟨w.heap.size,0,none⟩,⟨w.heap.size,1,none⟩,⟨w.heap.size,2,none⟩,⟨w.heap.size,3,none⟩,⟨w.heap.size,4,none⟩] [.int .i64 r.d,.int .i64 r.num,v,.int .i64 r.ge,.int .i64 r.ex] VI
  have hzs9:=blocks_calls hb [w.heap.size] VD
  try clear c00 c01 c02 c03 c04
  obtain ⟨c00,c01,c02,c03,c04,-⟩:=hcs9
  obtain ⟨z0,-⟩:=hzs9
  rw[unhide HK]
  go_wp2
  go_ret2
  exact ⟨by rw[unhide HL];rfl,byGG⟩
 ·have HW:=hide (rw_all k)
  have HL:Hid (rtL r n z=rwT r n z):=hide (by simp [rtL,k])
  have HK:=hide k
  clear k
  go_enter Tryz.func13,Tryz.ntmps13
  go_wp2_with fail
  refine (isRow_a r v n z _ (unhide HA) hn (unhide HR)).mono ?_
  rintro e w1 ⟨rfl,hb⟩
  have hcs9:=cells_calls hb [⟨w.heap.size,0,none⟩,⟨w.heap.size,1,none⟩,⟨w.heap.size,2,none⟩,⟨w.heap.size,3,none⟩,⟨w.heap.size,4,none⟩] [.int .i64 r.d,.int .i64 r.num,v,.int .i64 r.ge,.int .i64 r.ex] VI
  have hzs9:=blocks_calls hb [w.heap.size] VD
  try clear c00 c01 c02 c03 c04
  obtain ⟨c00,c01,c02,c03,c04,-⟩:=hcs9
  obtain ⟨z0,-⟩:=hzs9
  rw[unhide HK]
  have hg1:Below w.heap.size w w1:=byGG
  go_wp2_with fail
  refine (rowText_a r v n z _ ((unhide HA).below hb) hn (unhide HR) (unhide HW).1 ((unhide HT).below byGG)).mono ?_
  rintro e w2 ⟨rfl,hb2⟩
  go_wp2
  go_ret2
  exact ⟨by rw[unhide HL];rfl,hg1.trans (hb2.mono hg1.size)⟩

end Go.Proofs.YtobkcnmlmmhpoaaGreatDoor
namespace Go.Proofs.YtobkcnmlmmhpoaaGreatDoor
open Go.RowKit
set_option linter.unusedVariables false
set_option linter.unusedSimpArgs false
attribute [local go_sem] q2 q3 q4 q5 q6 q7 q8 q9 q10 q11 q12

theorem implPr_1 (s:ByteArray) (n:Nat) (w:World) (h5:((n:Int) != 5)=true) (HS:Hid (∀W,Below w.heap.size w W→Calls Tryz.prog 39 #[.string s,.string (tx [32])] W fun e w'=>e= .returned (.slice (some ⟨W.heap.size,0,none⟩) n n)∧Below W.heap.size W w'∧True)):
  Calls Tryz.prog 14 #[.string s] w (RetRowB w ⟨0,0,0,0⟩ 0 (fun _=>0) false):=by
 go_enter Tryz.func14,Tryz.ntmps14
 go_wp2_with fail
 refine ((unhide HS) _ byGG).mono ?_
 rintro e w1 ⟨rfl,hb1,hc1⟩
 have hcs9:=cells_calls hb1 [⟨w.heap.size,0,none⟩,⟨w.heap.size,1,none⟩,⟨w.heap.size,2,none⟩,⟨w.heap.size,3,none⟩,⟨w.heap.size,4,none⟩] [.int .i64 0,.int .i64 0,.slice none 0 0,.int .i64 0,.int .i64 0] VI
 have hfs9:=frees_calls hb1 [⟨w.heap.size,0,none⟩,⟨w.heap.size,1,none⟩,⟨w.heap.size,2,none⟩,⟨w.heap.size,3,none⟩,⟨w.heap.size,4,none⟩] VF VM
 have hzs9:=blocks_calls hb1 [w.heap.size] VD
 try clear c00 c01 c02 c03 c04 f00 f01 f02 f03 f04
 obtain ⟨c00,c01,c02,c03,c04,-⟩:=hcs9
 obtain ⟨f00,f01,f02,f03,f04,-⟩:=hfs9
 obtain ⟨z0,-⟩:=hzs9
 have s1:=hb1.size
 go_wp2
 refine bodyPost_ret (v:= .tuple #[rwv ⟨0,0,0,0⟩ (.slice none 0 0),.bool false]) VY rfl ?_
 exact ⟨none,0,rfl,.inl rfl,byGG⟩
end Go.Proofs.YtobkcnmlmmhpoaaGreatDoor
namespace Go.Proofs.YtobkcnmlmmhpoaaGreatDoor
open Go.RowKit
set_option linter.unusedVariables false
set_option linter.unusedSimpArgs false
attribute [local go_sem] q2 q3 q4 q5 q6 q7 q8 q9 q10 q11 q12

theorem implPr_2 (s x0 x1 x2 x3 x4:ByteArray) (n:Nat) (w:World) (h4:((n:Int) != 4)=true) (b0:x0.size≤2000000) (b1:x1.size≤2000000) (b3:x3.size≤2000000) (b4:x4.size≤2000000) (HS:Hid (∀W,Below w.heap.size w W→Calls Tryz.prog 39 #[.string s,.string (tx [32])] W fun e w'=>e= .returned (.slice (some ⟨W.heap.size,0,none⟩) 5 5)∧Below W.heap.size W w'∧SL w' W.heap.size (.slice (some ⟨W.heap.size,0,none⟩) 5 5) [x0,x1,x2,x3,x4]))
  (HE:Hid (∀W,Below w.heap.size w W→Calls Tryz.prog 40 #[.string (x0++tx [32]++x1++tx [32]++x3++tx [32]++x4)] W fun e w'=> ∃a c,e= .returned (.slice a n c)∧Below W.heap.size W w')):
  Calls Tryz.prog 14 #[.string s] w (RetRowB w ⟨0,0,0,0⟩ 0 (fun _=>0) false):=by
 have k0: ¬9223372036854775807<x0.size+1:=by omega
 have k1: ¬9223372036854775807<x0.size+1+x1.size:=by omega
 have k2: ¬9223372036854775807<x0.size+1+x1.size+1:=by omega
 have k3: ¬9223372036854775807<x0.size+1+x1.size+1+x3.size:=by omega
 have k4: ¬9223372036854775807<x0.size+1+x1.size+1+x3.size+1:=by omega
 have k5: ¬9223372036854775807<x0.size+1+x1.size+1+x3.size+1+x4.size:=by omega
 go_enter Tryz.func14,Tryz.ntmps14
 go_wp2_with fail
 refine ((unhide HS) _ byGG).mono ?_
 rintro e w1 ⟨rfl,hb1,hc1⟩
 have hcs9:=cells_calls hb1 [⟨w.heap.size,0,none⟩,⟨w.heap.size,1,none⟩,⟨w.heap.size,2,none⟩,⟨w.heap.size,3,none⟩,⟨w.heap.size,4,none⟩] [.int .i64 0,.int .i64 0,.slice none 0 0,.int .i64 0,.int .i64 0] VI
 have hfs9:=frees_calls hb1 [⟨w.heap.size,0,none⟩,⟨w.heap.size,1,none⟩,⟨w.heap.size,2,none⟩,⟨w.heap.size,3,none⟩,⟨w.heap.size,4,none⟩] VF VM
 have hzs9:=blocks_calls hb1 [w.heap.size] VD
 try clear c00 c01 c02 c03 c04 f00 f01 f02 f03 f04
 obtain ⟨c00,c01,c02,c03,c04,-⟩:=hcs9
 obtain ⟨f00,f01,f02,f03,f04,-⟩:=hfs9
 obtain ⟨z0,-⟩:=hzs9
 have s1:=hb1.size
 have hcs:=hc1.strs.2
 have sg: ∀k,k<5→w1.cell? ⟨w.heap.size+1,k,none⟩=some (.string (([x0,x1,x2,x3,x4]:List ByteArray).getD k ⟨#[]⟩)):=by
  intro k hk
  obtain ⟨g,hg,_,hq⟩:=StrsAt.cell hcs (show k< [x0,x1,x2,x3,x4].length from hk)
  injection hg with hg
  injection hg with hg
  subst hg
  simpa using hq
 have d0:w1.cell? ⟨w.heap.size+1,0,none⟩=some (.string x0):=sg 0 VA
 have d1:w1.cell? ⟨w.heap.size+1,1,none⟩=some (.string x1):=sg 1 VA
 have d2:w1.cell? ⟨w.heap.size+1,2,none⟩=some (.string x2):=sg 2 VA
 have d3:w1.cell? ⟨w.heap.size+1,3,none⟩=some (.string x3):=sg 3 VA
 have d4:w1.cell? ⟨w.heap.size+1,4,none⟩=some (.string x4):=sg 4 VA
 clear sg hcs hc1
 go_wp2_with fail
 go_region_held3 (fun W=>W.cell? ⟨w.heap.size+1,0,none⟩=some (.string x0)∧W.cell? ⟨w.heap.size+1,1,none⟩=some (.string x1)∧W.cell? ⟨w.heap.size+1,3,none⟩=some (.string x3)∧W.cell? ⟨w.heap.size+1,4,none⟩=some (.string x4)) (first|exact ⟨d0,d1,d3,d4⟩|go_keep) (first|(go_at_call 40;refine ((unhide HE) _ (by first|exact byGG)).mono ?_;rintro e w2 ⟨a2,c2,rfl,hb2⟩;have d0:=cell_call hb2 (a:=⟨w.heap.size+1,0,none⟩) (v:= .string x0) Vq;have d1:=cell_call hb2 (a:=⟨w.heap.size+1,1,none⟩) (v:= .string x1) Vq;have d3:=cell_call hb2 (a:=⟨w.heap.size+1,3,none⟩) (v:= .string x3) Vq;have d4:=cell_call hb2 (a:=⟨w.heap.size+1,4,none⟩) (v:= .string x4) Vq))
 all_goals
  have hcs9:=cells_calls hb2 [⟨w.heap.size,0,none⟩,⟨w.heap.size,1,none⟩,⟨w.heap.size,2,none⟩,⟨w.heap.size,3,none⟩,⟨w.heap.size,4,none⟩] [.int .i64 0,.int .i64 0,.slice none 0 0,.int .i64 0,.int .i64 0] VI
  have hfs9:=frees_calls hb2 [⟨w.heap.size,0,none⟩,⟨w.heap.size,1,none⟩,⟨w.heap.size,2,none⟩,⟨w.heap.size,3,none⟩,⟨w.heap.size,4,none⟩] VF VM
  have hzs9:=blocks_calls hb2 [w.heap.size] VD
  try clear c00 c01 c02 c03 c04 f00 f01 f02 f03 f04
  obtain ⟨c00,c01,c02,c03,c04,-⟩:=hcs9
  obtain ⟨f00,f01,f02,f03,f04,-⟩:=hfs9
  obtain ⟨z0,-⟩:=hzs9
  have s2:=hb2.size
  go_wp2
  refine bodyPost_ret (v:= .tuple #[rwv ⟨0,0,0,0⟩ (.slice none 0 0),.bool false]) VY rfl ?_
  exact ⟨none,0,rfl,.inl rfl,byGG⟩
end Go.Proofs.YtobkcnmlmmhpoaaGreatDoor
