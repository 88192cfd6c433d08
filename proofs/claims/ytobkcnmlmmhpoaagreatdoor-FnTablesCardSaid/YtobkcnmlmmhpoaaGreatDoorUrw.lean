/- WrongRows on both sides. -/
import Derived.Test.YtobkcnmlmmhpoaaGreatDoorWrs
import Derived.Test.YtobkcnmlmmhpoaaGreatDoorRule
set_option maxRecDepth 100000
set_option maxHeartbeats 80000000
namespace Go.Proofs.YtobkcnmlmmhpoaaGreatDoor
open Go.RowKit
set_option linter.unusedVariables false
set_option linter.unusedSimpArgs false
attribute [local go_sem] q2 q3 q4 q5 q6 q7 q8 q9 q10 q11 q12

def RvP (r:RowV) (l:List Int) (w:World) (v:Value):Prop:= ∃(a:Option Addr) (c lo hi:Nat),v=rwv r (.slice a l.length c)∧hi≤w.heap.size∧IntsAt w lo hi a l.length (fun i=>l.getD i 0)
theorem RvP.st {r:RowV} {l:List Int} :StB (RvP r l):=fun W w' v hb ⟨a,c,lo,hi,h1,h2,h3⟩=>⟨a,c,lo,hi,h1,Nat.le_trans h2 hb.size,h3.below hb h2⟩
theorem rv_of {w w':World} {r:RowV} {l:List Int} {e:Ending} (h:RetRowV w r l e w'): ∃v',e= .returned v'∧RvP r l w' v'∧Below w.heap.size w w':=by
 obtain ⟨a,c,h1,h2,h3⟩:=h
 exact ⟨_,h1,⟨a,c,_,_,rfl,Nat.le_refl _,h2⟩,h3⟩
theorem RowsAt.some {W:World} {lo hi n:Nat} {a:Option Addr} {t:Nat→TR} (h:RowsAt W lo hi a n t) {i:Nat} (q:i<n): ∃g,a=Option.some ⟨g,0,none⟩:=by
 rcases h.ptr with z|⟨g,e,_⟩
 ·omega
 ·exact ⟨g,e⟩
theorem IntsAt.argI {w:World} {lo hi n c:Nat} {a:Option Addr} {f:Nat→Int} (h:IntsAt w lo hi a n f) (h2:hi≤w.heap.size):ArgI w (.slice a n c) n f:=by
 rcases h with rfl|⟨g,cap,F,rfl,hlo,hhi,q,r,e⟩
 ·exact .inl ⟨rfl,a,c,rfl⟩
 ·exact .inr ⟨g,0,c,rfl,Vn,fun i hi=>by rw[Nat.zero_add,←e i hi];exact r.cell Vn⟩
def wrG (t:Nat→TR) (i:Nat):Bool:=rwB (t i).r (t i).zs.length (fun j=>(t i).zs.getD j 0)
theorem wrG_d {t:Nat→TR} {i:Nat} (h:wrG t i=true):negB (t i).r.d=true:=by
 unfold wrG rwB at h;simp only[Bool.and_eq_true] at h;exact h.2.1
noncomputable def wrS (t:Nat→TR) (i:Nat):Bool:=sRB (t i).r (rowV (t i).r.d) (t i).zs (rowFL (t i).r.d)
noncomputable def wrL (t:Nat→TR) (n:Nat):List Int:=flN (fun i=> !wrS t i) (fun i=>(i:Int)) n
theorem wr_yes {t:Nat→TR} {k:Nat} (h:wrS t k=false):wrL t (k+1)=wrL t k++ [(k:Int)]:=flN_yes (e:=fun i:Nat=>(i:Int)) (by simp [h])
theorem wr_no {t:Nat→TR} {k:Nat} (h:wrS t k=true):wrL t (k+1)=wrL t k:=flN_no (e:=fun i:Nat=>(i:Int)) (by simp [h])
theorem implWr_0 (a:Option Addr) (n c:Nat) (w:World) (hn:40<n) (h2:n≤2000000) (f:Nat→Int):Calls Tryz.prog 16 #[.slice a n c] w (RetInts w 0 f false):=by
 have hci:(40:Int)<(n:Int):=by omega
 go_enter Tryz.func16,Tryz.ntmps16
 go_wp2
 go_ret2
 exact ⟨_,_,rfl,.inl rfl,byGG⟩
theorem implWr_1 (a:Option Addr) (n c lo hi:Nat) (t:Nat→TR) (w:World) (hn:n≤40) (h:RowsAt w lo hi a n t) (h9:hi≤w.heap.size) (E: ∀i,i<n→RowOk (t i).r∧(t i).zs.length≤2000000) (f:Nat→Int) (HX:Hid (∃i,i<n∧wrG t i=false)):Calls Tryz.prog 16 #[.slice a n c] w (RetInts w 0 f false):=by
 have hc40: ¬(40:Int)<(n:Int):=by omega
 have HH:=hide h
 clear h
 go_enter Tryz.func16,Tryz.ntmps16
 go_wp2
 go_loopw [15] (fun is wr=> ∃ix:Nat,ix≤n∧is= .int .i64 (ix:Int)∧Below w.heap.size w wr∧Hid (∀i,i<ix→wrG t i=true)) (fun is _=>n-(intOf is).toNat)
 case atStart=>exact ⟨0,Vn,rfl,byGG,hide fun i hi=>absurd hi Vn⟩
 case round=>
  obtain ⟨ix,hi2,rfl,hb,hall⟩:=hrel
  obtain ⟨wl,rfl⟩: ∃wl:World,wl=wr:=⟨_,rfl⟩
  by_cases q:ix<n
  ·have hci:(ix:Int)<(n:Int):=by omega
   obtain ⟨g,rfl⟩:=(unhide HH).some q
   have K1:=(unhide HH).below hb h9 (Nat.le_refl _)
   obtain ⟨⟨c0,c1,c2,c3,c4⟩,gb1,-⟩:=K1.ent q
   obtain ⟨ok1,ok2⟩:=E ix q
   have inn:=K1.inn ix q
   have top:=K1.top ix q
   have hzl:=hb.size
   have HG0: ∀W,Below wl.heap.size wl W→Calls Tryz.prog 37 #[rwv (t ix).r (.slice (t ix).a (t ix).zs.length (t ix).c)] W fun e w'=>e= .returned (.bool (wrG t ix))∧Below W.heap.size W w':=fun W hbW=>
    isRow_a _ _ _ _ W (IntsAt.argI (inn.below hbW Vn) VT) ok2 ok1
   clear K1 inn top ok1 ok2
   obtain ⟨bq,hbq⟩: ∃bq,wrG t ix=bq:=⟨_,rfl⟩
   rw[hbq] at HG0
   have HG:=hide HG0
   clear HG0
   generalize (t ix).r=r at*
   generalize (t ix).zs.length=n9 at*
   generalize (t ix).a=x1 at*
   generalize (t ix).c=d1 at*
   cases bq
   ·clear hbq
    go_wp2_with (go_at_call 37;refine ((unhide HG) _ byGG).mono ?_;rintro e w3 ⟨rfl,hb3⟩)
    go_ret2
    exact ⟨_,_,rfl,.inl rfl,byGG⟩
   ·have HBQ:=hide hbq
    clear hbq
    go_wp2_with (go_at_call 37;refine ((unhide HG) _ byGG).mono ?_;rintro e w3 ⟨rfl,hb3⟩)
    go_roundw
    case rel=>exact ⟨ix+1,Vn,by first|rfl|go_num,byGG,hide fun i hi=>by (by_cases e:i=ix;(subst e;exact unhide HBQ);exact unhide hall i Vn)⟩
    case measure=>simp [intOf];omega
  ·obtain rfl:n=ix:=by omega
   exfalso
   obtain ⟨i,hi3,hg3⟩:=unhide HX
   rw[unhide hall i hi3] at hg3
   cases hg3
theorem implWr_2 (a:Option Addr) (n c lo hi:Nat) (t:Nat→TR) (w:World) (hn:n≤40) (h:RowsAt w lo hi a n t) (h9:hi≤w.heap.size) (E: ∀i,i<n→RowOk (t i).r∧(t i).zs.length≤2000000) (HX: ∀i,i<n→wrG t i=true):Calls Tryz.prog 16 #[.slice a n c] w (RetInts w (wrL t n).length (fun i=>(wrL t n).getD i 0) true):=by
 have hc40: ¬(40:Int)<(n:Int):=by omega
 have HH:=hide h
 clear h
 have HD:Hid (∀i,i<n→ ∀W,Calls Tryz.prog 26 #[.int .i64 (t i).r.d] W fun e w'=> ∃v',e= .returned v'∧RvP (rowV (t i).r.d) (rowFL (t i).r.d) w' v'∧Below W.heap.size W w'):=hide fun i hi W=>(rowOf_a _ W (wrG_d (HX i hi))).mono fun e w' hr=>rv_of hr
 have HZ: ∀i,i<n→(rowFL (t i).r.d).length≤700:=fun i hi=>rowFL_len (wrG_d (HX i hi))
 go_enter Tryz.func16,Tryz.ntmps16
 go_wp2
 go_loopw [15] (fun is wr=> ∃ix:Nat,ix≤n∧is= .int .i64 (ix:Int)∧Below w.heap.size w wr∧Hid (∀i,i<ix→wrG t i=true)) (fun is _=>n-(intOf is).toNat)
 case atStart=>exact ⟨0,Vn,rfl,byGG,hide fun i hi=>absurd hi Vn⟩
 case round=>
  obtain ⟨ix,hi2,rfl,hb,hall⟩:=hrel
  obtain ⟨wl,rfl⟩: ∃wl:World,wl=wr:=⟨_,rfl⟩
  by_cases q:ix<n
  ·have hci:(ix:Int)<(n:Int):=by omega
   obtain ⟨g,rfl⟩:=(unhide HH).some q
   have K1:=(unhide HH).below hb h9 (Nat.le_refl _)
   obtain ⟨⟨c0,c1,c2,c3,c4⟩,gb1,-⟩:=K1.ent q
   obtain ⟨ok1,ok2⟩:=E ix q
   have inn:=K1.inn ix q
   have top:=K1.top ix q
   have hzl:=hb.size
   have HG0: ∀W,Below wl.heap.size wl W→Calls Tryz.prog 37 #[rwv (t ix).r (.slice (t ix).a (t ix).zs.length (t ix).c)] W fun e w'=>e= .returned (.bool (wrG t ix))∧Below W.heap.size W w':=fun W hbW=>
    isRow_a _ _ _ _ W (IntsAt.argI (inn.below hbW Vn) VT) ok2 ok1
   clear K1 inn top ok1 ok2
   obtain ⟨bq,hbq⟩: ∃bq,wrG t ix=bq:=⟨_,rfl⟩
   rw[hbq] at HG0
   have HG:=hide HG0
   clear HG0
   generalize (t ix).r=r at*
   generalize (t ix).zs.length=n9 at*
   generalize (t ix).a=x1 at*
   generalize (t ix).c=d1 at*
   cases bq
   ·exfalso;rw [HX ix q] at hbq;cases hbq
   ·have HBQ:=hide hbq
    clear hbq
    go_wp2_with (go_at_call 37;refine ((unhide HG) _ byGG).mono ?_;rintro e w3 ⟨rfl,hb3⟩)
    go_roundw
    case rel=>exact ⟨ix+1,Vn,by first|rfl|go_num,byGG,hide fun i hi=>by (by_cases e:i=ix;(subst e;exact unhide HBQ);exact unhide hall i Vn)⟩
    case measure=>simp [intOf];omega
  ·obtain rfl:n=ix:=by omega
   have hzl9:=hb.size
   have hsd0:SI w 0 0 (fun _=>True) (wl.alloc (.cells #[] 3)) (some ⟨wl.heap.size,0,none⟩) 0 0 []:=⟨hide rfl,⟨IL.made wl w.heap.size hzl9,fun b _=> .inr (Nat.zero_le _),byGG,trivial,Nat.zero_le _⟩⟩
   have hK:Kept 0 0 (fun _=>True):=fun _ _ _ _=>trivial
   clear hall
   go_wp2
   go_loopw [6,27] (fun ls is wr=> ∃(k n9 c:Nat) (a:Option Addr) (l:List Int),is= .int .i64 (k:Int)∧ls= .slice a n9 c∧k≤n∧n9≤k∧Hid (l=wrL t k)∧SI w 0 0 (fun _=>True) wr a n9 c l) (fun _ is _=>n-(intOf is).toNat)
   case atStart=>exact ⟨0,0,0,_,_,rfl,rfl,Vn,Vn,hide rfl,hsd0⟩
   case round=>
    clear hsd0 hb hzl9
    obtain ⟨ix,n8,c8,a8,l,rfl,rfl,hk,hnk,hl,hsd⟩:=hrel
    obtain ⟨wv,rfl⟩: ∃wv:World,wv=wr:=⟨_,rfl⟩
    have hb:=hsd.sd.bel
    have hln:=hsd.len
    have hlb:l.length≤3000:=by have:=unhide hln;omega
    by_cases q:ix<n
    ·have hci:(ix:Int)<(n:Int):=by omega
     obtain ⟨g,rfl⟩:=(unhide HH).some q
     have K1:=(unhide HH).below hb h9 (Nat.le_refl _)
     obtain ⟨⟨c0,c1,c2,c3,c4⟩,gb1,-⟩:=K1.ent q
     obtain ⟨ok1,ok2⟩:=E ix q
     have inn:=K1.inn ix q
     have top:=K1.top ix q
     have hzl:=hb.size
     have HRW:=hide (unhide HD ix q)
     have hz2:=HZ ix q
     obtain ⟨bq,hbq⟩: ∃bq,wrS t ix=bq:=⟨_,rfl⟩
     have HSM0: ∀W a2 c2 l2 u2,Below wv.heap.size wv W→u2≤W.heap.size→IntsAt W l2 u2 a2 (rowFL (t ix).r.d).length (fun i=>(rowFL (t ix).r.d).getD i 0)→Calls Tryz.prog 41 #[rwv (t ix).r (.slice (t ix).a (t ix).zs.length (t ix).c),rwv (rowV (t ix).r.d) (.slice a2 (rowFL (t ix).r.d).length c2)] W fun e w'=>e= .returned (.bool bq)∧Below W.heap.size W w':=fun W a2 c2 l2 u2 hbW hu hi=>by
      rw[←hbq]
      exact sameRow_a _ _ _ _ _ _ _ _ _ _ _ _ _ _ rfl rfl W VT hu (inn.below hbW Vn) hi ok2 Vn
     have HSM:=hide HSM0
     clear HSM0 K1 inn top ok1 ok2
     have HBQ:=hide hbq
     clear hbq
     generalize rowV (t ix).r.d=r2 at*
     generalize rowFL (t ix).r.d=z2 at*
     generalize (t ix).r=r at*
     generalize (t ix).zs.length=n9 at*
     generalize (t ix).a=x1 at*
     generalize (t ix).c=d1 at*
     go_upto_region 13 with fail
     go_cut [37] (fun s37 wx=>s37= .bool (!bq)∧wx.cell? ⟨wv.heap.size,0,none⟩=some (.int .i64 r.d)∧wx.cell? ⟨wv.heap.size,1,none⟩=some (.int .i64 r.num)∧wx.cell? ⟨wv.heap.size,2,none⟩=some (.slice x1 n9 d1)∧wx.cell? ⟨wv.heap.size,3,none⟩=some (.int .i64 r.ge)∧wx.cell? ⟨wv.heap.size,4,none⟩=some (.int .i64 r.ex)∧Below wv.heap.size wv wx)
     case first=>
      have h1:=trivial
      rename_i K2 h2 h3
      let hgf9:Nat→World→Value→Prop:=fun j=>match j with|0=>Kd.ok (Kd.val (.agg #[.int .i64 r.d,.int .i64 r.num,.slice x1 n9 d1,.int .i64 r.ge,.int .i64 r.ex]))|1=>Kd.ok (Kd.val (.pointer (some ⟨wv.heap.size,0,none⟩)))|2=>Kd.ok (Kd.val (.int .i64 (r.d)))|3=>(RvP r2 z2)|4=>Kd.ok (Kd.val (.bool bq))|5=>Kd.ok (Kd.val (.bool (!bq)))|_=>Kd.ok Kd.any
      have hst9: ∀j,StB (hgf9 j):=fun j=>match j with|0=>(Kd.st (Kd.val (.agg #[.int .i64 r.d,.int .i64 r.num,.slice x1 n9 d1,.int .i64 r.ge,.int .i64 r.ex])):StB (Kd.ok (Kd.val (.agg #[.int .i64 r.d,.int .i64 r.num,.slice x1 n9 d1,.int .i64 r.ge,.int .i64 r.ex]))))|1=>(Kd.st (Kd.val (.pointer (some ⟨wv.heap.size,0,none⟩))):StB (Kd.ok (Kd.val (.pointer (some ⟨wv.heap.size,0,none⟩)))))|2=>(Kd.st (Kd.val (.int .i64 (r.d))):StB (Kd.ok (Kd.val (.int .i64 (r.d)))))|3=>(RvP.st:StB (RvP r2 z2))|4=>(Kd.st (Kd.val (.bool bq)):StB (Kd.ok (Kd.val (.bool bq))))|5=>(Kd.st (Kd.val (.bool (!bq))):StB (Kd.ok (Kd.val (.bool (!bq)))))|j+6=>(Kd.st Kd.any:StB (Kd.ok Kd.any))
      refine region_n0 Vw (fun j=> #[32,33,34,35,36,37].getD j 0) (hgf9) (Sy wv (wv.heap.size+1) [(⟨wv.heap.size,0,none⟩,.int .i64 r.d),(⟨wv.heap.size,1,none⟩,.int .i64 r.num),(⟨wv.heap.size,2,none⟩,.slice x1 n9 d1),(⟨wv.heap.size,3,none⟩,.int .i64 r.ge),(⟨wv.heap.size,4,none⟩,.int .i64 r.ex)] []) Vw Vw ?_ ?_ ?_ ?_
      ·intro j hj
       have hj2:j<6:=hj
       have: ∀j,j<6→(#[32,33,34,35,36,37]:Array Nat).getD j 0<44:=by decide
       exact this j hj2
      ·refine Sy.drew (Sy.mk_of ?_ ?_ ?_ ?_)
       ·first|rfl|(simp;done)|(simp;omega)
       ·intro c hc
        simp only[List.mem_cons,List.not_mem_nil,or_false] at hc
        rcases hc with rfl|rfl|rfl|rfl|rfl<;>exact byCT
       ·intro p hp;cases hp
       ·(repeat' first|with_reducible (first|exact Below.refl _ _|assumption|refine gr_alloc ?_ _|refine below_drewN ?_ _|refine below_drew ?_|refine gr_call ?_ VV|refine Below.setCell ?_ ?_ _)|go_size|omega|(simp;omega))
      ·clear h1 h2 h3
       refine ⟨?r2x0,?r2x1,?r2x2,?r2x3,?r2x4,?r2x5,trivial⟩
       all_goals intro _ aq wx Kq hf hS hdep ev1 ev2 hK
       case' r2x0=>
        have F8:aq.eval (.tmp 8)= .pointer (some ⟨wv.heap.size,0,none⟩):=hf 8
        have c0:=hS.cells (⟨wv.heap.size,0,none⟩,.int .i64 r.d) Vs
        have c1:=hS.cells (⟨wv.heap.size,1,none⟩,.int .i64 r.num) Vs
        have c2:=hS.cells (⟨wv.heap.size,2,none⟩,.slice x1 n9 d1) Vs
        have c3:=hS.cells (⟨wv.heap.size,3,none⟩,.int .i64 r.ge) Vs
        have c4:=hS.cells (⟨wv.heap.size,4,none⟩,.int .i64 r.ex) Vs
       case' r2x1=>
        have F8:aq.eval (.tmp 8)= .pointer (some ⟨wv.heap.size,0,none⟩):=hf 8
       case' r2x2=>
        have D1:aq.eval (.tmp 33)=_:=hdep 1
        have c0:=hS.cells (⟨wv.heap.size,0,none⟩,.int .i64 r.d) Vs
       case' r2x3=>
        have D2:aq.eval (.tmp 34)=_:=hdep 2
       case' r2x4=>
        have D0:aq.eval (.tmp 32)=_:=hdep 0
        obtain ⟨ga35,gc35,gl35,gh35,DP35,hgh35,hst35⟩:=hdep 3
        change aq.eval (.tmp 35)=_ at DP35
       case' r2x5=>
        have D4:aq.eval (.tmp 36)=_:=hdep 4
       all_goals (clear hf hdep;unfold Oper.wp;generalize Act.eval _=ev at *;go_simp)
       case r2x3=>
        refine (((unhide HRW) _)).mono ?_
        rintro e w2 ⟨v9,rfl,hpr,hb⟩
        refine hK _ _ (hS.call hb) ?_ (fun j u _ h=>hst9 j _ _ _ hb h)
        rw[if_pos VH]
        exact hpr
       case r2x4=>
        refine (((unhide HSM) _ _ _ _ _ hS.below hgh35 hst35)).mono ?_
        rintro e w2 ⟨rfl,hb⟩
        refine hK _ _ (hS.call hb) ?_ (fun j u _ h=>hst9 j _ _ _ hb h)
        rw[if_pos VH]
        show (_:Value)=_
        first|rfl|(refine congrArg (Value.int .i64) ?_;first|rfl|exact int_in Vn|exact quo_in Vn Vn Vn|exact rem_in Vn Vn|omega)|(simp;done)|(simp [*];done)
       all_goals (refine hK _ _ hS ?_ (fun j u _ h=>h);rw [if_pos VH];show (_:Value)=_;(first|rfl|(refine congrArg (Value.int .i64) ?_;first|rfl|exact int_in Vn|exact quo_in Vn Vn Vn|exact rem_in Vn Vn|omega)|(simp;done)|(simp [*];done)))
      ·intro aq wx hd hw hf hS hg
       have G37:tau aq 37= .bool (!bq):=hg 5 VA
       have haq:aq=⟨#[tau aq 0,tau aq 1,tau aq 2,tau aq 3,tau aq 4,tau aq 5,tau aq 6,tau aq 7,tau aq 8,tau aq 9,tau aq 10,tau aq 11,tau aq 12,tau aq 13,tau aq 14,tau aq 15,tau aq 16,tau aq 17,tau aq 18,tau aq 19,tau aq 20,tau aq 21,tau aq 22,tau aq 23,tau aq 24,tau aq 25,tau aq 26,tau aq 27,tau aq 28,tau aq 29,tau aq 30,tau aq 31,tau aq 32,tau aq 33,tau aq 34,tau aq 35,tau aq 36,tau aq 37,tau aq 38,tau aq 39,tau aq 40,tau aq 41,tau aq 42,tau aq 43],[]⟩:=by
        obtain ⟨tq,dq⟩:=aq
        have h5:=arr_eq (show tq.size=44 from hw)
        have h6:dq= []:=hd
        subst h6
        exact congrArg (fun z=>Act.mk z []) h5
       show K2 aq wx
       rw[haq,hf 0,hf 1,hf 2,hf 3,hf 4,hf 5,hf 6,hf 7,hf 8,hf 9,hf 10,hf 11,hf 12,hf 13,hf 14,hf 15,hf 16,hf 17,hf 18,hf 19,hf 20,hf 21,hf 22,hf 23,hf 24,hf 25,hf 26,hf 27,hf 28,hf 29,hf 30,hf 31,hf 38,hf 39,hf 40,hf 41,hf 42,hf 43,G37]
       clear haq hf hd hw
       try dsimp only
       refine h3 _ _ ?_
       go_meet
       refine ⟨rfl,?_,?_,?_,?_,?_,hS.below⟩
       all_goals first|exact hS.cells (_,_) Vs|exact (hS.free _ Vs).2
     try clear c00
     try clear c01
     try clear c02
     try clear c03
     try clear c04
     try clear z0
     obtain ⟨rfl,c00,c01,c02,c03,c04,hb0⟩:=hcut
     have z0:=World.block_lt_of_cell? _ _ c00
     change wv.heap.size<wc.heap.size at z0
     have hs2:=hsd.call hK hb0
     have hz9:=hs2.sd.bel.size
     cases bq
     ·have YES:=hide ((congrArg (· ++ [(ix:Int)]) (unhide hl)).trans (wr_yes (unhide HBQ)).symm)
      clear HBQ
      go_wp2_with (at_builtin;refine app_int _ rfl (.tmp 38) (.tmp 40) rfl w.heap.size (.slice a8 n8 c8) l (ix:Int) wc.heap.size rfl rfl (hs2.alloc hK _).il VB Vn VW ?_;intro g9 cap w3 hown hgrow hat hlt)
      go_roundw
      case rel=>
       have hs3:=(hs2.alloc hK _).app hK hown hgrow hat
       exact ⟨ix+1,l.length+1,cap,some ⟨g9,0,none⟩,_,by go_num,rfl,Vn,by have:=unhide hln;omega,YES,hs3⟩
      case measure=>simp [intOf];omega
     ·have NO:=hide ((unhide hl).trans (wr_no (unhide HBQ)).symm)
      clear HBQ
      go_wp2
      go_roundw
      case rel=>first|exact ⟨ix+1,n8,c8,_,l,by first|rfl|go_num,rfl,Vn,Vn,NO,hs2⟩|((repeat apply Exists.intro);exact ⟨⟨ix+1,n8,c8,_,l,by first|rfl|go_num,rfl,Vn,Vn,NO,hs2⟩,rfl⟩)
      case measure=>simp [intOf];omega
    ·obtain rfl:n=ix:=by omega
     go_wp2
     go_ret2
     have hL:=unhide hl
     subst hL
     have hn8:=unhide hsd.len
     subst hn8
     exact ⟨a8,c8,rfl,hsd.il.ints.2,hsd.sd.bel⟩

theorem specWr_0 (a:Option Addr) (n c:Nat) (w:World) (hn:40<n) (h2:n≤2000000) (f:Nat→Int):Calls Tryz.prog 20 #[.slice a n c] w (RetInts w 0 f false):=by
 have hci:(40:Int)<(n:Int):=by omega
 go_enter Tryz.func20,Tryz.ntmps20
 go_wp2
 go_ret2
 exact ⟨_,_,rfl,.inl rfl,byGG⟩
theorem specWr_1 (a:Option Addr) (n c lo hi:Nat) (t:Nat→TR) (w:World) (hn:n≤40) (h:RowsAt w lo hi a n t) (h9:hi≤w.heap.size) (E: ∀i,i<n→RowOk (t i).r∧(t i).zs.length≤2000000) (f:Nat→Int) (HX:Hid (∃i,i<n∧wrG t i=false)):Calls Tryz.prog 20 #[.slice a n c] w (RetInts w 0 f false):=by
 have hc40: ¬(40:Int)<(n:Int):=by omega
 have HH:=hide h
 clear h
 go_enter Tryz.func20,Tryz.ntmps20
 go_wp2
 go_loopw [14] (fun is wr=> ∃ix:Nat,ix≤n∧is= .int .i64 (ix:Int)∧Below w.heap.size w wr∧Hid (∀i,i<ix→wrG t i=true)) (fun is _=>n-(intOf is).toNat)
 case atStart=>exact ⟨0,Vn,rfl,byGG,hide fun i hi=>absurd hi Vn⟩
 case round=>
  obtain ⟨ix,hi2,rfl,hb,hall⟩:=hrel
  obtain ⟨wl,rfl⟩: ∃wl:World,wl=wr:=⟨_,rfl⟩
  by_cases q:ix<n
  ·have hci:(ix:Int)<(n:Int):=by omega
   obtain ⟨g,rfl⟩:=(unhide HH).some q
   have K1:=(unhide HH).below hb h9 (Nat.le_refl _)
   obtain ⟨⟨c0,c1,c2,c3,c4⟩,gb1,-⟩:=K1.ent q
   obtain ⟨ok1,ok2⟩:=E ix q
   have inn:=K1.inn ix q
   have top:=K1.top ix q
   have hzl:=hb.size
   have HG0: ∀W,Below wl.heap.size wl W→Calls Tryz.prog 45 #[rwv (t ix).r (.slice (t ix).a (t ix).zs.length (t ix).c)] W fun e w'=>e= .returned (.bool (wrG t ix))∧Below W.heap.size W w':=fun W hbW=>
    tbGood_a _ _ _ _ W (IntsAt.argI (inn.below hbW Vn) VT) ok2 ok1
   clear K1 inn top ok1 ok2
   obtain ⟨bq,hbq⟩: ∃bq,wrG t ix=bq:=⟨_,rfl⟩
   rw[hbq] at HG0
   have HG:=hide HG0
   clear HG0
   generalize (t ix).r=r at*
   generalize (t ix).zs.length=n9 at*
   generalize (t ix).a=x1 at*
   generalize (t ix).c=d1 at*
   cases bq
   ·clear hbq
    go_wp2_with (go_at_call 45;refine ((unhide HG) _ byGG).mono ?_;rintro e w3 ⟨rfl,hb3⟩)
    go_ret2
    exact ⟨_,_,rfl,.inl rfl,byGG⟩
   ·have HBQ:=hide hbq
    clear hbq
    go_wp2_with (go_at_call 45;refine ((unhide HG) _ byGG).mono ?_;rintro e w3 ⟨rfl,hb3⟩)
    go_roundw
    case rel=>exact ⟨ix+1,Vn,by first|rfl|go_num,byGG,hide fun i hi=>by (by_cases e:i=ix;(subst e;exact unhide HBQ);exact unhide hall i Vn)⟩
    case measure=>simp [intOf];omega
  ·obtain rfl:n=ix:=by omega
   exfalso
   obtain ⟨i,hi3,hg3⟩:=unhide HX
   rw[unhide hall i hi3] at hg3
   cases hg3
theorem specWr_2 (a:Option Addr) (n c lo hi:Nat) (t:Nat→TR) (w:World) (hn:n≤40) (h:RowsAt w lo hi a n t) (h9:hi≤w.heap.size) (E: ∀i,i<n→RowOk (t i).r∧(t i).zs.length≤2000000) (HX: ∀i,i<n→wrG t i=true):Calls Tryz.prog 20 #[.slice a n c] w (RetInts w (wrL t n).length (fun i=>(wrL t n).getD i 0) true):=by
 have hc40: ¬(40:Int)<(n:Int):=by omega
 have HH:=hide h
 clear h
 have HD:Hid (∀i,i<n→ ∀W,Calls Tryz.prog 29 #[.int .i64 (t i).r.d] W fun e w'=> ∃v',e= .returned v'∧RvP (rowV (t i).r.d) (rowFL (t i).r.d) w' v'∧Below W.heap.size W w'):=hide fun i hi W=>(tbRow_a _ W (wrG_d (HX i hi))).mono fun e w' hr=>rv_of hr
 have HZ: ∀i,i<n→(rowFL (t i).r.d).length≤700:=fun i hi=>rowFL_len (wrG_d (HX i hi))
 go_enter Tryz.func20,Tryz.ntmps20
 go_wp2
 go_loopw [14] (fun is wr=> ∃ix:Nat,ix≤n∧is= .int .i64 (ix:Int)∧Below w.heap.size w wr∧Hid (∀i,i<ix→wrG t i=true)) (fun is _=>n-(intOf is).toNat)
 case atStart=>exact ⟨0,Vn,rfl,byGG,hide fun i hi=>absurd hi Vn⟩
 case round=>
  obtain ⟨ix,hi2,rfl,hb,hall⟩:=hrel
  obtain ⟨wl,rfl⟩: ∃wl:World,wl=wr:=⟨_,rfl⟩
  by_cases q:ix<n
  ·have hci:(ix:Int)<(n:Int):=by omega
   obtain ⟨g,rfl⟩:=(unhide HH).some q
   have K1:=(unhide HH).below hb h9 (Nat.le_refl _)
   obtain ⟨⟨c0,c1,c2,c3,c4⟩,gb1,-⟩:=K1.ent q
   obtain ⟨ok1,ok2⟩:=E ix q
   have inn:=K1.inn ix q
   have top:=K1.top ix q
   have hzl:=hb.size
   have HG0: ∀W,Below wl.heap.size wl W→Calls Tryz.prog 45 #[rwv (t ix).r (.slice (t ix).a (t ix).zs.length (t ix).c)] W fun e w'=>e= .returned (.bool (wrG t ix))∧Below W.heap.size W w':=fun W hbW=>
    tbGood_a _ _ _ _ W (IntsAt.argI (inn.below hbW Vn) VT) ok2 ok1
   clear K1 inn top ok1 ok2
   obtain ⟨bq,hbq⟩: ∃bq,wrG t ix=bq:=⟨_,rfl⟩
   rw[hbq] at HG0
   have HG:=hide HG0
   clear HG0
   generalize (t ix).r=r at*
   generalize (t ix).zs.length=n9 at*
   generalize (t ix).a=x1 at*
   generalize (t ix).c=d1 at*
   cases bq
   ·exfalso;rw [HX ix q] at hbq;cases hbq
   ·have HBQ:=hide hbq
    clear hbq
    go_wp2_with (go_at_call 45;refine ((unhide HG) _ byGG).mono ?_;rintro e w3 ⟨rfl,hb3⟩)
    go_roundw
    case rel=>exact ⟨ix+1,Vn,by first|rfl|go_num,byGG,hide fun i hi=>by (by_cases e:i=ix;(subst e;exact unhide HBQ);exact unhide hall i Vn)⟩
    case measure=>simp [intOf];omega
  ·obtain rfl:n=ix:=by omega
   have hzl9:=hb.size
   have hsd0:SI w 0 0 (fun _=>True) wl none 0 0 []:=⟨hide rfl,⟨World.ownsRow_nil _ _ _ _,fun b _=> .inr (Nat.zero_le _),byGG,trivial,Nat.zero_le _⟩⟩
   have hK:Kept 0 0 (fun _=>True):=fun _ _ _ _=>trivial
   clear hall
   go_wp2
   go_loopw [4,24] (fun ls is wr=> ∃(k n9 c:Nat) (a:Option Addr) (l:List Int),is= .int .i64 (k:Int)∧ls= .slice a n9 c∧k≤n∧n9≤k∧Hid (l=wrL t k)∧SI w 0 0 (fun _=>True) wr a n9 c l) (fun _ is _=>n-(intOf is).toNat)
   case atStart=>exact ⟨0,0,0,_,_,rfl,rfl,Vn,Vn,hide rfl,hsd0⟩
   case round=>
    clear hsd0 hb hzl9
    obtain ⟨ix,n8,c8,a8,l,rfl,rfl,hk,hnk,hl,hsd⟩:=hrel
    obtain ⟨wv,rfl⟩: ∃wv:World,wv=wr:=⟨_,rfl⟩
    have hb:=hsd.sd.bel
    have hln:=hsd.len
    have hlb:l.length≤3000:=by have:=unhide hln;omega
    by_cases q:ix<n
    ·have hci:(ix:Int)<(n:Int):=by omega
     obtain ⟨g,rfl⟩:=(unhide HH).some q
     have K1:=(unhide HH).below hb h9 (Nat.le_refl _)
     obtain ⟨⟨c0,c1,c2,c3,c4⟩,gb1,-⟩:=K1.ent q
     obtain ⟨ok1,ok2⟩:=E ix q
     have inn:=K1.inn ix q
     have top:=K1.top ix q
     have hzl:=hb.size
     have HRW:=hide (unhide HD ix q)
     have hz2:=HZ ix q
     obtain ⟨bq,hbq⟩: ∃bq,wrS t ix=bq:=⟨_,rfl⟩
     have HSM0: ∀W a2 c2 l2 u2,Below wv.heap.size wv W→u2≤W.heap.size→IntsAt W l2 u2 a2 (rowFL (t ix).r.d).length (fun i=>(rowFL (t ix).r.d).getD i 0)→Calls Tryz.prog 46 #[rwv (t ix).r (.slice (t ix).a (t ix).zs.length (t ix).c),rwv (rowV (t ix).r.d) (.slice a2 (rowFL (t ix).r.d).length c2)] W fun e w'=>e= .returned (.bool bq)∧Below W.heap.size W w':=fun W a2 c2 l2 u2 hbW hu hi=>by
      rw[←hbq]
      exact tbSame_a _ _ _ _ _ _ _ _ _ _ _ _ _ _ rfl rfl W VT hu (inn.below hbW Vn) hi ok2 Vn
     have HSM:=hide HSM0
     clear HSM0 K1 inn top ok1 ok2
     have HBQ:=hide hbq
     clear hbq
     generalize rowV (t ix).r.d=r2 at*
     generalize rowFL (t ix).r.d=z2 at*
     generalize (t ix).r=r at*
     generalize (t ix).zs.length=n9 at*
     generalize (t ix).a=x1 at*
     generalize (t ix).c=d1 at*
     go_upto_region 13 with fail
     go_cut [34] (fun s34 wx=>s34= .bool (!bq)∧wx.cell? ⟨wv.heap.size,0,none⟩=some (.int .i64 r.d)∧wx.cell? ⟨wv.heap.size,1,none⟩=some (.int .i64 r.num)∧wx.cell? ⟨wv.heap.size,2,none⟩=some (.slice x1 n9 d1)∧wx.cell? ⟨wv.heap.size,3,none⟩=some (.int .i64 r.ge)∧wx.cell? ⟨wv.heap.size,4,none⟩=some (.int .i64 r.ex)∧Below wv.heap.size wv wx)
     case first=>
      have h1:=trivial
      rename_i K2 h2 h3
      let hgf9:Nat→World→Value→Prop:=fun j=>match j with|0=>Kd.ok (Kd.val (.agg #[.int .i64 r.d,.int .i64 r.num,.slice x1 n9 d1,.int .i64 r.ge,.int .i64 r.ex]))|1=>Kd.ok (Kd.val (.pointer (some ⟨wv.heap.size,0,none⟩)))|2=>Kd.ok (Kd.val (.int .i64 (r.d)))|3=>(RvP r2 z2)|4=>Kd.ok (Kd.val (.bool bq))|5=>Kd.ok (Kd.val (.bool (!bq)))|_=>Kd.ok Kd.any
      have hst9: ∀j,StB (hgf9 j):=fun j=>match j with|0=>(Kd.st (Kd.val (.agg #[.int .i64 r.d,.int .i64 r.num,.slice x1 n9 d1,.int .i64 r.ge,.int .i64 r.ex])):StB (Kd.ok (Kd.val (.agg #[.int .i64 r.d,.int .i64 r.num,.slice x1 n9 d1,.int .i64 r.ge,.int .i64 r.ex]))))|1=>(Kd.st (Kd.val (.pointer (some ⟨wv.heap.size,0,none⟩))):StB (Kd.ok (Kd.val (.pointer (some ⟨wv.heap.size,0,none⟩)))))|2=>(Kd.st (Kd.val (.int .i64 (r.d))):StB (Kd.ok (Kd.val (.int .i64 (r.d)))))|3=>(RvP.st:StB (RvP r2 z2))|4=>(Kd.st (Kd.val (.bool bq)):StB (Kd.ok (Kd.val (.bool bq))))|5=>(Kd.st (Kd.val (.bool (!bq))):StB (Kd.ok (Kd.val (.bool (!bq)))))|j+6=>(Kd.st Kd.any:StB (Kd.ok Kd.any))
      refine region_n0 Vw (fun j=> #[29,30,31,32,33,34].getD j 0) (hgf9) (Sy wv (wv.heap.size+1) [(⟨wv.heap.size,0,none⟩,.int .i64 r.d),(⟨wv.heap.size,1,none⟩,.int .i64 r.num),(⟨wv.heap.size,2,none⟩,.slice x1 n9 d1),(⟨wv.heap.size,3,none⟩,.int .i64 r.ge),(⟨wv.heap.size,4,none⟩,.int .i64 r.ex)] []) Vw Vw ?_ ?_ ?_ ?_
      ·intro j hj
       have hj2:j<6:=hj
       have: ∀j,j<6→(#[29,30,31,32,33,34]:Array Nat).getD j 0<41:=by decide
       exact this j hj2
      ·refine Sy.drew (Sy.mk_of ?_ ?_ ?_ ?_)
       ·first|rfl|(simp;done)|(simp;omega)
       ·intro c hc
        simp only[List.mem_cons,List.not_mem_nil,or_false] at hc
        rcases hc with rfl|rfl|rfl|rfl|rfl<;>exact byCT
       ·intro p hp;cases hp
       ·(repeat' first|with_reducible (first|exact Below.refl _ _|assumption|refine gr_alloc ?_ _|refine below_drewN ?_ _|refine below_drew ?_|refine gr_call ?_ VV|refine Below.setCell ?_ ?_ _)|go_size|omega|(simp;omega))
      ·clear h1 h2 h3
       refine ⟨?r3x0,?r3x1,?r3x2,?r3x3,?r3x4,?r3x5,trivial⟩
       all_goals intro _ aq wx Kq hf hS hdep ev1 ev2 hK
       case' r3x0=>
        have F8:aq.eval (.tmp 8)= .pointer (some ⟨wv.heap.size,0,none⟩):=hf 8
        have c0:=hS.cells (⟨wv.heap.size,0,none⟩,.int .i64 r.d) Vs
        have c1:=hS.cells (⟨wv.heap.size,1,none⟩,.int .i64 r.num) Vs
        have c2:=hS.cells (⟨wv.heap.size,2,none⟩,.slice x1 n9 d1) Vs
        have c3:=hS.cells (⟨wv.heap.size,3,none⟩,.int .i64 r.ge) Vs
        have c4:=hS.cells (⟨wv.heap.size,4,none⟩,.int .i64 r.ex) Vs
       case' r3x1=>
        have F8:aq.eval (.tmp 8)= .pointer (some ⟨wv.heap.size,0,none⟩):=hf 8
       case' r3x2=>
        have D1:aq.eval (.tmp 30)=_:=hdep 1
        have c0:=hS.cells (⟨wv.heap.size,0,none⟩,.int .i64 r.d) Vs
       case' r3x3=>
        have D2:aq.eval (.tmp 31)=_:=hdep 2
       case' r3x4=>
        have D0:aq.eval (.tmp 29)=_:=hdep 0
        obtain ⟨ga32,gc32,gl32,gh32,DP32,hgh32,hst32⟩:=hdep 3
        change aq.eval (.tmp 32)=_ at DP32
       case' r3x5=>
        have D4:aq.eval (.tmp 33)=_:=hdep 4
       all_goals (clear hf hdep;unfold Oper.wp;generalize Act.eval _=ev at *;go_simp)
       case r3x3=>
        refine (((unhide HRW) _)).mono ?_
        rintro e w2 ⟨v9,rfl,hpr,hb⟩
        refine hK _ _ (hS.call hb) ?_ (fun j u _ h=>hst9 j _ _ _ hb h)
        rw[if_pos VH]
        exact hpr
       case r3x4=>
        refine (((unhide HSM) _ _ _ _ _ hS.below hgh32 hst32)).mono ?_
        rintro e w2 ⟨rfl,hb⟩
        refine hK _ _ (hS.call hb) ?_ (fun j u _ h=>hst9 j _ _ _ hb h)
        rw[if_pos VH]
        show (_:Value)=_
        first|rfl|(refine congrArg (Value.int .i64) ?_;first|rfl|exact int_in Vn|exact quo_in Vn Vn Vn|exact rem_in Vn Vn|omega)|(simp;done)|(simp [*];done)
       all_goals (refine hK _ _ hS ?_ (fun j u _ h=>h);rw [if_pos VH];show (_:Value)=_;(first|rfl|(refine congrArg (Value.int .i64) ?_;first|rfl|exact int_in Vn|exact quo_in Vn Vn Vn|exact rem_in Vn Vn|omega)|(simp;done)|(simp [*];done)))
      ·intro aq wx hd hw hf hS hg
       have G34:tau aq 34= .bool (!bq):=hg 5 VA
       have haq:aq=⟨#[tau aq 0,tau aq 1,tau aq 2,tau aq 3,tau aq 4,tau aq 5,tau aq 6,tau aq 7,tau aq 8,tau aq 9,tau aq 10,tau aq 11,tau aq 12,tau aq 13,tau aq 14,tau aq 15,tau aq 16,tau aq 17,tau aq 18,tau aq 19,tau aq 20,tau aq 21,tau aq 22,tau aq 23,tau aq 24,tau aq 25,tau aq 26,tau aq 27,tau aq 28,tau aq 29,tau aq 30,tau aq 31,tau aq 32,tau aq 33,tau aq 34,tau aq 35,tau aq 36,tau aq 37,tau aq 38,tau aq 39,tau aq 40],[]⟩:=by
        obtain ⟨tq,dq⟩:=aq
        have h5:=arr_eq (show tq.size=41 from hw)
        have h6:dq= []:=hd
        subst h6
        exact congrArg (fun z=>Act.mk z []) h5
       show K2 aq wx
       rw[haq,hf 0,hf 1,hf 2,hf 3,hf 4,hf 5,hf 6,hf 7,hf 8,hf 9,hf 10,hf 11,hf 12,hf 13,hf 14,hf 15,hf 16,hf 17,hf 18,hf 19,hf 20,hf 21,hf 22,hf 23,hf 24,hf 25,hf 26,hf 27,hf 28,hf 35,hf 36,hf 37,hf 38,hf 39,hf 40,G34]
       clear haq hf hd hw
       try dsimp only
       refine h3 _ _ ?_
       go_meet
       refine ⟨rfl,?_,?_,?_,?_,?_,hS.below⟩
       all_goals first|exact hS.cells (_,_) Vs|exact (hS.free _ Vs).2
     try clear c00
     try clear c01
     try clear c02
     try clear c03
     try clear c04
     try clear z0
     obtain ⟨rfl,c00,c01,c02,c03,c04,hb0⟩:=hcut
     have z0:=World.block_lt_of_cell? _ _ c00
     change wv.heap.size<wc.heap.size at z0
     have hs2:=hsd.call hK hb0
     have hz9:=hs2.sd.bel.size
     cases bq
     ·have YES:=hide ((congrArg (· ++ [(ix:Int)]) (unhide hl)).trans (wr_yes (unhide HBQ)).symm)
      clear HBQ
      go_wp2_with (at_builtin;refine app_int _ rfl (.tmp 35) (.tmp 37) rfl w.heap.size (.slice a8 n8 c8) l (ix:Int) wc.heap.size rfl rfl (hs2.alloc hK _).il VB Vn VW ?_;intro g9 cap w3 hown hgrow hat hlt)
      go_roundw
      case rel=>
       have hs3:=(hs2.alloc hK _).app hK hown hgrow hat
       exact ⟨ix+1,l.length+1,cap,some ⟨g9,0,none⟩,_,by go_num,rfl,Vn,by have:=unhide hln;omega,YES,hs3⟩
      case measure=>simp [intOf];omega
     ·have NO:=hide ((unhide hl).trans (wr_no (unhide HBQ)).symm)
      clear HBQ
      go_wp2
      go_roundw
      case rel=>first|exact ⟨ix+1,n8,c8,_,l,by first|rfl|go_num,rfl,Vn,Vn,NO,hs2⟩|((repeat apply Exists.intro);exact ⟨⟨ix+1,n8,c8,_,l,by first|rfl|go_num,rfl,Vn,Vn,NO,hs2⟩,rfl⟩)
      case measure=>simp [intOf];omega
    ·obtain rfl:n=ix:=by omega
     go_wp2
     go_ret2
     have hL:=unhide hl
     subst hL
     have hn8:=unhide hsd.len
     subst hn8
     exact ⟨a8,c8,rfl,hsd.il.ints.2,hsd.sd.bel⟩

end Go.Proofs.YtobkcnmlmmhpoaaGreatDoor
