/- CountByNumber on both sides, and the law's walk. Lists of forms, and of slices, beside a source that stays. A map keyed by forms. Two lists of integers compared, both sides. Prime factors: the walks' plain side. -/
import Derived.Test.YtobkcnmlmmhpoaaGreatDoorGreat
import Derived.Test.YtobkcnmlmmhpoaaGreatDoorPrim
import Derived.Test.YtobkcnmlmmhpoaaGreatDoorOs
import Derived.Maps.OwnOps
import Derived.Maps.Views
import Derived.DeepKeys4
import Derived.BigQuiet
import Derived.Test.YtobkcnmlmmhpoaaGreatDoorConv
set_option maxRecDepth 100000
set_option maxHeartbeats 80000000
namespace Go.Proofs.YtobkcnmlmmhpoaaGreatDoor
open Go.RowKit
set_option linter.unusedVariables false
set_option linter.unusedSimpArgs false
attribute [local go_sem] q2 q3 q4 q5 q6 q7 q8 q9 q10 q11 q12

def RetLen (w:World) (n:Nat) (e:Ending) (w':World):Prop:= ∃a c,e= .returned (.slice a n c)∧Below w.heap.size w w'
theorem reducedForms_len (d:Int) (w:World) (h0: -2000≤d) (h1:d≤ -3) {h:Nat} (hh:h=(rfL d).length):
  Calls Tryz.prog 42 #[.int .i64 d] w (RetLen w h):=
 (reducedForms_a d w h0 h1).mono fun e w' ⟨a,c,he,_,hb⟩=>⟨a,c,by rw[hh];exact he,hb⟩
theorem reList_len (d:Int) (w:World) (h0: -2000≤d) (h1:d≤ -3) {h:Nat} (hh:h=(rfL d).length):
  Calls Tryz.prog 51 #[.int .i64 d] w (RetLen w h):=
 (reList_a d w h0 h1).mono fun e w' ⟨a,c,he,_,hb⟩=>⟨a,c,by rw[hh];exact he,hb⟩
def padL (cs:List Int) (j:Nat):List Int:=cs++List.replicate j 0
def bumpL (cs:List Int) (h:Nat):List Int:=(padL cs (h+1-cs.length)).set h ((padL cs (h+1-cs.length)).getD h 0+1)
def cbK (ds:List Int):Nat→List Int
 |0=> []
 |k+1=>bumpL (cbK ds k) (rfL (ds.getD k 0)).length
theorem padL_len (cs:List Int) (j:Nat):(padL cs j).length=cs.length+j:=by simp [padL]
theorem padL_succ (cs:List Int) (j:Nat):padL cs (j+1)=padL cs j++ [0]:=by
 unfold padL;rw [List.replicate_succ',List.append_assoc]
theorem bumpL_len (cs:List Int) (h:Nat):(bumpL cs h).length≤cs.length+(h+1-cs.length):=by
 unfold bumpL;rw [List.length_set,padL_len];exact Nat.le_refl _
theorem cbK_ok (ds:List Int) (hd: ∀x ∈ ds,(rfL x).length≤676): ∀k,k≤ds.length→(cbK ds k).length≤677∧ ∀z ∈ cbK ds k,0≤z∧z≤k:=by
 intro k
 induction k with
 |zero=>intro _;exact ⟨by simp [cbK],fun z hz=>by cases hz⟩
 |succ k ih=>
  intro hk
  obtain ⟨h1,h2⟩:=ih Vn
  have h3:=hd _ (getD_mem (show k<ds.length by omega))
  have hp: ∀j z,z ∈ padL (cbK ds k) j→0≤z∧z≤k:=fun j z hz=>by
   unfold padL at hz
   rw[List.mem_append] at hz
   rcases hz with hz|hz
   ·exact h2 z hz
   ·have:=List.eq_of_mem_replicate hz;omega
  refine ⟨?_,fun z hz=> ?_⟩
  ·rw [cbK]
   have:=bumpL_len (cbK ds k) (rfL (ds.getD k 0)).length
   omega
  ·rw [cbK] at hz
   unfold bumpL at hz
   rcases List.mem_or_eq_of_mem_set hz with hz|hz
   ·have:=hp _ z hz;omega
   ·generalize hy:(padL (cbK ds k) ((rfL (ds.getD k 0)).length+1-(cbK ds k).length)).getD (rfL (ds.getD k 0)).length 0=y at hz
    have hyb:0≤y∧y≤k:=by
     by_cases q:(rfL (ds.getD k 0)).length<(padL (cbK ds k) ((rfL (ds.getD k 0)).length+1-(cbK ds k).length)).length
     ·have:=hp _ _ (getD_mem q);rw [hy] at this;exact this
     ·rw [List.getD_eq_getElem?_getD,List.getElem?_eq_none Vn] at hy
      simp at hy;omega
    omega
def lenOf (v:Value):Nat:=match v with| .slice _ n _=>n|_=>0
theorem IL.cellAt {w:World} {lo g n c:Nat} {zs:List Int} (h:IL w lo (.slice (some ⟨g,0,none⟩) n c) zs) {j:Nat} (hj:j<zs.length):w.cell? ⟨g,j,none⟩=some (.int .i64 (zs.getD j 0)):=by
 have hn:n=zs.length:=h.ints.1
 subst hn
 rw[World.ownsRow.cellAt h j Vn,List.getElem?_map,List.getElem?_eq_getElem hj,List.getD_eq_getElem?_getD,List.getElem?_eq_getElem hj]
 rfl
theorem IL.frozenAt {w:World} {lo g n c:Nat} {zs:List Int} (h:IL w lo (.slice (some ⟨g,0,none⟩) n c) zs) (j:Nat):w.frozen? ⟨g,j,none⟩=false:=by
 have hn:n=zs.length:=h.ints.1
 subst hn
 exact World.ownsRow.frozenAt h j
theorem IL.stored {w:World} {lo g n c:Nat} {zs:List Int} (h:IL w lo (.slice (some ⟨g,0,none⟩) n c) zs) (j:Nat) (z:Int):
  IL (w.setCell ⟨g,j,none⟩ (.int .i64 z)) lo (.slice (some ⟨g,0,none⟩) n c) (zs.set j z)∧w.grownBy (w.setCell ⟨g,j,none⟩ (.int .i64 z)) (some g):=by
 have hn:n=zs.length:=h.ints.1
 subst hn
 have:=World.ownsRow.stored h j (.int .i64 z)
 rw[←List.map_set] at this
 unfold IL
 rw[List.length_set]
 exact this
theorem IL.some_of {w:World} {lo n c:Nat} {a:Option Addr} {zs:List Int} (h:IL w lo (.slice a n c) zs) (hz:0<zs.length): ∃g,a=some ⟨g,0,none⟩∧lo≤g:=by
 rcases h.2 with ⟨h1,h2⟩|⟨g,cap,cur,h1,h2,_⟩
 ·omega
 ·simp only[Value.slice.injEq] at h1
  exact ⟨g,h1.1,h2⟩
theorem IntsAt.grown {w w':World} {lo hi n:Nat} {a:Option Addr} {f:Nat→Int} {row:Option Nat} (h:IntsAt w lo hi a n f) (hg:w.grownBy w' row) (hr: ∀k,row=some k→k<lo∨hi≤k) (hB:hi≤w.heap.size):IntsAt w' lo hi a n f:=
 h.keep fun k h1 h2=>hg.block k Vn (fun e=>by have:=hr k e.symm;omega)
def cbL (lo hi:Int):List Int:=if rgB lo hi then cbK (dcL lo hi) (dcL lo hi).length else []
theorem implCountByNumber_a (lo hi:Int) (w:World):
  Calls Tryz.prog 17 #[.int .i64 lo,.int .i64 hi] w (RetInts w (cbL lo hi).length (fun i=>(cbL lo hi).getD i 0) (rgB lo hi)):=by
 cases h:rgB lo hi
 ·have hL:cbL lo hi= []:=by simp [cbL,h]
  have HL:=hide hL
  have HK:=hide h
  clear hL
  go_enter Tryz.func17,Tryz.ntmps17
  go_wp2_with (go_at_call 24;refine (isRange_a _ _ _).mono ?_;rintro e w' ⟨rfl,rfl⟩)
  go_ret2
  exact ⟨_,_,by rw[unhide HL];rfl,.inl (by rw[unhide HL];rfl),by (repeat' (first|(with_reducible exact Below.refl _ _)|(with_reducible assumption)|(with_reducible refine gr_alloc ?_ _)|(with_reducible refine below_drewN ?_ _)|(with_reducible refine below_drew ?_)|(with_reducible refine gr_call ?_ VV)|(with_reducible refine Below.setCell ?_ ?_ _)|go_size|omega|(simp;omega)))⟩
 ·obtain ⟨r0,r1,r2⟩:=rg_true h
  have HC:Calls Tryz.prog 25 #[.int .i64 lo,.int .i64 hi] (w.alloc (.cells #[] 3)) (RetIL (w.alloc (.cells #[] 3)) (dcL lo hi)):=discsIn_a lo hi (w.alloc (.cells #[] 3)) r0 r2
  have hlen:=dcL_len (lo:=lo) (hi:=hi) r0 r2
  have HM:=fun x hx=>dcL_mem (lo:=lo) (hi:=hi) (x:=x) hx
  have hL:cbL lo hi=cbK (dcL lo hi) (dcL lo hi).length:=by simp [cbL,h]
  have HL:=hide hL
  clear hL
  generalize dcL lo hi=ds at*
  have HR: ∀x ∈ ds,(rfL x).length≤676:=fun x hx=>by obtain ⟨q0,q1⟩:=neg_true (HM x hx);exact rfL_len q0 q1
  have HB:=hide (cbK_ok ds HR)
  go_enter Tryz.func17,Tryz.ntmps17
  go_wp2_with (first|(go_at_call 24;refine (isRange_a _ _ _).mono ?_;rintro e w' ⟨rfl,rfl⟩)|(go_at_call 25;refine HC.mono ?_;rintro e wA ⟨a0,c0,rfl,hlA,hbA⟩))
  have hzw:=hbA.size
  have hbw:Below w.heap.size w wA:=((Below.refl w.heap.size w).alloc (Nat.le_refl _) (.cells #[] 3)).trans (hbA.mono Vs)
  have hl0:IL wA w.heap.size (.slice (some ⟨w.heap.size,0,none⟩) 0 0) []:=(IL.made w w.heap.size (Nat.le_refl _)).below hbA
  have hF0:IntsAt wA (w.heap.size+1) wA.heap.size a0 ds.length (fun i=>ds.getD i 0):=hlA.ints.2.weak Vs (Nat.le_refl _)
  clear HC
  go_loopw [6,20] (fun ls is wr=> ∃(k:Nat) (a:Option Addr) (c:Nat),k≤ds.length∧is= .int .i64 (k:Int)∧ls= .slice a (cbK ds k).length c∧IL wr w.heap.size (.slice a (cbK ds k).length c) (cbK ds k)∧(∀b,(Value.slice a (cbK ds k).length c).ownBlock=some b→b<w.heap.size+1∨wA.heap.size≤b)∧Below w.heap.size w wr∧IntsAt wr (w.heap.size+1) wA.heap.size a0 ds.length (fun i=>ds.getD i 0)∧wA.heap.size≤wr.heap.size) (fun _ is _=>ds.length-(intOf is).toNat)
  case atStart=>exact ⟨0,some ⟨w.heap.size,0,none⟩,0,Vn,rfl,rfl,hl0,fun b hb=> .inl (by simp [Value.ownBlock] at hb;omega),hbw,hF0,Nat.le_refl _⟩
  case round=>
   obtain ⟨k,a,c,hk,rfl,rfl,hl,hbl,hb,hI,hzA⟩:=hrel
   obtain ⟨w1,rfl⟩: ∃w1:World,w1=wr:=⟨_,rfl⟩
   have hz:=hb.size
   obtain ⟨hcl,hcz⟩:=unhide HB k hk
   by_cases c9:k<ds.length
   ·have hci:(k:Int)<(ds.length:Int):=by omega
    obtain ⟨g0,hga,hg2,c0⟩:=hI.cell c9
    have hx:=HM _ (getD_mem c9)
    have hxr:=HR _ (getD_mem c9)
    obtain ⟨hx0,hx1⟩:=neg_true hx
    have hbk:cbK ds (k+1)=bumpL (cbK ds k) (rfL (ds.getD k 0)).length:=rfl
    have HBK:=hide hbk
    clear hbk hx
    subst hga
    generalize hxx:ds.getD k 0=x at*
    have XX:=hide hxx
    clear hxx
    obtain ⟨h9,hh⟩: ∃h9,h9=(rfL x).length:=⟨_,rfl⟩
    have HH:=hide hh
    have h9b:h9≤676:=by rw[hh];exact hxr
    clear hh hxr
    have hck:cbK ds k=cbK ds k:=rfl
    generalize hcs:cbK ds k=cs at*
    have HCS:=hide hcs
    clear hcs hck
    go_wp2_with (go_at_call 42;refine (reducedForms_len _ _ hx0 hx1 (unhide HH)).mono ?_;rintro e w2 ⟨a2,c2,rfl,hb2⟩)
    have hz2:=hb2.size
    have hl2:=hl.below hb2
    have hb3:=hb.trans (hb2.mono hz)
    have hI2:=hI.below hb2 hzA
    have hzA2:wA.heap.size≤w2.heap.size:=by omega
    clear hl hb hI c0
    go_loopw [6] (fun ls wr=> ∃(j:Nat) (a:Option Addr) (c:Nat),j≤h9+1-cs.length∧ls= .slice a (padL cs j).length c∧IL wr w.heap.size (.slice a (padL cs j).length c) (padL cs j)∧(∀b,(Value.slice a (padL cs j).length c).ownBlock=some b→b<w.heap.size+1∨wA.heap.size≤b)∧Below w.heap.size w wr∧IntsAt wr (w.heap.size+1) wA.heap.size (some ⟨g0,0,none⟩) ds.length (fun i=>ds.getD i 0)∧wA.heap.size≤wr.heap.size) (fun ls _=>h9+1-lenOf ls)
    case atStart=>exact ⟨0,a,c,Vn,by simp [padL],by simpa [padL] using hl2,by simpa [padL] using hbl,hb3,hI2,hzA2⟩
    case round=>
     clear hl2 hb3 hI2 hbl
     obtain ⟨j,a,c,hj,rfl,hl,hbl,hb,hI,hzA⟩:=hrel
     obtain ⟨w3,rfl⟩: ∃w3:World,w3=wr:=⟨_,rfl⟩
     have hz3:=hb.size
     have hpl:=padL_len cs j
     by_cases c8:(padL cs j).length≤h9
     ·have hci8:((padL cs j).length:Int)≤(h9:Int):=by omega
      have el:=padL_succ cs j
      have EL:=hide el
      have HPL:=hide hpl
      clear el hpl
      go_wp2_with (at_builtin;refine app_int _ rfl (.tmp 31) (.tmp 32) rfl w.heap.size (.slice a (padL cs j).length c) (padL cs j) 0 w3.heap.size rfl rfl (hl.alloc _) VB Vn VW ?_;intro g cap w4 hown hgrow hat hlt)
      go_roundw
      case rel=>
       refine ⟨j+1,some ⟨g,0,none⟩,cap,by have:=unhide HPL;omega,?_,?_,?_,(hb.alloc hz3 _).grown hgrow VX (fun k hk=>(hl.lt k hk).1),?_,?_⟩
       ·rw [unhide EL,List.length_append];rfl
       ·rw [unhide EL,List.length_append];exact hown
       ·intro b hb9
        have e9:b=g:=by simp [Value.ownBlock] at hb9;omega
        subst e9
        rcases hat with q|q
        ·exact hbl b q
        ·right;rw [q];simp;omega
       ·exact (hI.below (below_alloc_p w3 _) hzA).grown hgrow hbl VX
       ·have:=hgrow.size;simp at this;omega
      case measure=>simp [lenOf];omega
     ·have hci8:(h9:Int)<((padL cs j).length:Int):=by omega
      have hjj:j=h9+1-cs.length:=by omega
      obtain ⟨g,hga,hgl⟩:=hl.some_of (show 0<(padL cs j).length by omega)
      subst hga
      have d0:=hl.cellAt (show h9<(padL cs j).length by omega)
      have d1:=hl.frozenAt h9
      have hzb:0≤(padL cs j).getD h9 0∧(padL cs j).getD h9 0≤2000:=by
       have hm:=getD_mem (show h9<(padL cs j).length by omega)
       unfold padL at hm ⊢
       rw[List.mem_append] at hm
       rcases hm with hm|hm
       ·have:=hcz _ hm;omega
       ·have:=List.eq_of_mem_replicate hm;omega
      generalize hy:(padL cs j).getD h9 0=y at*
      obtain ⟨st1,st2⟩:=hl.stored h9 (y+1)
      have he:cbK ds (k+1)=(padL cs j).set h9 (y+1):=by
       rw[unhide HBK,←unhide HH];unfold bumpL;rw [←hjj,hy]
      have hle:((padL cs j).set h9 (y+1)).length=(padL cs j).length:=List.length_set
      have HE:=hide he
      have HLE:=hide hle
      have HPL:=hide hpl
      have HJ:=hide hjj
      have HY:=hide hy
      clear he hle hpl hjj hy
      go_wp2
      go_roundw
      case rel=>
       refine ⟨k+1,some ⟨g,0,none⟩,c,Vn,by go_num,?_,?_,?_,hb.setCell hgl _,?_,?_⟩
       ·rw [unhide HE,unhide HLE]
       ·rw [unhide HE,unhide HLE];exact st1
       ·intro b hb9
        exact hbl b hb9
       ·exact hI.grown st2 (fun b hb9=>hbl b hb9) hzA
       ·simpa [World.setCell] using hzA
      case measure=>simp [intOf];omega
   ·obtain rfl:k=ds.length:=by omega
    go_wp2
    go_ret2
    refine ⟨a,c,?_,?_,hb⟩
    ·rw [unhide HL];rfl
    ·rw [unhide HL]
     exact hl.ints.2

end Go.Proofs.YtobkcnmlmmhpoaaGreatDoor
namespace Go.Proofs.YtobkcnmlmmhpoaaGreatDoor
open Go.RowKit
set_option linter.unusedVariables false
set_option linter.unusedSimpArgs false
attribute [local go_sem] q2 q3 q4 q5 q6 q7 q8 q9 q10 q11 q12

def srcF (LO HI:Nat) (a:Option Addr) (fs:List (Int × Int × Int)) (W:World):Prop:=FAt W LO HI a fs
theorem forms_kept {LO HI:Nat} {a:Option Addr} {fs:List (Int × Int × Int)} :Kept LO HI (srcF LO HI a fs):=fun w w' hk h=>FormsAt.keep h hk
theorem FAt.low {w:World} {lo lo' hi:Nat} {a:Option Addr} {fs:List (Int × Int × Int)} (h:FAt w lo hi a fs) (h1:lo'≤lo):FAt w lo' hi a fs:=by
 rcases h with h|⟨g,cap,F,ha,g1,g2,r⟩
 ·exact .inl h
 ·exact .inr ⟨g,cap,F,ha,Vn,g2,r⟩
structure SF (w:World) (LO HI:Nat) (S:World→Prop) (wr:World) (a:Option Addr) (n c:Nat) (l:List (Int × Int × Int)):Prop where
 len:Hid (n=l.length)
 sd:SD 81 3 w LO HI S wr (.slice a n c) n ((flat3 l).map (Value.int .i64))
theorem SF.fl {w wr:World} {LO HI n c:Nat} {S:World→Prop} {a:Option Addr} {l:List (Int × Int × Int)} (h:SF w LO HI S wr a n c l):FL wr w.heap.size (.slice a n c) l:=by
 have:=h.sd.own
 have hn:=unhide h.len
 unfold FL FormL;rw [←hn];exact this
theorem SF.call {w wr w2:World} {LO HI n c:Nat} {S:World→Prop} {a:Option Addr} {l:List (Int × Int × Int)} (h:SF w LO HI S wr a n c l) (hK:Kept LO HI S) (hb:Below wr.heap.size wr w2):SF w LO HI S w2 a n c l:=⟨h.len,h.sd.call hK hb⟩
theorem SF.alloc {w wr:World} {LO HI n c:Nat} {S:World→Prop} {a:Option Addr} {l:List (Int × Int × Int)} (h:SF w LO HI S wr a n c l) (hK:Kept LO HI S) (o:Obj):SF w LO HI S (wr.alloc o) a n c l:=⟨h.len,h.sd.alloc hK o⟩
theorem SF.app {w wr w2:World} {LO HI n c g cap:Nat} {S:World→Prop} {a:Option Addr} {l:List (Int × Int × Int)} {z:Int × Int × Int} (h:SF w LO HI S wr a n c l) (hK:Kept LO HI S)
  (hown:FL w2 w.heap.size (.slice (some ⟨g,0,none⟩) (l.length+1) cap) (l++ [z])) (hgrow:wr.grownBy w2 (Value.slice a n c).ownBlock) (hat:(Value.slice a n c).ownBlock=some g∨g=wr.heap.size):SF w LO HI S w2 (some ⟨g,0,none⟩) (l.length+1) cap (l++ [z]):=by
 refine ⟨hide Vs,h.sd.app hK ?_ hgrow hat⟩
 have:=hown
 unfold FL FormL at this
 rw[List.length_append] at this
 exact this
theorem SF.ret {w wr:World} {LO HI n c:Nat} {S:World→Prop} {a:Option Addr} {l:List (Int × Int × Int)} (h:SF w LO HI S wr a n c l) {zs:List (Int × Int × Int)} (e:l=zs) {en:Ending} (he:en= .returned (.slice a n c)):RetFL w zs en wr:=by
 subst e
 have hn:=unhide h.len
 refine ⟨a,c,?_,?_,h.sd.bel⟩
 ·rw [he,←hn]
 ·have:=h.fl;rw [←hn];exact this
theorem Tryz.infoFS:(Tryz.prog.info? 55).map (fun i=>(i.zero,i.size,i.bytes))=some (some (.slice none 0 0),1,24):=by kernel_rfl
theorem app_sl (w:World) {ops:Array Oper} {rest:List Oper} {o:Oper} {a:Act} {Q:Exit→Act→World→Prop} (hgd:o.guard=none) (s x:Operand)
  (ho:o.op= .call { callee:= .builtin .append,args:= #[s,x],argTypes:= #[62,62] })
  (lo:Nat) (v:Value) (n:Nat) (vs:List Value) (u:Value) (B:Nat) (hs:a.eval s=v) (hx:a.eval x= .slice (some ⟨B,0,none⟩) 1 1)
  (hown:w.ownsRow lo 55 1 v n vs) (hB:w.cell? ⟨B,0,none⟩=some u) (hu:u.oneCell'=true) (hlen:n≤1000000000) (hlo:lo≤w.heap.size)
  (h: ∀g cap w',w'.ownsRow lo 55 1 (.slice (some ⟨g,0,none⟩) (n+1) cap) (n+1) (vs++ [u])→w.grownBy w' v.ownBlock→(v.ownBlock=some g∨g=w.heap.size)→g<w'.heap.size→
   wpList Tryz.prog ops Q rest (a.put o.dst (.slice (some ⟨g,0,none⟩) (n+1) cap)) w'):wpList Tryz.prog ops Q (o :: rest) a w:=by
 obtain ⟨i0,hi,hz0,hz1,hz2⟩:=info_parts Tryz.infoFS
 refine wpList_append_lies w hgd s x 62 ho lo 55 i0 (.slice none 0 0) 1 24 Tryz.underlying62 hi hz0 hz1 hz2 rfl VA v n _ hs hown ⟨B,0,none⟩ 1 1 [u] hx rfl ?_ (by simp [hu]) VA VK Vn hlo _ rfl ?_
 ·intro j u' hu'
  match j with
  |0=>simp at hu';subst hu';simpa [Addr.add] using hB
  |j+1=>simp at hu'
 ·intro g cap w' h1 h2 h3 h4
  exact h g cap w' h1 h2 h3 h4
end Go.Proofs.YtobkcnmlmmhpoaaGreatDoor
namespace Go.Proofs.YtobkcnmlmmhpoaaGreatDoor
open Go.RowKit
set_option linter.unusedVariables false
set_option linter.unusedSimpArgs false
open Go.Maps (Keyed)
open Go.WideElems (Fit)
theorem fk_laid:laidOutB Tryz.prog=true:=by kernel_rfl
theorem fk_row:(81:TypeId)<Tryz.prog.types.size:=of_decide_eq_true Vw
theorem fk_wide:(match Tryz.prog.underlying 81 with|some (.array _ _)|some (.struct _)=>true|_=>false)=true:=by rw[Tryz.underlying81]
theorem fk_deep:Tryz.prog.keyTypeAt 2 81=true:=by kernel_rfl
theorem fk_law:Keyed Tryz.prog 81:=Keyed.of_law (deep_law_laid fk_laid (show 2+1≤10000 by decide) fk_row fk_deep fk_wide)
theorem fk_type:Tryz.prog.keyType 81=true:=by kernel_rfl
theorem fk_cells:Tryz.prog.cellsOf 81=3:=by kernel_rfl
theorem fk_cellsI:Tryz.prog.cellsOf 3=1:=by kernel_rfl
theorem fk_size: ∃m,Tryz.prog.types.size=m+1:=Nat.exists_eq_succ_of_ne_zero (Nat.ne_of_gt (Nat.lt_of_le_of_lt (Nat.zero_le _) fk_row))
theorem fk_zero (w:World):(zeroValue 3).run Tryz.prog w= .ok (.int .i64 0) w:=by kernel_rfl
theorem fk_keyI (m:Nat) {n:Int} (hn:(Lit.int .i64 n).wf=true):Tryz.prog.keyLits (m+1) 3 [.int .i64 n]=some [.int .i64 n]:=by
 unfold Program.keyLits
 simp only[Tryz.underlying3]
 rw[if_pos ⟨trivial,hn⟩]
theorem fk_formed {a b c:Value} :(Value.agg #[a,b,c]).formed Tryz.prog 81=true:=by simp only[Value.formed,Tryz.underlying81,fk_cells];rfl
theorem fk_key {a b c:Int} (wa:(Lit.int .i64 a).wf=true) (wb:(Lit.int .i64 b).wf=true) (wc:(Lit.int .i64 c).wf=true): ∃kl,keyOf Tryz.prog 81 (.agg #[.int .i64 a,.int .i64 b,.int .i64 c])=some kl:=by
 obtain ⟨m,hm⟩:=fk_size
 unfold keyOf
 simp only[Tryz.underlying81]
 rw[if_pos (by rw[fk_type,fk_formed];rfl),hm]
 unfold Program.keyLits
 simp only[Tryz.underlying81,Value.cells]
 rw[if_pos ⟨by rw[fk_cells];rfl,Vw⟩]
 simp only[List.mapM_cons,List.mapM_nil,fk_cellsI]
 have e0:([Value.int .i64 a,.int .i64 b,.int .i64 c].drop 0).take 1= [.int .i64 a]:=rfl
 have e1:([Value.int .i64 a,.int .i64 b,.int .i64 c].drop 1).take 1= [.int .i64 b]:=rfl
 have e2:([Value.int .i64 a,.int .i64 b,.int .i64 c].drop 2).take 1= [.int .i64 c]:=rfl
 rw[e0,e1,e2,fk_keyI m wa,fk_keyI m wb,fk_keyI m wc]
 exact ⟨_,rfl⟩

def fV (F:Int × Int × Int):Value:= .agg #[.int .i64 F.1,.int .i64 F.2.1,.int .i64 F.2.2]
def SmF (F:Int × Int × Int):Prop:=(-1000000≤F.1∧F.1≤1000000)∧(-1000000≤F.2.1∧F.2.1≤1000000)∧ -1000000≤F.2.2∧F.2.2≤1000000
theorem fk_ex {F:Int × Int × Int} (h:SmF F): ∃kl,keyOf Tryz.prog 81 (fV F)=some kl:=by
 obtain ⟨⟨h1,h2⟩,⟨h3,h4⟩,h5,h6⟩:=h
 exact fk_key (WalkArith.wf_i64 Vn) (WalkArith.wf_i64 Vn) (WalkArith.wf_i64 Vn)
def mfAt (w:World) (b:Nat) (fs:List (Int × Int × Int)) (k:Nat):Prop:= ∃(n:Nat) (D:DataW Unit),w.ownsMap Tryz.prog 81 (plainElem Tryz.prog 3) b n D∧n≤k∧Maps.IsMap D∧ ∀i,i<k→ ∀kl,keyOf Tryz.prog 81 (fV (fs.getD i (0,0,0)))=some kl→D.atKey kl (.lit (.int .i64 0))= .lit (.int .i64 i)
theorem mf_kept {w w':World} {b k:Nat} {row:Option Nat} {fs:List (Int × Int × Int)} (h:mfAt w b fs k) (hg:w.grownBy w' row) (hne:some b≠row):mfAt w' b fs k:=by
 obtain ⟨n,D,h1,h2,h3,h4⟩:=h
 exact ⟨n,D,h1.kept hg hne,h2,h3,h4⟩
theorem mf_below {w w':World} {b k:Nat} {fs:List (Int × Int × Int)} (h:mfAt w b fs k) (hb:Below w.heap.size w w'):mfAt w' b fs k:=mf_kept h (bel_grown hb) Vs
theorem mf_lt {w:World} {b k:Nat} {fs:List (Int × Int × Int)} (h:mfAt w b fs k):b<w.heap.size:=by
 obtain ⟨n,D,h1,_⟩:=h
 exact h1.lt
theorem mf_made (w:World) (fs:List (Int × Int × Int)):mfAt (w.alloc (.map #[] 0)) w.heap.size fs 0:=
 ⟨0,.map [],World.ownsMap_made _ _ _ _,Nat.le_refl _,Maps.isMap_empty,fun i hi=>absurd hi Vn⟩
theorem mf_look {w:World} {b:Nat} {fs:List (Int × Int × Int)} (h:mfAt w b fs fs.length) {i:Nat} (hi:i<fs.length) (hs:SmF (fs.getD i (0,0,0))):(Instr.lookup 77 (.map (some b)) (fV (fs.getD i (0,0,0))) false).run Tryz.prog w= .ok (.int .i64 (i:Int)) w:=by
 obtain ⟨n,D,h1,h2,h3,h4⟩:=h
 obtain ⟨kl,hk⟩:=fk_ex hs
 obtain ⟨c,hrun,hat,_⟩:=h1.lookup_int fk_law Tryz.underlying77 Tryz.underlying3 (fk_zero w) hk
 rw[h4 i hi kl hk] at hat
 simp only[DataW.lit.injEq,Lit.int.injEq] at hat
 rw[hrun,←hat.2]
theorem mf_store {w:World} {b k:Nat} {fs:List (Int × Int × Int)} (h:mfAt w b fs k) (hk:k<fs.length) (hn:fs.Nodup) (hs:SmF (fs.getD k (0,0,0))) (hk2:k≤100000): ∃w',(Instr.mapUpdate 77 (.map (some b)) (fV (fs.getD k (0,0,0))) (.int .i64 (k:Int))).run Tryz.prog w= .ok () w'∧mfAt w' b fs (k+1)∧w.grownBy w' (some b):=by
 obtain ⟨n,D,h1,h2,h3,h4⟩:=h
 obtain ⟨kl,hkey⟩:=fk_ex hs
 obtain ⟨w',hrun,hown,hgr⟩:=h1.update fk_law Tryz.underlying77 VK hkey (plainElem_int Tryz.underlying3 (WalkArith.wf_i64 (show -9223372036854775808≤(k:Int)∧(k:Int)≤9223372036854775807 by omega)))
 refine ⟨w',hrun,⟨n+1,_,hown,Vn,h3.put _ _,fun i hi kl' hkl'=> ?_⟩,hgr⟩
 by_cases e:i=k
 ·subst e
  rw[hkey] at hkl'
  cases hkl'
  exact Maps.atKey_put_same h3 (fk_law.key hkey) _ _
 ·rw [Maps.atKey_put_other (fun q=> ?_)]
  ·exact h4 i Vn kl' hkl'
  ·subst q
   have hv:=fk_law.inj hkl' hkey
   have he:fs.getD i (0,0,0)=fs.getD k (0,0,0):=by
    unfold fV at hv
    simp only[Value.agg.injEq,Array.mk.injEq,List.cons.injEq,Value.int.injEq,true_and,and_true] at hv
    exact Prod.ext hv.1 (Prod.ext hv.2.1 hv.2.2)
   simp only[List.getD_eq_getElem?_getD,List.getElem?_eq_getElem hk,List.getElem?_eq_getElem (show i<fs.length by omega),Option.getD_some] at he
   rcases Nat.lt_trichotomy i k with q|q|q
   ·exact List.pairwise_iff_getElem.1 hn i k Vn hk q he
   ·exact e q
   ·omega
end Go.Proofs.YtobkcnmlmmhpoaaGreatDoor
namespace Go.Proofs.YtobkcnmlmmhpoaaGreatDoor
open Go.RowKit
set_option linter.unusedVariables false
set_option linter.unusedSimpArgs false
attribute [local go_sem] q2 q3 q4 q5 q6 q7 q8 q9 q10 q11 q12

theorem ints_eq {x y:List Int} (hl:x.length=y.length) (h: ∀i,i<x.length→x.getD i 0=y.getD i 0):x=y:=by
 refine List.ext_getElem hl fun i h1 h2=> ?_
 have:=h i h1
 simpa [List.getD_eq_getElem?_getD,List.getElem?_eq_getElem h1,List.getElem?_eq_getElem h2] using this

theorem sameValues_a (x y:List Int) (a1 a2:Option Addr) (n1 n2 c1 c2 l1 u1 l2 u2:Nat) (w:World) (e1:Hid (n1=x.length)) (e2:Hid (n2=y.length)) (hi1:u1≤w.heap.size) (hi2:u2≤w.heap.size)
  (hx:IntsAt w l1 u1 a1 n1 (fun i=>x.getD i 0)) (hy:IntsAt w l2 u2 a2 n2 (fun i=>y.getD i 0)) (hb1:n1≤1000000000) (hb2:n2≤1000000000):
  Calls Tryz.prog 67 #[.slice a1 n1 c1,.slice a2 n2 c2] w fun e w'=>e= .returned (.bool (decide (x=y)))∧Below w.heap.size w w':=by
 obtain ⟨b,hbb⟩: ∃b,decide (x=y)=b:=⟨_,rfl⟩
 rw[hbb]
 by_cases cn:n1=n2
 ·subst cn
  have hb0:=Below.refl w.heap.size w
  go_enter Tryz.func67,Tryz.ntmps67
  go_wp2
  go_loopw [14] (fun is wr=> ∃k:Nat,k≤n1∧is= .int .i64 (k:Int)∧Hid (∀i,i<k→x.getD i 0=y.getD i 0)∧Below w.heap.size w wr) (fun is _=>n1-(intOf is).toNat)
  case atStart=>exact ⟨0,Vn,rfl,hide (fun i hi=>absurd hi Vn),hb0⟩
  case round=>
   clear hb0
   obtain ⟨k,hk,rfl,hall,hb⟩:=hrel
   obtain ⟨w1,rfl⟩: ∃w1:World,w1=wr:=⟨_,rfl⟩
   by_cases ck:k<n1
   ·have hci:(k:Int)<(n1:Int):=by omega
    obtain ⟨g1,hg1,hz1,d1⟩:=IntsAt.cell (IntsAt.below hx hb hi1) ck
    obtain ⟨g2,hg2,hz2,d2⟩:=IntsAt.cell (IntsAt.below hy hb hi2) ck
    subst hg1 hg2
    obtain ⟨u,hu⟩: ∃u,x.getD k 0=u:=⟨_,rfl⟩
    obtain ⟨v,hv⟩: ∃v,y.getD k 0=v:=⟨_,rfl⟩
    rw[hu] at d1
    rw[hv] at d2
    by_cases ce:u=v
    ·subst ce
     have hall2:Hid (∀i,i<k+1→x.getD i 0=y.getD i 0):=hide fun i hi=>by
      by_cases q:i<k
      ·exact unhide hall i q
      ·obtain rfl:i=k:=by omega
       rw[hu,hv]
     clear hu hv
     go_wp2
     go_roundw
     case rel=>first|exact ⟨k+1,Vn,by first|rfl|go_num,hall2,by (repeat' first|with_reducible (first|exact Below.refl _ _|assumption|refine gr_alloc ?_ _|refine below_drewN ?_ _|refine below_drew ?_|refine gr_call ?_ VV|refine Below.setCell ?_ ?_ _)|go_size|omega|(simp;omega))⟩|((repeat apply Exists.intro);exact ⟨⟨k+1,Vn,by first|rfl|go_num,hall2,by (repeat' first|with_reducible (first|exact Below.refl _ _|assumption|refine gr_alloc ?_ _|refine below_drewN ?_ _|refine below_drew ?_|refine gr_call ?_ VV|refine Below.setCell ?_ ?_ _)|go_size|omega|(simp;omega))⟩,rfl⟩)
     case measure=>simp [intOf];omega
    ·have HB:Hid (b=false):=hide (by rw[←hbb,decide_eq_false_iff_not];intro e;subst e;exact ce (hu.symm.trans hv))
     have ce1:(u != v)=true:=by simpa using ce
     have ce2:(v != u)=true:=by simp;exact fun e=>ce e.symm
     clear hu hv ce hbb
     go_wp2
     go_ret
     exact ⟨by rw[unhide HB];rfl,by (repeat' first|with_reducible (first|exact Below.refl _ _|assumption|refine gr_alloc ?_ _|refine below_drewN ?_ _|refine below_drew ?_|refine gr_call ?_ VV|refine Below.setCell ?_ ?_ _)|go_size|omega|(simp;omega))⟩
   ·obtain rfl:k=n1:=by omega
    have HB:Hid (b=true):=hide (by rw[←hbb,decide_eq_true_iff];exact ints_eq ((unhide e1).symm.trans (unhide e2)) (fun i hi=>unhide hall i (by have:=unhide e1;omega)))
    clear hbb
    go_wp2
    go_ret
    exact ⟨by rw[unhide HB];rfl,hb⟩
 ·have HB:Hid (b=false):=hide (by rw[←hbb,decide_eq_false_iff_not];intro e;subst e;exact cn ((unhide e1).trans (unhide e2).symm))
  have cn1:((n1:Int) != (n2:Int))=true:=by simp;omega
  clear hbb
  go_enter Tryz.func67,Tryz.ntmps67
  go_wp2
  go_ret
  exact ⟨by rw[unhide HB];rfl,Below.refl _ _⟩

theorem l1Same_a (x y:List Int) (a1 a2:Option Addr) (n1 n2 c1 c2 l1 u1 l2 u2:Nat) (w:World) (e1:Hid (n1=x.length)) (e2:Hid (n2=y.length)) (hi1:u1≤w.heap.size) (hi2:u2≤w.heap.size)
  (hx:IntsAt w l1 u1 a1 n1 (fun i=>x.getD i 0)) (hy:IntsAt w l2 u2 a2 n2 (fun i=>y.getD i 0)) (hb1:n1≤1000000000) (hb2:n2≤1000000000):
  Calls Tryz.prog 74 #[.slice a1 n1 c1,.slice a2 n2 c2] w fun e w'=>e= .returned (.bool (decide (x=y)))∧Below w.heap.size w w':=by
 obtain ⟨b,hbb⟩: ∃b,decide (x=y)=b:=⟨_,rfl⟩
 rw[hbb]
 by_cases cn:n1=n2
 ·subst cn
  have hb0:=Below.refl w.heap.size w
  go_enter Tryz.func74,Tryz.ntmps74
  go_wp2
  go_loopw [13] (fun is wr=> ∃k:Nat,k≤n1∧is= .int .i64 (k:Int)∧Hid (∀i,i<k→x.getD i 0=y.getD i 0)∧Below w.heap.size w wr) (fun is _=>n1-(intOf is).toNat)
  case atStart=>exact ⟨0,Vn,rfl,hide (fun i hi=>absurd hi Vn),hb0⟩
  case round=>
   clear hb0
   obtain ⟨k,hk,rfl,hall,hb⟩:=hrel
   obtain ⟨w1,rfl⟩: ∃w1:World,w1=wr:=⟨_,rfl⟩
   by_cases ck:k<n1
   ·have hci:(k:Int)<(n1:Int):=by omega
    obtain ⟨g1,hg1,hz1,d1⟩:=IntsAt.cell (IntsAt.below hx hb hi1) ck
    obtain ⟨g2,hg2,hz2,d2⟩:=IntsAt.cell (IntsAt.below hy hb hi2) ck
    subst hg1 hg2
    obtain ⟨u,hu⟩: ∃u,x.getD k 0=u:=⟨_,rfl⟩
    obtain ⟨v,hv⟩: ∃v,y.getD k 0=v:=⟨_,rfl⟩
    rw[hu] at d1
    rw[hv] at d2
    by_cases ce:u=v
    ·subst ce
     have hall2:Hid (∀i,i<k+1→x.getD i 0=y.getD i 0):=hide fun i hi=>by
      by_cases q:i<k
      ·exact unhide hall i q
      ·obtain rfl:i=k:=by omega
       rw[hu,hv]
     clear hu hv
     go_wp2
     go_quiet (fail)
     go_wp2
     go_roundw
     case rel=>first|exact ⟨k+1,Vn,by first|rfl|go_num,hall2,by (repeat' first|with_reducible (first|exact Below.refl _ _|assumption|refine gr_alloc ?_ _|refine below_drewN ?_ _|refine below_drew ?_|refine gr_call ?_ VV|refine Below.setCell ?_ ?_ _)|go_size|omega|(simp;omega))⟩|((repeat apply Exists.intro);exact ⟨⟨k+1,Vn,by first|rfl|go_num,hall2,by (repeat' first|with_reducible (first|exact Below.refl _ _|assumption|refine gr_alloc ?_ _|refine below_drewN ?_ _|refine below_drew ?_|refine gr_call ?_ VV|refine Below.setCell ?_ ?_ _)|go_size|omega|(simp;omega))⟩,rfl⟩)
     case measure=>simp [intOf];omega
    ·have HB:Hid (b=false):=hide (by rw[←hbb,decide_eq_false_iff_not];intro e;subst e;exact ce (hu.symm.trans hv))
     have ce1:(u != v)=true:=by simpa using ce
     have ce2:(v != u)=true:=by simp;exact fun e=>ce e.symm
     clear hu hv ce hbb
     go_wp2
     go_quiet (fail)
     go_wp2
     go_ret
     exact ⟨by rw[unhide HB];rfl,by (repeat' first|with_reducible (first|exact Below.refl _ _|assumption|refine gr_alloc ?_ _|refine below_drewN ?_ _|refine below_drew ?_|refine gr_call ?_ VV|refine Below.setCell ?_ ?_ _)|go_size|omega|(simp;omega))⟩
   ·obtain rfl:k=n1:=by omega
    have HB:Hid (b=true):=hide (by rw[←hbb,decide_eq_true_iff];exact ints_eq ((unhide e1).symm.trans (unhide e2)) (fun i hi=>unhide hall i (by have:=unhide e1;omega)))
    clear hbb
    go_wp2
    go_ret
    exact ⟨by rw[unhide HB];rfl,hb⟩
 ·have HB:Hid (b=false):=hide (by rw[←hbb,decide_eq_false_iff_not];intro e;subst e;exact cn ((unhide e1).trans (unhide e2).symm))
  have cn1:((n1:Int) != (n2:Int))=true:=by simp;omega
  clear hbb
  go_enter Tryz.func74,Tryz.ntmps74
  go_wp2
  go_ret
  exact ⟨by rw[unhide HB];rfl,Below.refl _ _⟩
end Go.Proofs.YtobkcnmlmmhpoaaGreatDoor
namespace Go.Proofs.YtobkcnmlmmhpoaaGreatDoor
open Go.RowKit
set_option linter.unusedVariables false
set_option linter.unusedSimpArgs false
attribute [local go_sem] q2 q3 q4 q5 q6 q7 q8 q9 q10 q11 q12

def nI (L:List Nat):List Int:=L.map (fun x:Nat=>(x:Int))
theorem nI_len (L:List Nat):(nI L).length=L.length:=by simp [nI]
theorem nI_app (L:List Nat) (p:Nat):nI (L++ [p])=nI L++ [(p:Int)]:=by simp [nI]
theorem nI_get {L:List Nat} {k:Nat} (h:k<L.length):(nI L).getD k 0=((L.getD k 0:Nat):Int):=by
 simp [nI,List.getD_eq_getElem?_getD,List.getElem?_map,List.getElem?_eq_getElem h]
structure FcInv (n p m:Nat) (L:List Nat):Prop where
 e:L++fcL p m=fcL 2 n
 p2:2≤p
 m1:1≤m
 mn:m≤n
 low: ∀q,Pr q→q∣m→p≤q
theorem FcInv.start {n:Nat} (h:1≤n):FcInv n 2 n []:=⟨rfl,Nat.le_refl _,h,Nat.le_refl _,fun q hq _=>hq.1⟩
theorem FcInv.small {n p m:Nat} {L:List Nat} (h:FcInv n p m L) (hs:m<p*p) (hd:m%p=0):m=p:=by
 have hp:=h.p2
 obtain ⟨k,hk⟩:=Nat.dvd_of_mod_eq_zero hd
 have hm:=h.m1
 by_cases k1:k=1
 ·subst k1;omega
 ·by_cases k0:k=0
  ·subst k0;omega
  ·obtain ⟨r,hr,hrd⟩:=Pr.ex (show 2≤k by omega)
   have h1:=h.low r hr (by rw[hk];exact Nat.dvd_trans hrd (Nat.dvd_mul_left _ _))
   have h2:=Nat.le_of_dvd Vn hrd
   have h3:=Nat.mul_le_mul_left p (show p≤k by omega)
   omega
theorem FcInv.next {n p m M:Nat} {L:List Nat} (h:FcInv n p m L) (hd:m%p=0) (hM:m / p=M):FcInv n p M (L++ [p])∧M<m:=by
 have hp:=h.p2
 have hm:=h.m1
 have he:m=p*M:=by have:=Nat.div_add_mod m p;rw [hd,hM] at this;omega
 have hM1:1≤M:=by
  rcases Nat.eq_zero_or_pos M with z|z
  ·subst z;omega
  ·exact z
 have hlt:M<m:=by
  have:=Nat.mul_le_mul_right M hp
  omega
 refine ⟨⟨?_,hp,hM1,by have:=h.mn;omega,fun q hq hqd=>h.low q hq (by rw[he];exact Nat.dvd_trans hqd (Nat.dvd_mul_left _ _))⟩,hlt⟩
 rw[←h.e,List.append_assoc]
 congr 1
 by_cases c:p*p≤m
 ·rw [fc_dvd hp c hd,hM];rfl
 ·have hmp:=h.small Vn hd
  subst hmp
  have:M=1:=by
   rw[←hM];exact Nat.div_self Vn
  subst this
  have h4:m*2≤m*m:=Nat.mul_le_mul_left m hp
  rw[fc_end (p:=m) (n:=m) Vn Vn,fc_nil (p:=m) Vn (Nat.le_refl _)];rfl
theorem FcInv.up {n p m:Nat} {L:List Nat} (h:FcInv n p m L) (hd:m%p≠0):FcInv n (p+1) m L:=by
 have hp:=h.p2
 have hm:=h.m1
 have hmn:=h.mn
 refine ⟨?_,Vn,hm,hmn,fun q hq hqd=> ?_⟩
 ·rw [←h.e]
  congr 1
  by_cases c:p*p≤m
  ·rw [fc_no hp c hd]
  ·have h4:(p+1)*(p+1)=p*p+2*p+1:=by grind
   by_cases c1:1<m
   ·rw [fc_end (p:=p) Vn c1,fc_end (p:=p+1) Vn c1]
   ·rw [fc_nil (p:=p) Vn Vn,fc_nil (p:=p+1) Vn Vn]
 ·have:=h.low q hq hqd
  by_cases e:q=p
  ·subst e;exact absurd (Nat.mod_eq_zero_of_dvd hqd) hd
  ·omega
theorem FcInv.end1 {n p m:Nat} {L:List Nat} (h:FcInv n p m L) (hs:m<p*p) (h1:1<m):L++ [m]=fcL 2 n:=by rw[←h.e,fc_end hs h1]
theorem FcInv.end0 {n p m:Nat} {L:List Nat} (h:FcInv n p m L) (hs:m<p*p) (h1:m≤1):L=fcL 2 n:=by rw[←h.e,fc_nil hs h1];simp
theorem FcInv.len {n p m:Nat} {L:List Nat} (h:FcInv n p m L) (hn:n≤2000):L.length≤2000:=by
 have h1:n≥1:=by have:=h.m1;have:=h.mn;omega
 have:=fc_len h1
 rw[←h.e,List.length_append] at this
 omega
theorem FcInv.bd {n p m:Nat} {L:List Nat} (h:FcInv n p m L) (hn:n≤2000) (hs:p*p≤m):p≤44:=by
 have:=h.mn
 by_cases c:p≤44
 ·exact c
 ·have:=Nat.mul_le_mul (show 45≤p by omega) (show 45≤p by omega)
  omega
theorem tmodN {m p:Nat} :Int.tmod (m:Int) (p:Int)=((m%p:Nat):Int):=by rw[Int.tmod_eq_emod_of_nonneg Vn];rfl
theorem tdivN {m p:Nat} :Int.tdiv (m:Int) (p:Int)=((m / p:Nat):Int):=by rw[Int.tdiv_eq_ediv_of_nonneg Vn];rfl
end Go.Proofs.YtobkcnmlmmhpoaaGreatDoor
