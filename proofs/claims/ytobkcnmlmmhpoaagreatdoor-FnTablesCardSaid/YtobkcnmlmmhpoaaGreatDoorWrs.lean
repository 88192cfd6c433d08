/- A list of rows whose factors lie in blocks of their own. TableBetween on both sides. Two rows compared: sameRow, tbSame. -/
import Derived.Test.YtobkcnmlmmhpoaaGreatDoorUrt
import Derived.Test.YtobkcnmlmmhpoaaGreatDoorGreat
import Derived.Test.YtobkcnmlmmhpoaaGreatDoorFaw
import Derived.Test.YtobkcnmlmmhpoaaGreatDoorPrim
import Derived.Test.YtobkcnmlmmhpoaaGreatDoorRwo
set_option maxRecDepth 100000
set_option maxHeartbeats 80000000
namespace Go.Proofs.YtobkcnmlmmhpoaaGreatDoor
open Go.RowKit
set_option linter.unusedVariables false
set_option linter.unusedSimpArgs false
attribute [local go_sem] q2 q3 q4 q5 q6 q7 q8 q9 q10 q11 q12

structure TR where
 r:RowV
 a:Option Addr
 c:Nat
 lo:Nat
 hi:Nat
 zs:List Int
def tr0:TR:=⟨⟨0,0,0,0⟩,none,0,0,0,[]⟩
def TR.cells (t:TR):List Value:= [.int .i64 t.r.d,.int .i64 t.r.num,.slice t.a t.zs.length t.c,.int .i64 t.r.ge,.int .i64 t.r.ex]
def cellsR:List TR→List Value
 | []=> []
 |t :: ts=>t.cells++cellsR ts
theorem cellsR_app: ∀(ts:List TR) (t:TR),cellsR (ts++ [t])=cellsR ts++t.cells
 | [],t=>by simp [cellsR]
 |s :: ts,t=>by simp [cellsR,cellsR_app ts t]
theorem cellsR_at: ∀(ts:List TR) (i j:Nat),i<ts.length→j<5→(cellsR ts)[i*5+j]? =(ts.getD i tr0).cells[j]?
 |t :: ts,0,j,_,hj=>by
  have:j<t.cells.length:=by simpa [TR.cells] using hj
  simp [cellsR,List.getElem?_append_left this]
 |t :: ts,i+1,j,hi,hj=>by
  have e:(i+1)*5+j=t.cells.length+(i*5+j):=by simp [TR.cells];omega
  have:=cellsR_at ts i j (by simpa using hi) hj
  rw[cellsR,e,List.getElem?_append_right Vn]
  simpa using this
theorem gdR {α:Type} {l:List α} {x d:α} {i:Nat} :(l++ [x]).getD i d=if i=l.length then x else if i<l.length then l.getD i d else d:=by
 by_cases q:i<l.length
 ·rw [if_neg Vn,if_pos q,List.getD_eq_getElem?_getD,List.getElem?_append_left q,←List.getD_eq_getElem?_getD]
 ·by_cases e:i=l.length
  ·subst e;rw [if_pos rfl,List.getD_eq_getElem?_getD];simp
  ·rw [if_neg e,if_neg q,List.getD_eq_getElem?_getD,List.getElem?_eq_none VX];rfl
def TR.ints (t:TR) (W:World):Prop:=IntsAt W t.lo t.hi t.a t.zs.length (fun i=>t.zs.getD i 0)
structure GT (w:World) (LO HI:Nat) (S:World→Prop) (wr:World) (a:Option Addr) (n c:Nat) (ts:List TR):Prop where
 len:Hid (n=ts.length)
 sd:SD 31 5 w LO HI S wr (.slice a n c) n (cellsR ts)
 inn: ∀j,j<ts.length→(ts.getD j tr0).ints wr
 top: ∀j,j<ts.length→(ts.getD j tr0).hi≤wr.heap.size
 out: ∀b,(Value.slice a n c).ownBlock=some b→ ∀j,j<ts.length→b<(ts.getD j tr0).lo∨(ts.getD j tr0).hi≤b
theorem GT.call {w wr w2:World} {LO HI n c:Nat} {S:World→Prop} {a:Option Addr} {ts:List TR} (h:GT w LO HI S wr a n c ts) (hK:Kept LO HI S) (hb:Below wr.heap.size wr w2):GT w LO HI S w2 a n c ts:=
 ⟨h.len,h.sd.call hK hb,fun j hj=>(h.inn j hj).below hb (h.top j hj),fun j hj=>Nat.le_trans (h.top j hj) hb.size,h.out⟩
theorem GT.new {w wr w1 w2:World} {LO HI n c g cap:Nat} {S:World→Prop} {a:Option Addr} {ts:List TR} {t:TR} {o:Obj} (h:GT w LO HI S wr a n c ts) (hK:Kept LO HI S) (hb:Below wr.heap.size wr w1)
  (hlo:t.lo=wr.heap.size) (hhi:t.hi=w1.heap.size) (hi:t.ints w1)
  (hown:w2.ownsRow w.heap.size 31 5 (.slice (some ⟨g,0,none⟩) (n+1) cap) (n+1) (cellsR ts++t.cells)) (hgrow:(w1.alloc o).grownBy w2 (Value.slice a n c).ownBlock) (hat:(Value.slice a n c).ownBlock=some g∨g=(w1.alloc o).heap.size):
  GT w LO HI S w2 (some ⟨g,0,none⟩) (n+1) cap (ts++ [t]):=by
 have hsd:=h.sd
 have hs:=hb.size
 have hs2:=hgrow.size
 simp only[World.size_alloc] at hs2 hat
 have hlt: ∀b,(Value.slice a n c).ownBlock=some b→b<wr.heap.size:=fun b e=>(World.ownsRow.lt hsd.own b e).2
 have hln:=unhide h.len
 refine ⟨hide (by simp [hln]),?_,fun j hj=> ?_,fun j hj=> ?_,fun b e j hj=> ?_⟩
 ·rw [cellsR_app];exact ((hsd.call hK hb).alloc hK o).app hK hown hgrow (by simpa using hat)
 ·rw [gdR]
  simp only[List.length_append,List.length_singleton] at hj
  split
  ·have q:=hi.below (below_alloc_self w1 o) Vn
   exact q.grown hgrow (fun k hk=> .inl (by have:=hlt k hk;omega)) VX
  ·rw [if_pos Vn]
   have q:=((h.inn j Vn).below hb (h.top j Vn)).below (below_alloc_self w1 o) (Nat.le_trans (h.top j Vn) hs)
   exact IntsAt.grown q hgrow (fun k hk=>h.out k hk j Vn) (by have:=h.top j Vn;rw [World.size_alloc];omega)
 ·rw [gdR]
  simp only[List.length_append,List.length_singleton] at hj
  split
  ·omega
  ·rw [if_pos Vn];have:=h.top j Vn;omega
 ·have e9:b=g:=by simp [Value.ownBlock] at e;omega
  subst e9
  rw[gdR]
  simp only[List.length_append,List.length_singleton] at hj
  split
  ·rcases hat with q|q
   ·have:=hlt b q;left;omega
   ·right;omega
  ·rw [if_pos Vn]
   rcases hat with q|q
   ·exact h.out b q j Vn
   ·right;have:=h.top j Vn;omega
structure RowsAt (W:World) (lo hi:Nat) (a:Option Addr) (n:Nat) (t:Nat→TR):Prop where
 ptr:n=0∨ ∃g,a=some ⟨g,0,none⟩∧g<hi∧g<W.heap.size∧ ∀i j,i<n→j<5→W.cell? ⟨g,i*5+j,none⟩=(t i).cells[j]?
 inn: ∀j,j<n→(t j).ints W
 top: ∀j,j<n→(t j).hi≤hi
theorem GT.rows {w wr:World} {LO HI n c lo:Nat} {S:World→Prop} {a:Option Addr} {ts:List TR} (h:GT w LO HI S wr a n c ts):RowsAt wr lo wr.heap.size a n (fun i=>ts.getD i tr0):=by
 have hl:=unhide h.len
 refine ⟨?_,fun j hj=>h.inn j Vn,fun j hj=>h.top j Vn⟩
 by_cases z:n=0
 ·exact .inl z
 ·right
  obtain ⟨g,cap,e⟩: ∃g cap,Value.slice a n c= .slice (some ⟨g,0,none⟩) n cap:=by
   rcases h.sd.own.2 with ⟨q1,q2⟩|⟨g,cap,cur,q1,_⟩
   ·omega
   ·exact ⟨g,cap,q1⟩
  simp only[Value.slice.injEq] at e
  obtain ⟨rfl,-,rfl⟩:=e
  have q:=World.ownsRow.lt h.sd.own g rfl
  refine ⟨g,rfl,q.2,q.2,fun i j hi hj=> ?_⟩
  rw[World.ownsRow.cellAt h.sd.own (i*5+j) Vn,cellsR_at ts i j Vn hj]
theorem RowsAt.weak {W:World} {lo hi lo' hi' n:Nat} {a:Option Addr} {t:Nat→TR} (h:RowsAt W lo hi a n t) (h2:hi≤hi'):RowsAt W lo' hi' a n t:=by
 refine ⟨?_,h.inn,fun j hj=>Nat.le_trans (h.top j hj) h2⟩
 rcases h.ptr with z|⟨g,e,g2,g3⟩
 ·exact .inl z
 ·exact .inr ⟨g,e,Vn,g3⟩
theorem RowsAt.below {W W':World} {lo hi B n:Nat} {a:Option Addr} {t:Nat→TR} (h:RowsAt W lo hi a n t) (hb:Below B W W') (hB:hi≤B) (hW:B≤W.heap.size):RowsAt W' lo hi a n t:=by
 refine ⟨?_,fun j hj=>(h.inn j hj).below hb (Nat.le_trans (h.top j hj) hB),h.top⟩
 rcases h.ptr with z|⟨g,e,g2,g3,g4⟩
 ·exact .inl z
 ·have hk:=hb.block g Vn
  exact .inr ⟨g,e,g2,Nat.lt_of_lt_of_le g3 hb.size,fun i j hi hj=>by rw[World.cell?_of_block hk];exact g4 i j hi hj⟩
theorem RowsAt.ent {W:World} {lo hi n g:Nat} {t:Nat→TR} (h:RowsAt W lo hi (some ⟨g,0,none⟩) n t) {i:Nat} (q:i<n):
  (W.cell? ⟨g,i*5,none⟩=some (.int .i64 (t i).r.d)∧W.cell? ⟨g,i*5+1,none⟩=some (.int .i64 (t i).r.num)∧W.cell? ⟨g,i*5+2,none⟩=some (.slice (t i).a (t i).zs.length (t i).c)∧W.cell? ⟨g,i*5+3,none⟩=some (.int .i64 (t i).r.ge)∧W.cell? ⟨g,i*5+4,none⟩=some (.int .i64 (t i).r.ex))∧
  g<W.heap.size∧g<hi:=by
 rcases h.ptr with z|⟨g',e,g2,g3,g4⟩
 ·omega
 ·simp only[Option.some.injEq,Addr.mk.injEq] at e
  obtain ⟨rfl,-⟩:=e
  exact ⟨⟨by simpa [TR.cells] using g4 i 0 q Vn,by simpa [TR.cells] using g4 i 1 q Vn,by simpa [TR.cells] using g4 i 2 q Vn,by simpa [TR.cells] using g4 i 3 q Vn,by simpa [TR.cells] using g4 i 4 q Vn⟩,g3,g2⟩
theorem infoRow9:(Tryz.prog.info? 31).map (fun i=>(i.zero,i.size,i.bytes))=some (some (.agg #[.int .i64 0,.int .i64 0,.slice none 0 0,.int .i64 0,.int .i64 0]),5,56):=by kernel_rfl
theorem app_row (w:World) {ops:Array Oper} {rest:List Oper} {o:Oper} {a:Act} {Q:Exit→Act→World→Prop} (hgd:o.guard=none) (s x:Operand)
  (ho:o.op= .call { callee:= .builtin .append,args:= #[s,x],argTypes:= #[26,26] })
  (lo:Nat) (v:Value) (n:Nat) (vs:List Value) (t:TR) (B:Nat) (hs:a.eval s=v) (hx:a.eval x= .slice (some ⟨B,0,none⟩) 1 1)
  (hown:w.ownsRow lo 31 5 v n vs) (hB: ∀j,j<5→w.cell? ⟨B,j,none⟩=t.cells[j]?) (hlen:n≤1000000) (hlo:lo≤w.heap.size)
  (h: ∀g cap w',w'.ownsRow lo 31 5 (.slice (some ⟨g,0,none⟩) (n+1) cap) (n+1) (vs++t.cells)→w.grownBy w' v.ownBlock→(v.ownBlock=some g∨g=w.heap.size)→g<w'.heap.size→
   wpList Tryz.prog ops Q rest (a.put o.dst (.slice (some ⟨g,0,none⟩) (n+1) cap)) w'):wpList Tryz.prog ops Q (o :: rest) a w:=by
 obtain ⟨i0,hi,hz0,hz1,hz2⟩:=info_parts infoRow9
 refine wpList_append_lies w hgd s x 26 ho lo 31 i0 _ 5 56 Tryz.underlying26 hi hz0 hz1 hz2 rfl VA v n _ hs hown ⟨B,0,none⟩ 1 1 t.cells hx rfl ?_ (by simp [TR.cells,Value.oneCell']) VA VK Vn hlo _ rfl ?_
 ·intro j u' hu'
  have hj:j<5:=by
   have:=(List.getElem?_eq_some_iff.1 hu').1
   simpa [TR.cells] using this
  have:=hB j hj
  rw[hu'] at this
  by_cases z:j=0
  ·subst z;simpa [Addr.add] using this
  ·simpa [Addr.add,z] using this
 ·intro g cap w' h1 h2 h3 h4
  exact h g cap w' h1 h2 h3 h4
end Go.Proofs.YtobkcnmlmmhpoaaGreatDoor
namespace Go.Proofs.YtobkcnmlmmhpoaaGreatDoor
open Go.RowKit
set_option linter.unusedVariables false
set_option linter.unusedSimpArgs false
attribute [local go_sem] q2 q3 q4 q5 q6 q7 q8 q9 q10 q11 q12

def RetRows (w:World) (n:Nat) (R:Nat→RowV) (Z:Nat→List Int) (ok:Bool) (e:Ending) (w':World):Prop:=
 ∃a c t,e= .returned (.tuple #[.slice a n c,.bool ok])∧RowsAt w' w.heap.size w'.heap.size a n t∧(∀i,i<n→(t i).r=R i∧(t i).zs=Z i)∧Below w.heap.size w w'
theorem RowsAt.nil {W:World} {lo hi n:Nat} {a:Option Addr} {t:Nat→TR} (h:n=0):RowsAt W lo hi a n t:=
 ⟨.inl h,fun j hj=>by omega,fun j hj=>by omega⟩
theorem GT.start {w wr:World} {LO HI c:Nat} {S:World→Prop} {a:Option Addr} (h:SD 31 5 w LO HI S wr (.slice a 0 c) 0 []):GT w LO HI S wr a 0 c []:=
 ⟨hide rfl,h,fun j hj=>absurd hj Vs,fun j hj=>absurd hj Vs,fun b _ j hj=>absurd hj Vs⟩
theorem five {P:Nat→Prop} (h0:P 0) (h1:P 1) (h2:P 2) (h3:P 3) (h4:P 4): ∀j,j<5→P j:=fun j hj=>by
 obtain rfl|rfl|rfl|rfl|rfl:j=0∨j=1∨j=2∨j=3∨j=4:=by omega
 all_goals assumption
theorem rows_put {l:List TR} {k:Nat} {R:Nat→RowV} {Z:Nat→List Int} {a:Option Addr} {c lo hi:Nat} (hk:k=l.length) (h:Hid (∀i,i<k→(l.getD i tr0).r=R i∧(l.getD i tr0).zs=Z i)):
  Hid (∀i,i<k+1→((l++ [(⟨R k,a,c,lo,hi,Z k⟩:TR)]).getD i tr0).r=R i∧((l++ [(⟨R k,a,c,lo,hi,Z k⟩:TR)]).getD i tr0).zs=Z i):=hide fun i hi=>by
 rw[gdR]
 by_cases e:i=l.length
 ·rw [if_pos e,e,←hk];exact ⟨rfl,rfl⟩
 ·rw [if_neg e,if_pos Vn];exact unhide h i Vn
noncomputable def tbN (lo hi:Int):Nat:=if rgB lo hi&&decide ((dcL lo hi).length≤40) then (dcL lo hi).length else 0
noncomputable def tbOk (lo hi:Int):Bool:=rgB lo hi&&decide ((dcL lo hi).length≤40)
theorem implTb_0 (lo hi:Int) (w:World) (n:Nat) (R:Nat→RowV) (Z:Nat→List Int) (HN:Hid (n=0)) (h:rgB lo hi=false):Calls Tryz.prog 6 #[.int .i64 lo,.int .i64 hi] w (RetRows w n R Z false):=by
 go_enter Tryz.func6,Tryz.ntmps6
 go_wp2_with (go_at_call 24;refine (isRange_a _ _ _).mono ?_;rintro e w' ⟨rfl,rfl⟩)
 go_ret2
 obtain rfl:=unhide HN
 exact ⟨_,_,fun _=>tr0,rfl,RowsAt.nil rfl,fun i hi=>absurd hi Vn,byGG⟩
theorem implTb_1 (lo hi:Int) (w:World) (n:Nat) (R:Nat→RowV) (Z:Nat→List Int) (HN:Hid (n=0)) (h:rgB lo hi=true) (h2:40<(dcL lo hi).length):Calls Tryz.prog 6 #[.int .i64 lo,.int .i64 hi] w (RetRows w n R Z false):=by
 obtain ⟨r0,r1,r2⟩:=rg_true h
 have HC: ∀W,Calls Tryz.prog 25 #[.int .i64 lo,.int .i64 hi] W (RetIL W (dcL lo hi)):=fun W=>discsIn_a lo hi W r0 r2
 have HC:=hide HC
 have hlen:=dcL_len (lo:=lo) (hi:=hi) r0 r2
 generalize dcL lo hi=ds at*
 have hci:(40:Int)<(ds.length:Int):=by omega
 go_enter Tryz.func6,Tryz.ntmps6
 go_wp2_with (first|(go_at_call 24;refine (isRange_a _ _ _).mono ?_;rintro e w' ⟨rfl,rfl⟩)|(go_at_call 25;refine ((unhide HC) _).mono ?_;rintro e wA ⟨a0,c0,rfl,hlA,hbA⟩))
 go_ret2
 obtain rfl:=unhide HN
 exact ⟨_,_,fun _=>tr0,rfl,RowsAt.nil rfl,fun i hi=>absurd hi Vn,byGG⟩
theorem implTb_2 (lo hi:Int) (w:World) (ds:List Int) (hds:dcL lo hi=ds) (R:Nat→RowV) (Z:Nat→List Int) (h:rgB lo hi=true) (h2:ds.length≤40)
  (HR:Hid (∀k,k<ds.length→ ∀W,Calls Tryz.prog 26 #[.int .i64 (ds.getD k 0)] W (RetRowV W (R k) (Z k)))):Calls Tryz.prog 6 #[.int .i64 lo,.int .i64 hi] w (RetRows w ds.length R Z true):=by
 obtain ⟨r0,r1,r2⟩:=rg_true h
 have HC: ∀W,Calls Tryz.prog 25 #[.int .i64 lo,.int .i64 hi] W (RetIL W (dcL lo hi)):=fun W=>discsIn_a lo hi W r0 r2
 rw[hds] at HC
 clear hds
 have HC:=hide HC
 have hci: ¬(40:Int)<(ds.length:Int):=by omega
 go_enter Tryz.func6,Tryz.ntmps6
 go_wp2_with fail
 refine (isRange_a _ _ _).mono ?_
 rintro e w0 ⟨rfl,rfl⟩
 go_wp2_with fail
 refine ((unhide HC) _).mono ?_
 rintro e w1 ⟨a9,c9,rfl,hl1,hb1⟩
 clear hl1
 have HD9:=hide hb1
 clear hb1
 go_wp2_with fail
 refine ((unhide HC) _).mono ?_
 rintro e wA ⟨a0,c0,rfl,hlA,hbA⟩
 have hb1:=unhide HD9
 clear HD9
 have hs1:=hb1.size
 have hS:IntsAt wA (w1.heap.size+1) wA.heap.size a0 ds.length (fun i=>ds.getD i 0):=hlA.ints.2.weak Vs (Nat.le_refl _)
 have hsd:GT w1 (w1.heap.size+1) wA.heap.size (srcI (w1.heap.size+1) wA.heap.size a0 ds.length (fun i=>ds.getD i 0)) wA (some ⟨w1.heap.size,0,none⟩) 0 0 []:=GT.start (SD.startM hbA hS (Nat.le_refl _))
 have hK:=ints_kept (LO:=(w1.heap.size+1)) (HI:=wA.heap.size) (n:=ds.length) (a:=a0) (f:=fun i=>ds.getD i 0)
 obtain ⟨HI,hHI⟩: ∃HI,wA.heap.size=HI:=⟨_,rfl⟩
 rw[hHI] at hsd hK hS
 clear hlA hS
 go_wp2
 go_loopw [6,26] (fun ls is wr=> ∃(k c:Nat) (a:Option Addr) (l:List TR),is= .int .i64 (k:Int)∧ls= .slice a k c∧k≤ds.length∧Hid (∀i,i<k→(l.getD i tr0).r=R i∧(l.getD i tr0).zs=Z i)∧GT w1 (w1.heap.size+1) HI (srcI (w1.heap.size+1) HI a0 ds.length (fun i=>ds.getD i 0)) wr a k c l) (fun _ is _=>ds.length-(intOf is).toNat)
 case atStart=>exact ⟨0,0,_,_,rfl,rfl,Vn,hide fun i hi=>absurd hi Vn,hsd⟩
 case round=>
  clear hsd hbA
  obtain ⟨k,c,a,l,rfl,rfl,hk,hl,hsd⟩:=hrel
  obtain ⟨w2,rfl⟩: ∃w2:World,w2=wr:=⟨_,rfl⟩
  have hz:=hsd.sd.bel.size
  have hln:=hsd.len
  by_cases c9:k<ds.length
  ·have hci:(k:Int)<(ds.length:Int):=by omega
   obtain ⟨g0,hg0,hg2,d0⟩:=IntsAt.cell hsd.sd.src c9
   have HRK0:=unhide HR k c9
   obtain ⟨x,hxx⟩: ∃x,ds.getD k 0=x:=⟨_,rfl⟩
   rw[hxx] at d0 HRK0
   have HRK:=hide HRK0
   clear HRK0 hxx
   subst hg0
   go_wp2_with (first|(go_at_call 26;refine ((unhide HRK) _).mono ?_;rintro e w3 ⟨a3,c3,rfl,hi3,hb3⟩;have hs3:=hsd.call hK hb3;have hz3:=hs3.sd.bel.size)|(at_builtin;refine app_row _ rfl (.tmp 30) (.tmp 33) rfl w1.heap.size (.slice a k c) k (cellsR l) ⟨R k,a3,c3,w2.heap.size,w3.heap.size,Z k⟩ w3.heap.size rfl rfl (hs3.sd.alloc hK _).own (five VE VE VE VE VE) Vn VW ?_;intro g cap w4 hown hgrow hat hlt))
   go_roundw
   case rel=>
    have hs4:=hsd.new (t:=⟨R k,a3,c3,w2.heap.size,w3.heap.size,Z k⟩) hK hb3 rfl rfl hi3 hown hgrow hat
    exact ⟨k+1,cap,some ⟨g,0,none⟩,_,by go_num,rfl,Vn,rows_put (unhide hln) hl,hs4⟩
   case measure=>simp [intOf];omega
  ·obtain rfl:k=ds.length:=by omega
   go_wp2
   go_ret2
   exact ⟨a,c,fun i=>l.getD i tr0,rfl,hsd.rows,unhide hl,hb1.trans (hsd.sd.bel.mono hs1)⟩
theorem implTb_a (lo hi:Int) (w:World):Calls Tryz.prog 6 #[.int .i64 lo,.int .i64 hi] w (RetRows w (tbN lo hi) (fun i=>rowV ((dcL lo hi).getD i 0)) (fun i=>rowFL ((dcL lo hi).getD i 0)) (tbOk lo hi)):=by
 unfold tbN tbOk
 cases h:rgB lo hi
 ·exact implTb_0 lo hi w _ _ _ (hide rfl) h
 ·by_cases h2:(dcL lo hi).length≤40
  ·simp only[h2,decide_true,Bool.and_self,if_true]
   obtain ⟨r0,r1,r2⟩:=rg_true h
   exact implTb_2 lo hi w _ rfl _ _ h h2 (hide fun k hk W=>rowOf_a _ W (dcL_mem (gdm (d:=0) hk)))
  ·simp only[h2,decide_false,Bool.and_false]
   exact implTb_1 lo hi w _ _ _ (hide rfl) h Vn
theorem specTb_0 (lo hi:Int) (w:World) (n:Nat) (R:Nat→RowV) (Z:Nat→List Int) (HN:Hid (n=0)) (h:rgB lo hi=false):Calls Tryz.prog 7 #[.int .i64 lo,.int .i64 hi] w (RetRows w n R Z false):=by
 go_enter Tryz.func7,Tryz.ntmps7
 go_wp2_with (go_at_call 27;refine (tbRange_a _ _ _).mono ?_;rintro e w' ⟨rfl,rfl⟩)
 go_ret2
 obtain rfl:=unhide HN
 exact ⟨_,_,fun _=>tr0,rfl,RowsAt.nil rfl,fun i hi=>absurd hi Vn,byGG⟩
theorem specTb_1 (lo hi:Int) (w:World) (n:Nat) (R:Nat→RowV) (Z:Nat→List Int) (HN:Hid (n=0)) (h:rgB lo hi=true) (h2:40<(dcL lo hi).length):Calls Tryz.prog 7 #[.int .i64 lo,.int .i64 hi] w (RetRows w n R Z false):=by
 obtain ⟨r0,r1,r2⟩:=rg_true h
 have HC: ∀W,Calls Tryz.prog 28 #[.int .i64 lo,.int .i64 hi] W (RetIL W (dcL lo hi)):=fun W=>tbDiscs_a lo hi W r0 r2
 have HC:=hide HC
 have hlen:=dcL_len (lo:=lo) (hi:=hi) r0 r2
 generalize dcL lo hi=ds at*
 have hci:(40:Int)<(ds.length:Int):=by omega
 go_enter Tryz.func7,Tryz.ntmps7
 go_wp2_with (first|(go_at_call 27;refine (tbRange_a _ _ _).mono ?_;rintro e w' ⟨rfl,rfl⟩)|(go_at_call 28;refine ((unhide HC) _).mono ?_;rintro e wA ⟨a0,c0,rfl,hlA,hbA⟩))
 go_ret2
 obtain rfl:=unhide HN
 exact ⟨_,_,fun _=>tr0,rfl,RowsAt.nil rfl,fun i hi=>absurd hi Vn,byGG⟩
theorem specTb_2 (lo hi:Int) (w:World) (ds:List Int) (hds:dcL lo hi=ds) (R:Nat→RowV) (Z:Nat→List Int) (h:rgB lo hi=true) (h2:ds.length≤40)
  (HR:Hid (∀k,k<ds.length→ ∀W,Calls Tryz.prog 29 #[.int .i64 (ds.getD k 0)] W (RetRowV W (R k) (Z k)))):Calls Tryz.prog 7 #[.int .i64 lo,.int .i64 hi] w (RetRows w ds.length R Z true):=by
 obtain ⟨r0,r1,r2⟩:=rg_true h
 have HC: ∀W,Calls Tryz.prog 28 #[.int .i64 lo,.int .i64 hi] W (RetIL W (dcL lo hi)):=fun W=>tbDiscs_a lo hi W r0 r2
 rw[hds] at HC
 clear hds
 have HC:=hide HC
 have hci: ¬(40:Int)<(ds.length:Int):=by omega
 go_enter Tryz.func7,Tryz.ntmps7
 go_wp2_with fail
 refine (tbRange_a _ _ _).mono ?_
 rintro e w0 ⟨rfl,rfl⟩
 go_wp2_with fail
 refine ((unhide HC) _).mono ?_
 rintro e w1 ⟨a9,c9,rfl,hl1,hb1⟩
 clear hl1
 have HD9:=hide hb1
 clear hb1
 go_wp2_with fail
 refine ((unhide HC) _).mono ?_
 rintro e wA ⟨a0,c0,rfl,hlA,hbA⟩
 have hb1:=unhide HD9
 clear HD9
 have hs1:=hb1.size
 have hS:IntsAt wA w1.heap.size wA.heap.size a0 ds.length (fun i=>ds.getD i 0):=hlA.ints.2
 have hsd:GT w1 w1.heap.size wA.heap.size (srcI w1.heap.size wA.heap.size a0 ds.length (fun i=>ds.getD i 0)) wA none 0 0 []:=GT.start (SD.startN hbA hS (Nat.le_refl _))
 have hK:=ints_kept (LO:=w1.heap.size) (HI:=wA.heap.size) (n:=ds.length) (a:=a0) (f:=fun i=>ds.getD i 0)
 obtain ⟨HI,hHI⟩: ∃HI,wA.heap.size=HI:=⟨_,rfl⟩
 rw[hHI] at hsd hK hS
 clear hlA hS
 go_wp2
 go_loopw [6,24] (fun ls is wr=> ∃(k c:Nat) (a:Option Addr) (l:List TR),is= .int .i64 (k:Int)∧ls= .slice a k c∧k≤ds.length∧Hid (∀i,i<k→(l.getD i tr0).r=R i∧(l.getD i tr0).zs=Z i)∧GT w1 w1.heap.size HI (srcI w1.heap.size HI a0 ds.length (fun i=>ds.getD i 0)) wr a k c l) (fun _ is _=>ds.length-(intOf is).toNat)
 case atStart=>exact ⟨0,0,_,_,rfl,rfl,Vn,hide fun i hi=>absurd hi Vn,hsd⟩
 case round=>
  clear hsd hbA
  obtain ⟨k,c,a,l,rfl,rfl,hk,hl,hsd⟩:=hrel
  obtain ⟨w2,rfl⟩: ∃w2:World,w2=wr:=⟨_,rfl⟩
  have hz:=hsd.sd.bel.size
  have hln:=hsd.len
  by_cases c9:k<ds.length
  ·have hci:(k:Int)<(ds.length:Int):=by omega
   obtain ⟨g0,hg0,hg2,d0⟩:=IntsAt.cell hsd.sd.src c9
   have HRK0:=unhide HR k c9
   obtain ⟨x,hxx⟩: ∃x,ds.getD k 0=x:=⟨_,rfl⟩
   rw[hxx] at d0 HRK0
   have HRK:=hide HRK0
   clear HRK0 hxx
   subst hg0
   go_wp2_with (first|(go_at_call 29;refine ((unhide HRK) _).mono ?_;rintro e w3 ⟨a3,c3,rfl,hi3,hb3⟩;have hs3:=hsd.call hK hb3;have hz3:=hs3.sd.bel.size)|(at_builtin;refine app_row _ rfl (.tmp 28) (.tmp 31) rfl w1.heap.size (.slice a k c) k (cellsR l) ⟨R k,a3,c3,w2.heap.size,w3.heap.size,Z k⟩ w3.heap.size rfl rfl (hs3.sd.alloc hK _).own (five VE VE VE VE VE) Vn VW ?_;intro g cap w4 hown hgrow hat hlt))
   go_roundw
   case rel=>
    have hs4:=hsd.new (t:=⟨R k,a3,c3,w2.heap.size,w3.heap.size,Z k⟩) hK hb3 rfl rfl hi3 hown hgrow hat
    exact ⟨k+1,cap,some ⟨g,0,none⟩,_,by go_num,rfl,Vn,rows_put (unhide hln) hl,hs4⟩
   case measure=>simp [intOf];omega
  ·obtain rfl:k=ds.length:=by omega
   go_wp2
   go_ret2
   exact ⟨a,c,fun i=>l.getD i tr0,rfl,hsd.rows,unhide hl,hb1.trans (hsd.sd.bel.mono hs1)⟩
theorem specTb_a (lo hi:Int) (w:World):Calls Tryz.prog 7 #[.int .i64 lo,.int .i64 hi] w (RetRows w (tbN lo hi) (fun i=>rowV ((dcL lo hi).getD i 0)) (fun i=>rowFL ((dcL lo hi).getD i 0)) (tbOk lo hi)):=by
 unfold tbN tbOk
 cases h:rgB lo hi
 ·exact specTb_0 lo hi w _ _ _ (hide rfl) h
 ·by_cases h2:(dcL lo hi).length≤40
  ·simp only[h2,decide_true,Bool.and_self,if_true]
   obtain ⟨r0,r1,r2⟩:=rg_true h
   exact specTb_2 lo hi w _ rfl _ _ h h2 (hide fun k hk W=>tbRow_a _ W (dcL_mem (gdm (d:=0) hk)))
  ·simp only[h2,decide_false,Bool.and_false]
   exact specTb_1 lo hi w _ _ _ (hide rfl) h Vn
end Go.Proofs.YtobkcnmlmmhpoaaGreatDoor
namespace Go.Proofs.YtobkcnmlmmhpoaaGreatDoor
open Go.RowKit
set_option linter.unusedVariables false
set_option linter.unusedSimpArgs false
attribute [local go_sem] q2 q3 q4 q5 q6 q7 q8 q9 q10 q11 q12

def sRB (r s:RowV) (x y:List Int):Bool:=decide (r.d=s.d)&&(decide (r.num=s.num)&&(decide (r.ge=s.ge)&&(decide (r.ex=s.ex)&&decide (x=y))))
theorem sameRow_a (r s:RowV) (x y:List Int) (a1 a2:Option Addr) (c1 c2 l1 u1 l2 u2 n1 n2:Nat) (e1:n1=x.length) (e2:n2=y.length) (w:World) (hi1:u1≤w.heap.size) (hi2:u2≤w.heap.size)
  (hx:IntsAt w l1 u1 a1 n1 (fun i=>x.getD i 0)) (hy:IntsAt w l2 u2 a2 n2 (fun i=>y.getD i 0)) (hb1:n1≤2000000) (hb2:n2≤2000000):
  Calls Tryz.prog 41 #[rwv r (.slice a1 n1 c1),rwv s (.slice a2 n2 c2)] w fun e w'=>e= .returned (.bool (sRB r s x y))∧Below w.heap.size w w':=by
 have HS0: ∀W,Below w.heap.size w W→Calls Tryz.prog 67 #[.slice a1 n1 c1,.slice a2 n2 c2] W fun e w'=>e= .returned (.bool (decide (x=y)))∧Below W.heap.size W w':=fun W hb=>
  sameValues_a x y a1 a2 n1 n2 c1 c2 l1 u1 l2 u2 W (hide e1) (hide e2) (Nat.le_trans hi1 hb.size) (Nat.le_trans hi2 hb.size) (hx.below hb hi1) (hy.below hb hi2) Vn Vn
 clear e1 e2
 obtain ⟨d,num,ge,ex⟩:=r
 obtain ⟨d2,num2,ge2,ex2⟩:=s
 by_cases ed:d=d2
 ·subst ed
  by_cases enum:num=num2
  ·subst enum
   rcases hbb:decide (x=y)
   ·rw [hbb] at HS0
    have hxy: ¬x=y:=by simpa using hbb
    have HS:=hide HS0
    clear HS0 hbb
    have HV:Hid (sRB ⟨d,num,ge,ex⟩ ⟨d,num,ge2,ex2⟩ x y=false):=hide W3
    clear hxy
    go_enter Tryz.func41,Tryz.ntmps41
    go_wp2_with (go_at_call 67;refine ((unhide HS) _ byGG).mono ?_;rintro e w' ⟨rfl,hb⟩;have p3:=cell_call hb (a:=⟨w.heap.size,3,none⟩) (v:= .int .i64 ge) VB;have p4:=cell_call hb (a:=⟨w.heap.size,4,none⟩) (v:= .int .i64 ex) VB;have p5:=cell_call hb (a:=⟨w.heap.size+1,3,none⟩) (v:= .int .i64 ge2) VB;have p6:=cell_call hb (a:=⟨w.heap.size+1,4,none⟩) (v:= .int .i64 ex2) VB)
    all_goals (go_ret;exact ⟨by rw[unhide HV];first|done|rfl|(simp [*];done),byGG⟩)
   ·rw [hbb] at HS0
    have hxy:x=y:=by simpa using hbb
    have HS:=hide HS0
    clear HS0 hbb
    by_cases ege:ge=ge2
    ·subst ege
     by_cases eex:ex=ex2
     ·subst eex
      have HV:Hid (sRB ⟨d,num,ge,ex⟩ ⟨d,num,ge,ex⟩ x y=true):=hide W3
      clear hxy
      go_enter Tryz.func41,Tryz.ntmps41
      go_wp2_with (go_at_call 67;refine ((unhide HS) _ byGG).mono ?_;rintro e w' ⟨rfl,hb⟩;have p3:=cell_call hb (a:=⟨w.heap.size,3,none⟩) (v:= .int .i64 ge) VB;have p4:=cell_call hb (a:=⟨w.heap.size,4,none⟩) (v:= .int .i64 ex) VB;have p5:=cell_call hb (a:=⟨w.heap.size+1,3,none⟩) (v:= .int .i64 ge) VB;have p6:=cell_call hb (a:=⟨w.heap.size+1,4,none⟩) (v:= .int .i64 ex) VB)
      all_goals (go_ret;exact ⟨by rw[unhide HV];first|done|rfl|(simp [*];done),byGG⟩)
     ·have n9:(ex==ex2)=false:=by simpa using eex
      have HV:Hid (sRB ⟨d,num,ge,ex⟩ ⟨d,num,ge,ex2⟩ x y=false):=hide W3
      clear hxy
      go_enter Tryz.func41,Tryz.ntmps41
      go_wp2_with (go_at_call 67;refine ((unhide HS) _ byGG).mono ?_;rintro e w' ⟨rfl,hb⟩;have p3:=cell_call hb (a:=⟨w.heap.size,3,none⟩) (v:= .int .i64 ge) VB;have p4:=cell_call hb (a:=⟨w.heap.size,4,none⟩) (v:= .int .i64 ex) VB;have p5:=cell_call hb (a:=⟨w.heap.size+1,3,none⟩) (v:= .int .i64 ge) VB;have p6:=cell_call hb (a:=⟨w.heap.size+1,4,none⟩) (v:= .int .i64 ex2) VB)
      all_goals (go_ret;exact ⟨by rw[unhide HV];first|done|rfl|(simp [*];done),byGG⟩)
    ·have n9:(ge==ge2)=false:=by simpa using ege
     have HV:Hid (sRB ⟨d,num,ge,ex⟩ ⟨d,num,ge2,ex2⟩ x y=false):=hide W3
     clear hxy
     go_enter Tryz.func41,Tryz.ntmps41
     go_wp2_with (go_at_call 67;refine ((unhide HS) _ byGG).mono ?_;rintro e w' ⟨rfl,hb⟩;have p3:=cell_call hb (a:=⟨w.heap.size,3,none⟩) (v:= .int .i64 ge) VB;have p4:=cell_call hb (a:=⟨w.heap.size,4,none⟩) (v:= .int .i64 ex) VB;have p5:=cell_call hb (a:=⟨w.heap.size+1,3,none⟩) (v:= .int .i64 ge2) VB;have p6:=cell_call hb (a:=⟨w.heap.size+1,4,none⟩) (v:= .int .i64 ex2) VB)
     all_goals (go_ret;exact ⟨by rw[unhide HV];first|done|rfl|(simp [*];done),byGG⟩)
  ·have HS:=hide HS0
   have hxy:=trivial
   have n9:(num==num2)=false:=by simpa using enum
   have HV:Hid (sRB ⟨d,num,ge,ex⟩ ⟨d,num2,ge2,ex2⟩ x y=false):=hide W3
   clear hxy
   go_enter Tryz.func41,Tryz.ntmps41
   go_wp2_with (go_at_call 67;refine ((unhide HS) _ byGG).mono ?_;rintro e w' ⟨rfl,hb⟩;have p3:=cell_call hb (a:=⟨w.heap.size,3,none⟩) (v:= .int .i64 ge) VB;have p4:=cell_call hb (a:=⟨w.heap.size,4,none⟩) (v:= .int .i64 ex) VB;have p5:=cell_call hb (a:=⟨w.heap.size+1,3,none⟩) (v:= .int .i64 ge2) VB;have p6:=cell_call hb (a:=⟨w.heap.size+1,4,none⟩) (v:= .int .i64 ex2) VB)
   all_goals (go_ret;exact ⟨by rw[unhide HV];first|done|rfl|(simp [*];done),byGG⟩)
 ·have HS:=hide HS0
  have hxy:=trivial
  have n9:(d==d2)=false:=by simpa using ed
  have HV:Hid (sRB ⟨d,num,ge,ex⟩ ⟨d2,num2,ge2,ex2⟩ x y=false):=hide W3
  clear hxy
  go_enter Tryz.func41,Tryz.ntmps41
  go_wp2_with (go_at_call 67;refine ((unhide HS) _ byGG).mono ?_;rintro e w' ⟨rfl,hb⟩;have p3:=cell_call hb (a:=⟨w.heap.size,3,none⟩) (v:= .int .i64 ge) VB;have p4:=cell_call hb (a:=⟨w.heap.size,4,none⟩) (v:= .int .i64 ex) VB;have p5:=cell_call hb (a:=⟨w.heap.size+1,3,none⟩) (v:= .int .i64 ge2) VB;have p6:=cell_call hb (a:=⟨w.heap.size+1,4,none⟩) (v:= .int .i64 ex2) VB)
  all_goals (go_ret;exact ⟨by rw[unhide HV];first|done|rfl|(simp [*];done),byGG⟩)
theorem tbSame_a (r s:RowV) (x y:List Int) (a1 a2:Option Addr) (c1 c2 l1 u1 l2 u2 n1 n2:Nat) (e1:n1=x.length) (e2:n2=y.length) (w:World) (hi1:u1≤w.heap.size) (hi2:u2≤w.heap.size)
  (hx:IntsAt w l1 u1 a1 n1 (fun i=>x.getD i 0)) (hy:IntsAt w l2 u2 a2 n2 (fun i=>y.getD i 0)) (hb1:n1≤2000000) (hb2:n2≤2000000):
  Calls Tryz.prog 46 #[rwv r (.slice a1 n1 c1),rwv s (.slice a2 n2 c2)] w fun e w'=>e= .returned (.bool (sRB r s x y))∧Below w.heap.size w w':=by
 have HS0: ∀W,Below w.heap.size w W→Calls Tryz.prog 74 #[.slice a1 n1 c1,.slice a2 n2 c2] W fun e w'=>e= .returned (.bool (decide (x=y)))∧Below W.heap.size W w':=fun W hb=>
  l1Same_a x y a1 a2 n1 n2 c1 c2 l1 u1 l2 u2 W (hide e1) (hide e2) (Nat.le_trans hi1 hb.size) (Nat.le_trans hi2 hb.size) (hx.below hb hi1) (hy.below hb hi2) Vn Vn
 clear e1 e2
 obtain ⟨d,num,ge,ex⟩:=r
 obtain ⟨d2,num2,ge2,ex2⟩:=s
 by_cases ed:d=d2
 ·subst ed
  by_cases enum:num=num2
  ·subst enum
   by_cases ege:ge=ge2
   ·subst ege
    by_cases eex:ex=ex2
    ·subst eex
     rcases hbb:decide (x=y)
     ·rw [hbb] at HS0
      have hxy: ¬x=y:=by simpa using hbb
      have HS:=hide HS0
      clear HS0 hbb
      have HV:Hid (sRB ⟨d,num,ge,ex⟩ ⟨d,num,ge,ex⟩ x y=false):=hide W3
      clear hxy
      go_enter Tryz.func46,Tryz.ntmps46
      go_wp2_with (go_at_call 74;refine ((unhide HS) _ byGG).mono ?_;rintro e w' ⟨rfl,hb⟩;have p3:=cell_call hb (a:=⟨w.heap.size,3,none⟩) (v:= .int .i64 ge) VB;have p4:=cell_call hb (a:=⟨w.heap.size,4,none⟩) (v:= .int .i64 ex) VB;have p5:=cell_call hb (a:=⟨w.heap.size+1,3,none⟩) (v:= .int .i64 ge) VB;have p6:=cell_call hb (a:=⟨w.heap.size+1,4,none⟩) (v:= .int .i64 ex) VB)
      all_goals (go_ret;exact ⟨by rw[unhide HV];first|done|rfl|(simp [*];done),byGG⟩)
     ·rw [hbb] at HS0
      have hxy:x=y:=by simpa using hbb
      have HS:=hide HS0
      clear HS0 hbb
      have HV:Hid (sRB ⟨d,num,ge,ex⟩ ⟨d,num,ge,ex⟩ x y=true):=hide W3
      clear hxy
      go_enter Tryz.func46,Tryz.ntmps46
      go_wp2_with (go_at_call 74;refine ((unhide HS) _ byGG).mono ?_;rintro e w' ⟨rfl,hb⟩;have p3:=cell_call hb (a:=⟨w.heap.size,3,none⟩) (v:= .int .i64 ge) VB;have p4:=cell_call hb (a:=⟨w.heap.size,4,none⟩) (v:= .int .i64 ex) VB;have p5:=cell_call hb (a:=⟨w.heap.size+1,3,none⟩) (v:= .int .i64 ge) VB;have p6:=cell_call hb (a:=⟨w.heap.size+1,4,none⟩) (v:= .int .i64 ex) VB)
      all_goals (go_ret;exact ⟨by rw[unhide HV];first|done|rfl|(simp [*];done),byGG⟩)
    ·have HS:=hide HS0
     have hxy:=trivial
     have n9:(ex==ex2)=false:=by simpa using eex
     have HV:Hid (sRB ⟨d,num,ge,ex⟩ ⟨d,num,ge,ex2⟩ x y=false):=hide W3
     clear hxy
     go_enter Tryz.func46,Tryz.ntmps46
     go_wp2_with (go_at_call 74;refine ((unhide HS) _ byGG).mono ?_;rintro e w' ⟨rfl,hb⟩;have p3:=cell_call hb (a:=⟨w.heap.size,3,none⟩) (v:= .int .i64 ge) VB;have p4:=cell_call hb (a:=⟨w.heap.size,4,none⟩) (v:= .int .i64 ex) VB;have p5:=cell_call hb (a:=⟨w.heap.size+1,3,none⟩) (v:= .int .i64 ge) VB;have p6:=cell_call hb (a:=⟨w.heap.size+1,4,none⟩) (v:= .int .i64 ex2) VB)
     all_goals (go_ret;exact ⟨by rw[unhide HV];first|done|rfl|(simp [*];done),byGG⟩)
   ·have HS:=hide HS0
    have hxy:=trivial
    have n9:(ge==ge2)=false:=by simpa using ege
    have HV:Hid (sRB ⟨d,num,ge,ex⟩ ⟨d,num,ge2,ex2⟩ x y=false):=hide W3
    clear hxy
    go_enter Tryz.func46,Tryz.ntmps46
    go_wp2_with (go_at_call 74;refine ((unhide HS) _ byGG).mono ?_;rintro e w' ⟨rfl,hb⟩;have p3:=cell_call hb (a:=⟨w.heap.size,3,none⟩) (v:= .int .i64 ge) VB;have p4:=cell_call hb (a:=⟨w.heap.size,4,none⟩) (v:= .int .i64 ex) VB;have p5:=cell_call hb (a:=⟨w.heap.size+1,3,none⟩) (v:= .int .i64 ge2) VB;have p6:=cell_call hb (a:=⟨w.heap.size+1,4,none⟩) (v:= .int .i64 ex2) VB)
    all_goals (go_ret;exact ⟨by rw[unhide HV];first|done|rfl|(simp [*];done),byGG⟩)
  ·have HS:=hide HS0
   have hxy:=trivial
   have n9:(num==num2)=false:=by simpa using enum
   have HV:Hid (sRB ⟨d,num,ge,ex⟩ ⟨d,num2,ge2,ex2⟩ x y=false):=hide W3
   clear hxy
   go_enter Tryz.func46,Tryz.ntmps46
   go_wp2_with (go_at_call 74;refine ((unhide HS) _ byGG).mono ?_;rintro e w' ⟨rfl,hb⟩;have p3:=cell_call hb (a:=⟨w.heap.size,3,none⟩) (v:= .int .i64 ge) VB;have p4:=cell_call hb (a:=⟨w.heap.size,4,none⟩) (v:= .int .i64 ex) VB;have p5:=cell_call hb (a:=⟨w.heap.size+1,3,none⟩) (v:= .int .i64 ge2) VB;have p6:=cell_call hb (a:=⟨w.heap.size+1,4,none⟩) (v:= .int .i64 ex2) VB)
   all_goals (go_ret;exact ⟨by rw[unhide HV];first|done|rfl|(simp [*];done),byGG⟩)
 ·have HS:=hide HS0
  have hxy:=trivial
  have n9:(d==d2)=false:=by simpa using ed
  have HV:Hid (sRB ⟨d,num,ge,ex⟩ ⟨d2,num2,ge2,ex2⟩ x y=false):=hide W3
  clear hxy
  go_enter Tryz.func46,Tryz.ntmps46
  go_wp2_with (go_at_call 74;refine ((unhide HS) _ byGG).mono ?_;rintro e w' ⟨rfl,hb⟩;have p3:=cell_call hb (a:=⟨w.heap.size,3,none⟩) (v:= .int .i64 ge) VB;have p4:=cell_call hb (a:=⟨w.heap.size,4,none⟩) (v:= .int .i64 ex) VB;have p5:=cell_call hb (a:=⟨w.heap.size+1,3,none⟩) (v:= .int .i64 ge2) VB;have p6:=cell_call hb (a:=⟨w.heap.size+1,4,none⟩) (v:= .int .i64 ex2) VB)
  all_goals (go_ret;exact ⟨by rw[unhide HV];first|done|rfl|(simp [*];done),byGG⟩)
end Go.Proofs.YtobkcnmlmmhpoaaGreatDoor
