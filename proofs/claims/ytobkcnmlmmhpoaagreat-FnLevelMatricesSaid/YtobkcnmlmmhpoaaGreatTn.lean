/- Lists of matrices: append, what a call returns. append onto an own row: in the old block, or in a new one, and then nothing else is written. The turns of a reduced form: what the loop keeps. -/
import Derived.Test.YtobkcnmlmmhpoaaGreatAui
namespace Go.Proofs.YtobkcnmlmmhpoaaGreat
open Go.RowKit
set_option linter.unusedVariables false
set_option linter.unusedSimpArgs false
attribute [local go_sem] q2 q3 q4 q5 q6 q7 q8 q9 q10 q11 q12

theorem ML.at {w:World} {lo:Nat} {a:Option Addr} {m c:Nat} {ms:List M4} (h:ML w lo (.slice a m c) ms):m=ms.length:=(MatrixL.at h).1
theorem ML.ptr {w:World} {lo:Nat} {a:Option Addr} {m c:Nat} {ms:List M4} (h:ML w lo (.slice a m c) ms) (h0:0<ms.length): ∃g,a=some ⟨g,0,none⟩∧lo≤g∧g<w.heap.size∧ms.length≤c:=by
 rcases h.2 with ⟨h1,h2⟩|⟨g,cap,cur,h1,h2,h3,h4,_⟩
 ·omega
 ·simp only[Value.slice.injEq] at h1
  obtain ⟨rfl,rfl,rfl⟩:=h1
  exact ⟨g,rfl,h2,(Array.getElem?_eq_some_iff.1 h3).1,h4⟩
theorem ML.one {w:World} {lo:Nat} (p q r s:Int) (h:lo≤w.heap.size):ML (w.alloc (.cells #[.int .i64 p,.int .i64 q,.int .i64 r,.int .i64 s] 29)) lo (.slice (some ⟨w.heap.size,0,none⟩) 1 1) [(p,q,r,s)]:=
 World.ownsRow_lit (size:=4) w #[.int .i64 p,.int .i64 q,.int .i64 r,.int .i64 s] 1 h (by decide) rfl
def RetML (w:World) (ms:List M4) (e:Ending) (w':World):Prop:=
 ∃a c,e= .returned (.slice a ms.length c)∧ML w' w.heap.size (.slice a ms.length c) ms∧Below w.heap.size w w'
def RetMLok (w:World) (ms:List M4) (ok:Bool) (e:Ending) (w':World):Prop:=
 ∃a c,e= .returned (.tuple #[.slice a ms.length c,.bool ok])∧ML w' w.heap.size (.slice a ms.length c) ms∧Below w.heap.size w w'

theorem app_ML (w:World) {ops:Array Oper} {rest:List Oper} {o:Oper} {a:Act} {Q:Exit→Act→World→Prop} (hgd:o.guard=none) (s x:Operand)
  (ho:o.op= .call { callee:= .builtin .append,args:= #[s,x],argTypes:= #[79,79] })
  (lo:Nat) (v:Value) (ms:List M4) (x0 x1 x2 x3:Int) (B:Nat) (hs:a.eval s=v) (hx:a.eval x= .slice (some ⟨B,0,none⟩) 1 1)
  (hown:ML w lo v ms) (hB0:w.cell? ⟨B,0,none⟩=some (.int .i64 x0)) (hB1:w.cell? ⟨B,1,none⟩=some (.int .i64 x1)) (hB2:w.cell? ⟨B,2,none⟩=some (.int .i64 x2)) (hB3:w.cell? ⟨B,3,none⟩=some (.int .i64 x3)) (hlen:ms.length≤100000000) (hlo:lo≤w.heap.size)
  (h: ∀g cap w',ML w' lo (.slice (some ⟨g,0,none⟩) (ms.length+1) cap) (ms++ [(x0,x1,x2,x3)])→w.grownBy w' v.ownBlock→(v.ownBlock=some g∨g=w.heap.size)→g<w'.heap.size→
   wpList Tryz.prog ops Q rest (a.put o.dst (.slice (some ⟨g,0,none⟩) (ms.length+1) cap)) w'):wpList Tryz.prog ops Q (o :: rest) a w:=by
 obtain ⟨i0,hi,hz0,hz1,hz2⟩:=info_parts Tryz.infoMatrix
 refine wpList_append_lies w hgd s x 79 ho lo 29 i0 (.agg #[.int .i64 0,.int .i64 0,.int .i64 0,.int .i64 0]) 4 32 Tryz.underlying79 hi hz0 hz1 hz2 rfl (by decide) v ms.length _ hs hown ⟨B,0,none⟩ 1 1 ([x0,x1,x2,x3].map (Value.int .i64)) hx rfl ?_ (by simp [Value.oneCell']) (by decide) (by unfold maxLen;omega) (by omega) hlo _ rfl ?_
 ·intro j u hu
  match j with
  |0=>simp at hu;subst hu;simpa [Addr.add] using hB0
  |1=>simp at hu;subst hu;simpa [Addr.add] using hB1
  |2=>simp at hu;subst hu;simpa [Addr.add] using hB2
  |3=>simp at hu;subst hu;simpa [Addr.add] using hB3
  |j+4=>simp at hu
 ·intro g cap w' h1 h2 h3 h4
  refine h g cap w' ?_ h2 h3 h4
  unfold ML MatrixL
  rw[List.length_append,fl4_app,List.map_append]
  exact h1

theorem app_ML2 (w:World) {ops:Array Oper} {rest:List Oper} {o:Oper} {a:Act} {Q:Exit→Act→World→Prop} (hgd:o.guard=none) (s x:Operand)
  (ho:o.op= .call { callee:= .builtin .append,args:= #[s,x],argTypes:= #[79,79] })
  (lo:Nat) (v:Value) (ms:List M4) (x0 x1 x2 x3 x4 x5 x6 x7:Int) (B:Nat) (hs:a.eval s=v) (hx:a.eval x= .slice (some ⟨B,0,none⟩) 2 2)
  (hown:ML w lo v ms) (hB0:w.cell? ⟨B,0,none⟩=some (.int .i64 x0)) (hB1:w.cell? ⟨B,1,none⟩=some (.int .i64 x1)) (hB2:w.cell? ⟨B,2,none⟩=some (.int .i64 x2)) (hB3:w.cell? ⟨B,3,none⟩=some (.int .i64 x3)) (hB4:w.cell? ⟨B,4,none⟩=some (.int .i64 x4)) (hB5:w.cell? ⟨B,5,none⟩=some (.int .i64 x5)) (hB6:w.cell? ⟨B,6,none⟩=some (.int .i64 x6)) (hB7:w.cell? ⟨B,7,none⟩=some (.int .i64 x7)) (hlen:ms.length≤100000000) (hlo:lo≤w.heap.size)
  (h: ∀g cap w',ML w' lo (.slice (some ⟨g,0,none⟩) (ms.length+2) cap) (ms++ [(x0,x1,x2,x3),(x4,x5,x6,x7)])→w.grownBy w' v.ownBlock→(v.ownBlock=some g∨g=w.heap.size)→g<w'.heap.size→
   wpList Tryz.prog ops Q rest (a.put o.dst (.slice (some ⟨g,0,none⟩) (ms.length+2) cap)) w'):wpList Tryz.prog ops Q (o :: rest) a w:=by
 obtain ⟨i0,hi,hz0,hz1,hz2⟩:=info_parts Tryz.infoMatrix
 refine wpList_append_lies w hgd s x 79 ho lo 29 i0 (.agg #[.int .i64 0,.int .i64 0,.int .i64 0,.int .i64 0]) 4 32 Tryz.underlying79 hi hz0 hz1 hz2 rfl (by decide) v ms.length _ hs hown ⟨B,0,none⟩ 2 2 ([x0,x1,x2,x3,x4,x5,x6,x7].map (Value.int .i64)) hx rfl ?_ (by simp [Value.oneCell']) (by decide) (by unfold maxLen;omega) (by omega) hlo _ rfl ?_
 ·intro j u hu
  match j with
  |0=>simp at hu;subst hu;simpa [Addr.add] using hB0
  |1=>simp at hu;subst hu;simpa [Addr.add] using hB1
  |2=>simp at hu;subst hu;simpa [Addr.add] using hB2
  |3=>simp at hu;subst hu;simpa [Addr.add] using hB3
  |4=>simp at hu;subst hu;simpa [Addr.add] using hB4
  |5=>simp at hu;subst hu;simpa [Addr.add] using hB5
  |6=>simp at hu;subst hu;simpa [Addr.add] using hB6
  |7=>simp at hu;subst hu;simpa [Addr.add] using hB7
  |j+8=>simp at hu
 ·intro g cap w' h1 h2 h3 h4
  refine h g cap w' ?_ h2 h3 h4
  unfold ML MatrixL
  rw[List.length_append,fl4_app,List.map_append]
  exact h1
end Go.Proofs.YtobkcnmlmmhpoaaGreat
namespace Go.Proofs.YtobkcnmlmmhpoaaGreat
open Go.RowKit
set_option linter.unusedVariables false
set_option linter.unusedSimpArgs false

theorem run_append_keep {P:Program} (w:World) (base:Nat) (t ty e:TypeId) (i:TypeInfo) (z:Value) (ht:P.underlying t=some (.slice e)) (hi:P.info? e=some i) (hz:i.zero=some z)
  (hzs:z.cells.size=i.size)
  (v:Value) (n:Nat) (xs:List Value) (hown:w.ownsRow base e i.size v n xs) (hn0:0<n)
  (a:Addr) (m c:Nat) (news:List Value) (hl:news.length=m*i.size) (hnews: ∀j u,news[j]? =some u→w.cell? (a.add j)=some u) (h1: ∀u ∈ news,u.oneCell'=true)
  (h63:n+m≤maxLen) (hbytes:(n+m)*i.bytes≤140737488355328) (hbase:base≤w.heap.size):
  ∃v' w',(Builtin.append_ #[t,t] ty #[v,.slice (some a) m c]).run P w= .ok v' w'∧w'.ownsRow base e i.size v' (n+m) (xs++news)∧w.grownBy w' v.ownBlock∧
   (v'.ownBlock=v.ownBlock∨(v'.ownBlock=some w.heap.size∧w.grownBy w' none)):=by
 have hlen:(xs++news).length=(n+m)*i.size:=by rw[List.length_append,hown.1,hl,Nat.add_mul]
 rcases hown.2 with ⟨rfl,h0⟩|⟨g,cap,cur,rfl,hbg,hg,hnc,hcm,hcs,htake⟩
 ·omega
 ·by_cases hroom:n+m≤cap
  ·have hfit:n*i.size+news.length≤cur.size:=by rw[hl,hcs,←Nat.add_mul];exact Nat.mul_le_mul_right _ hroom
   have hr:=run_append_room (P:=P) w t ty e i ht hi g n cap cur hg a m c news hl hnews h1 hroom hfit
   refine ⟨_,_,hr,⟨hlen,.inr ⟨g,cap,_,rfl,hbg,setRow_heap w g cur _ e _ hg,hroom,hcm,?_,?_⟩⟩,⟨rfl,rfl,rfl,by simp,fun k _ hk=>setRow_other w g k _ (fun e=>hk (by simp [Value.ownBlock,e]))⟩,Or.inl rfl⟩
   ·simp only[List.size_toArray,List.length_append,List.length_take,List.length_drop,Array.length_toList]
    omega
   ·rw [htake,←hlen]
    exact List.take_left
  ·have holds: ∀j u,xs[j]? =some u→w.cell? ((⟨g,0,none⟩:Addr).add j)=some u:=hown.cells (g:=g) rfl
   have hr:=run_append_grow (P:=P) w t ty e i z ht hi hz ⟨g,0,none⟩ n cap xs hown.1 holds a m c news hl hnews (by omega) (by simp only[maxLen] at h63;omega) (growslice_fits (by omega) hbytes)
   have hge:=grownCap_ge w (n+m) cap e
   have hcm2:grownCap w (n+m) cap e≤maxLen:=grownCap_le_maxLen w (n+m) cap e h63
   refine ⟨_,_,hr,⟨hlen,.inr ⟨w.heap.size,_,_,rfl,hbase,heap_alloc_new w.drew _,hge,hcm2,?_,?_⟩⟩,⟨rfl,rfl,rfl,by simp,fun k hk _=>heap_alloc_old w.drew _ hk⟩,Or.inr ⟨rfl,⟨rfl,rfl,rfl,by simp,fun k hk _=>heap_alloc_old w.drew _ hk⟩⟩⟩
   ·simp only[Array.size_append,List.size_toArray,size_zeroCells,hzs,hown.1,hl,←Nat.add_mul]
    congr 1
    omega
   ·simp only[Array.toList_append,List.append_assoc]
    rw[←List.append_assoc,←hlen]
    exact List.take_left
theorem app_MLk (w:World) {ops:Array Oper} {rest:List Oper} {o:Oper} {a:Act} {Q:Exit→Act→World→Prop} (hgd:o.guard=none) (s x:Operand)
  (ho:o.op= .call { callee:= .builtin .append,args:= #[s,x],argTypes:= #[79,79] })
  (lo:Nat) (v:Value) (ms:List M4) (x0 x1 x2 x3:Int) (B:Nat) (hs:a.eval s=v) (hx:a.eval x= .slice (some ⟨B,0,none⟩) 1 1)
  (hown:ML w lo v ms) (hn0:0<ms.length) (hB0:w.cell? ⟨B,0,none⟩=some (.int .i64 x0)) (hB1:w.cell? ⟨B,1,none⟩=some (.int .i64 x1)) (hB2:w.cell? ⟨B,2,none⟩=some (.int .i64 x2)) (hB3:w.cell? ⟨B,3,none⟩=some (.int .i64 x3)) (hlen:ms.length≤100000000) (hlo:lo≤w.heap.size)
  (h: ∀g cap w',ML w' lo (.slice (some ⟨g,0,none⟩) (ms.length+1) cap) (ms++ [(x0,x1,x2,x3)])→w.grownBy w' v.ownBlock→(v.ownBlock=some g∨(g=w.heap.size∧w.grownBy w' none))→g<w'.heap.size→
   wpList Tryz.prog ops Q rest (a.put o.dst (.slice (some ⟨g,0,none⟩) (ms.length+1) cap)) w'):wpList Tryz.prog ops Q (o :: rest) a w:=by
 obtain ⟨i0,hi,hz0,hz1,hz2⟩:=info_parts Tryz.infoMatrix
 have hown2:w.ownsRow lo 29 i0.size v ms.length ((fl4 ms).map (Value.int .i64)):=by rw[hz1];exact hown
 have hnw: ∀j u,([x0,x1,x2,x3].map (Value.int .i64))[j]? =some u→w.cell? ((⟨B,0,none⟩:Addr).add j)=some u:=by
  intro j u hu
  match j with
  |0=>simp at hu;subst hu;simpa [Addr.add] using hB0
  |1=>simp at hu;subst hu;simpa [Addr.add] using hB1
  |2=>simp at hu;subst hu;simpa [Addr.add] using hB2
  |3=>simp at hu;subst hu;simpa [Addr.add] using hB3
  |j+4=>simp at hu
 refine wpList_plain hgd fun K hK=> ?_
 obtain ⟨v',w',hr,h2,h3,h4⟩:=run_append_keep (P:=Tryz.prog) w lo 79 o.type 29 i0 _ Tryz.underlying79 hi hz0 (by rw[hz1];rfl) v ms.length _ hown2 hn0 ⟨B,0,none⟩ 1 1 ([x0,x1,x2,x3].map (Value.int .i64)) (by rw[hz1];rfl) hnw (by simp [Value.oneCell']) (by unfold maxLen;omega) (by rw[hz2];omega) hlo
 ·obtain ⟨g,cap,rfl,_,hlt⟩:=h2.form (by omega)
  have h5:=h g cap w' (by
   unfold ML MatrixL
   rw[List.length_append,fl4_app,List.map_append,←hz1]
   exact h2) h3 (by
   rcases h4 with h4|⟨h4,h6⟩
   ·exact .inl (by rw[←h4];rfl)
   ·exact .inr ⟨by simpa [Value.ownBlock] using h4,h6⟩) hlt
  unfold Oper.wp execOp
  simp only[ho,resolve,invoke,builtin,Sem.run_bind,Sem.run_pure,Result.andThen_ok,List.map_toArray,List.map_cons,List.map_nil,hs,hx,hr]
  exact hK _ _ h5
end Go.Proofs.YtobkcnmlmmhpoaaGreat
namespace Go.Proofs.YtobkcnmlmmhpoaaGreat
open Go.RowKit
set_option linter.unusedVariables false
set_option linter.unusedSimpArgs false
attribute [local go_sem] q2 q3 q4 q5 q6 q7 q8 q9 q10 q11 q12

def nM (m:M4):M4:=(-m.1,-m.2.1,-m.2.2.1,-m.2.2.2)
theorem neg_snoc (K:List M4) (i:Nat) (hi:i<K.length):K++(K.take i).map nM++ [nM (K.getD i m40)]=K++(K.take (i+1)).map nM:=by
 rw[List.append_assoc,List.take_succ_eq_append_getElem hi,List.map_append,List.getD_eq_getElem?_getD,List.getElem?_eq_getElem hi]
 rfl
theorem neg_get (K:List M4) (i j:Nat) (hj:j<K.length):(K++(K.take i).map nM).getD j m40=K.getD j m40:=by
 rw[List.getD_eq_getElem?_getD,List.getD_eq_getElem?_getD,List.getElem?_append_left hj]
theorem neg_len (K:List M4) (i:Nat) (hi:i≤K.length):(K++(K.take i).map nM).length=K.length+i:=by
 rw[List.length_append,List.length_map,List.length_take];omega
def KAt (w:World) (B:Nat) (K:List M4):Prop:= ∀i,i<K.length→
 w.cell? ⟨B,i*4,none⟩=some (.int .i64 (K.getD i m40).1)∧w.cell? ⟨B,i*4+1,none⟩=some (.int .i64 (K.getD i m40).2.1)∧w.cell? ⟨B,i*4+2,none⟩=some (.int .i64 (K.getD i m40).2.2.1)∧w.cell? ⟨B,i*4+3,none⟩=some (.int .i64 (K.getD i m40).2.2.2)
theorem KAt.of {w:World} {lo B n c:Nat} {K L:List M4} (h:ML w lo (.slice (some ⟨B,0,none⟩) n c) L) (hl:K.length≤L.length) (hg: ∀i,i<K.length→L.getD i m40=K.getD i m40):KAt w B K:=fun i hi=>by
 have:=h.cells (i:=i) (by omega)
 rw[hg i hi] at this
 exact this
theorem KAt.keep {w w':World} {B:Nat} {K:List M4} (h:KAt w B K) (hB:w'.heap[B]? =w.heap[B]?):KAt w' B K:=fun i hi=>by
 obtain ⟨c0,c1,c2,c3⟩:=h i hi
 have e:=fun (j:Nat)=>World.cell?_of_block (w:=w) (w':=w') (a:=⟨B,j,none⟩) hB
 exact ⟨by rw[e];exact c0,by rw[e];exact c1,by rw[e];exact c2,by rw[e];exact c3⟩
def TnRel (w0 w:World) (B:Nat) (K:List M4) (n i:Nat) (ls:Value):Prop:=
 ∃g c,ls= .slice (some ⟨g,0,none⟩) (n+i) c∧ML w w0.heap.size (.slice (some ⟨g,0,none⟩) (n+i) c) (K++(K.take i).map nM)∧KAt w B K∧B<w.heap.size∧Below w0.heap.size w0 w
theorem TnRel.start {w0 w:World} {B c n:Nat} {K:List M4} (h:ML w w0.heap.size (.slice (some ⟨B,0,none⟩) n c) K) (hb:Below w0.heap.size w0 w):TnRel w0 w B K n 0 (.slice (some ⟨B,0,none⟩) n c):=
 ⟨B,c,rfl,by simpa using h,KAt.of h (Nat.le_refl _) (fun _ _=>rfl),(h.lt B rfl).2,hb⟩
theorem TnRel.next {w0 w wB w':World} {B g c g' c' i n:Nat} {K:List M4} (h:ML w w0.heap.size (.slice (some ⟨g,0,none⟩) (n+i) c) (K++(K.take i).map nM)) (hK:KAt w B K) (hB:B<w.heap.size) (hwB:wB.heap[B]? =w.heap[B]?) (hsz:w.heap.size≤wB.heap.size) (hi:i<K.length)
  (hn:ML w' w0.heap.size (.slice (some ⟨g',0,none⟩) (n+i+1) c') (K++(K.take i).map nM++ [nM (K.getD i m40)])) (hg:wB.grownBy w' (some g)) (hat:some g=some g'∨(g'=wB.heap.size∧wB.grownBy w' none)) (hb:Below w0.heap.size w0 w'):
  TnRel w0 w' B K n (i+1) (.slice (some ⟨g',0,none⟩) (n+(i+1)) c'):=by
 rw[neg_snoc K i hi] at hn
 have hK':KAt wB B K:=hK.keep hwB
 have hB':B<wB.heap.size:=Nat.lt_of_lt_of_le hB hsz
 refine ⟨g',c',rfl,hn,?_,Nat.lt_of_lt_of_le hB' hg.size,hb⟩
 rcases hat with e|⟨_,e⟩
 ·simp only[Option.some.injEq] at e
  subst e
  by_cases q:B=g
  ·subst q
   exact KAt.of hn (by rw[neg_len K _ (by omega)];omega) (fun j hj=>neg_get K _ j hj)
  ·exact hK'.keep (hg.block B hB' (by simpa using q))
 ·exact hK'.keep (e.block B hB' (by simp))
theorem ML.oneAt {w:World} {lo B:Nat} (p q r s:Int) (hB:w.heap.size=B) (h:lo≤w.heap.size):ML (w.alloc (.cells #[.int .i64 p,.int .i64 q,.int .i64 r,.int .i64 s] 29)) lo (.slice (some ⟨B,0,none⟩) 1 1) [(p,q,r,s)]:=by subst hB;exact ML.one p q r s h
theorem app_turn (w:World) {ops:Array Oper} {rest:List Oper} {o:Oper} {a:Act} {Q:Exit→Act→World→Prop} (hgd:o.guard=none) (s x:Operand)
  (ho:o.op= .call { callee:= .builtin .append,args:= #[s,x],argTypes:= #[79,79] })
  (lo:Nat) (K:List M4) (n i g c:Nat) (x0 x1 x2 x3:Int) (B:Nat) (hs:a.eval s= .slice (some ⟨g,0,none⟩) (n+i) c) (hx:a.eval x= .slice (some ⟨B,0,none⟩) 1 1)
  (hown:ML w lo (.slice (some ⟨g,0,none⟩) (n+i) c) (K++(K.take i).map nM)) (hn:K.length=n) (hi:i<n) (hsm:n≤3) (hB0:w.cell? ⟨B,0,none⟩=some (.int .i64 x0)) (hB1:w.cell? ⟨B,1,none⟩=some (.int .i64 x1)) (hB2:w.cell? ⟨B,2,none⟩=some (.int .i64 x2)) (hB3:w.cell? ⟨B,3,none⟩=some (.int .i64 x3)) (hlo:lo≤w.heap.size)
  (h: ∀g' cap w',ML w' lo (.slice (some ⟨g',0,none⟩) (n+i+1) cap) (K++(K.take i).map nM++ [(x0,x1,x2,x3)])→w.grownBy w' (some g)→(some g=some g'∨(g'=w.heap.size∧w.grownBy w' none))→g'<w'.heap.size→
   wpList Tryz.prog ops Q rest (a.put o.dst (.slice (some ⟨g',0,none⟩) (n+i+1) cap)) w'):wpList Tryz.prog ops Q (o :: rest) a w:=by
 have hl:=neg_len K i (by omega)
 rw[hn] at hl
 refine app_MLk w hgd s x ho lo _ _ x0 x1 x2 x3 B hs hx hown (by rw[hl];omega) hB0 hB1 hB2 hB3 (by rw[hl];omega) hlo ?_
 intro g' cap w' h1 h2 h3 h4
 rw[hl] at h1 ⊢
 exact h g' cap w' h1 h2 h3 h4
end Go.Proofs.YtobkcnmlmmhpoaaGreat
