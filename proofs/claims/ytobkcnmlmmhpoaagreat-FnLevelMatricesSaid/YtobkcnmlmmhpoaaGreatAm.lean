/- Automorphs (impl). -/
import Derived.Test.YtobkcnmlmmhpoaaGreatAp
namespace Go.Proofs.YtobkcnmlmmhpoaaGreat
open Go.RowKit
set_option linter.unusedVariables false
set_option linter.unusedSimpArgs false
attribute [local go_sem] q2 q3 q4 q5 q6 q7 q8 q9 q10 q11 q12

theorem times_e (p q r s p2 q2 r2 s2 x0 x1 x2 x3:Int) (w:World) (h:mmP p q r s p2 q2 r2 s2=x0∧mmQ p q r s p2 q2 r2 s2=x1∧mmR p q r s p2 q2 r2 s2=x2∧mmS p q r s p2 q2 r2 s2=x3):
  Calls Tryz.prog 39 #[.agg #[.int .i64 p,.int .i64 q,.int .i64 r,.int .i64 s],.agg #[.int .i64 p2,.int .i64 q2,.int .i64 r2,.int .i64 s2]] w fun e w'=>e= .returned (.agg #[.int .i64 x0,.int .i64 x1,.int .i64 x2,.int .i64 x3])∧Below w.heap.size w w':=by
 obtain ⟨rfl,rfl,rfl,rfl⟩:=h
 exact times_a p q r s p2 q2 r2 s2 w
theorem foMul_e (p q r s p2 q2 r2 s2 x0 x1 x2 x3:Int) (w:World) (h:mmP p q r s p2 q2 r2 s2=x0∧mmQ p q r s p2 q2 r2 s2=x1∧mmR p q r s p2 q2 r2 s2=x2∧mmS p q r s p2 q2 r2 s2=x3):
  Calls Tryz.prog 48 #[.agg #[.int .i64 p,.int .i64 q,.int .i64 r,.int .i64 s],.agg #[.int .i64 p2,.int .i64 q2,.int .i64 r2,.int .i64 s2]] w fun e w'=>e= .returned (.agg #[.int .i64 x0,.int .i64 x1,.int .i64 x2,.int .i64 x3])∧Below w.heap.size w w':=by
 obtain ⟨rfl,rfl,rfl,rfl⟩:=h
 exact foMul_a p q r s p2 q2 r2 s2 w
theorem isDef_y (a b c:Int) (w:World) (h:classB a b c=true):
  Calls Tryz.prog 87 #[.agg #[.int .i64 a,.int .i64 b,.int .i64 c]] w fun e w'=>e= .returned (.bool true)∧Below w.heap.size w w':=by
 have hf:=form_true (class_form h)
 have hd:=shown_def (class_shown h)
 have:=isDefinite_a a b c w (by unfold I64;omega) (by unfold I64;omega) (by unfold I64;omega)
 rw[hd] at this
 exact this
theorem isMat_y (p q r s:Int) (w:World) (h:matB p q r s=true):
  Calls Tryz.prog 27 #[.agg #[.int .i64 p,.int .i64 q,.int .i64 r,.int .i64 s]] w fun e w'=>e= .returned (.bool true)∧Below w.heap.size w w':=by
 have hf:=mat_true h
 have:=IsMatrix_a p q r s w (by unfold I64;omega) (by unfold I64;omega) (by unfold I64;omega) (by unfold I64;omega)
 rw[h] at this
 exact this
theorem less_e (p q r s p2 q2 r2 s2:Int) (t:Bool) (w:World) (h:ltM (p,q,r,s) (p2,q2,r2,s2)=t):
  Calls Tryz.prog 89 #[.agg #[.int .i64 p,.int .i64 q,.int .i64 r,.int .i64 s],.agg #[.int .i64 p2,.int .i64 q2,.int .i64 r2,.int .i64 s2]] w fun e w'=>e= .returned (.bool t)∧Below w.heap.size w w':=by
 subst h
 exact less_a p q r s p2 q2 r2 s2 w
theorem reLess_e (p q r s p2 q2 r2 s2:Int) (t:Bool) (w:World) (h:ltM (p,q,r,s) (p2,q2,r2,s2)=t):
  Calls Tryz.prog 94 #[.agg #[.int .i64 p,.int .i64 q,.int .i64 r,.int .i64 s],.agg #[.int .i64 p2,.int .i64 q2,.int .i64 r2,.int .i64 s2]] w fun e w'=>e= .returned (.bool t)∧Below w.heap.size w w':=by
 subst h
 exact reLess_a p q r s p2 q2 r2 s2 w
theorem reduce_rw (a b c x y z m0 m1 m2 m3:Int) (w:World) (h:OkF a b c) (hE:rfA a b c=x∧rfB a b c=y∧rfC a b c=z∧rmP a b c=m0∧rmQ a b c=m1∧rmR a b c=m2∧rmS a b c=m3):
  Calls Tryz.prog 51 #[.agg #[.int .i64 a,.int .i64 b,.int .i64 c]] w fun e w'=>e= .returned (.tuple #[.agg #[.int .i64 x,.int .i64 y,.int .i64 z],.agg #[.int .i64 m0,.int .i64 m1,.int .i64 m2,.int .i64 m3]])∧Below w.heap.size w w':=by
 obtain ⟨rfl,rfl,rfl,rfl,rfl,rfl,rfl⟩:=hE
 exact reduce_a a b c w h
theorem ML.madeAt {w:World} {lo B:Nat} (hB:w.heap.size=B) (h:lo≤w.heap.size):ML (w.alloc (.cells #[] 29)) lo (.slice (some ⟨B,0,none⟩) 0 0) []:=by subst hB;exact ML.made w lo h
theorem getD_mem4 {l:List M4} {i:Nat} (h:i<l.length):l.getD i m40 ∈ l:=by
 rw[List.getD_eq_getElem?_getD,List.getElem?_eq_getElem h];exact List.getElem_mem h
theorem app_MLn (w:World) {ops:Array Oper} {rest:List Oper} {o:Oper} {a:Act} {Q:Exit→Act→World→Prop} (hgd:o.guard=none) (s x:Operand)
  (ho:o.op= .call { callee:= .builtin .append,args:= #[s,x],argTypes:= #[79,79] })
  (lo n:Nat) (v:Value) (ms:List M4) (x0 x1 x2 x3:Int) (B:Nat) (hs:a.eval s=v) (hx:a.eval x= .slice (some ⟨B,0,none⟩) 1 1)
  (hown:ML w lo v ms) (hn:ms.length=n) (hB0:w.cell? ⟨B,0,none⟩=some (.int .i64 x0)) (hB1:w.cell? ⟨B,1,none⟩=some (.int .i64 x1)) (hB2:w.cell? ⟨B,2,none⟩=some (.int .i64 x2)) (hB3:w.cell? ⟨B,3,none⟩=some (.int .i64 x3)) (hlen:n≤100000000) (hlo:lo≤w.heap.size)
  (h: ∀g cap w',ML w' lo (.slice (some ⟨g,0,none⟩) (n+1) cap) (ms++ [(x0,x1,x2,x3)])→w.grownBy w' v.ownBlock→(v.ownBlock=some g∨g=w.heap.size)→g<w'.heap.size→
   wpList Tryz.prog ops Q rest (a.put o.dst (.slice (some ⟨g,0,none⟩) (n+1) cap)) w'):wpList Tryz.prog ops Q (o :: rest) a w:=by
 subst hn
 exact app_ML w hgd s x ho lo v ms x0 x1 x2 x3 B hs hx hown hB0 hB1 hB2 hB3 hlen hlo h
theorem blk_far {w w':World} {row b:Nat} (hg:w.grownBy w' (some row)) (hb:b<w.heap.size) (n: ¬b=row):w'.heap[b]? =w.heap[b]? :=hg.block b hb (by simpa using n)
theorem blk_far2 {wc w6 w7:World} {lb g6 b:Nat} (hg:wc.grownBy w6 (some lb)) (hg7:w6.drew.grownBy w7 (some g6)) (hb:b<wc.heap.size) (n1: ¬b=lb) (n2: ¬b=g6):w7.heap[b]? =wc.heap[b]? :=by
 rw[blk_far hg7 (show b<w6.heap.size from Nat.lt_of_lt_of_le hb hg.size) n2]
 show w6.heap[b]? =wc.heap[b]?
 exact blk_far hg hb n1
theorem cell_far2 {wc w6 w7:World} {lb g6 g9 j:Nat} {v:Value} (hg:wc.grownBy w6 (some lb)) (hg7:w6.drew.grownBy w7 (some g6)) (h:wc.cell? ⟨g9,j,none⟩=some v) (n1: ¬g9=lb) (n2: ¬g9=g6):w7.cell? ⟨g9,j,none⟩=some v:=by
 have hb:g9<wc.heap.size:=World.block_lt_of_cell? _ _ h
 rw[World.cell?_of_block (w:=wc) (w':=w7) (a:=⟨g9,j,none⟩) (blk_far2 hg hg7 hb n1 n2)]
 exact h
def set4 (w:World) (g k:Nat) (p q r s:Int):World:=(((w.setCell ⟨g,k*4,none⟩ (.int .i64 p)).setCell ⟨g,k*4+1,none⟩ (.int .i64 q)).setCell ⟨g,k*4+2,none⟩ (.int .i64 r)).setCell ⟨g,k*4+3,none⟩ (.int .i64 s)
theorem set4_block (w:World) (g k:Nat) (p q r s:Int) {b:Nat} (h: ¬b=g):(set4 w g k p q r s).heap[b]? =w.heap[b]? :=by
 unfold set4
 rw[Below.heap_setCell _ _ _ _ h,Below.heap_setCell _ _ _ _ h,Below.heap_setCell _ _ _ _ h,Below.heap_setCell _ _ _ _ h]
theorem set4_below {B:Nat} {a w:World} (h:Below B a w) {g:Nat} (hg:B≤g) (k:Nat) (p q r s:Int):Below B a (set4 w g k p q r s):=(((h.setCell hg _).setCell hg _).setCell hg _).setCell hg _
theorem ML.weak {w:World} {lo lo':Nat} {v:Value} {ms:List M4} (h:ML w lo v ms) (hl:lo'≤lo):ML w lo' v ms:=by
 unfold ML MatrixL World.ownsRow at h ⊢
 refine ⟨h.1,?_⟩
 rcases h.2 with h2|⟨g,cap,cur,e1,e2,e3⟩
 ·exact .inl h2
 ·exact .inr ⟨g,cap,cur,e1,by omega,e3⟩
def AmRel (w0 w:World) (lo gT b5:Nat) (T C:List M4) (p q r s:Int) (i:Nat) (ls:Value):Prop:=
 ∃lb c,ls= .slice (some ⟨lb,0,none⟩) i c∧ML w lo (.slice (some ⟨lb,0,none⟩) i c) (putB [] (C.take i))∧ ¬lb=gT∧KAt w gT T∧gT<w.heap.size∧Below w0.heap.size w0 w∧
  w.cell? ⟨b5,0,none⟩=some (.int .i64 p)∧w.cell? ⟨b5,1,none⟩=some (.int .i64 q)∧w.cell? ⟨b5,2,none⟩=some (.int .i64 r)∧w.cell? ⟨b5,3,none⟩=some (.int .i64 s)

theorem AmRel.next {w0 wl wc w6 w7:World} {lo gT b5:Nat} {T C L:List M4} {p q r s v0 v1 v2 v3:Int} {i lb g6 c9 c6 k:Nat}
  (hl:ML wl lo (.slice (some ⟨lb,0,none⟩) i c9) (putB [] (C.take i))) (hL:putB [] (C.take i)=L) (hlb: ¬lb=gT) (hk:KAt wl gT T) (hgT:gT<wl.heap.size) (hb:Below w0.heap.size w0 wl)
  (r0:wl.cell? ⟨b5,0,none⟩=some (.int .i64 p)) (r1:wl.cell? ⟨b5,1,none⟩=some (.int .i64 q)) (r2:wl.cell? ⟨b5,2,none⟩=some (.int .i64 r)) (r3:wl.cell? ⟨b5,3,none⟩=some (.int .i64 s))
  (hb5:b5<lo) (hlo:w0.heap.size≤lo) (h1:Below wl.heap.size wl wc) (hg:wc.grownBy w6 (some lb)) (hat:some lb=some g6∨g6=wc.heap.size)
  (hm7:ML w7 lo (.slice (some ⟨g6,0,none⟩) (i+1) c6) (shM (L++ [(0,0,0,0)]) k)) (hg7:w6.drew.grownBy w7 (some g6))
  (hat9:atB (v0,v1,v2,v3) L i=k) (hLi:L.length=i) (hC:C.getD i m40=(v0,v1,v2,v3)) (hi:i<C.length):
  AmRel w0 (set4 w7 g6 k v0 v1 v2 v3) lo gT b5 T C p q r s (i+1) (.slice (some ⟨g6,0,none⟩) (i+1) c6):=by
 have hlb0:=hl.lt lb rfl
 have hg6:lo≤g6∧ ¬g6=gT:=by
  rcases hat with e|e
  ·simp only[Option.some.injEq] at e;subst e;exact ⟨hlb0.1,hlb⟩
  ·have:=h1.size;omega
 have hkle:=atB_le (v0,v1,v2,v3) L i
 have hcb: ∀b,b<wl.heap.size→ ¬b=lb→ ¬b=g6→(set4 w7 g6 k v0 v1 v2 v3).heap[b]? =wl.heap[b]? :=fun b q1 q2 q3=>by
  rw[set4_block _ _ _ _ _ _ _ q3,blk_far2 hg hg7 (Nat.lt_of_lt_of_le q1 h1.size) q2 q3]
  exact h1.block b q1
 have hz5:=World.block_lt_of_cell? _ _ r0
 change b5<wl.heap.size at hz5
 have hce: ∀j v,wl.cell? ⟨b5,j,none⟩=some v→(set4 w7 g6 k v0 v1 v2 v3).cell? ⟨b5,j,none⟩=some v:=fun j v h=>by
  rw[World.cell?_of_block (w:=wl) (w':=set4 w7 g6 k v0 v1 v2 v3) (a:=⟨b5,j,none⟩) (hcb b5 hz5 (by omega) (by omega))]
  exact h
 have hsz:wl.heap.size≤(set4 w7 g6 k v0 v1 v2 v3).heap.size:=by
  have e1:=h1.size
  have e2:=hg.size
  have e3:w6.heap.size≤w7.heap.size:=hg7.size
  simp [set4,World.setCell]
  omega
 have hlist:(shM (L++ [(0,0,0,0)]) k).set k (v0,v1,v2,v3)=putB [] (C.take (i+1)):=by
  rw[sh_set L _ _ k (by omega),List.take_succ_eq_append_getElem hi,putB_snoc,hL]
  have:C[i]=(v0,v1,v2,v3):=by rw[←hC,List.getD_eq_getElem?_getD,List.getElem?_eq_getElem hi];rfl
  rw[this]
  unfold insB
  rw[hLi,hat9]
 refine ⟨g6,c6,rfl,?_,hg6.2,hk.keep (hcb gT hgT (by omega) (by omega)),by omega,?_,hce 0 _ r0,hce 1 _ r1,hce 2 _ r2,hce 3 _ r3⟩
 ·rw [←hlist]
  exact hm7.stored k v0 v1 v2 v3
 ·have e1:Below w0.heap.size w0 wc:=hb.trans (h1.mono hb.size)
  have e2:Below w0.heap.size w0 w6:=Below.grown e1 hg (Nat.le_trans hb.size h1.size) (fun k hk=>by injection hk with hk;omega)
  have e3:Below w0.heap.size w0 w7:=Below.grown (below_drew e2) hg7 (show w0.heap.size≤w6.heap.size from e2.size) (fun k hk=>by injection hk with hk;omega)
  exact set4_below e3 (by omega) k v0 v1 v2 v3

set_option maxRecDepth 100000 in
set_option maxHeartbeats 8000000 in
theorem Automorphs_c (a b c x y z p q r s:Int) (w:World) (h:AutOk a b c x y z p q r s) (hE:rfA a b c=x∧rfB a b c=y∧rfC a b c=z∧rmP a b c=p∧rmQ a b c=q∧rmR a b c=r∧rmS a b c=s):
  Calls Tryz.prog 52 #[.agg #[.int .i64 a,.int .i64 b,.int .i64 c]] w (RetMLok w (putB [] ((turnL x y z).map (cjM (p,q,r,s)))) true):=by
 have hcl:=h.cls
 have hof:=okF_cls hcl
 have hpa:=hof.a0
 have hok:=hide h.ok
 have HH:=hide h
 obtain ⟨T,hT0⟩: ∃T,turnL x y z=T:=⟨_,rfl⟩
 have hTl:=turn_len x y z
 have HT:=hide hT0
 rw[hT0] at hTl ⊢
 obtain ⟨C,hC0⟩: ∃C,T.map (cjM (p,q,r,s))=C:=⟨_,rfl⟩
 have hCl:C.length=T.length:=by rw[←hC0,List.length_map]
 rw[hC0]
 have HC:=hide hC0
 have HE:=hide hE
 have HF:=hide hof
 have HCL:=hide hcl
 have HCN:=hide hCl
 clear hT0 hC0 h hE hof hcl hCl
 go_enter Tryz.func52,Tryz.ntmps52
 go_wp2_with fail
 refine (isDef_y a b c _ (unhide HCL)).mono ?_
 rintro en w1 ⟨rfl,hb1⟩
 have hcs9:=cells_calls hb1 [⟨w.heap.size,0,none⟩,⟨w.heap.size,1,none⟩,⟨w.heap.size,2,none⟩] [.int .i64 a,.int .i64 b,.int .i64 c] (by refine ⟨?_,?_,?_,trivial⟩<;>exact byCT)
 have hzs9:=blocks_calls hb1 [w.heap.size] (by refine ⟨?_,trivial⟩<;>first|with_reducible assumption|omega|(simp;omega)|(simp;done))
 try clear c00 c01 c02
 obtain ⟨c00,c01,c02,-⟩:=hcs9
 obtain ⟨z0,-⟩:=hzs9
 have hs1:=hb1.size
 go_wp2_with fail
 refine (reduce_rw a b c x y z p q r s _ (unhide HF) (unhide HE)).mono ?_
 rintro en w2 ⟨rfl,hb2⟩
 have hcs9:=cells_calls hb2 [⟨w.heap.size,0,none⟩,⟨w.heap.size,1,none⟩,⟨w.heap.size,2,none⟩] [.int .i64 a,.int .i64 b,.int .i64 c] (by refine ⟨?_,?_,?_,trivial⟩<;>exact byCT)
 have hzs9:=blocks_calls hb2 [w.heap.size] (by refine ⟨?_,trivial⟩<;>first|with_reducible assumption|omega|(simp;omega)|(simp;done))
 try clear c00 c01 c02
 obtain ⟨c00,c01,c02,-⟩:=hcs9
 obtain ⟨z0,-⟩:=hzs9
 have hs2:=hb2.size
 go_wp2_with fail
 refine (turns_a x y z _).mono ?_
 rintro en w3 ⟨aT,cT,rfl,hMT,hb3⟩
 rw[unhide HT] at hMT ⊢
 have hcs9:=cells_calls hb3 [⟨w2.heap.size+1,0,none⟩,⟨w2.heap.size+1,1,none⟩,⟨w2.heap.size+1,2,none⟩,⟨w2.heap.size+1,3,none⟩] [.int .i64 p,.int .i64 q,.int .i64 r,.int .i64 s] (by refine ⟨?_,?_,?_,?_,trivial⟩<;>exact byCT)
 have hzs9:=blocks_calls hb3 [w2.heap.size+1] (by refine ⟨?_,trivial⟩<;>first|with_reducible assumption|omega|(simp;omega)|(simp;done))
 try clear c00 c01 c02 c03
 obtain ⟨c00,c01,c02,c03,-⟩:=hcs9
 obtain ⟨z0,-⟩:=hzs9
 have hs3:=hb3.size
 obtain ⟨gT,rfl,hgT0,hgT1,hcT⟩:=hMT.ptr hTl.2
 go_wp2
 have HL0:ML w3 (w2.heap.size+1+1) (.slice (some ⟨w2.heap.size+1+1,0,none⟩) 0 0) []:=(ML.madeAt (B:=w2.heap.size+1+1) (by simp) (by simp)).below hb3
 have HB0:Below w.heap.size w w3:=byGG
 have hgT2:w2.heap.size+1+1<gT:=by simp at hgT0;omega
 have HKT:=hide (KAt.of hMT (Nat.le_refl _) (fun _ _=>rfl))
 have HS3:w2.heap.size+1+1<w3.heap.size:=by simp at hs3;omega
 have hwl2:w.heap.size≤w2.heap.size:=by simp at hs1;omega
 have HLo:=hide HL0
 have HBo:=hide HB0
 clear HL0 HB0 hMT hb3 hgT0 hs1 hb1 hb2
 have hTn:0<T.length:=hTl.2
 have hTm:T.length≤6:=hTl.1
 clear hTl
 go_loopw [6,24] (fun ls is wr=> ∃i:Nat,i≤T.length∧is= .int .i64 (i:Int)∧AmRel w wr (w2.heap.size+1+1) gT (w2.heap.size+1) T C p q r s i ls) (fun _ is _=>T.length-(intOf is).toNat)
 case atStart=>exact ⟨0,by omega,rfl,_,_,rfl,unhide HLo,by omega,unhide HKT,hgT1,unhide HBo,c00,c01,c02,c03⟩
 case round=>
  clear HLo HBo HKT
  obtain ⟨i,hi,rfl,lb,c9,rfl,hl,hlb,hk,hB,hb,r0,r1,r2,r3⟩:=hrel
  obtain ⟨wl,rfl⟩: ∃wl:World,wl=wr:=⟨_,rfl⟩
  have hzl:=hb.size
  by_cases hiT:i<T.length
  ·have hit:(i:Int)<(T.length:Int):=by omega
   obtain ⟨d0,d1,d2,d3⟩:=hk i hiT
   obtain ⟨n,hn⟩: ∃n,T.getD i m40=n:=⟨_,rfl⟩
   rw[hn] at d0 d1 d2 d3
   have hmem:n ∈ turnL x y z:=by rw[unhide HT,←hn];exact getD_mem4 hiT
   obtain ⟨u0,u1,u2,u3,v0,v1,v2,v3,hy,hz,hc,hm,bz⟩:=(unhide HH).conj hpa hmem
   have HCN2:Hid (C.getD i m40=(v0,v1,v2,v3)):=hide (by
    rw[←unhide HC,List.getD_eq_getElem?_getD,List.getElem?_map,←hc,←hn,List.getD_eq_getElem?_getD,List.getElem?_eq_getElem hiT]
    rfl)
   obtain ⟨n0,n1,n2,n3⟩:=n
   clear hc hmem hn
   have HY:=hide hy
   have HZ:=hide hz
   have HM:=hide hm
   have HBZ:=hide bz
   have HL:=hide hl
   have HKA:=hide hk
   have HBB:=hide hb
   have hzb5:=World.block_lt_of_cell? _ _ r0
   change w2.heap.size+1<wl.heap.size at hzb5
   clear hy hz hm bz hl hk
   go_upto_region 8 with fail
   go_cut [9] (fun s9 wx=> ∃g9:Nat,s9= .pointer (some ⟨g9,0,none⟩)∧wx.cell? ⟨w2.heap.size+1,0,none⟩=some (.int .i64 p)∧wx.cell? ⟨w2.heap.size+1,1,none⟩=some (.int .i64 q)∧wx.cell? ⟨w2.heap.size+1,2,none⟩=some (.int .i64 r)∧wx.cell? ⟨w2.heap.size+1,3,none⟩=some (.int .i64 s)∧wx.cell? ⟨wl.heap.size,0,none⟩=some (.int .i64 n0)∧wx.cell? ⟨wl.heap.size,1,none⟩=some (.int .i64 n1)∧wx.cell? ⟨wl.heap.size,2,none⟩=some (.int .i64 n2)∧wx.cell? ⟨wl.heap.size,3,none⟩=some (.int .i64 n3)∧wx.cell? ⟨g9,0,none⟩=some (.int .i64 v0)∧wx.frozen? ⟨g9,0,none⟩=false∧wx.cell? ⟨g9,1,none⟩=some (.int .i64 v1)∧wx.frozen? ⟨g9,1,none⟩=false∧wx.cell? ⟨g9,2,none⟩=some (.int .i64 v2)∧wx.frozen? ⟨g9,2,none⟩=false∧wx.cell? ⟨g9,3,none⟩=some (.int .i64 v3)∧wx.frozen? ⟨g9,3,none⟩=false∧Below wl.heap.size wl wx∧wl.heap.size+1≤g9)
   case first=>
    have h1:=trivial
    rename_i K2 h2 h3
    refine region_n0 (by kernel_rfl) (fun j=> #[28,29,30,31,32,33,9,9].getD j 0) (fun j=>Kd.ok ((fun j=>match j with|0=>Kd.val (.agg #[.int .i64 p,.int .i64 q,.int .i64 r,.int .i64 s])|1=>Kd.val (.agg #[.int .i64 n0,.int .i64 n1,.int .i64 n2,.int .i64 n3])|2=>Kd.val (.agg #[.int .i64 u0,.int .i64 u1,.int .i64 u2,.int .i64 u3])|3=>Kd.val (.agg #[.int .i64 p,.int .i64 q,.int .i64 r,.int .i64 s])|4=>Kd.val (.agg #[.int .i64 s,.int .i64 (-q),.int .i64 (-r),.int .i64 p])|5=>Kd.val (.agg #[.int .i64 v0,.int .i64 v1,.int .i64 v2,.int .i64 v3])|6=>Kd.own (wl.heap.size+1) 4|7=>Kd.held (wl.heap.size+1) [.int .i64 v0,.int .i64 v1,.int .i64 v2,.int .i64 v3]|_=>Kd.any:Nat→Kd) j)) (Sy wl (wl.heap.size+1) [(⟨w2.heap.size+1,0,none⟩,.int .i64 p),(⟨w2.heap.size+1,1,none⟩,.int .i64 q),(⟨w2.heap.size+1,2,none⟩,.int .i64 r),(⟨w2.heap.size+1,3,none⟩,.int .i64 s),(⟨wl.heap.size,0,none⟩,.int .i64 n0),(⟨wl.heap.size,1,none⟩,.int .i64 n1),(⟨wl.heap.size,2,none⟩,.int .i64 n2),(⟨wl.heap.size,3,none⟩,.int .i64 n3)] []) (by kernel_rfl) (by kernel_rfl) ?_ ?_ ?_ ?_
    ·intro j hj
     have hj2:j<8:=hj
     have: ∀j,j<8→(#[28,29,30,31,32,33,9,9]:Array Nat).getD j 0<71:=by decide
     exact this j hj2
    ·refine Sy.drew (Sy.mk_of ?_ ?_ ?_ ?_)
     ·first|rfl|(simp;done)|(simp;omega)
     ·intro c hc
      simp only[List.mem_cons,List.not_mem_nil,or_false] at hc
      rcases hc with rfl|rfl|rfl|rfl|rfl|rfl|rfl|rfl<;>exact byCT
     ·intro p hp;cases hp
     ·(repeat' first|with_reducible (first|exact Below.refl _ _|assumption|refine gr_alloc ?_ _|refine below_drewN ?_ _|refine below_drew ?_|refine gr_call ?_ (by assumption)|refine Below.setCell ?_ ?_ _)|go_size|omega|(simp;omega))
    ·clear h1 h2 h3
     refine ⟨?r6x0,?r6x1,?r6x2,?r6x3,?r6x4,?r6x5,?r6x6,?r6x7,trivial⟩
     all_goals intro _ aq wx Kq hf hS hdep ev1 ev2 hK
     case' r6x0=>
      have F5:aq.eval (.tmp 5)= .pointer (some ⟨w2.heap.size+1,0,none⟩):=hf 5
      have c0:=hS.cells (⟨w2.heap.size+1,0,none⟩,.int .i64 p) (by simp)
      have c1:=hS.cells (⟨w2.heap.size+1,1,none⟩,.int .i64 q) (by simp)
      have c2:=hS.cells (⟨w2.heap.size+1,2,none⟩,.int .i64 r) (by simp)
      have c3:=hS.cells (⟨w2.heap.size+1,3,none⟩,.int .i64 s) (by simp)
     case' r6x1=>
      have F8:aq.eval (.tmp 8)= .pointer (some ⟨wl.heap.size,0,none⟩):=hf 8
      have c0:=hS.cells (⟨wl.heap.size,0,none⟩,.int .i64 n0) (by simp)
      have c1:=hS.cells (⟨wl.heap.size,1,none⟩,.int .i64 n1) (by simp)
      have c2:=hS.cells (⟨wl.heap.size,2,none⟩,.int .i64 n2) (by simp)
      have c3:=hS.cells (⟨wl.heap.size,3,none⟩,.int .i64 n3) (by simp)
     case' r6x2=>
      have D0:aq.eval (.tmp 28)=_:=hdep 0
      have D1:aq.eval (.tmp 29)=_:=hdep 1
     case' r6x3=>
      have F5:aq.eval (.tmp 5)= .pointer (some ⟨w2.heap.size+1,0,none⟩):=hf 5
      have c0:=hS.cells (⟨w2.heap.size+1,0,none⟩,.int .i64 p) (by simp)
      have c1:=hS.cells (⟨w2.heap.size+1,1,none⟩,.int .i64 q) (by simp)
      have c2:=hS.cells (⟨w2.heap.size+1,2,none⟩,.int .i64 r) (by simp)
      have c3:=hS.cells (⟨w2.heap.size+1,3,none⟩,.int .i64 s) (by simp)
     case' r6x4=>
      have D3:aq.eval (.tmp 31)=_:=hdep 3
     case' r6x5=>
      have D2:aq.eval (.tmp 30)=_:=hdep 2
      have D4:aq.eval (.tmp 32)=_:=hdep 4
     case' r6x7=>
      have D5:aq.eval (.tmp 33)=_:=hdep 5
      obtain ⟨gn,D6,r1,r2,r3⟩:=hdep 6
      change aq.eval (.tmp 9)=_ at D6
      obtain ⟨⟨vx0,cx0⟩,cf0⟩:=r3 0 (by decide)
      obtain ⟨⟨vx1,cx1⟩,cf1⟩:=r3 1 (by decide)
      obtain ⟨⟨vx2,cx2⟩,cf2⟩:=r3 2 (by decide)
      obtain ⟨⟨vx3,cx3⟩,cf3⟩:=r3 3 (by decide)
      have D6':tau aq 9=_:=D6
     all_goals (clear hf hdep;unfold Oper.wp;generalize Act.eval _=ev at *;go_simp)
     case r6x2=>
      refine ((times_e p q r s n0 n1 n2 n3 u0 u1 u2 u3 _ (unhide HY))).mono ?_
      rintro e w2 ⟨rfl,hb⟩
      refine hK _ _ (hS.call hb) ?_ (fun j u _ h=>Kd.ok_below hb h)
      rw[if_pos (by rfl)]
      show (_:Value)=_
      first|rfl|(refine congrArg (Value.int .i64) ?_;first|rfl|exact int_in (by omega)|exact quo_in (by omega) (by omega) (by omega)|exact rem_in (by omega) (by omega)|omega)|(simp;done)|(simp [*];done)
     case r6x4=>
      refine ((inverse_a p q r s _ (unhide hok))).mono ?_
      rintro e w2 ⟨rfl,hb⟩
      refine hK _ _ (hS.call hb) ?_ (fun j u _ h=>Kd.ok_below hb h)
      rw[if_pos (by rfl)]
      show (_:Value)=_
      first|rfl|(refine congrArg (Value.int .i64) ?_;first|rfl|exact int_in (by omega)|exact quo_in (by omega) (by omega) (by omega)|exact rem_in (by omega) (by omega)|omega)|(simp;done)|(simp [*];done)
     case r6x5=>
      refine ((times_e u0 u1 u2 u3 s (-q) (-r) p v0 v1 v2 v3 _ (unhide HZ))).mono ?_
      rintro e w2 ⟨rfl,hb⟩
      refine hK _ _ (hS.call hb) ?_ (fun j u _ h=>Kd.ok_below hb h)
      rw[if_pos (by rfl)]
      show (_:Value)=_
      first|rfl|(refine congrArg (Value.int .i64) ?_;first|rfl|exact int_in (by omega)|exact quo_in (by omega) (by omega) (by omega)|exact rem_in (by omega) (by omega)|omega)|(simp;done)|(simp [*];done)
     case r6x6=>
      refine hK _ _ (hS.call (below_alloc_self _ _)) ?_ (fun j u _ h=>Kd.ok_below (below_alloc_self _ _) h)
      rw[if_pos (by rfl)]
      exact kd_new hS.size rfl
     case r6x7=>
      refine hK undef (setAll gn 0 [.int .i64 v0,.int .i64 v1,.int .i64 v2,.int .i64 v3] wx) (Sy.setAll_new r1 hS) ?_ (fun j u hj h=> ?_)
      ·rw [if_neg (by decide)]
       exact kd_held r1 r2 D6' r3
      ·match j,hj with
       |0,hj=>exact (show (u:Value)=_ from h)
       |1,hj=>exact (show (u:Value)=_ from h)
       |2,hj=>exact (show (u:Value)=_ from h)
       |3,hj=>exact (show (u:Value)=_ from h)
       |4,hj=>exact (show (u:Value)=_ from h)
       |5,hj=>exact (show (u:Value)=_ from h)
       |6,hj=>exact Kd.ok_setAll_new (k:=Kd.own (wl.heap.size+1) 4) rfl (fun B' cs e=>by cases e) h
       |7,hj=>exact absurd rfl hj
       |j+8,_=>trivial
     all_goals (refine hK _ _ hS ?_ (fun j u _ h=>h);rw [if_pos (by rfl)];show (_:Value)=_;(first|rfl|(refine congrArg (Value.int .i64) ?_;first|rfl|exact int_in (by omega)|exact quo_in (by omega) (by omega) (by omega)|exact rem_in (by omega) (by omega)|omega)|(simp;done)|(simp [*];done)))
    ·intro aq wx hd hw hf hS hg
     obtain ⟨g9,G9,r1g9,r2g9,r3g9⟩:=hg 7 (by decide)
     change tau aq 9=_ at G9
     have haq:aq=⟨#[tau aq 0,tau aq 1,tau aq 2,tau aq 3,tau aq 4,tau aq 5,tau aq 6,tau aq 7,tau aq 8,tau aq 9,tau aq 10,tau aq 11,tau aq 12,tau aq 13,tau aq 14,tau aq 15,tau aq 16,tau aq 17,tau aq 18,tau aq 19,tau aq 20,tau aq 21,tau aq 22,tau aq 23,tau aq 24,tau aq 25,tau aq 26,tau aq 27,tau aq 28,tau aq 29,tau aq 30,tau aq 31,tau aq 32,tau aq 33,tau aq 34,tau aq 35,tau aq 36,tau aq 37,tau aq 38,tau aq 39,tau aq 40,tau aq 41,tau aq 42,tau aq 43,tau aq 44,tau aq 45,tau aq 46,tau aq 47,tau aq 48,tau aq 49,tau aq 50,tau aq 51,tau aq 52,tau aq 53,tau aq 54,tau aq 55,tau aq 56,tau aq 57,tau aq 58,tau aq 59,tau aq 60,tau aq 61,tau aq 62,tau aq 63,tau aq 64,tau aq 65,tau aq 66,tau aq 67,tau aq 68,tau aq 69,tau aq 70],[]⟩:=by
      obtain ⟨tq,dq⟩:=aq
      have h5:=arr_eq (show tq.size=71 from hw)
      have h6:dq= []:=hd
      subst h6
      exact congrArg (fun z=>Act.mk z []) h5
     show K2 aq wx
     rw[haq,hf 0,hf 1,hf 2,hf 3,hf 4,hf 5,hf 6,hf 7,hf 8,hf 10,hf 11,hf 12,hf 13,hf 14,hf 15,hf 16,hf 17,hf 18,hf 19,hf 20,hf 21,hf 22,hf 23,hf 24,hf 25,hf 26,hf 27,hf 34,hf 35,hf 36,hf 37,hf 38,hf 39,hf 40,hf 41,hf 42,hf 43,hf 44,hf 45,hf 46,hf 47,hf 48,hf 49,hf 50,hf 51,hf 52,hf 53,hf 54,hf 55,hf 56,hf 57,hf 58,hf 59,hf 60,hf 61,hf 62,hf 63,hf 64,hf 65,hf 66,hf 67,hf 68,hf 69,hf 70,G9]
     clear haq hf hd hw
     try dsimp only
     refine h3 _ _ ?_
     go_meet
     exact ⟨g9,rfl,hS.cells (⟨w2.heap.size+1,0,none⟩,.int .i64 p) (by simp),hS.cells (⟨w2.heap.size+1,1,none⟩,.int .i64 q) (by simp),hS.cells (⟨w2.heap.size+1,2,none⟩,.int .i64 r) (by simp),hS.cells (⟨w2.heap.size+1,3,none⟩,.int .i64 s) (by simp),hS.cells (⟨wl.heap.size,0,none⟩,.int .i64 n0) (by simp),hS.cells (⟨wl.heap.size,1,none⟩,.int .i64 n1) (by simp),hS.cells (⟨wl.heap.size,2,none⟩,.int .i64 n2) (by simp),hS.cells (⟨wl.heap.size,3,none⟩,.int .i64 n3) (by simp),(r3g9 0 (by simp)).1,(r3g9 0 (by simp)).2,(r3g9 1 (by simp)).1,(r3g9 1 (by simp)).2,(r3g9 2 (by simp)).1,(r3g9 2 (by simp)).2,(r3g9 3 (by simp)).1,(r3g9 3 (by simp)).2,hS.below,r1g9⟩
   try clear c00
   try clear c01
   try clear c02
   try clear c03
   try clear c10
   try clear c11
   try clear c12
   try clear c13
   obtain ⟨g9,rfl,c00,c01,c02,c03,c10,c11,c12,c13,c20,f20,c21,f21,c22,f22,c23,f23,hb0,ng9⟩:=hcut
   have z0:=World.block_lt_of_cell? _ _ c00
   have z1:=World.block_lt_of_cell? _ _ c10
   have z2:=World.block_lt_of_cell? _ _ c20
   change w2.heap.size+1<wc.heap.size at z0
   change wl.heap.size<wc.heap.size at z1
   change g9<wc.heap.size at z2
   go_wp2_with fail
   refine (isMat_y v0 v1 v2 v3 _ (unhide HM)).mono ?_
   rintro en w5 ⟨rfl,hb5⟩
   have hcs9:=cells_calls hb5 [⟨w2.heap.size+1,0,none⟩,⟨w2.heap.size+1,1,none⟩,⟨w2.heap.size+1,2,none⟩,⟨w2.heap.size+1,3,none⟩,⟨wl.heap.size,0,none⟩,⟨wl.heap.size,1,none⟩,⟨wl.heap.size,2,none⟩,⟨wl.heap.size,3,none⟩,⟨g9,0,none⟩,⟨g9,1,none⟩,⟨g9,2,none⟩,⟨g9,3,none⟩] [.int .i64 p,.int .i64 q,.int .i64 r,.int .i64 s,.int .i64 n0,.int .i64 n1,.int .i64 n2,.int .i64 n3,.int .i64 v0,.int .i64 v1,.int .i64 v2,.int .i64 v3] (by refine ⟨?_,?_,?_,?_,?_,?_,?_,?_,?_,?_,?_,?_,trivial⟩<;>exact byCT)
   have hzs9:=blocks_calls hb5 [w2.heap.size+1,wl.heap.size,g9] (by refine ⟨?_,?_,?_,trivial⟩<;>first|with_reducible assumption|omega|(simp;omega)|(simp;done))
   try clear c00 c01 c02 c03
   try clear c10 c11 c12 c13
   try clear c20 c21 c22 c23
   obtain ⟨c00,c01,c02,c03,c10,c11,c12,c13,c20,c21,c22,c23,-⟩:=hcs9
   obtain ⟨z0,z1,z2,-⟩:=hzs9
   have hs5:=hb5.size
   obtain ⟨L,hL⟩: ∃L,putB [] (C.take i)=L:=⟨_,rfl⟩
   have hLL:L.length=i:=by rw[←hL,putB_len,List.length_take,unhide HCN];simp;omega
   have hw5:Below wl.heap.size wl w5:=byGG
   have HL5:Hid (ML w5 (w2.heap.size+1+1) (.slice (some ⟨lb,0,none⟩) i c9) L):=hide (by rw[←hL];exact (unhide HL).below hw5)
   have HLe:=hide hL
   have HLL:=hide hLL
   clear hL hLL
   go_wp2
   go_loopw [10] (fun ats wq=> ∃k:Nat,k≤i∧ats= .int .i64 (k:Int)∧Hid (atB (v0,v1,v2,v3) L i=atB (v0,v1,v2,v3) L k)∧Below w5.heap.size w5 wq) (fun ats _=>(intOf ats).toNat)
   case atStart=>exact ⟨i,Nat.le_refl _,rfl,hide rfl,Below.refl _ _⟩
   case round=>
    obtain ⟨k,hk9,rfl,hat9,hbq⟩:=hrel
    obtain ⟨wm,rfl⟩: ∃wm:World,wm=wr:=⟨_,rfl⟩
    have hzm:=hbq.size
    have hcs9:=cells_calls hbq [⟨w2.heap.size+1,0,none⟩,⟨w2.heap.size+1,1,none⟩,⟨w2.heap.size+1,2,none⟩,⟨w2.heap.size+1,3,none⟩,⟨g9,0,none⟩,⟨g9,1,none⟩,⟨g9,2,none⟩,⟨g9,3,none⟩] [.int .i64 p,.int .i64 q,.int .i64 r,.int .i64 s,.int .i64 v0,.int .i64 v1,.int .i64 v2,.int .i64 v3] (by refine ⟨?_,?_,?_,?_,?_,?_,?_,?_,trivial⟩<;>exact byCT)
    have hzs9:=blocks_calls hbq [w2.heap.size+1,wl.heap.size,g9] (by refine ⟨?_,?_,?_,trivial⟩<;>first|with_reducible assumption|omega|(simp;omega)|(simp;done))
    try clear c00 c01 c02 c03
    try clear c20 c21 c22 c23
    obtain ⟨c00,c01,c02,c03,c20,c21,c22,c23,-⟩:=hcs9
    obtain ⟨z0,z1,z2,-⟩:=hzs9
    by_cases hk0:k=0
    ·have HAT:Hid (atB (v0,v1,v2,v3) L i=k):=hide (by rw[unhide hat9,hk0];rfl)
     have hkz: ¬0<(k:Int):=by omega
     clear hat9 hk0
     go_upto_region 12 with fail
     go_cut [50] (fun s50 wx=>s50= .bool false∧wx.cell? ⟨g9,0,none⟩=some (.int .i64 v0)∧wx.cell? ⟨g9,1,none⟩=some (.int .i64 v1)∧wx.cell? ⟨g9,2,none⟩=some (.int .i64 v2)∧wx.cell? ⟨g9,3,none⟩=some (.int .i64 v3)∧Below wm.heap.size wm wx)
     case first=>
      have h1:=trivial
      rename_i K2 h2 h3
      refine region_n (by kernel_rfl) (fun j=> #[40,41,42,43,44,45,46,47,48,49,50].getD j 0) (fun j=>Kd.ok ((fun j=>match j with|0=>Kd.val (.int .i64 ((k:Int)))|1=>Kd.val (.bool false)|2=>Kd.val (.bool false)|3=>Kd.val undef|4=>Kd.val undef|5=>Kd.val undef|6=>Kd.val undef|7=>Kd.val undef|8=>Kd.val undef|9=>Kd.val undef|10=>Kd.val (.bool false)|_=>Kd.any:Nat→Kd) j)) (Sy wm (wm.heap.size) [(⟨g9,0,none⟩,.int .i64 v0),(⟨g9,1,none⟩,.int .i64 v1),(⟨g9,2,none⟩,.int .i64 v2),(⟨g9,3,none⟩,.int .i64 v3)] []) (fun j=> #[true,true,true,false,false,false,false,false,false,false,true].getD j true) (by kernel_rfl) ?_ ?_ ?_ ?_ ?_ ?_
      ·intro j hj
       have hj2:j<11:=hj
       have: ∀j,j<11→(#[40,41,42,43,44,45,46,47,48,49,50]:Array Nat).getD j 0<71:=by decide
       exact this j hj2
      ·intro i o ho
       match i,ho with
       |0,ho=>cases ho;intro aq wq hd;exact wanted_free rfl
       |1,ho=>cases ho;intro aq wq hd;exact wanted_free rfl
       |2,ho=>cases ho;intro aq wq hd;exact wanted_free rfl
       |3,ho=>cases ho;intro aq wq hd;exact wanted_of (j:=2) (t:=42) (want:=true) (b:=false) rfl rfl (hd 2 (by decide +kernel))
       |4,ho=>cases ho;intro aq wq hd;exact wanted_of (j:=2) (t:=42) (want:=true) (b:=false) rfl rfl (hd 2 (by decide +kernel))
       |5,ho=>cases ho;intro aq wq hd;exact wanted_of (j:=2) (t:=42) (want:=true) (b:=false) rfl rfl (hd 2 (by decide +kernel))
       |6,ho=>cases ho;intro aq wq hd;exact wanted_of (j:=2) (t:=42) (want:=true) (b:=false) rfl rfl (hd 2 (by decide +kernel))
       |7,ho=>cases ho;intro aq wq hd;exact wanted_of (j:=2) (t:=42) (want:=true) (b:=false) rfl rfl (hd 2 (by decide +kernel))
       |8,ho=>cases ho;intro aq wq hd;exact wanted_of (j:=2) (t:=42) (want:=true) (b:=false) rfl rfl (hd 2 (by decide +kernel))
       |9,ho=>cases ho;intro aq wq hd;exact wanted_of (j:=2) (t:=42) (want:=true) (b:=false) rfl rfl (hd 2 (by decide +kernel))
       |10,ho=>cases ho;intro aq wq hd;exact wanted_free rfl
       |i+11,ho=>exact absurd ho (by simp)
      ·intro i o ho hr
       match i,ho with
       |0,ho=>exact absurd hr (by decide)
       |1,ho=>exact absurd hr (by decide)
       |2,ho=>exact absurd hr (by decide)
       |3,ho=>cases ho;exact ⟨rfl,fun _ _=>rfl⟩
       |4,ho=>cases ho;exact ⟨rfl,fun _ _=>rfl⟩
       |5,ho=>cases ho;exact ⟨rfl,fun _ _=>rfl⟩
       |6,ho=>cases ho;exact ⟨rfl,fun _ _=>rfl⟩
       |7,ho=>cases ho;exact ⟨rfl,fun _ _=>rfl⟩
       |8,ho=>cases ho;exact ⟨rfl,fun _ _=>rfl⟩
       |9,ho=>cases ho;exact ⟨rfl,fun _ _=>rfl⟩
       |10,ho=>exact absurd hr (by decide)
       |i+11,ho=>exact absurd ho (by simp)
      ·refine Sy.drew (Sy.mk_of ?_ ?_ ?_ ?_)
       ·first|rfl|(simp;done)|(simp;omega)
       ·intro c hc
        simp only[List.mem_cons,List.not_mem_nil,or_false] at hc
        rcases hc with rfl|rfl|rfl|rfl<;>exact byCT
       ·intro p hp;cases hp
       ·(repeat' first|with_reducible (first|exact Below.refl _ _|assumption|refine gr_alloc ?_ _|refine below_drewN ?_ _|refine below_drew ?_|refine gr_call ?_ (by assumption)|refine Below.setCell ?_ ?_ _)|go_size|omega|(simp;omega))
      ·clear h1 h2 h3
       refine ⟨?r7x0,?r7x1,?r7x2,?r7x3,?r7x4,?r7x5,?r7x6,?r7x7,?r7x8,?r7x9,?r7x10,trivial⟩
       case r7x3=>intro hr;exact absurd hr (by decide)
       case r7x4=>intro hr;exact absurd hr (by decide)
       case r7x5=>intro hr;exact absurd hr (by decide)
       case r7x6=>intro hr;exact absurd hr (by decide)
       case r7x7=>intro hr;exact absurd hr (by decide)
       case r7x8=>intro hr;exact absurd hr (by decide)
       case r7x9=>intro hr;exact absurd hr (by decide)
       all_goals intro _ aq wx Kq hf hS hdep ev1 ev2 hK
       case' r7x0=>
        have F10:aq.eval (.tmp 10)= .int .i64 ((k:Int)):=hf 10
       case' r7x1=>
        have D0:aq.eval (.tmp 40)=_:=hdep 0
       case' r7x2=>
        have D1:aq.eval (.tmp 41)=_:=hdep 1
       case' r7x10=>
        have D2:aq.eval (.tmp 42)=_:=hdep 2
        have D9:aq.eval (.tmp 49)=_:=hdep 9
       all_goals (clear hf hdep;unfold Oper.wp;generalize Act.eval _=ev at *;go_simp)
       all_goals (refine hK _ _ hS ?_ (fun j u _ h=>h);rw [if_pos (by rfl)];show (_:Value)=_;(first|rfl|(refine congrArg (Value.int .i64) ?_;first|rfl|exact int_in (by omega)|exact quo_in (by omega) (by omega) (by omega)|exact rem_in (by omega) (by omega)|omega|exact unhide HKW|exact (IntWalk.i64_in _ (by omega)).trans (unhide HKW)|(simp [*];done)|(simp;omega))|(simp;done)|(simp [*];done)|(simp;omega)))
      ·intro aq wx hd hw hf hS hg
       have G50:tau aq 50= .bool false:=hg 10 (by decide)
       have haq:aq=⟨#[tau aq 0,tau aq 1,tau aq 2,tau aq 3,tau aq 4,tau aq 5,tau aq 6,tau aq 7,tau aq 8,tau aq 9,tau aq 10,tau aq 11,tau aq 12,tau aq 13,tau aq 14,tau aq 15,tau aq 16,tau aq 17,tau aq 18,tau aq 19,tau aq 20,tau aq 21,tau aq 22,tau aq 23,tau aq 24,tau aq 25,tau aq 26,tau aq 27,tau aq 28,tau aq 29,tau aq 30,tau aq 31,tau aq 32,tau aq 33,tau aq 34,tau aq 35,tau aq 36,tau aq 37,tau aq 38,tau aq 39,tau aq 40,tau aq 41,tau aq 42,tau aq 43,tau aq 44,tau aq 45,tau aq 46,tau aq 47,tau aq 48,tau aq 49,tau aq 50,tau aq 51,tau aq 52,tau aq 53,tau aq 54,tau aq 55,tau aq 56,tau aq 57,tau aq 58,tau aq 59,tau aq 60,tau aq 61,tau aq 62,tau aq 63,tau aq 64,tau aq 65,tau aq 66,tau aq 67,tau aq 68,tau aq 69,tau aq 70],[]⟩:=by
        obtain ⟨tq,dq⟩:=aq
        have h5:=arr_eq (show tq.size=71 from hw)
        have h6:dq= []:=hd
        subst h6
        exact congrArg (fun z=>Act.mk z []) h5
       show K2 aq wx
       rw[haq,hf 0,hf 1,hf 2,hf 3,hf 4,hf 5,hf 6,hf 7,hf 8,hf 9,hf 10,hf 11,hf 12,hf 13,hf 14,hf 15,hf 16,hf 17,hf 18,hf 19,hf 20,hf 21,hf 22,hf 23,hf 24,hf 25,hf 26,hf 27,hf 28,hf 29,hf 30,hf 31,hf 32,hf 33,hf 34,hf 35,hf 36,hf 37,hf 38,hf 39,hf 51,hf 52,hf 53,hf 54,hf 55,hf 56,hf 57,hf 58,hf 59,hf 60,hf 61,hf 62,hf 63,hf 64,hf 65,hf 66,hf 67,hf 68,hf 69,hf 70,G50]
       clear haq hf hd hw
       try dsimp only
       refine h3 _ _ ?_
       go_meet
       exact ⟨rfl,hS.cells (⟨g9,0,none⟩,.int .i64 v0) (by simp),hS.cells (⟨g9,1,none⟩,.int .i64 v1) (by simp),hS.cells (⟨g9,2,none⟩,.int .i64 v2) (by simp),hS.cells (⟨g9,3,none⟩,.int .i64 v3) (by simp),hS.below⟩
     try clear c00
     try clear c01
     try clear c02
     try clear c03
     obtain ⟨rfl,c00,c01,c02,c03,hb0⟩:=hcut
     have z0:=World.block_lt_of_cell? _ _ c00
     change g9<wc.heap.size at z0
     have hbc:Below w5.heap.size w5 wc:=byGG
     have HLc:Hid (ML wc (w2.heap.size+1+1) (.slice (some ⟨lb,0,none⟩) i c9) L):=hide ((unhide HL5).below hbc)
     have hszc:=hbc.size
     have hi100:i≤100000000:=by omega
     have hloc:w2.heap.size+1+1≤wc.heap.size:=by have:=hs5;omega
     go_wp2_with (at_builtin;refine app_MLn _ rfl (.tmp 53) (.tmp 55) rfl (w2.heap.size+1+1) i (.slice (some ⟨lb,0,none⟩) i c9) L 0 0 0 0 wc.heap.size rfl rfl ((unhide HLc).alloc _) (unhide HLL) byCT byCT byCT byCT hi100 (by simp;omega) ?_;intro g6 c6 w6 hown hgrow hat hlt6)
     obtain ⟨g6',hg6,hlo6,hlt6',hcap6⟩:=hown.ptr (by simp)
     clear hg6 hlo6 hlt6' g6'
     have hcap6:i+1≤c6:=by rw[List.length_append,unhide HLL] at hcap6;exact hcap6
     have HOWN:=hide hown
     clear hown
     have hki2:k≤i:=by omega
     have hki3:(k:Int)≤i:=by omega
     have hki4:k<i+1:=by omega
     have hkw:IntKind.i64.wrap ((k:Int)+1)=(k:Int)+1:=IntWalk.i64_in _ (by omega)
     have hkn:((k:Int)+1).toNat=k+1:=by omega
     have hkp:0≤(k:Int)+1:=by omega
     have hki5:(k:Int)≤(i:Int)+1:=by omega
     obtain ⟨L6,hL6⟩: ∃L6,L++ [((0:Int),(0:Int),(0:Int),(0:Int))]=L6:=⟨_,rfl⟩
     have hl6:L6.length=i+1:=by rw[←hL6,List.length_append,unhide HLL];rfl
     rw[hL6] at HOWN
     have HE1:Hid (i-k=L6.length-(k+1)):=hide (by omega)
     have HE0:i≤k→Hid (0=L6.length-(k+1)):=fun h=>hide (by omega)
     have HE2:Hid (i+1-k=L6.length-k):=hide (by omega)
     have HE3:Hid (k<L6.length):=hide (by omega)
     have HE4:=hide hl6
     have HL6:=hide hL6
     have HOW2:Hid (ML w6.drew (w2.heap.size+1+1) (.slice (some ⟨g6,0,none⟩) (i+1) c6) L6):=hide ((unhide HOWN).below byGG)
     clear hl6 hL6
     by_cases hcc:c6=k+1
     ·have HDP:Hid (k+1<L6.length→(some ⟨g6,0,none⟩:Option Addr)=some ⟨g6,(k+1)*4,none⟩):=hide (fun h=>absurd h (by rw[unhide HE4];omega))
      subst hcc
      go_region_law (refine step_copyM rfl (.tmp 60) (.tmp 63) rfl (w2.heap.size+1+1) g6 (i+1) (k+1) k L6 (some ⟨g6,0,none⟩) 0 0 (i+1-k) 1 (by simp [Act.eval,Act.put]) (by simp [Act.eval,Act.put]) (unhide (HE0 (by omega))) (unhide HE2) (unhide HOW2) (unhide HE3) (unhide HDP) ?_;intro w7 hm7 hg7)
      have hlt9:=(unhide HL).lt lb rfl
      have hat8:some lb=some g6∨g6=(wc.alloc (.cells #[.int .i64 0,.int .i64 0,.int .i64 0,.int .i64 0] 29)).heap.size:=hat
      have ngl: ¬g9=lb:=by omega
      have ngg: ¬g9=g6:=by
       rcases hat8 with e|e
       ·simp only[Option.some.injEq] at e;omega
       ·simp at e;omega
      have q0:=cell_far2 hgrow hg7 (v:= .int .i64 v0) (j:=0) (g9:=g9) byCT ngl ngg
      have q1:=cell_far2 hgrow hg7 (v:= .int .i64 v1) (j:=1) (g9:=g9) byCT ngl ngg
      have q2:=cell_far2 hgrow hg7 (v:= .int .i64 v2) (j:=2) (g9:=g9) byCT ngl ngg
      have q3:=cell_far2 hgrow hg7 (v:= .int .i64 v3) (j:=3) (g9:=g9) byCT ngl ngg
      have hkl:k<(shM L6 k).length:=by rw[shM_len (unhide HE3)];exact unhide HE3
      obtain ⟨t0,t1,t2,t3⟩:=hm7.cells hkl
      have fz:=hm7.frozen
      have y0:=fz (k*4)
      have y1:=fz (k*4+1)
      have y2:=fz (k*4+2)
      have y3:=fz (k*4+3)
      have HM7:=hide hm7
      clear hm7 fz
      go_wp2
      go_roundw
      case rel=>exact ⟨i+1,by omega,by first|rfl|go_num,AmRel.next (unhide HL) (unhide HLe) hlb (unhide HKA) hB (unhide HBB) r0 r1 r2 r3 (by omega) (by omega) byGG hgrow hat8 (by rw[unhide HL6];exact unhide HM7) hg7 (unhide HAT) (unhide HLL) (unhide HCN2) (by rw[unhide HCN];exact hiT)⟩
      case measure=>simp [intOf];omega
     ·have hcc2: ¬c6=k:=by omega
      have HDP:Hid (k+1<L6.length→(some ⟨g6,(k+1)*4,none⟩:Option Addr)=some ⟨g6,(k+1)*4,none⟩):=hide (fun _=>rfl)
      go_region_law (refine step_copyM rfl (.tmp 60) (.tmp 63) rfl (w2.heap.size+1+1) g6 (i+1) c6 k L6 (some ⟨g6,(k+1)*4,none⟩) (i-k) (c6-(k+1)) (i+1-k) (c6-k) (by simp [Act.eval,Act.put]) (by simp [Act.eval,Act.put]) (unhide HE1) (unhide HE2) (unhide HOW2) (unhide HE3) (unhide HDP) ?_;intro w7 hm7 hg7)
      have hlt9:=(unhide HL).lt lb rfl
      have hat8:some lb=some g6∨g6=(wc.alloc (.cells #[.int .i64 0,.int .i64 0,.int .i64 0,.int .i64 0] 29)).heap.size:=hat
      have ngl: ¬g9=lb:=by omega
      have ngg: ¬g9=g6:=by
       rcases hat8 with e|e
       ·simp only[Option.some.injEq] at e;omega
       ·simp at e;omega
      have q0:=cell_far2 hgrow hg7 (v:= .int .i64 v0) (j:=0) (g9:=g9) byCT ngl ngg
      have q1:=cell_far2 hgrow hg7 (v:= .int .i64 v1) (j:=1) (g9:=g9) byCT ngl ngg
      have q2:=cell_far2 hgrow hg7 (v:= .int .i64 v2) (j:=2) (g9:=g9) byCT ngl ngg
      have q3:=cell_far2 hgrow hg7 (v:= .int .i64 v3) (j:=3) (g9:=g9) byCT ngl ngg
      have hkl:k<(shM L6 k).length:=by rw[shM_len (unhide HE3)];exact unhide HE3
      obtain ⟨t0,t1,t2,t3⟩:=hm7.cells hkl
      have fz:=hm7.frozen
      have y0:=fz (k*4)
      have y1:=fz (k*4+1)
      have y2:=fz (k*4+2)
      have y3:=fz (k*4+3)
      have HM7:=hide hm7
      clear hm7 fz
      go_wp2
      go_roundw
      case rel=>exact ⟨i+1,by omega,by first|rfl|go_num,AmRel.next (unhide HL) (unhide HLe) hlb (unhide HKA) hB (unhide HBB) r0 r1 r2 r3 (by omega) (by omega) byGG hgrow hat8 (by rw[unhide HL6];exact unhide HM7) hg7 (unhide HAT) (unhide HLL) (unhide HCN2) (by rw[unhide HCN];exact hiT)⟩
      case measure=>simp [intOf];omega
    ·obtain ⟨kq,hkq1,hkq2⟩: ∃kq,k≤kq+1∧kq+1≤k:=⟨k-1,by omega,by omega⟩
     have hkz:0<(k:Int):=by omega
     obtain ⟨l0,l1,l2,l3⟩:=((unhide HL5).below hbq).cells (i:=kq) (by rw[unhide HLL];omega)
     obtain ⟨e,he⟩: ∃e,L.getD kq m40=e:=⟨_,rfl⟩
     rw[he] at l0 l1 l2 l3
     obtain ⟨e0,e1,e2,e3⟩:=e
     have hki:(kq:Int)<i:=by omega
     have hkw0:(k:Int)-1=(kq:Int):=by omega
     have HK1:Hid (atB (v0,v1,v2,v3) L k=if ltM (v0,v1,v2,v3) (e0,e1,e2,e3) then atB (v0,v1,v2,v3) L kq else k):=hide (by
      obtain rfl:k=kq+1:=by omega
      rw[←he];rfl)
     have HKW:=hide hkw0
     clear he hk0 hkw0
     cases hlt:ltM (v0,v1,v2,v3) (e0,e1,e2,e3)
     ·have HLT:=hide hlt
      have HAT:Hid (atB (v0,v1,v2,v3) L i=k):=hide (by rw[unhide hat9,unhide HK1,hlt];rfl)
      clear hlt hat9 HK1
      go_upto_region 12 with fail
      go_cut [50] (fun s50 wx=>s50= .bool false∧wx.cell? ⟨g9,0,none⟩=some (.int .i64 v0)∧wx.cell? ⟨g9,1,none⟩=some (.int .i64 v1)∧wx.cell? ⟨g9,2,none⟩=some (.int .i64 v2)∧wx.cell? ⟨g9,3,none⟩=some (.int .i64 v3)∧wx.cell? ⟨lb,kq*4,none⟩=some (.int .i64 e0)∧wx.cell? ⟨lb,kq*4+1,none⟩=some (.int .i64 e1)∧wx.cell? ⟨lb,kq*4+2,none⟩=some (.int .i64 e2)∧wx.cell? ⟨lb,kq*4+3,none⟩=some (.int .i64 e3)∧Below wm.heap.size wm wx)
      case first=>
       have h1:=trivial
       rename_i K2 h2 h3
       refine region_n (by kernel_rfl) (fun j=> #[40,41,42,43,44,45,46,47,48,49,50].getD j 0) (fun j=>Kd.ok ((fun j=>match j with|0=>Kd.val (.int .i64 ((k:Int)))|1=>Kd.val (.bool true)|2=>Kd.val (.bool true)|3=>Kd.val (.agg #[.int .i64 v0,.int .i64 v1,.int .i64 v2,.int .i64 v3])|4=>Kd.val (.slice (some ⟨lb,0,none⟩) i c9)|5=>Kd.val (.int .i64 ((k:Int)))|6=>Kd.val (.int .i64 ((kq:Int)))|7=>Kd.val (.pointer (some ⟨lb,kq*4,none⟩))|8=>Kd.val (.agg #[.int .i64 e0,.int .i64 e1,.int .i64 e2,.int .i64 e3])|9=>Kd.val (.bool false)|10=>Kd.val (.bool false)|_=>Kd.any:Nat→Kd) j)) (Sy wm (wm.heap.size) [(⟨g9,0,none⟩,.int .i64 v0),(⟨g9,1,none⟩,.int .i64 v1),(⟨g9,2,none⟩,.int .i64 v2),(⟨g9,3,none⟩,.int .i64 v3),(⟨lb,kq*4,none⟩,.int .i64 e0),(⟨lb,kq*4+1,none⟩,.int .i64 e1),(⟨lb,kq*4+2,none⟩,.int .i64 e2),(⟨lb,kq*4+3,none⟩,.int .i64 e3)] []) (fun j=> #[true,true,true,true,true,true,true,true,true,true,true].getD j true) (by kernel_rfl) ?_ ?_ ?_ ?_ ?_ ?_
       ·intro j hj
        have hj2:j<11:=hj
        have: ∀j,j<11→(#[40,41,42,43,44,45,46,47,48,49,50]:Array Nat).getD j 0<71:=by decide
        exact this j hj2
       ·intro i o ho
        match i,ho with
        |0,ho=>cases ho;intro aq wq hd;exact wanted_free rfl
        |1,ho=>cases ho;intro aq wq hd;exact wanted_free rfl
        |2,ho=>cases ho;intro aq wq hd;exact wanted_free rfl
        |3,ho=>cases ho;intro aq wq hd;exact wanted_of (j:=2) (t:=42) (want:=true) (b:=true) rfl rfl (hd 2 (by decide +kernel))
        |4,ho=>cases ho;intro aq wq hd;exact wanted_of (j:=2) (t:=42) (want:=true) (b:=true) rfl rfl (hd 2 (by decide +kernel))
        |5,ho=>cases ho;intro aq wq hd;exact wanted_of (j:=2) (t:=42) (want:=true) (b:=true) rfl rfl (hd 2 (by decide +kernel))
        |6,ho=>cases ho;intro aq wq hd;exact wanted_of (j:=2) (t:=42) (want:=true) (b:=true) rfl rfl (hd 2 (by decide +kernel))
        |7,ho=>cases ho;intro aq wq hd;exact wanted_of (j:=2) (t:=42) (want:=true) (b:=true) rfl rfl (hd 2 (by decide +kernel))
        |8,ho=>cases ho;intro aq wq hd;exact wanted_of (j:=2) (t:=42) (want:=true) (b:=true) rfl rfl (hd 2 (by decide +kernel))
        |9,ho=>cases ho;intro aq wq hd;exact wanted_of (j:=2) (t:=42) (want:=true) (b:=true) rfl rfl (hd 2 (by decide +kernel))
        |10,ho=>cases ho;intro aq wq hd;exact wanted_free rfl
        |i+11,ho=>exact absurd ho (by simp)
       ·intro i o ho hr
        match i,ho with
        |0,ho=>exact absurd hr (by decide)
        |1,ho=>exact absurd hr (by decide)
        |2,ho=>exact absurd hr (by decide)
        |3,ho=>exact absurd hr (by decide)
        |4,ho=>exact absurd hr (by decide)
        |5,ho=>exact absurd hr (by decide)
        |6,ho=>exact absurd hr (by decide)
        |7,ho=>exact absurd hr (by decide)
        |8,ho=>exact absurd hr (by decide)
        |9,ho=>exact absurd hr (by decide)
        |10,ho=>exact absurd hr (by decide)
        |i+11,ho=>exact absurd ho (by simp)
       ·refine Sy.drew (Sy.mk_of ?_ ?_ ?_ ?_)
        ·first|rfl|(simp;done)|(simp;omega)
        ·intro c hc
         simp only[List.mem_cons,List.not_mem_nil,or_false] at hc
         rcases hc with rfl|rfl|rfl|rfl|rfl|rfl|rfl|rfl<;>exact byCT
        ·intro p hp;cases hp
        ·(repeat' first|with_reducible (first|exact Below.refl _ _|assumption|refine gr_alloc ?_ _|refine below_drewN ?_ _|refine below_drew ?_|refine gr_call ?_ (by assumption)|refine Below.setCell ?_ ?_ _)|go_size|omega|(simp;omega))
       ·clear h1 h2 h3
        refine ⟨?r8x0,?r8x1,?r8x2,?r8x3,?r8x4,?r8x5,?r8x6,?r8x7,?r8x8,?r8x9,?r8x10,trivial⟩
        all_goals intro _ aq wx Kq hf hS hdep ev1 ev2 hK
        case' r8x0=>
         have F10:aq.eval (.tmp 10)= .int .i64 ((k:Int)):=hf 10
        case' r8x1=>
         have D0:aq.eval (.tmp 40)=_:=hdep 0
        case' r8x2=>
         have D1:aq.eval (.tmp 41)=_:=hdep 1
        case' r8x3=>
         have F9:aq.eval (.tmp 9)= .pointer (some ⟨g9,0,none⟩):=hf 9
         have c0:=hS.cells (⟨g9,0,none⟩,.int .i64 v0) (by simp)
         have c1:=hS.cells (⟨g9,1,none⟩,.int .i64 v1) (by simp)
         have c2:=hS.cells (⟨g9,2,none⟩,.int .i64 v2) (by simp)
         have c3:=hS.cells (⟨g9,3,none⟩,.int .i64 v3) (by simp)
        case' r8x4=>
         have F6:aq.eval (.tmp 6)= .slice (some ⟨lb,0,none⟩) i c9:=hf 6
        case' r8x5=>
         have F10:aq.eval (.tmp 10)= .int .i64 ((k:Int)):=hf 10
        case' r8x6=>
         have D5:aq.eval (.tmp 45)=_:=hdep 5
        case' r8x7=>
         have D4:aq.eval (.tmp 44)=_:=hdep 4
         have D6:aq.eval (.tmp 46)=_:=hdep 6
        case' r8x8=>
         have D7:aq.eval (.tmp 47)=_:=hdep 7
         have c0:=hS.cells (⟨lb,kq*4,none⟩,.int .i64 e0) (by simp)
         have c1:=hS.cells (⟨lb,kq*4+1,none⟩,.int .i64 e1) (by simp)
         have c2:=hS.cells (⟨lb,kq*4+2,none⟩,.int .i64 e2) (by simp)
         have c3:=hS.cells (⟨lb,kq*4+3,none⟩,.int .i64 e3) (by simp)
        case' r8x9=>
         have D3:aq.eval (.tmp 43)=_:=hdep 3
         have D8:aq.eval (.tmp 48)=_:=hdep 8
        case' r8x10=>
         have D2:aq.eval (.tmp 42)=_:=hdep 2
         have D9:aq.eval (.tmp 49)=_:=hdep 9
        all_goals (clear hf hdep;unfold Oper.wp;generalize Act.eval _=ev at *;go_simp)
        case' r8x7=>
         try rw[if_pos (by omega),Oper.upon_value]
        case r8x9=>
         refine ((less_e v0 v1 v2 v3 e0 e1 e2 e3 false _ (unhide HLT))).mono ?_
         rintro e w2 ⟨rfl,hb⟩
         refine hK _ _ (hS.call hb) ?_ (fun j u _ h=>Kd.ok_below hb h)
         rw[if_pos (by rfl)]
         show (_:Value)=_
         first|rfl|(refine congrArg (Value.int .i64) ?_;first|rfl|exact int_in (by omega)|exact quo_in (by omega) (by omega) (by omega)|exact rem_in (by omega) (by omega)|omega|exact unhide HKW|exact (IntWalk.i64_in _ (by omega)).trans (unhide HKW)|(simp [*];done)|(simp;omega))|(simp;done)|(simp [*];done)
        all_goals (refine hK _ _ hS ?_ (fun j u _ h=>h);rw [if_pos (by rfl)];show (_:Value)=_;(first|rfl|(refine congrArg (Value.int .i64) ?_;first|rfl|exact int_in (by omega)|exact quo_in (by omega) (by omega) (by omega)|exact rem_in (by omega) (by omega)|omega|exact unhide HKW|exact (IntWalk.i64_in _ (by omega)).trans (unhide HKW)|(simp [*];done)|(simp;omega))|(simp;done)|(simp [*];done)|(simp;omega)))
       ·intro aq wx hd hw hf hS hg
        have G50:tau aq 50= .bool false:=hg 10 (by decide)
        have haq:aq=⟨#[tau aq 0,tau aq 1,tau aq 2,tau aq 3,tau aq 4,tau aq 5,tau aq 6,tau aq 7,tau aq 8,tau aq 9,tau aq 10,tau aq 11,tau aq 12,tau aq 13,tau aq 14,tau aq 15,tau aq 16,tau aq 17,tau aq 18,tau aq 19,tau aq 20,tau aq 21,tau aq 22,tau aq 23,tau aq 24,tau aq 25,tau aq 26,tau aq 27,tau aq 28,tau aq 29,tau aq 30,tau aq 31,tau aq 32,tau aq 33,tau aq 34,tau aq 35,tau aq 36,tau aq 37,tau aq 38,tau aq 39,tau aq 40,tau aq 41,tau aq 42,tau aq 43,tau aq 44,tau aq 45,tau aq 46,tau aq 47,tau aq 48,tau aq 49,tau aq 50,tau aq 51,tau aq 52,tau aq 53,tau aq 54,tau aq 55,tau aq 56,tau aq 57,tau aq 58,tau aq 59,tau aq 60,tau aq 61,tau aq 62,tau aq 63,tau aq 64,tau aq 65,tau aq 66,tau aq 67,tau aq 68,tau aq 69,tau aq 70],[]⟩:=by
         obtain ⟨tq,dq⟩:=aq
         have h5:=arr_eq (show tq.size=71 from hw)
         have h6:dq= []:=hd
         subst h6
         exact congrArg (fun z=>Act.mk z []) h5
        show K2 aq wx
        rw[haq,hf 0,hf 1,hf 2,hf 3,hf 4,hf 5,hf 6,hf 7,hf 8,hf 9,hf 10,hf 11,hf 12,hf 13,hf 14,hf 15,hf 16,hf 17,hf 18,hf 19,hf 20,hf 21,hf 22,hf 23,hf 24,hf 25,hf 26,hf 27,hf 28,hf 29,hf 30,hf 31,hf 32,hf 33,hf 34,hf 35,hf 36,hf 37,hf 38,hf 39,hf 51,hf 52,hf 53,hf 54,hf 55,hf 56,hf 57,hf 58,hf 59,hf 60,hf 61,hf 62,hf 63,hf 64,hf 65,hf 66,hf 67,hf 68,hf 69,hf 70,G50]
        clear haq hf hd hw
        try dsimp only
        refine h3 _ _ ?_
        go_meet
        exact ⟨rfl,hS.cells (⟨g9,0,none⟩,.int .i64 v0) (by simp),hS.cells (⟨g9,1,none⟩,.int .i64 v1) (by simp),hS.cells (⟨g9,2,none⟩,.int .i64 v2) (by simp),hS.cells (⟨g9,3,none⟩,.int .i64 v3) (by simp),hS.cells (⟨lb,kq*4,none⟩,.int .i64 e0) (by simp),hS.cells (⟨lb,kq*4+1,none⟩,.int .i64 e1) (by simp),hS.cells (⟨lb,kq*4+2,none⟩,.int .i64 e2) (by simp),hS.cells (⟨lb,kq*4+3,none⟩,.int .i64 e3) (by simp),hS.below⟩
      try clear c00
      try clear c01
      try clear c02
      try clear c03
      try clear c10
      try clear c11
      try clear c12
      try clear c13
      obtain ⟨rfl,c00,c01,c02,c03,c10,c11,c12,c13,hb0⟩:=hcut
      have z0:=World.block_lt_of_cell? _ _ c00
      have z1:=World.block_lt_of_cell? _ _ c10
      change g9<wc.heap.size at z0
      change lb<wc.heap.size at z1
      have hbc:Below w5.heap.size w5 wc:=byGG
      have HLc:Hid (ML wc (w2.heap.size+1+1) (.slice (some ⟨lb,0,none⟩) i c9) L):=hide ((unhide HL5).below hbc)
      have hszc:=hbc.size
      have hi100:i≤100000000:=by omega
      have hloc:w2.heap.size+1+1≤wc.heap.size:=by have:=hs5;omega
      go_wp2_with (at_builtin;refine app_MLn _ rfl (.tmp 53) (.tmp 55) rfl (w2.heap.size+1+1) i (.slice (some ⟨lb,0,none⟩) i c9) L 0 0 0 0 wc.heap.size rfl rfl ((unhide HLc).alloc _) (unhide HLL) byCT byCT byCT byCT hi100 (by simp;omega) ?_;intro g6 c6 w6 hown hgrow hat hlt6)
      obtain ⟨g6',hg6,hlo6,hlt6',hcap6⟩:=hown.ptr (by simp)
      clear hg6 hlo6 hlt6' g6'
      have hcap6:i+1≤c6:=by rw[List.length_append,unhide HLL] at hcap6;exact hcap6
      have HOWN:=hide hown
      clear hown
      have hki2:k≤i:=by omega
      have hki3:(k:Int)≤i:=by omega
      have hki4:k<i+1:=by omega
      have hkw:IntKind.i64.wrap ((k:Int)+1)=(k:Int)+1:=IntWalk.i64_in _ (by omega)
      have hkn:((k:Int)+1).toNat=k+1:=by omega
      have hkp:0≤(k:Int)+1:=by omega
      have hki5:(k:Int)≤(i:Int)+1:=by omega
      obtain ⟨L6,hL6⟩: ∃L6,L++ [((0:Int),(0:Int),(0:Int),(0:Int))]=L6:=⟨_,rfl⟩
      have hl6:L6.length=i+1:=by rw[←hL6,List.length_append,unhide HLL];rfl
      rw[hL6] at HOWN
      have HE1:Hid (i-k=L6.length-(k+1)):=hide (by omega)
      have HE0:i≤k→Hid (0=L6.length-(k+1)):=fun h=>hide (by omega)
      have HE2:Hid (i+1-k=L6.length-k):=hide (by omega)
      have HE3:Hid (k<L6.length):=hide (by omega)
      have HE4:=hide hl6
      have HL6:=hide hL6
      have HOW2:Hid (ML w6.drew (w2.heap.size+1+1) (.slice (some ⟨g6,0,none⟩) (i+1) c6) L6):=hide ((unhide HOWN).below byGG)
      clear hl6 hL6
      by_cases hcc:c6=k+1
      ·have HDP:Hid (k+1<L6.length→(some ⟨g6,0,none⟩:Option Addr)=some ⟨g6,(k+1)*4,none⟩):=hide (fun h=>absurd h (by rw[unhide HE4];omega))
       subst hcc
       go_region_law (refine step_copyM rfl (.tmp 60) (.tmp 63) rfl (w2.heap.size+1+1) g6 (i+1) (k+1) k L6 (some ⟨g6,0,none⟩) 0 0 (i+1-k) 1 (by simp [Act.eval,Act.put]) (by simp [Act.eval,Act.put]) (unhide (HE0 (by omega))) (unhide HE2) (unhide HOW2) (unhide HE3) (unhide HDP) ?_;intro w7 hm7 hg7)
       have hlt9:=(unhide HL).lt lb rfl
       have hat8:some lb=some g6∨g6=(wc.alloc (.cells #[.int .i64 0,.int .i64 0,.int .i64 0,.int .i64 0] 29)).heap.size:=hat
       have ngl: ¬g9=lb:=by omega
       have ngg: ¬g9=g6:=by
        rcases hat8 with e|e
        ·simp only[Option.some.injEq] at e;omega
        ·simp at e;omega
       have q0:=cell_far2 hgrow hg7 (v:= .int .i64 v0) (j:=0) (g9:=g9) byCT ngl ngg
       have q1:=cell_far2 hgrow hg7 (v:= .int .i64 v1) (j:=1) (g9:=g9) byCT ngl ngg
       have q2:=cell_far2 hgrow hg7 (v:= .int .i64 v2) (j:=2) (g9:=g9) byCT ngl ngg
       have q3:=cell_far2 hgrow hg7 (v:= .int .i64 v3) (j:=3) (g9:=g9) byCT ngl ngg
       have hkl:k<(shM L6 k).length:=by rw[shM_len (unhide HE3)];exact unhide HE3
       obtain ⟨t0,t1,t2,t3⟩:=hm7.cells hkl
       have fz:=hm7.frozen
       have y0:=fz (k*4)
       have y1:=fz (k*4+1)
       have y2:=fz (k*4+2)
       have y3:=fz (k*4+3)
       have HM7:=hide hm7
       clear hm7 fz
       go_wp2
       go_roundw
       case rel=>exact ⟨i+1,by omega,by first|rfl|go_num,AmRel.next (unhide HL) (unhide HLe) hlb (unhide HKA) hB (unhide HBB) r0 r1 r2 r3 (by omega) (by omega) byGG hgrow hat8 (by rw[unhide HL6];exact unhide HM7) hg7 (unhide HAT) (unhide HLL) (unhide HCN2) (by rw[unhide HCN];exact hiT)⟩
       case measure=>simp [intOf];omega
      ·have hcc2: ¬c6=k:=by omega
       have HDP:Hid (k+1<L6.length→(some ⟨g6,(k+1)*4,none⟩:Option Addr)=some ⟨g6,(k+1)*4,none⟩):=hide (fun _=>rfl)
       go_region_law (refine step_copyM rfl (.tmp 60) (.tmp 63) rfl (w2.heap.size+1+1) g6 (i+1) c6 k L6 (some ⟨g6,(k+1)*4,none⟩) (i-k) (c6-(k+1)) (i+1-k) (c6-k) (by simp [Act.eval,Act.put]) (by simp [Act.eval,Act.put]) (unhide HE1) (unhide HE2) (unhide HOW2) (unhide HE3) (unhide HDP) ?_;intro w7 hm7 hg7)
       have hlt9:=(unhide HL).lt lb rfl
       have hat8:some lb=some g6∨g6=(wc.alloc (.cells #[.int .i64 0,.int .i64 0,.int .i64 0,.int .i64 0] 29)).heap.size:=hat
       have ngl: ¬g9=lb:=by omega
       have ngg: ¬g9=g6:=by
        rcases hat8 with e|e
        ·simp only[Option.some.injEq] at e;omega
        ·simp at e;omega
       have q0:=cell_far2 hgrow hg7 (v:= .int .i64 v0) (j:=0) (g9:=g9) byCT ngl ngg
       have q1:=cell_far2 hgrow hg7 (v:= .int .i64 v1) (j:=1) (g9:=g9) byCT ngl ngg
       have q2:=cell_far2 hgrow hg7 (v:= .int .i64 v2) (j:=2) (g9:=g9) byCT ngl ngg
       have q3:=cell_far2 hgrow hg7 (v:= .int .i64 v3) (j:=3) (g9:=g9) byCT ngl ngg
       have hkl:k<(shM L6 k).length:=by rw[shM_len (unhide HE3)];exact unhide HE3
       obtain ⟨t0,t1,t2,t3⟩:=hm7.cells hkl
       have fz:=hm7.frozen
       have y0:=fz (k*4)
       have y1:=fz (k*4+1)
       have y2:=fz (k*4+2)
       have y3:=fz (k*4+3)
       have HM7:=hide hm7
       clear hm7 fz
       go_wp2
       go_roundw
       case rel=>exact ⟨i+1,by omega,by first|rfl|go_num,AmRel.next (unhide HL) (unhide HLe) hlb (unhide HKA) hB (unhide HBB) r0 r1 r2 r3 (by omega) (by omega) byGG hgrow hat8 (by rw[unhide HL6];exact unhide HM7) hg7 (unhide HAT) (unhide HLL) (unhide HCN2) (by rw[unhide HCN];exact hiT)⟩
       case measure=>simp [intOf];omega
     ·have HLT:=hide hlt
      have HAT:Hid (atB (v0,v1,v2,v3) L i=atB (v0,v1,v2,v3) L kq):=hide (by rw[unhide hat9,unhide HK1,hlt];rfl)
      clear hlt hat9 HK1
      go_upto_region 12 with fail
      go_cut [50] (fun s50 wx=>s50= .bool true∧wx.cell? ⟨g9,0,none⟩=some (.int .i64 v0)∧wx.cell? ⟨g9,1,none⟩=some (.int .i64 v1)∧wx.cell? ⟨g9,2,none⟩=some (.int .i64 v2)∧wx.cell? ⟨g9,3,none⟩=some (.int .i64 v3)∧wx.cell? ⟨lb,kq*4,none⟩=some (.int .i64 e0)∧wx.cell? ⟨lb,kq*4+1,none⟩=some (.int .i64 e1)∧wx.cell? ⟨lb,kq*4+2,none⟩=some (.int .i64 e2)∧wx.cell? ⟨lb,kq*4+3,none⟩=some (.int .i64 e3)∧Below wm.heap.size wm wx)
      case first=>
       have h1:=trivial
       rename_i K2 h2 h3
       refine region_n (by kernel_rfl) (fun j=> #[40,41,42,43,44,45,46,47,48,49,50].getD j 0) (fun j=>Kd.ok ((fun j=>match j with|0=>Kd.val (.int .i64 ((k:Int)))|1=>Kd.val (.bool true)|2=>Kd.val (.bool true)|3=>Kd.val (.agg #[.int .i64 v0,.int .i64 v1,.int .i64 v2,.int .i64 v3])|4=>Kd.val (.slice (some ⟨lb,0,none⟩) i c9)|5=>Kd.val (.int .i64 ((k:Int)))|6=>Kd.val (.int .i64 ((kq:Int)))|7=>Kd.val (.pointer (some ⟨lb,kq*4,none⟩))|8=>Kd.val (.agg #[.int .i64 e0,.int .i64 e1,.int .i64 e2,.int .i64 e3])|9=>Kd.val (.bool true)|10=>Kd.val (.bool true)|_=>Kd.any:Nat→Kd) j)) (Sy wm (wm.heap.size) [(⟨g9,0,none⟩,.int .i64 v0),(⟨g9,1,none⟩,.int .i64 v1),(⟨g9,2,none⟩,.int .i64 v2),(⟨g9,3,none⟩,.int .i64 v3),(⟨lb,kq*4,none⟩,.int .i64 e0),(⟨lb,kq*4+1,none⟩,.int .i64 e1),(⟨lb,kq*4+2,none⟩,.int .i64 e2),(⟨lb,kq*4+3,none⟩,.int .i64 e3)] []) (fun j=> #[true,true,true,true,true,true,true,true,true,true,true].getD j true) (by kernel_rfl) ?_ ?_ ?_ ?_ ?_ ?_
       ·intro j hj
        have hj2:j<11:=hj
        have: ∀j,j<11→(#[40,41,42,43,44,45,46,47,48,49,50]:Array Nat).getD j 0<71:=by decide
        exact this j hj2
       ·intro i o ho
        match i,ho with
        |0,ho=>cases ho;intro aq wq hd;exact wanted_free rfl
        |1,ho=>cases ho;intro aq wq hd;exact wanted_free rfl
        |2,ho=>cases ho;intro aq wq hd;exact wanted_free rfl
        |3,ho=>cases ho;intro aq wq hd;exact wanted_of (j:=2) (t:=42) (want:=true) (b:=true) rfl rfl (hd 2 (by decide +kernel))
        |4,ho=>cases ho;intro aq wq hd;exact wanted_of (j:=2) (t:=42) (want:=true) (b:=true) rfl rfl (hd 2 (by decide +kernel))
        |5,ho=>cases ho;intro aq wq hd;exact wanted_of (j:=2) (t:=42) (want:=true) (b:=true) rfl rfl (hd 2 (by decide +kernel))
        |6,ho=>cases ho;intro aq wq hd;exact wanted_of (j:=2) (t:=42) (want:=true) (b:=true) rfl rfl (hd 2 (by decide +kernel))
        |7,ho=>cases ho;intro aq wq hd;exact wanted_of (j:=2) (t:=42) (want:=true) (b:=true) rfl rfl (hd 2 (by decide +kernel))
        |8,ho=>cases ho;intro aq wq hd;exact wanted_of (j:=2) (t:=42) (want:=true) (b:=true) rfl rfl (hd 2 (by decide +kernel))
        |9,ho=>cases ho;intro aq wq hd;exact wanted_of (j:=2) (t:=42) (want:=true) (b:=true) rfl rfl (hd 2 (by decide +kernel))
        |10,ho=>cases ho;intro aq wq hd;exact wanted_free rfl
        |i+11,ho=>exact absurd ho (by simp)
       ·intro i o ho hr
        match i,ho with
        |0,ho=>exact absurd hr (by decide)
        |1,ho=>exact absurd hr (by decide)
        |2,ho=>exact absurd hr (by decide)
        |3,ho=>exact absurd hr (by decide)
        |4,ho=>exact absurd hr (by decide)
        |5,ho=>exact absurd hr (by decide)
        |6,ho=>exact absurd hr (by decide)
        |7,ho=>exact absurd hr (by decide)
        |8,ho=>exact absurd hr (by decide)
        |9,ho=>exact absurd hr (by decide)
        |10,ho=>exact absurd hr (by decide)
        |i+11,ho=>exact absurd ho (by simp)
       ·refine Sy.drew (Sy.mk_of ?_ ?_ ?_ ?_)
        ·first|rfl|(simp;done)|(simp;omega)
        ·intro c hc
         simp only[List.mem_cons,List.not_mem_nil,or_false] at hc
         rcases hc with rfl|rfl|rfl|rfl|rfl|rfl|rfl|rfl<;>exact byCT
        ·intro p hp;cases hp
        ·(repeat' first|with_reducible (first|exact Below.refl _ _|assumption|refine gr_alloc ?_ _|refine below_drewN ?_ _|refine below_drew ?_|refine gr_call ?_ (by assumption)|refine Below.setCell ?_ ?_ _)|go_size|omega|(simp;omega))
       ·clear h1 h2 h3
        refine ⟨?r9x0,?r9x1,?r9x2,?r9x3,?r9x4,?r9x5,?r9x6,?r9x7,?r9x8,?r9x9,?r9x10,trivial⟩
        all_goals intro _ aq wx Kq hf hS hdep ev1 ev2 hK
        case' r9x0=>
         have F10:aq.eval (.tmp 10)= .int .i64 ((k:Int)):=hf 10
        case' r9x1=>
         have D0:aq.eval (.tmp 40)=_:=hdep 0
        case' r9x2=>
         have D1:aq.eval (.tmp 41)=_:=hdep 1
        case' r9x3=>
         have F9:aq.eval (.tmp 9)= .pointer (some ⟨g9,0,none⟩):=hf 9
         have c0:=hS.cells (⟨g9,0,none⟩,.int .i64 v0) (by simp)
         have c1:=hS.cells (⟨g9,1,none⟩,.int .i64 v1) (by simp)
         have c2:=hS.cells (⟨g9,2,none⟩,.int .i64 v2) (by simp)
         have c3:=hS.cells (⟨g9,3,none⟩,.int .i64 v3) (by simp)
        case' r9x4=>
         have F6:aq.eval (.tmp 6)= .slice (some ⟨lb,0,none⟩) i c9:=hf 6
        case' r9x5=>
         have F10:aq.eval (.tmp 10)= .int .i64 ((k:Int)):=hf 10
        case' r9x6=>
         have D5:aq.eval (.tmp 45)=_:=hdep 5
        case' r9x7=>
         have D4:aq.eval (.tmp 44)=_:=hdep 4
         have D6:aq.eval (.tmp 46)=_:=hdep 6
        case' r9x8=>
         have D7:aq.eval (.tmp 47)=_:=hdep 7
         have c0:=hS.cells (⟨lb,kq*4,none⟩,.int .i64 e0) (by simp)
         have c1:=hS.cells (⟨lb,kq*4+1,none⟩,.int .i64 e1) (by simp)
         have c2:=hS.cells (⟨lb,kq*4+2,none⟩,.int .i64 e2) (by simp)
         have c3:=hS.cells (⟨lb,kq*4+3,none⟩,.int .i64 e3) (by simp)
        case' r9x9=>
         have D3:aq.eval (.tmp 43)=_:=hdep 3
         have D8:aq.eval (.tmp 48)=_:=hdep 8
        case' r9x10=>
         have D2:aq.eval (.tmp 42)=_:=hdep 2
         have D9:aq.eval (.tmp 49)=_:=hdep 9
        all_goals (clear hf hdep;unfold Oper.wp;generalize Act.eval _=ev at *;go_simp)
        case' r9x7=>
         try rw[if_pos (by omega),Oper.upon_value]
        case r9x9=>
         refine ((less_e v0 v1 v2 v3 e0 e1 e2 e3 true _ (unhide HLT))).mono ?_
         rintro e w2 ⟨rfl,hb⟩
         refine hK _ _ (hS.call hb) ?_ (fun j u _ h=>Kd.ok_below hb h)
         rw[if_pos (by rfl)]
         show (_:Value)=_
         first|rfl|(refine congrArg (Value.int .i64) ?_;first|rfl|exact int_in (by omega)|exact quo_in (by omega) (by omega) (by omega)|exact rem_in (by omega) (by omega)|omega|exact unhide HKW|exact (IntWalk.i64_in _ (by omega)).trans (unhide HKW)|(simp [*];done)|(simp;omega))|(simp;done)|(simp [*];done)
        all_goals (refine hK _ _ hS ?_ (fun j u _ h=>h);rw [if_pos (by rfl)];show (_:Value)=_;(first|rfl|(refine congrArg (Value.int .i64) ?_;first|rfl|exact int_in (by omega)|exact quo_in (by omega) (by omega) (by omega)|exact rem_in (by omega) (by omega)|omega|exact unhide HKW|exact (IntWalk.i64_in _ (by omega)).trans (unhide HKW)|(simp [*];done)|(simp;omega))|(simp;done)|(simp [*];done)|(simp;omega)))
       ·intro aq wx hd hw hf hS hg
        have G50:tau aq 50= .bool true:=hg 10 (by decide)
        have haq:aq=⟨#[tau aq 0,tau aq 1,tau aq 2,tau aq 3,tau aq 4,tau aq 5,tau aq 6,tau aq 7,tau aq 8,tau aq 9,tau aq 10,tau aq 11,tau aq 12,tau aq 13,tau aq 14,tau aq 15,tau aq 16,tau aq 17,tau aq 18,tau aq 19,tau aq 20,tau aq 21,tau aq 22,tau aq 23,tau aq 24,tau aq 25,tau aq 26,tau aq 27,tau aq 28,tau aq 29,tau aq 30,tau aq 31,tau aq 32,tau aq 33,tau aq 34,tau aq 35,tau aq 36,tau aq 37,tau aq 38,tau aq 39,tau aq 40,tau aq 41,tau aq 42,tau aq 43,tau aq 44,tau aq 45,tau aq 46,tau aq 47,tau aq 48,tau aq 49,tau aq 50,tau aq 51,tau aq 52,tau aq 53,tau aq 54,tau aq 55,tau aq 56,tau aq 57,tau aq 58,tau aq 59,tau aq 60,tau aq 61,tau aq 62,tau aq 63,tau aq 64,tau aq 65,tau aq 66,tau aq 67,tau aq 68,tau aq 69,tau aq 70],[]⟩:=by
         obtain ⟨tq,dq⟩:=aq
         have h5:=arr_eq (show tq.size=71 from hw)
         have h6:dq= []:=hd
         subst h6
         exact congrArg (fun z=>Act.mk z []) h5
        show K2 aq wx
        rw[haq,hf 0,hf 1,hf 2,hf 3,hf 4,hf 5,hf 6,hf 7,hf 8,hf 9,hf 10,hf 11,hf 12,hf 13,hf 14,hf 15,hf 16,hf 17,hf 18,hf 19,hf 20,hf 21,hf 22,hf 23,hf 24,hf 25,hf 26,hf 27,hf 28,hf 29,hf 30,hf 31,hf 32,hf 33,hf 34,hf 35,hf 36,hf 37,hf 38,hf 39,hf 51,hf 52,hf 53,hf 54,hf 55,hf 56,hf 57,hf 58,hf 59,hf 60,hf 61,hf 62,hf 63,hf 64,hf 65,hf 66,hf 67,hf 68,hf 69,hf 70,G50]
        clear haq hf hd hw
        try dsimp only
        refine h3 _ _ ?_
        go_meet
        exact ⟨rfl,hS.cells (⟨g9,0,none⟩,.int .i64 v0) (by simp),hS.cells (⟨g9,1,none⟩,.int .i64 v1) (by simp),hS.cells (⟨g9,2,none⟩,.int .i64 v2) (by simp),hS.cells (⟨g9,3,none⟩,.int .i64 v3) (by simp),hS.cells (⟨lb,kq*4,none⟩,.int .i64 e0) (by simp),hS.cells (⟨lb,kq*4+1,none⟩,.int .i64 e1) (by simp),hS.cells (⟨lb,kq*4+2,none⟩,.int .i64 e2) (by simp),hS.cells (⟨lb,kq*4+3,none⟩,.int .i64 e3) (by simp),hS.below⟩
      try clear c00
      try clear c01
      try clear c02
      try clear c03
      try clear c10
      try clear c11
      try clear c12
      try clear c13
      obtain ⟨rfl,c00,c01,c02,c03,c10,c11,c12,c13,hb0⟩:=hcut
      have z0:=World.block_lt_of_cell? _ _ c00
      have z1:=World.block_lt_of_cell? _ _ c10
      change g9<wc.heap.size at z0
      change lb<wc.heap.size at z1
      have HKW2:=unhide HKW
      go_wp2
      go_roundw
      case rel=>exact ⟨kq,by omega,by first|rfl|go_num,HAT,byGG⟩
      case measure=>simp [intOf];omega
  ·obtain rfl:i=T.length:=by omega
   have HZ1:Hid (putB [] (C.take T.length)=putB [] C):=hide (by rw[List.take_of_length_le (by rw[unhide HCN];omega)])
   have HZ2:Hid ((putB [] C).length=T.length):=hide (by rw[putB_len,unhide HCN];simp)
   have hl2:Hid (ML wl w.heap.size (.slice (some ⟨lb,0,none⟩) (putB [] C).length c9) (putB [] C)):=hide (by
    rw[unhide HZ2,←unhide HZ1]
    exact hl.weak (by omega))
   have HBB:=hide hb
   clear hl hk hb
   go_wp2
   go_ret2
   exact ⟨_,_,by first|(rw [unhide HZ2];done)|(rw [unhide HZ2];rfl),unhide hl2,unhide HBB⟩
end Go.Proofs.YtobkcnmlmmhpoaaGreat
