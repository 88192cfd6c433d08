/- Plain: numbers read. Plain: the text of a row read back. Plain: a candidate and what ParseRow answers. The library's variables; Split, Atoi, FieldsFunc as the program calls them. -/
import Derived.Test.YtobkcnmlmmhpoaaGreatDoorPrp
import Derived.Test.YtobkcnmlmmhpoaaGreatDoorRtx
import Derived.Test.YtobkcnmlmmhpoaaGreatDoorStrL
import Derived.Test.YtobkcnmlmmhpoaaGreatDoorGreat
import Derived.Shelf.Abstract
set_option maxRecDepth 100000
set_option maxHeartbeats 80000000
namespace Go.Proofs.YtobkcnmlmmhpoaaGreatDoor
open Go.RowKit
set_option linter.unusedVariables false
set_option linter.unusedSimpArgs false

def iiOk (x:ByteArray):Bool:=match Lib.atoiAll x.data.toList with| .ok _=>true|_=>false
def iiV (x:ByteArray):Int:=match Lib.atoiAll x.data.toList with| .ok v=>v|_=>0
def iiL (s:ByteArray):List Int:=if (Lib.goFieldsP nmP s).all iiOk then (Lib.goFieldsP nmP s).map iiV else []
theorem iiL_len (s:ByteArray):(iiL s).length≤s.size+1:=by
 unfold iiL
 split
 ·rw [List.length_map];exact fields_len _ _
 ·simp
theorem ii_itoa {x:Int} (h:I64 x):iiOk (tx (Lib.itoa x))=true∧iiV (tx (Lib.itoa x))=x:=by
 unfold iiOk iiV
 rw[tx_list,atoi_itoa h]
 exact ⟨rfl,rfl⟩
theorem atoi_b {l:List UInt8} {v:Int} (h:Lib.atoiAll l= .ok v):I64 v:=by
 unfold Lib.atoiAll at h
 split at h
 ·cases h
 ·simp only at h
  split at h
  ·cases h
  ·cases h
  ·split at h
   ·cases h
   ·split at h
    ·cases h
    ·injection h with h
     rw[←h]
     constructor<;>split<;>omega
theorem iiV_b (x:ByteArray):I64 (iiV x):=by
 unfold iiV
 split
 ·rename_i v h;exact atoi_b h
 ·exact ⟨Vn,Vn⟩
theorem iiL_b (s:ByteArray): ∀x ∈ iiL s,I64 x:=by
 intro x hx
 unfold iiL at hx
 split at hx
 ·obtain ⟨y,_,rfl⟩:=List.mem_map.1 hx;exact iiV_b y
 ·cases hx
theorem ii_jn (c:UInt8) (hc:c.toNat<128) (hp:nmP c.toNat=true) (xs:List Int) (hn:xs≠ []) (h: ∀x ∈ xs,I64 x):iiL (tx (jn c (xs.map Lib.itoa)))=xs:=by
 have hf:=fields_jn c hc hp (xs.map Lib.itoa) (by simpa using hn) (by
  intro w hw
  obtain ⟨x,_,rfl⟩:=List.mem_map.1 hw
  exact ⟨itoa_ne x,itoa_all x⟩)
 unfold iiL
 rw[hf,List.map_map,List.map_map,List.all_map]
 have e1:(xs.all ((iiOk ∘ tx) ∘ Lib.itoa))=true:=List.all_eq_true.2 fun x hx=>(ii_itoa (h x hx)).1
 have e2:(xs.map ((iiV ∘ tx) ∘ Lib.itoa))=xs:=by
  have: ∀x ∈ xs,((iiV ∘ tx) ∘ Lib.itoa) x=x:=fun x hx=>(ii_itoa (h x hx)).2
  rw[List.map_congr_left this,List.map_id']
 first
  |(rw [if_pos (by simpa [Function.comp_def] using e1)];simpa [Function.comp_def] using e2)
  |simp_all [Function.comp_def]
end Go.Proofs.YtobkcnmlmmhpoaaGreatDoor
namespace Go.Proofs.YtobkcnmlmmhpoaaGreatDoor
open Go.RowKit
set_option linter.unusedVariables false
set_option linter.unusedSimpArgs false

def zlD (n:Nat) (z:Nat→Int):List Int:=(List.range n).map z
theorem zlD_len (n:Nat) (z:Nat→Int):(zlD n z).length=n:=by simp [zlD]
theorem zlD_at {n:Nat} {z:Nat→Int} {i:Nat} (h:i<n):(zlD n z).getD i 0=z i:=by
 unfold zlD
 rw[List.getD_eq_getElem?_getD,List.getElem?_map,List.getElem?_eq_getElem W6];simp
theorem zlD_succ (n:Nat) (z:Nat→Int):zlD (n+1) z=zlD n z++ [z n]:=by unfold zlD;rw [List.range_succ,List.map_append];rfl
theorem zlD_ne {n:Nat} (z:Nat→Int) (h:1≤n):zlD n z≠ []:=fun e=>by have:=congrArg List.length e;rw [zlD_len] at this;simp at this;omega
theorem itL_map (z:Nat→Int): ∀n,(itL z n).map (·.data.toList)=(zlD n z).map Lib.itoa
 |0=>rfl
 |n+1=>by rw[itL,List.map_append,itL_map z n,zlD_succ,List.map_append];simp [tx_list]
theorem fc_jn (z:Nat→Int) {n:Nat} (h:1≤n):fcS z n=jn 44 ((zlD n z).map Lib.itoa):=by
 rw[←join_it z n h,jn_join,itL_map]
theorem jn_mem (c:UInt8): ∀(ws:List (List UInt8)) (x:UInt8),x ∈ jn c ws→x=c∨ ∃w ∈ ws,x ∈ w
 | [],x,h=>by cases h
 | [w],x,h=> .inr ⟨w,Vs,h⟩
 |w :: y :: r,x,h=>by
  rw[jn] at h
  rcases List.mem_append.1 h with h|h
  ·exact .inr ⟨w,Vs,h⟩
  ·rcases List.mem_cons.1 h with h|h
   ·exact .inl h
   ·rcases jn_mem c (y :: r) x h with h|⟨w2,h1,h2⟩
    ·exact .inl h
    ·exact .inr ⟨w2,by simp only[List.mem_cons] at h1 ⊢;exact .inr h1,h2⟩
theorem nm_ne {c:UInt8} (h:NmC c):c≠32∧c≠44:=by
 unfold NmC DgC at h
 constructor<;>(rintro rfl;revert h;decide)
theorem it_no (x:Int):(32:UInt8) ∉ Lib.itoa x∧(44:UInt8) ∉ Lib.itoa x:=⟨fun h=>(nm_ne (itoa_all x _ h)).1 rfl,fun h=>(nm_ne (itoa_all x _ h)).2 rfl⟩
theorem fcS_no (z:Nat→Int) (n:Nat):(32:UInt8) ∉ fcS z n:=by
 by_cases h:1≤n
 ·rw [fc_jn z h]
  intro hx
  rcases jn_mem _ _ _ hx with h|⟨w,hw,h⟩
  ·exact absurd h VA
  ·obtain ⟨x,_,rfl⟩:=List.mem_map.1 hw
   exact (it_no x).1 h
 ·obtain rfl:n=0:=by omega
  simp [fcS]
def rwW (r:RowV) (n:Nat) (z:Nat→Int):List (List UInt8):= [Lib.itoa r.d,Lib.itoa r.num,fcS z n,Lib.itoa r.ge,Lib.itoa r.ex]
theorem rwT_jn (r:RowV) (n:Nat) (z:Nat→Int):rwT r n z=jn 32 (rwW r n z):=by simp [rwT,rwW,jn]
theorem rwW_no (r:RowV) (n:Nat) (z:Nat→Int): ∀w ∈ rwW r n z,(32:UInt8) ∉ w:=by
 intro w hw
 simp only[rwW,List.mem_cons,List.not_mem_nil,or_false] at hw
 rcases hw with rfl|rfl|rfl|rfl|rfl
 ·exact (it_no _).1
 ·exact (it_no _).1
 ·exact fcS_no _ _
 ·exact (it_no _).1
 ·exact (it_no _).1
def spW (s:ByteArray):List ByteArray:=Lib.splitB (tx [32]) 0 (Lib.countB s (tx [32])) s
theorem spW_row (r:RowV) (n:Nat) (z:Nat→Int):spW (tx (rwT r n z))=(rwW r n z).map tx:=by
 have h:=(split_jn 32 (rwW r n z) (by simp [rwW]) (rwW_no r n z)).2
 have e:(spW (tx (rwT r n z))).map (·.data.toList)=rwW r n z:=by
  unfold spW
  rw[Lib.splitB_data]
  unfold Lib.countB
  rw[tx_list,tx_list,rwT_jn,h]
 rw[←e,List.map_map]
 have: ∀x ∈ spW (tx (rwT r n z)),(tx ∘ fun x=>x.data.toList) x=x:=fun x _=>tx_of x
 rw[List.map_congr_left this,List.map_id']
theorem spl_row (r:RowV) (n:Nat) (z:Nat→Int):spl 32 [] (rwT r n z)=rwW r n z:=by
 rw[rwT_jn];exact spl_jn 32 _ (by simp [rwW]) (rwW_no r n z)
theorem nmP_32:nmP (32:UInt8).toNat=true:=by decide
theorem nmP_44:nmP (44:UInt8).toNat=true:=by decide
theorem fc_ne {z:Nat→Int} {n:Nat} (h:1≤n) (h0:0≤z 0):fcS z n≠ [45]:=by
 rw[fc_jn z h]
 obtain ⟨m,rfl⟩: ∃m,n=m+1:=⟨n-1,Vn⟩
 have e: ∃r,zlD (m+1) z=z 0 :: r:=by
  unfold zlD;rw [List.range_succ_eq_map];exact ⟨_,rfl⟩
 obtain ⟨r,hr⟩:=e
 rw[hr,List.map_cons,itoa_pos h0]
 obtain ⟨c,t,hc⟩: ∃c t,Lib.decDigits (z 0).toNat=c :: t:=by
  cases hd:Lib.decDigits (z 0).toNat with
  |nil=>exact absurd hd (dec_ne _)
  |cons c r=>exact ⟨c,r,rfl⟩
 have hg:=dec_all (z 0).toNat c (by rw[hc];simp)
 have hne:c≠45:=fun e=>by subst e;unfold DgC at hg;have e:(45:UInt8).toNat=45:=rfl;omega
 rw[hc]
 cases hw:r.map Lib.itoa with
 |nil=>rw[jn];intro e;injection e with e1 e2;exact hne e1
 |cons y r=>rw[jn,List.cons_append];intro e;injection e with e1 e2;exact hne e1
theorem rw_b {r:RowV} {n:Nat} {z:Nat→Int} (h:rwB r n z=true):(-2000≤r.d∧r.d≤ -3)∧(0≤r.num∧r.num≤1000)∧(0≤r.ge∧r.ge≤1000)∧(0≤r.ex∧r.ex≤1000)∧ ∀i,i<n→0≤z i∧z i≤1000:=by
 unfold rwB at h
 simp only[Bool.and_eq_true,decide_eq_true_eq] at h
 obtain ⟨h1,h2,h3,h4,h5⟩:=h
 have a:=neg_true h2
 have b:=ch_val h1
 have c:=inB_true h4
 have d:=inB_true h5
 have e:=ch_each h1
 exact ⟨a,Vn,Vn,Vn,fun i hi=>by have:=e i hi;omega⟩
theorem i64s {x:Int} (h0: -2000≤x) (h1:x≤1000):I64 x:=⟨Vn,Vn⟩
theorem ii_ends {r:RowV} {n:Nat} {z:Nat→Int} (h:rwB r n z=true):iiL (tx (Lib.itoa r.d++ [32]++Lib.itoa r.num++ [32]++Lib.itoa r.ge++ [32]++Lib.itoa r.ex))= [r.d,r.num,r.ge,r.ex]:=by
 obtain ⟨a,b,c,d,_⟩:=rw_b h
 have e:Lib.itoa r.d++ [32]++Lib.itoa r.num++ [32]++Lib.itoa r.ge++ [32]++Lib.itoa r.ex=jn 32 ([r.d,r.num,r.ge,r.ex].map Lib.itoa):=by simp [jn]
 rw[e]
 refine ii_jn 32 VA nmP_32 _ Vs ?_
 intro x hx
 simp only[List.mem_cons,List.not_mem_nil,or_false] at hx
 rcases hx with rfl|rfl|rfl|rfl
 ·exact i64s a.1 Vn
 ·exact i64s Vn b.2
 ·exact i64s Vn c.2
 ·exact i64s Vn d.2
theorem zl_b {n:Nat} {z:Nat→Int} (h: ∀i,i<n→0≤z i∧z i≤1000): ∀x ∈ zlD n z,0≤x∧x≤1000:=by
 intro x hx
 obtain ⟨i,hi,rfl⟩:=List.mem_map.1 hx
 exact h i (List.mem_range.1 hi)
theorem ii_fc {r:RowV} {n:Nat} {z:Nat→Int} (h:rwB r n z=true) (hn:1≤n):iiL (tx (fcS z n))=zlD n z:=by
 obtain ⟨_,_,_,_,e⟩:=rw_b h
 rw[fc_jn z hn]
 exact ii_jn 44 VA nmP_44 _ (zlD_ne z hn) fun x hx=>by have:=zl_b e x hx;exact i64s Vn this.2
def prIx (s:ByteArray):RowV × List Int:=
 (⟨(iiL (((spW s).getD 0 ⟨#[]⟩)++tx [32]++((spW s).getD 1 ⟨#[]⟩)++tx [32]++((spW s).getD 3 ⟨#[]⟩)++tx [32]++((spW s).getD 4 ⟨#[]⟩))).getD 0 0,
  (iiL (((spW s).getD 0 ⟨#[]⟩)++tx [32]++((spW s).getD 1 ⟨#[]⟩)++tx [32]++((spW s).getD 3 ⟨#[]⟩)++tx [32]++((spW s).getD 4 ⟨#[]⟩))).getD 1 0,
  (iiL (((spW s).getD 0 ⟨#[]⟩)++tx [32]++((spW s).getD 1 ⟨#[]⟩)++tx [32]++((spW s).getD 3 ⟨#[]⟩)++tx [32]++((spW s).getD 4 ⟨#[]⟩))).getD 2 0,
  (iiL (((spW s).getD 0 ⟨#[]⟩)++tx [32]++((spW s).getD 1 ⟨#[]⟩)++tx [32]++((spW s).getD 3 ⟨#[]⟩)++tx [32]++((spW s).getD 4 ⟨#[]⟩))).getD 3 0⟩,
  if (spW s).getD 2 ⟨#[]⟩=tx [45] then [] else iiL ((spW s).getD 2 ⟨#[]⟩))
def PrIs (s:ByteArray) (r:RowV) (n:Nat) (z:Nat→Int) (ok:Bool):Prop:=
 if ok then rwB r n z=true∧tx (rwT r n z)=s else r=⟨0,0,0,0⟩∧n=0∧ ∀(r':RowV) (n':Nat) (z':Nat→Int),rwB r' n' z'=true→tx (rwT r' n' z')≠s
theorem rwT_inj {r r':RowV} {n n':Nat} {z z':Nat→Int} (h:rwB r n z=true) (h':rwB r' n' z'=true) (e:tx (rwT r n z)=tx (rwT r' n' z')):r=r'∧n=n'∧ ∀i,i<n→z i=z' i:=by
 have e1:rwT r n z=rwT r' n' z':=by rw[←tx_list (rwT r n z),e,tx_list]
 have e2:rwW r n z=rwW r' n' z':=by rw[←spl_row,←spl_row,e1]
 unfold rwW at e2
 injection e2 with a0 e2
 injection e2 with a1 e2
 injection e2 with a2 e2
 injection e2 with a3 e2
 injection e2 with a4 e2
 have b:=rw_b h
 have b':=rw_b h'
 have it: ∀{x y:Int},-2000≤x→x≤1000→ -2000≤y→y≤1000→Lib.itoa x=Lib.itoa y→x=y:=fun h0 h1 h2 h3 e=>by
  have p:=atoi_itoa (i64s h0 h1)
  rw[e,atoi_itoa (i64s h2 h3)] at p
  injection p with p
  exact p.symm
 have c0:=it Vn Vn Vn Vn a0
 have c1:=it Vn Vn Vn Vn a1
 have c3:=it Vn Vn Vn Vn a3
 have c4:=it Vn Vn Vn Vn a4
 have hz:zlD n z=zlD n' z':=by
  by_cases q:1≤n
  ·by_cases q':1≤n'
   ·rw [←ii_fc h q,←ii_fc h' q',a2]
   ·obtain rfl:n'=0:=by omega
    exact absurd a2 (fc_ne q (b.2.2.2.2 0 Vn).1)
  ·obtain rfl:n=0:=by omega
   by_cases q':1≤n'
   ·exact absurd a2.symm (fc_ne q' (b'.2.2.2.2 0 Vn).1)
   ·obtain rfl:n'=0:=by omega
    rfl
 have hn:n=n':=by have:=congrArg List.length hz;rw [zlD_len,zlD_len] at this;exact this
 subst hn
 refine ⟨?_,rfl,fun i hi=> ?_⟩
 ·obtain ⟨d,num,ge,ex⟩:=r
  obtain ⟨d',num',ge',ex'⟩:=r'
  simp only at c0 c1 c3 c4
  subst c0;subst c1;subst c3;subst c4
  rfl
 ·have h1:=zlD_at (z:=z) hi
  have h2:=zlD_at (z:=z') hi
  rw[hz] at h1
  exact h1.symm.trans h2
theorem PrIs.same {s:ByteArray} {r r':RowV} {n n':Nat} {z z':Nat→Int} {ok ok':Bool} (h:PrIs s r n z ok) (h':PrIs s r' n' z' ok'):r=r'∧n=n'∧ok=ok'∧ ∀i,i<n→z i=z' i:=by
 cases ok<;>cases ok'<;>simp only[PrIs,Bool.false_eq_true,if_true,if_false] at h h'
 ·exact ⟨h.1.trans h'.1.symm,h.2.1.trans h'.2.1.symm,rfl,fun i hi=>by omega⟩
 ·exact absurd h'.2 (h.2.2 _ _ _ h'.1)
 ·exact absurd h.2 (h'.2.2 _ _ _ h.1)
 ·obtain ⟨a,b,c⟩:=rwT_inj h.1 h'.1 (h.2.trans h'.2.symm)
  exact ⟨a,b,rfl,c⟩
theorem prI_row {r:RowV} {n:Nat} {z:Nat→Int} (h:rwB r n z=true):(spW (tx (rwT r n z))).length=5∧(iiL (((spW (tx (rwT r n z))).getD 0 ⟨#[]⟩)++tx [32]++((spW (tx (rwT r n z))).getD 1 ⟨#[]⟩)++tx [32]++((spW (tx (rwT r n z))).getD 3 ⟨#[]⟩)++tx [32]++((spW (tx (rwT r n z))).getD 4 ⟨#[]⟩))).length=4∧prIx (tx (rwT r n z))=(r,zlD n z):=by
 have e:((tx (Lib.itoa r.d))++tx [32]++(tx (Lib.itoa r.num))++tx [32]++(tx (Lib.itoa r.ge))++tx [32]++(tx (Lib.itoa r.ex)))=tx (Lib.itoa r.d++ [32]++Lib.itoa r.num++ [32]++Lib.itoa r.ge++ [32]++Lib.itoa r.ex):=by simp only[tx_app]
 have g0:(spW (tx (rwT r n z))).getD 0 ⟨#[]⟩=tx (Lib.itoa r.d):=by rw[spW_row];rfl
 have g1:(spW (tx (rwT r n z))).getD 1 ⟨#[]⟩=tx (Lib.itoa r.num):=by rw[spW_row];rfl
 have g2:(spW (tx (rwT r n z))).getD 2 ⟨#[]⟩=tx (fcS z n):=by rw[spW_row];rfl
 have g3:(spW (tx (rwT r n z))).getD 3 ⟨#[]⟩=tx (Lib.itoa r.ge):=by rw[spW_row];rfl
 have g4:(spW (tx (rwT r n z))).getD 4 ⟨#[]⟩=tx (Lib.itoa r.ex):=by rw[spW_row];rfl
 refine ⟨by rw[spW_row];rfl,?_,?_⟩
 ·rw [g0,g1,g3,g4,e,ii_ends h];rfl
 ·unfold prIx
  rw[g0,g1,g2,g3,g4,e,ii_ends h]
  by_cases q:1≤n
  ·have hne:tx (fcS z n)≠tx [45]:=fun e=>fc_ne q ((rw_b h).2.2.2.2 0 Vn).1 (by rw[←tx_list (fcS z n),e,tx_list])
   rw[if_neg hne,ii_fc h q]
   rfl
  ·obtain rfl:n=0:=by omega
   have e0:fcS z 0= [45]:=rfl
   rw[e0,if_pos rfl]
   rfl
end Go.Proofs.YtobkcnmlmmhpoaaGreatDoor
namespace Go.Proofs.YtobkcnmlmmhpoaaGreatDoor
open Go.RowKit
set_option linter.unusedVariables false
set_option linter.unusedSimpArgs false

theorem chS_congr {z z':Nat→Int} : ∀{n:Nat},(∀i,i<n→z i=z' i)→chS z n=chS z' n
 |0,_=>rfl
 |n+1,h=>by
  have ih:=chS_congr (n:=n) (fun i hi=>h i Vn)
  have hn:=h n Vn
  have hm:0<n→z (n-1)=z' (n-1):=fun hp=>h (n-1) Vn
  rw[chS,chS,ih,hn]
  cases chS z' n with
  |none=>rfl
  |some p=>
   simp only
   by_cases q:0<n
   ·rw [hm q]
   ·simp [q]
theorem fcS_congr {z z':Nat→Int} : ∀{n:Nat},(∀i,i<n→z i=z' i)→fcS z n=fcS z' n
 |0,_=>rfl
 |1,h=>by rw[fcS,fcS,h 0 Vn]
 |n+2,h=>by rw[fcS,fcS,fcS_congr (n:=n+1) (fun i hi=>h i Vn),h (n+1) Vn]
theorem rwB_congr {r:RowV} {n:Nat} {z z':Nat→Int} (h: ∀i,i<n→z i=z' i):rwB r n z=rwB r n z':=by
 unfold rwB chB cprV;rw [chS_congr h]
theorem rwT_congr {r:RowV} {n:Nat} {z z':Nat→Int} (h: ∀i,i<n→z i=z' i):rwT r n z=rwT r n z':=by
 unfold rwT;rw [fcS_congr h]
theorem PrIs.yes {s:ByteArray} {r R:RowV} {n:Nat} {z:Nat→Int} {ok:Bool} {F:List Int} (hP:PrIs s r n z ok) (h1:rwB R F.length (fun i=>F.getD i 0)=true) (h2:tx (rwT R F.length (fun i=>F.getD i 0))=s):
  R=r∧F.length=n∧ok=true∧ ∀i,i<n→F.getD i 0=z i:=by
 have hQ:PrIs s R F.length (fun i=>F.getD i 0) true:=by unfold PrIs;rw [if_pos rfl];exact ⟨h1,h2⟩
 obtain ⟨a,b,c,d⟩:=hQ.same hP
 exact ⟨a,b,c.symm,fun i hi=>d i Vn⟩
theorem PrIs.no {s:ByteArray} {r:RowV} {n:Nat} {z:Nat→Int} {ok:Bool} (hP:PrIs s r n z ok) (h: ∀(r':RowV) (n':Nat) (z':Nat→Int),rwB r' n' z'=true→tx (rwT r' n' z')=s→False):r=⟨0,0,0,0⟩∧n=0∧ok=false:=by
 cases ok<;>simp only[PrIs,Bool.false_eq_true,if_true,if_false] at hP
 ·exact ⟨hP.1,hP.2.1,rfl⟩
 ·exact (h _ _ _ hP.1 hP.2).elim
theorem cand_no {s:ByteArray} {R:RowV} {F:List Int} (hc: ∀(r':RowV) (n':Nat) (z':Nat→Int),rwB r' n' z'=true→tx (rwT r' n' z')=s→R=r'∧F=zlD n' z') (hno: ¬(rwB R F.length (fun i=>F.getD i 0)=true∧tx (rwT R F.length (fun i=>F.getD i 0))=s)):
  ∀(r':RowV) (n':Nat) (z':Nat→Int),rwB r' n' z'=true→tx (rwT r' n' z')=s→False:=by
 intro r' n' z' h1 h2
 obtain ⟨rfl,rfl⟩:=hc _ _ _ h1 h2
 apply hno
 rw[zlD_len,rwB_congr (z':=z') (fun i hi=>zlD_at hi),rwT_congr (z':=z') (fun i hi=>zlD_at hi)]
 exact ⟨h1,h2⟩
theorem split_sz (sep:ByteArray): ∀(k:Nat) (s:ByteArray),∀x ∈ Lib.splitB sep 0 k s,x.size≤s.size
 |0,s,x,h=>by simp [Lib.splitB] at h;subst h;exact Nat.le_refl _
 |k+1,s,x,h=>by
  unfold Lib.splitB at h
  split at h
  ·simp at h;subst h;exact Nat.le_refl _
  ·rcases List.mem_cons.1 h with h|h
   ·subst h;rw [ByteArray.size_extract];omega
   ·have:=split_sz sep k _ x h
    rw[ByteArray.size_extract] at this
    omega
theorem spW_sz (s:ByteArray): ∀x ∈ spW s,x.size≤s.size:=split_sz _ _ _
end Go.Proofs.YtobkcnmlmmhpoaaGreatDoor
namespace Go.Proofs.YtobkcnmlmmhpoaaGreatDoor
open Go.RowKit
set_option linter.unusedVariables false
set_option linter.unusedSimpArgs false
attribute [local go_sem] q2 q3 q4 q5 q6 q7 q8 q9 q10 q11 q12

def IfV (ev:Value):Prop:=ev= .nilIface∨ ∃te pe,ev= .iface te pe
structure Env (w:World):Prop where
 tab:Tab w
 max: ∃m,w.cell? ⟨0,0,none⟩=some (.int .i64 m)
 syn: ∃ev,w.cell? ⟨1,0,none⟩=some ev∧IfV ev
 rng: ∃ev,w.cell? ⟨2,0,none⟩=some ev∧IfV ev
theorem Env.below {w w':World} (h:Env w) (hb:Below w.heap.size w w'):Env w':=
 ⟨h.tab.below hb,let ⟨m,hm⟩:=h.max;⟨m,cell_call hb hm⟩,let ⟨m,hm,h2⟩:=h.syn;⟨m,cell_call hb hm,h2⟩,let ⟨m,hm,h2⟩:=h.rng;⟨m,cell_call hb hm,h2⟩⟩
theorem sl_lit (w:World) (zs:List ByteArray) (h:zs.length≤maxLen):SL (w.alloc (.cells (zs.map Value.string).toArray 9)) w.heap.size (.slice (some ⟨w.heap.size,0,none⟩) zs.length zs.length) zs:=by
 have:=World.ownsRow_lit (base:=w.heap.size) (e:=9) (size:=1) w (zs.map Value.string).toArray zs.length (Nat.le_refl _) h Vs
 simpa [SL] using this
theorem split_a (s:ByteArray) (hs:s.size≤9000000) (w:World) (hE:Env w):
  Calls Tryz.prog 39 #[.string s,.string (tx [32])] w fun e w'=>e= .returned (.slice (some ⟨w.heap.size,0,none⟩) (spW s).length (spW s).length)∧SL w' w.heap.size (.slice (some ⟨w.heap.size,0,none⟩) (spW s).length (spW s).length) (spW s)∧Below w.heap.size w w':=by
 obtain ⟨m,hm⟩:=hE.max
 have h1:1≤(tx [32]).size:=by rw[tx_size];decide
 have hl:(spW s).length=Lib.countB s (tx [32])+1:=Lib.splitB_all (tx [32]) h1 0 _ s rfl
 have hc:=Lib.countB_le (tx [32]) h1 s.size s (Nat.le_refl _)
 refine (Any.strings_Split Tryz.lays146 Vw s (tx [32]) m w Vn hm h1).mono ?_
 rintro e w' ⟨rfl,rfl⟩
 rw[hl]
 refine ⟨rfl,?_,below_alloc_self _ _⟩
 rw[←hl]
 exact sl_lit w (spW s) (by rw[hl];unfold maxLen;omega)
theorem atoi_ok (s:ByteArray) (hs:s.size≤9000000) (w:World) (h:iiOk s=true):
  Calls Tryz.prog 66 #[.string s] w fun e w'=>e= .returned (.tuple #[.int .i64 (iiV s),.nilIface])∧Below w.heap.size w w':=by
 unfold iiOk at h
 unfold iiV
 cases ha:Lib.atoiAll s.data.toList
 ·rename_i v
  refine (Any.strconv_Atoi_ok Tryz.laysC172 s Vn v ha w).mono ?_
  rintro e w' ⟨rfl,hw⟩
  refine ⟨rfl,?_⟩
  rcases hw with rfl|⟨t,rfl⟩
  ·exact Below.refl _ _
  ·exact Lib.bytesWorld_below _ _ _
 ·rw [ha] at h;cases h
 ·rw [ha] at h;cases h
theorem atoi_no (s:ByteArray) (hs:s.size≤9000000) (w:World) (hE:Env w) (h:iiOk s=false):
  Calls Tryz.prog 66 #[.string s] w fun e w'=> ∃(x:Int) (T N:Nat),e= .returned (.tuple #[.int .i64 x,.iface T (.pointer (some ⟨N,0,none⟩))])∧Below w.heap.size w w':=by
 unfold iiOk at h
 obtain ⟨ev,hv,he⟩:=hE.syn
 obtain ⟨ev2,hv2,he2⟩:=hE.rng
 cases ha:Lib.atoiAll s.data.toList
 ·rw [ha] at h;cases h
 ·refine (Any.strconv_Atoi_syntax Tryz.laysC172 s Vn ha ev w hv he).mono ?_
  rintro e w' ⟨N,rfl,_,_,hb⟩
  exact ⟨_,_,N,rfl,hb⟩
 ·refine (Any.strconv_Atoi_range Tryz.laysC172 s Vn ha ev2 w hv2 he2).mono ?_
  rintro e w' ⟨N,rfl,_,_,hb⟩
  exact ⟨_,_,N,rfl,hb⟩
theorem clo_a (x:Nat) (w:World) (h:x≤1114111):Calls Tryz.prog 65 #[.int .i32 (x:Int)] w fun e w'=>e= .returned (.bool (nmP x))∧w=w':=by
 by_cases q:x=45
 ·subst q
  go_enter Tryz.func65,Tryz.ntmps65
  go_wp2
  go_ret
  exact ⟨rfl,rfl⟩
 ·have q1: ¬(x:Int)=45:=by omega
  have q2:((x:Int) != 45)=true:=by simpa using q1
  by_cases q3:x<48
  ·have q4:(x:Int)<48:=by omega
   have hv:Hid (nmP x=true):=hide (by simp [nmP,q,q3])
   go_enter Tryz.func65,Tryz.ntmps65
   go_wp2
   go_ret
   exact ⟨ret_bool (by rw[unhide hv]),rfl⟩
  ·have q4: ¬(x:Int)<48:=by omega
   by_cases q5:57<x
   ·have q6:(57:Int)<(x:Int):=by omega
    have hv:Hid (nmP x=true):=hide (by simp [nmP,q,q3,q5])
    go_enter Tryz.func65,Tryz.ntmps65
    go_wp2
    go_ret
    exact ⟨ret_bool (by rw[unhide hv]),rfl⟩
   ·have q6: ¬(57:Int)<(x:Int):=by omega
    have hv:Hid (nmP x=false):=hide (by simp [nmP,q,q3,q5])
    go_enter Tryz.func65,Tryz.ntmps65
    go_wp2
    go_ret
    exact ⟨ret_bool (by rw[unhide hv]),rfl⟩
theorem fields_a (s:ByteArray) (hs:s.size≤9000000) (w:World):
  Calls Tryz.prog 64 #[.string s,.func (.func 65) #[] #[]] w fun e w'=> ∃A,e= .returned (.slice (some ⟨A,0,none⟩) (Lib.goFieldsP nmP s).length (Lib.goFieldsP nmP s).length)∧SL w' w.heap.size (.slice (some ⟨A,0,none⟩) (Lib.goFieldsP nmP s).length (Lib.goFieldsP nmP s).length) (Lib.goFieldsP nmP s)∧Below w.heap.size w w':=by
 refine (Any.strings_FieldsFunc_runes Tryz.lays229 65 #[] (enters_of Tryz.func65 Vw rfl) nmP s w Vn ?_ Vw Vw).mono ?_
 ·intro W x hx hb
  show Calls Tryz.prog 65 #[.int .i32 (x:Int)] W _
  refine (clo_a x W hx).mono ?_
  rintro e w' ⟨rfl,rfl⟩
  exact ⟨rfl,0,rfl⟩
 ·rintro e w' ⟨A,rfl,hA,hown,hb⟩
  exact ⟨A,rfl,hown,hb⟩
def srcStr (LO HI:Nat) (a:Option Addr) (n:Nat) (f:Nat→ByteArray) (W:World):Prop:=StrsAt W LO HI a n f
theorem strs_kept {LO HI n:Nat} {a:Option Addr} {f:Nat→ByteArray} :Kept LO HI (srcStr LO HI a n f):=fun w w' hk h=>StrsAt.keep h hk
theorem StrsAt.cell {w:World} {lo hi n:Nat} {a:Option Addr} {f:Nat→ByteArray} (h:StrsAt w lo hi a n f) {k:Nat} (hk:k<n): ∃g,a=some ⟨g,0,none⟩∧g<w.heap.size∧w.cell? ⟨g,k,none⟩=some (.string (f k)):=by
 rcases h with rfl|⟨g,cap,F,rfl,h1,h2,h3,h4,h5⟩
 ·omega
 ·exact ⟨g,rfl,h4.lt,by rw[h4.cell Vn,h5 k hk]⟩
theorem fields_sz (s:ByteArray): ∀x ∈ Lib.goFieldsP nmP s,x.size≤s.size:=by
 intro x hx
 unfold Lib.goFieldsP at hx
 obtain ⟨y,_,rfl⟩:=List.mem_map.1 hx
 rw[ByteArray.size_extract]
 omega
end Go.Proofs.YtobkcnmlmmhpoaaGreatDoor
