/- A table of indices in memory. Where a form stands: grIndex. The table of a class group: grTable. -/
import Derived.Test.YtobkcnmlmmhpoaaGreatDoorFaw
import Derived.Test.YtobkcnmlmmhpoaaGreatDoorOwn
import Derived.Test.YtobkcnmlmmhpoaaGreatDoorIvp
import Derived.OwnWalk
import Derived.Deep.RegionWith
set_option maxRecDepth 100000
set_option maxHeartbeats 80000000
namespace Go.Proofs.YtobkcnmlmmhpoaaGreatDoor
open Go.RowKit
set_option linter.unusedVariables false
set_option linter.unusedSimpArgs false
attribute [local go_sem] q2 q3 q4 q5 q6 q7 q8 q9 q10 q11 q12

def trwL (T:Nat→Nat→Nat) (n i:Nat):List Int:=(List.range n).map fun j=>((T i j:Nat):Int)
theorem trwL_len (T:Nat→Nat→Nat) (n i:Nat):(trwL T n i).length=n:=by simp [trwL]
theorem trwL_at (T:Nat→Nat→Nat) {n i j:Nat} (h:j<n):(trwL T n i).getD j 0=((T i j:Nat):Int):=by simp [trwL,List.getD_eq_getElem?_getD,List.getElem?_map,List.getElem?_range,h]
structure TX (w:World) (HI:Nat) (S:World→Prop) (wr:World) (g n i:Nat) (T:Nat→Nat→Nat) (gs:Nat→Nat) (vs:List Value):Prop where
 out:wr.ownsRow w.heap.size 29 1 (.slice (some ⟨g,0,none⟩) n n) n vs
 ptr: ∀i',i'<i→vs.getD i' undef= .slice (some ⟨gs i',0,none⟩) n n
 row: ∀i',i'<i→IL wr w.heap.size (.slice (some ⟨gs i',0,none⟩) n n) (trwL T n i')
 bel:Below w.heap.size w wr
 src:S wr
 hi:HI≤wr.heap.size
 gh:HI≤g
theorem TX.grown {w:World} {HI g n i:Nat} {S:World→Prop} {wr w2:World} {T:Nat→Nat→Nat} {gs:Nat→Nat} {vs:List Value} {row:Option Nat} (h:TX w HI S wr g n i T gs vs) (hK:Kept w.heap.size HI S) (hg:wr.grownBy w2 row)
  (h1: ∀b,row=some b→HI≤b∧w.heap.size≤b∧b≠g∧ ∀i',i'<i→gs i'≠b):TX w HI S w2 g n i T gs vs:=by
 refine ⟨World.ownsRow.kept h.out hg (.inr fun e=>(h1 _ e.symm).2.2.1 rfl),h.ptr,fun i' hi'=>World.ownsRow.kept (h.row i' hi') hg (.inr fun e=>(h1 _ e.symm).2.2.2 i' hi' rfl),h.bel.grown hg h.bel.size (fun k hk=>(h1 k hk).2.1),hK _ _ (fun k k1 k2=>hg.block k (Nat.lt_of_lt_of_le k2 h.hi) (fun e=> ?_)) h.src,Nat.le_trans h.hi hg.size,h.gh⟩
 have:=(h1 k e.symm).1
 omega
theorem TX.call {w:World} {HI g n i:Nat} {S:World→Prop} {wr w2:World} {T:Nat→Nat→Nat} {gs:Nat→Nat} {vs:List Value} (h:TX w HI S wr g n i T gs vs) (hK:Kept w.heap.size HI S) (hb:Below wr.heap.size wr w2):TX w HI S w2 g n i T gs vs:=
 h.grown hK (bel_grown hb) (fun b e=>by cases e)
theorem TX.put {w:World} {HI g n i gi:Nat} {S:World→Prop} {wr:World} {T:Nat→Nat→Nat} {gs:Nat→Nat} {vs:List Value} (h:TX w HI S wr g n i T gs vs) (hK:Kept w.heap.size HI S) (hi:i<n) (hne: ∀i',i'<i→gs i'≠g):
  TX w HI S (wr.setCell ⟨g,i,none⟩ (.slice (some ⟨gi,0,none⟩) n n)) g n i T gs (vs.set i (.slice (some ⟨gi,0,none⟩) n n))∧wr.grownBy (wr.setCell ⟨g,i,none⟩ (.slice (some ⟨gi,0,none⟩) n n)) (some g):=by
 obtain ⟨q1,q2⟩:=World.ownsRow.stored h.out i (.slice (some ⟨gi,0,none⟩) n n)
 have hlo:=(World.ownsRow.lt h.out g rfl).1
 refine ⟨⟨q1,fun i' hi'=> ?_,fun i' hi'=>World.ownsRow.kept (h.row i' hi') q2 (.inr fun e=> ?_),h.bel.grown q2 h.bel.size (fun k hk=>by cases hk;exact hlo),hK _ _ (fun k k1 k2=>q2.block k (Nat.lt_of_lt_of_le k2 h.hi) (fun e=> ?_)) h.src,Nat.le_trans h.hi q2.size,h.gh⟩,q2⟩
 ·rw [List.getD_eq_getElem?_getD,List.getElem?_set,if_neg Vn,←List.getD_eq_getElem?_getD]
  exact h.ptr i' hi'
 ·simp only[Value.ownBlock,Option.some.injEq] at e
  exact hne i' hi' e
 ·simp only[Option.some.injEq] at e
  have:=h.gh
  omega
theorem TX.next {w:World} {HI g n i gi:Nat} {S:World→Prop} {wr:World} {T:Nat→Nat→Nat} {gs:Nat→Nat} {vs:List Value} (h:TX w HI S wr g n i T gs vs) (hi:i<n) (hp:vs.getD i undef= .slice (some ⟨gi,0,none⟩) n n) (hr:IL wr w.heap.size (.slice (some ⟨gi,0,none⟩) n n) (trwL T n i)):
  TX w HI S wr g n (i+1) T (fun k=>if k=i then gi else gs k) vs:=by
 refine ⟨h.out,fun i' hi'=> ?_,fun i' hi'=> ?_,h.bel,h.src,h.hi,h.gh⟩
 ·by_cases e:i'=i
  ·subst e;rw [if_pos rfl];exact hp
  ·rw [if_neg e];exact h.ptr i' Vn
 ·by_cases e:i'=i
  ·subst e;rw [if_pos rfl];exact hr
  ·rw [if_neg e];exact h.row i' Vn
theorem TX.ne {w:World} {HI g n i:Nat} {S:World→Prop} {wr:World} {T:Nat→Nat→Nat} {gs:Nat→Nat} {vs:List Value} (h:TX w HI S wr g n i T gs vs): ∀i',i'<i→gs i'≠g:=by
 intro i' hi' e
 have hr:=h.row i' hi'
 rw[e] at hr
 rcases hr.2 with ⟨q1,q2⟩|⟨g1,cap,cur,q1,q2,q3,q4⟩
 ·cases q1
 ·rcases h.out.2 with ⟨p1,p2⟩|⟨g2,cap2,cur2,p1,p2,p3,p4⟩
  ·cases p1
  ·simp only[Value.slice.injEq,Option.some.injEq,Addr.mk.injEq] at q1 p1
   obtain ⟨⟨rfl,-⟩,-⟩:=q1
   obtain ⟨⟨rfl,-⟩,-⟩:=p1
   rw[q3] at p3
   simp only[Option.some.injEq,Obj.cells.injEq] at p3
   exact absurd p3.2.1 VA
theorem TX.lt {w:World} {HI g n i:Nat} {S:World→Prop} {wr:World} {T:Nat→Nat→Nat} {gs:Nat→Nat} {vs:List Value} (h:TX w HI S wr g n i T gs vs): ∀i',i'<i→gs i'<wr.heap.size:=fun i' hi'=>(World.ownsRow.lt (h.row i' hi') (gs i') rfl).2
def tabS (HI g n:Nat) (T:Nat→Nat→Nat) (W:World):Prop:=g<HI∧ ∀i,i<n→ ∃gi,gi<HI∧W.cell? ⟨g,i,none⟩=some (.slice (some ⟨gi,0,none⟩) n n)∧ ∀j,j<n→W.cell? ⟨gi,j,none⟩=some (.int .i64 ((T i j:Nat):Int))
theorem tab_kept {HI g n:Nat} {T:Nat→Nat→Nat} :Kept 0 HI (tabS HI g n T):=by
 intro w w' hk h
 obtain ⟨h0,h1⟩:=h
 refine ⟨h0,fun i hi=> ?_⟩
 obtain ⟨gi,q1,q2,q3⟩:=h1 i hi
 exact ⟨gi,q1,(World.cell?_of_block (hk g (Nat.zero_le _) h0)).trans q2,fun j hj=>(World.cell?_of_block (hk gi (Nat.zero_le _) q1)).trans (q3 j hj)⟩
theorem TX.tab {w:World} {HI g n:Nat} {S:World→Prop} {wr:World} {T:Nat→Nat→Nat} {gs:Nat→Nat} {vs:List Value} (h:TX w HI S wr g n n T gs vs):tabS wr.heap.size g n T wr:=by
 refine ⟨(World.ownsRow.lt h.out g rfl).2,fun i hi=>⟨gs i,h.lt i hi,?_,fun j hj=> ?_⟩⟩
 ·have hl:=h.out.1
  rw[World.ownsRow.cellAt h.out i Vn,List.getElem?_eq_getElem Vn]
  have:=h.ptr i hi
  rw[List.getD_eq_getElem?_getD,List.getElem?_eq_getElem Vn] at this
  exact congrArg some this
 ·rw [IL.cellAt (h.row i hi) (by rw[trwL_len];exact hj),trwL_at T hj]
end Go.Proofs.YtobkcnmlmmhpoaaGreatDoor
namespace Go.Proofs.YtobkcnmlmmhpoaaGreatDoor
open Go.RowKit
set_option linter.unusedVariables false
set_option linter.unusedSimpArgs false
attribute [local go_sem] q2 q3 q4 q5 q6 q7 q8 q9 q10 q11 q12

theorem tri_ne {p q r x y z:Int} (h: ¬(p,q,r)=(x,y,z)): ¬p=x∨(p=x∧ ¬q=y)∨(p=x∧q=y∧ ¬r=z):=by
 by_cases e0:p=x
 ·by_cases e1:q=y
  ·by_cases e2:r=z
   ·subst e0 e1 e2;exact absurd rfl h
   ·exact .inr (.inr ⟨e0,e1,e2⟩)
  ·exact .inr (.inl ⟨e0,e1⟩)
 ·exact .inl e0
theorem grIndex_a (fs:List (Int × Int × Int)) (a:Option Addr) (c lo hi r:Nat) (x y z:Int) (w:World) (hF:FAt w lo hi a fs) (hhi:hi≤w.heap.size) (hr:r<fs.length) (he:fs.getD r (0,0,0)=(x,y,z)) (hn:fs.Nodup) (hl:fs.length≤100000):
  Calls Tryz.prog 106 #[.slice a fs.length c,.agg #[.int .i64 x,.int .i64 y,.int .i64 z]] w fun e w'=>e= .returned (.int .i64 (r:Int))∧Below w.heap.size w w':=by
 have HNE:Hid (∀k,k<r→ ¬fs.getD k (0,0,0)=(x,y,z)):=hide fun k hk e=>by
  rw[←he] at e
  simp only[List.getD_eq_getElem?_getD,List.getElem?_eq_getElem hr,List.getElem?_eq_getElem (show k<fs.length by omega),Option.getD_some] at e
  exact List.pairwise_iff_getElem.1 hn k r Vn hr hk e
 have HE:=hide he
 clear he hn
 go_enter Tryz.func106,Tryz.ntmps106
 go_wp2
 go_loopw [9] (fun is wr=> ∃k:Nat,is= .int .i64 (k:Int)∧k≤r∧Ri3 wr w.heap.size x y z∧Below w.heap.size w wr) (fun is _=>r+1-(intOf is).toNat)
 case atStart=>exact ⟨0,rfl,Vn,Ri3.m VB VB VB,byGG⟩
 case round=>
  obtain ⟨k,rfl,hk,⟨c00,c01,c02,hz0⟩,hb⟩:=hrel
  obtain ⟨w1,rfl⟩: ∃w1:World,w1=wr:=⟨_,rfl⟩
  have hci:(k:Int)<(fs.length:Int):=by omega
  obtain ⟨g0,hg0,hg2,e0,e1,e2⟩:=FAt.cells (hF.below hb hhi) (show k<fs.length by omega)
  by_cases ck:k=r
  ·subst ck
   rw[unhide HE] at e0 e1 e2
   subst hg0
   go_wp2
   go_ret
   exact ⟨rfl,byGG⟩
  ·have hne:=unhide HNE k Vn
   generalize fs.getD k (0,0,0)=X at*
   obtain ⟨p,q,t⟩:=X
   simp only at e0 e1 e2
   have hcs:=tri_ne hne
   subst hg0
   clear hne
   rcases hcs with n1|⟨n0,n1⟩|⟨n0,n2,n1⟩
   all_goals
    go_wp2
    go_roundw
    case rel=>first|exact ⟨k+1,by first|rfl|go_num,Vn,Ri3.m Vq Vq Vq,byGG⟩|((repeat apply Exists.intro);exact ⟨⟨k+1,by first|rfl|go_num,Vn,Ri3.m Vq Vq Vq,byGG⟩,rfl⟩)
    case measure=>simp [intOf];omega
end Go.Proofs.YtobkcnmlmmhpoaaGreatDoor
namespace Go.Proofs.YtobkcnmlmmhpoaaGreatDoor
open Go.RowKit
set_option linter.unusedVariables false
set_option linter.unusedSimpArgs false
attribute [local go_sem] q2 q3 q4 q5 q6 q7 q8 q9 q10 q11 q12

theorem gtt_T {d:Int} {fs:List (Int × Int × Int)} (h:RfS d fs): ∃T:Nat→Nat→Nat,∀i j,i<fs.length→j<fs.length→T i j<fs.length∧fs.getD (T i j) (0,0,0)=cmp (fs.getD i (0,0,0)) (fs.getD j (0,0,0)):=by
 have: ∀i j,∃r,i<fs.length→j<fs.length→r<fs.length∧fs.getD r (0,0,0)=cmp (fs.getD i (0,0,0)) (fs.getD j (0,0,0)):=fun i j=>by
  by_cases hi:i<fs.length
  ·by_cases hj:j<fs.length
   ·have a:=h.inn i hi
    have b:=h.inn j hj
    obtain ⟨r,h1,h2⟩:=ix_ex (h.mem _ (a.1.cp b.1) (a.1.rc b.1))
    exact ⟨r,fun _ _=>⟨h1,h2⟩⟩
   ·exact ⟨0,fun _ q=>absurd q hj⟩
  ·exact ⟨0,fun q=>absurd q hi⟩
 exact ⟨fun i j=>(this i j).choose,fun i j=>(this i j).choose_spec⟩
theorem coMul_rwY {D:Int} (F G X:Int × Int × Int) (w:World) (h:InD D F) (h2:InD D G) (hX:X=cmp F G):Calls Tryz.prog 107 #[frm F,frm G] w fun e w'=>e= .returned (frm X)∧Below w.heap.size w w':=by
 subst hX;exact coMul_D F G w h h2
theorem gtt_info:(Tryz.prog.info? 29).map (fun i=>(i.zero,i.size,i.bytes))=some (some (.slice none 0 0),1,24):=by kernel_rfl
theorem IL.of_row {w:World} {lo g n:Nat} {vs:List Value} (h:w.ownsRow lo 3 1 (.slice (some ⟨g,0,none⟩) n n) n vs) (hv: ∀j,j<n→vs.getD j undef= .int .i64 0):IL w lo (.slice (some ⟨g,0,none⟩) n n) (List.replicate n 0):=by
 have hl:=h.1
 have e:vs=(List.replicate n (0:Int)).map (Value.int .i64):=by
  refine List.ext_getElem VX fun i h1 h2=> ?_
  have:=hv i Vn
  rw[List.getD_eq_getElem?_getD,List.getElem?_eq_getElem h1] at this
  simpa using this
 unfold IL
 rw[List.length_replicate,←e]
 exact h
theorem made_at {n j:Nat} (h:j<n):(madeCells #[Value.int .i64 0] (n*1)).toList.getD j undef= .int .i64 0:=by
 have h2:j<(madeCells #[Value.int .i64 0] (n*1)).size:=by rw[size_madeCells];omega
 rw[List.getD_eq_getElem?_getD,Array.getElem?_toList,Array.getElem?_eq_getElem h2]
 simp [madeCells,Nat.mod_one]

theorem grTable_a (d:Int) (w:World) (hd:negB d=true) {T:Nat→Nat→Nat} (HT: ∀i j,i<(rfL d).length→j<(rfL d).length→T i j<(rfL d).length∧(rfL d).getD (T i j) (0,0,0)=cmp ((rfL d).getD i (0,0,0)) ((rfL d).getD j (0,0,0))):
  Calls Tryz.prog 80 #[.int .i64 d] w fun e w'=> ∃g,e= .returned (.slice (some ⟨g,0,none⟩) (rfL d).length (rfL d).length)∧tabS w'.heap.size g (rfL d).length T w'∧Below w.heap.size w w':=by
 obtain ⟨d0,d1⟩:=neg_true hd
 have hR:=rfs hd
 have HLen:=hR.len
 have HRF:=hide hR.inn
 have HND:=hide hR.nd
 have HC: ∀W,Calls Tryz.prog 51 #[.int .i64 d] W (RetFL W (rfL d)):=fun W=>reList_a d W d0 d1
 have HC:=hide HC
 have HT:=hide HT
 clear hR
 generalize rfL d=fs at*
 obtain ⟨i0,hi0,hz0,hz1,hz2⟩:=info_parts gtt_info
 obtain ⟨j0,hj0,hy0,hy1,hy2⟩:=info_parts Tryz.infoInt'
 go_enter Tryz.func80,Tryz.ntmps80
 go_wp2_with (first|(go_at_call 51;refine ((unhide HC) _).mono ?_;rintro e wA ⟨a0,c0,rfl,hlA,hbA⟩;have hsA:=hbA.size)|(at_make;refine wpList_make_full _ rfl (.tmp 12) (.tmp 12) 97 rfl w.heap.size 29 i0 (.slice none 0 0) 1 Tryz.underlying97 hi0 hz0 hz1 .i64 .i64 _ _ fs.length rfl rfl rfl rfl (by rw[hz2];omega) VK hsA ?_;intro w2 hown2 hgrow2))
 have hS:FAt w2 w.heap.size wA.heap.size a0 fs:=FormsAt.keep hlA.at.2 fun k h1 h2=>hgrow2.block k h2 Vs
 have hK:=forms_kept (LO:=w.heap.size) (HI:=wA.heap.size) (a:=a0) (fs:=fs)
 have hb2:Below w.heap.size w w2:=hbA.grown hgrow2 hbA.size (fun k hk=>by cases hk)
 have htx:TX w wA.heap.size (srcF w.heap.size wA.heap.size a0 fs) w2 wA.heap.size fs.length 0 T (fun _=>0) _:=⟨hown2,fun i' h=>absurd h Vn,fun i' h=>absurd h Vn,hb2,hS,hgrow2.size,Nat.le_refl _⟩
 clear hlA hS hown2 hgrow2 hb2
 go_loopw [16] (fun is wr=> ∃(ix:Nat) (gs:Nat→Nat) (vs:List Value),is= .int .i64 (ix:Int)∧ix≤fs.length∧TX w wA.heap.size (srcF w.heap.size wA.heap.size a0 fs) wr wA.heap.size fs.length ix T gs vs) (fun is _=>fs.length-(intOf is).toNat)
 case atStart=>exact ⟨0,_,_,rfl,Vn,htx⟩
 case round=>
  clear htx hbA
  obtain ⟨ix,gs,vs,rfl,hix,htx⟩:=hrel
  obtain ⟨w1,rfl⟩: ∃w1:World,w1=wr:=⟨_,rfl⟩
  have hz:=htx.bel.size
  have hgi:=(World.ownsRow.lt htx.out wA.heap.size rfl).2
  by_cases c9:ix<fs.length
  ·have hci:(ix:Int)<(fs.length:Int):=by omega
   obtain ⟨g0,hg0,hg2,e0,e1,e2⟩:=FAt.cells htx.src c9
   have hI1:=(unhide HRF ix c9).1
   obtain ⟨X,hX⟩: ∃X,fs.getD ix (0,0,0)=X:=⟨_,rfl⟩
   rw[hX] at e0 e1 e2 hI1
   have hb1:Below w1.heap.size w1 (w1.alloc (.cells #[.int .i64 X.1,.int .i64 X.2.1,.int .i64 X.2.2] 81)):=byGG
   have htx1:=htx.call hK hb1
   obtain ⟨v9,hv9⟩: ∃v9,vs.getD ix undef=v9:=⟨_,rfl⟩
   have HS3:Hid (∀w3:World,(w1.alloc (.cells #[.int .i64 X.1,.int .i64 X.2.1,.int .i64 X.2.2] 81)).grownBy w3 none→w3.cell? ⟨wA.heap.size,ix,none⟩=some v9∧w3.frozen? ⟨wA.heap.size,ix,none⟩=false):=hide fun w3 hg=>by
    have htx3:=htx1.grown hK hg (fun b e=>by cases e)
    refine ⟨?_,World.ownsRow.frozenAt htx3.out ix⟩
    have hl:=htx3.out.1
    rw[World.ownsRow.cellAt htx3.out ix Vn,List.getElem?_eq_getElem Vn,←hv9,List.getD_eq_getElem?_getD,List.getElem?_eq_getElem Vn];rfl
   clear hv9
   have HX:=hide hX
   clear hX
   subst hg0
   go_wp2_with (at_make;refine wpList_make_full _ rfl (.tmp 24) (.tmp 24) 29 rfl w.heap.size 3 j0 (.int .i64 0) 1 Tryz.underlying29 hj0 hy0 hy1 .i64 .i64 _ _ fs.length rfl rfl rfl rfl (by rw[hy2];omega) VK VW ?_;intro w3 hown3 hgrow3;obtain ⟨s1,s2⟩:=unhide HS3 _ hgrow3)
   have htx3:=htx1.grown hK hgrow3 (fun b e=>by cases e)
   obtain ⟨htx4,hgrow4⟩:=htx3.put hK (gi:=w1.heap.size+1) c9 htx3.ne
   simp only[World.size_alloc] at hown3
   have hrow3:=IL.of_row hown3 (fun j hj=>made_at hj)
   have hrow4:=IL.kept hrow3 hgrow4 (.inr fun e=>by simp only[Value.ownBlock,Option.some.injEq] at e;omega)
   have hgl:=htx.lt
   have hf4:Ri3 (w3.setCell ⟨wA.heap.size,ix,none⟩ (.slice (some ⟨w1.heap.size+1,0,none⟩) fs.length fs.length)) w1.heap.size X.1 X.2.1 X.2.2:=by
    have hbl: ∀o:Nat,(w3.setCell ⟨wA.heap.size,ix,none⟩ (.slice (some ⟨w1.heap.size+1,0,none⟩) fs.length fs.length)).cell? ⟨w1.heap.size,o,none⟩=(w1.alloc (.cells #[.int .i64 X.1,.int .i64 X.2.1,.int .i64 X.2.2] 81)).cell? ⟨w1.heap.size,o,none⟩:=fun o=>
     (hgrow4.cell_far ⟨w1.heap.size,o,none⟩ (by have:=hgrow3.size;simp only[World.size_alloc] at this;show w1.heap.size<w3.heap.size;omega) (fun e=>by simp only[Option.some.injEq] at e;omega)).trans (hgrow3.cell_far ⟨w1.heap.size,o,none⟩ Vs Vs)
    exact Ri3.m ((hbl 0).trans VB) ((hbl 1).trans VB) ((hbl 2).trans VB)
   obtain ⟨w4,hw4⟩: ∃w4,w4=w3.setCell ⟨wA.heap.size,ix,none⟩ (.slice (some ⟨w1.heap.size+1,0,none⟩) fs.length fs.length):=⟨_,rfl⟩
   rw[←hw4] at htx4 hrow4 hf4 ⊢
   have hp4:(vs.set ix (.slice (some ⟨(w1.heap.size+1),0,none⟩) fs.length fs.length)).getD ix undef= .slice (some ⟨(w1.heap.size+1),0,none⟩) fs.length fs.length:=by
    have hl:=htx.out.1
    rw[List.getD_eq_getElem?_getD,List.getElem?_set,if_pos rfl,if_pos Vn];rfl
   obtain ⟨vs4,hvs4⟩: ∃vs4,vs4=vs.set ix (.slice (some ⟨(w1.heap.size+1),0,none⟩) fs.length fs.length):=⟨_,rfl⟩
   rw[←hvs4] at htx4 hp4
   have hgs: ∀i',i'<ix→gs i'≠(w1.heap.size+1):=fun i' h=>by have:=hgl i' h;omega
   have hgi2:wA.heap.size<(w1.heap.size+1):=by omega
   have hHIw:w.heap.size≤wA.heap.size:=hsA
   clear hw4 hvs4 hrow3 hgrow4 htx3 htx1 hgrow3 hown3 htx s1 s2 hgl
   go_loopw [29] (fun is wr=> ∃(jx:Nat) (l:List Int),is= .int .i64 (jx:Int)∧jx≤fs.length∧TX w wA.heap.size (srcF w.heap.size wA.heap.size (some ⟨g0,0,none⟩) fs) wr wA.heap.size fs.length ix T gs vs4∧Hid (l.length=fs.length)∧IL wr w.heap.size (.slice (some ⟨(w1.heap.size+1),0,none⟩) fs.length fs.length) l∧Hid (∀j',j'<jx→l.getD j' 0=((T ix j':Nat):Int))∧Ri3 wr w1.heap.size X.1 X.2.1 X.2.2) (fun is _=>fs.length-(intOf is).toNat)
   case atStart=>exact ⟨0,_,rfl,Vn,htx4,hide Vs,hrow4,hide (fun j' h=>absurd h Vn),hf4⟩
   case round=>
    clear htx4 hrow4 hf4
    obtain ⟨jx,l,rfl,hjx,htx,hll,hrow,hdone,⟨c00,c01,c02,hzf⟩⟩:=hrel
    obtain ⟨wo,rfl⟩: ∃wo:World,wo=wr:=⟨_,rfl⟩
    by_cases c10:jx<fs.length
    ·have hcj:(jx:Int)<(fs.length:Int):=by omega
     obtain ⟨g5,hg5,-,f0,f1,f2⟩:=FAt.cells htx.src c10
     simp only[Option.some.injEq,Addr.mk.injEq] at hg5
     obtain ⟨rfl,-⟩:=hg5
     have hI2:=(unhide HRF jx c10).1
     obtain ⟨hr,hre⟩:=unhide HT ix jx c9 c10
     obtain ⟨Y,hY⟩: ∃Y,fs.getD jx (0,0,0)=Y:=⟨_,rfl⟩
     obtain ⟨r,hrr⟩: ∃r,T ix jx=r:=⟨_,rfl⟩
     obtain ⟨Z,hZ⟩: ∃Z,fs.getD r (0,0,0)=Z:=⟨_,rfl⟩
     rw[hrr] at hr hre
     rw[unhide HX,hY,hZ] at hre
     rw[hY] at f0 f1 f2 hI2
     have HMUL:Hid (∀W,Calls Tryz.prog 107 #[frm X,frm Y] W fun e w'=>e= .returned (frm Z)∧Below W.heap.size W w'):=hide fun W=>coMul_rwY X Y Z W hI1 hI2 hre
     have HIX:Hid (∀W,Below wo.heap.size wo W→Calls Tryz.prog 106 #[.slice (some ⟨g0,0,none⟩) fs.length c0,frm Z] W fun e w'=>e= .returned (.int .i64 (r:Int))∧Below W.heap.size W w'):=hide fun W hb=>
      grIndex_a fs _ c0 w.heap.size wA.heap.size r Z.1 Z.2.1 Z.2.2 W ((htx.call hK hb).src) (Nat.le_trans htx.hi hb.size) hr hZ (unhide HND) Vn
     have q0:wo.cell? ⟨wA.heap.size,ix,none⟩=some (.slice (some ⟨(w1.heap.size+1),0,none⟩) fs.length fs.length):=by
      have hl:=htx.out.1
      rw[World.ownsRow.cellAt htx.out ix Vn,List.getElem?_eq_getElem Vn]
      have:=hp4
      rw[List.getD_eq_getElem?_getD,List.getElem?_eq_getElem Vn] at this
      exact congrArg some this
     have q1:=IL.cellAt hrow (j:=jx) (by rw[unhide hll];exact c10)
     have q2:=IL.frozenAt hrow jx
     have hgw:(w1.heap.size+1)<wo.heap.size:=World.block_lt_of_cell? _ _ q1
     have hAo:wA.heap.size<wo.heap.size:=World.block_lt_of_cell? _ _ q0
     have HRR:=hide hrr
     generalize l.getD jx 0=v8 at*
     clear hre hr hZ hrr hI2 hY
     go_wp2
     go_region_with (first|(go_at_call 107;refine ((unhide HMUL) _).mono ?_;rintro e w5 ⟨rfl,hb5⟩;have q0:=cell_call hb5 (a:=⟨wA.heap.size,ix,none⟩) (v:= .slice (some ⟨(w1.heap.size+1),0,none⟩) fs.length fs.length) Vq;have q1:=cell_call hb5 (a:=⟨(w1.heap.size+1),jx,none⟩) (v:= .int .i64 v8) Vq;have q2:=frz_call hb5 (a:=⟨(w1.heap.size+1),jx,none⟩) W4 Vq;have c00:=cell_call hb5 (a:=⟨w1.heap.size,0,none⟩) (v:= .int .i64 X.1) Vq;have c01:=cell_call hb5 (a:=⟨w1.heap.size,1,none⟩) (v:= .int .i64 X.2.1) Vq;have c02:=cell_call hb5 (a:=⟨w1.heap.size,2,none⟩) (v:= .int .i64 X.2.2) Vq;have d00:=cell_call hb5 (a:=⟨wo.heap.size,0,none⟩) (v:= .int .i64 Y.1) Vq;have d01:=cell_call hb5 (a:=⟨wo.heap.size,1,none⟩) (v:= .int .i64 Y.2.1) Vq;have d02:=cell_call hb5 (a:=⟨wo.heap.size,2,none⟩) (v:= .int .i64 Y.2.2) Vq;have hgw:=lt_keep hb5 (w1.heap.size+1) W4;have hzw:=lt_keep hb5 w1.heap.size W4)|(go_at_call 106;refine ((unhide HIX) _ byGG).mono ?_;rintro e w6 ⟨rfl,hb6⟩;have q0:=cell_call hb6 (a:=⟨wA.heap.size,ix,none⟩) (v:= .slice (some ⟨(w1.heap.size+1),0,none⟩) fs.length fs.length) Vq;have q1:=cell_call hb6 (a:=⟨(w1.heap.size+1),jx,none⟩) (v:= .int .i64 v8) Vq;have q2:=frz_call hb6 (a:=⟨(w1.heap.size+1),jx,none⟩) W4 Vq;have c00:=cell_call hb6 (a:=⟨w1.heap.size,0,none⟩) (v:= .int .i64 X.1) Vq;have c01:=cell_call hb6 (a:=⟨w1.heap.size,1,none⟩) (v:= .int .i64 X.2.1) Vq;have c02:=cell_call hb6 (a:=⟨w1.heap.size,2,none⟩) (v:= .int .i64 X.2.2) Vq;have d00:=cell_call hb6 (a:=⟨wo.heap.size,0,none⟩) (v:= .int .i64 Y.1) Vq;have d01:=cell_call hb6 (a:=⟨wo.heap.size,1,none⟩) (v:= .int .i64 Y.2.1) Vq;have d02:=cell_call hb6 (a:=⟨wo.heap.size,2,none⟩) (v:= .int .i64 Y.2.2) Vq;have hgw:=lt_keep hb6 (w1.heap.size+1) W4;have hzw:=lt_keep hb6 w1.heap.size W4))
     all_goals
      have hb06:Below wo.heap.size wo w6:=byGG
      have htx6:=htx.call hK hb06
      have hrow6:=IL.below hrow hb06
      obtain ⟨hrow7,hg7⟩:=IL.stored hrow6 jx (r:Int)
      have htx7:=htx6.grown hK hg7 (fun b e=>by
       have e9:(w1.heap.size+1)=b:=Option.some.inj e
       subst e9
       exact ⟨Vn,Vn,Vn,hgs⟩)
      have hl7:Hid ((l.set jx (r:Int)).length=fs.length):=hide (by rw[List.length_set];exact unhide hll)
      have hd7:Hid (∀j',j'<jx+1→(l.set jx (r:Int)).getD j' 0=((T ix j':Nat):Int)):=hide fun j' hj'=>by
       have hll9:=unhide hll
       rw[List.getD_eq_getElem?_getD,List.getElem?_set]
       by_cases e:jx=j'
       ·subst e;rw [if_pos rfl,if_pos Vn,unhide HRR];rfl
       ·rw [if_neg e,←List.getD_eq_getElem?_getD];exact unhide hdone j' Vn
      have hz6:w1.heap.size<w6.heap.size:=Nat.lt_of_lt_of_le hzf hb06.size
      go_wp2
      go_roundw
      case rel=>first|exact ⟨jx+1,_,by first|rfl|go_num,Vn,htx7,hl7,hrow7,hd7,Ri3.m VB VB VB⟩|((repeat apply Exists.intro);exact ⟨⟨jx+1,_,by first|rfl|go_num,Vn,htx7,hl7,hrow7,hd7,Ri3.m VB VB VB⟩,rfl⟩)
      case measure=>simp [intOf];omega
    ·obtain rfl:jx=fs.length:=by omega
     have hle:l=trwL T fs.length ix:=ints_eq (by rw[trwL_len];exact unhide hll) (fun i hi=>by rw[unhide hll] at hi;rw [unhide hdone i hi,trwL_at T hi])
     subst hle
     have htx9:=htx.next c9 hp4 hrow
     go_wp2
     go_roundw
     case rel=>first|exact ⟨ix+1,_,_,by first|rfl|go_num,Vn,htx9⟩|((repeat apply Exists.intro);exact ⟨⟨ix+1,_,_,by first|rfl|go_num,Vn,htx9⟩,rfl⟩)
     case measure=>simp [intOf];omega
  ·obtain rfl:ix=fs.length:=by omega
   go_wp2
   go_ret
   exact ⟨wA.heap.size,rfl,htx.tab,htx.bel⟩
end Go.Proofs.YtobkcnmlmmhpoaaGreatDoor
