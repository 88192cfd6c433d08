/- The orders of the classes out of the table: grOrder, grOrders. A list of lists of forms, each in a block of its own. How many genera: genera. -/
import Derived.Test.YtobkcnmlmmhpoaaGreatDoorGtt
import Derived.Test.YtobkcnmlmmhpoaaGreatDoorFaw
import Derived.Deep.RegionLaw
import Derived.Test.YtobkcnmlmmhpoaaGreatDoorGrt
import Derived.BigQuiet
set_option maxRecDepth 100000
set_option maxHeartbeats 80000000
namespace Go.Proofs.YtobkcnmlmmhpoaaGreatDoor
open Go.RowKit
set_option linter.unusedVariables false
set_option linter.unusedSimpArgs false
attribute [local go_sem] q2 q3 q4 q5 q6 q7 q8 q9 q10 q11 q12

theorem orL_get {d:Int} {k:Nat} (hk:k<(rfL d).length):(orL d).getD k 0=((orN d ((rfL d).getD k (0,0,0)):Nat):Int):=by
 unfold orL
 rw[List.getD_eq_getElem?_getD,List.getElem?_map,List.getElem?_eq_getElem hk,List.getD_eq_getElem?_getD,List.getElem?_eq_getElem hk];rfl
theorem grOrder_a (d:Int) (HI g n:Nat) (T:Nat→Nat→Nat) (fs:List (Int × Int × Int)) (i:Nat) (w:World) (hR:RfS d fs) (hG:tabS HI g n T w) (hn:Hid (n=fs.length)) (hi:i<n)
  (HT: ∀i j,i<fs.length→j<fs.length→T i j<fs.length∧fs.getD (T i j) (0,0,0)=cmp (fs.getD i (0,0,0)) (fs.getD j (0,0,0))) {N:Nat} (hN:orN d (fs.getD i (0,0,0))=N):
  Calls Tryz.prog 105 #[.slice (some ⟨g,0,none⟩) n n,.int .i64 (i:Int)] w fun e w'=>e= .returned (.int .i64 (N:Int))∧w=w':=by
 have hif:i<fs.length:=by rw[←unhide hn];exact hi
 have hor:=(or_is (hR.inn i hif).1)
 rw[hN] at hor
 obtain ⟨n1,n2,-,-⟩:=hor
 have HR:=hide hR
 have HNN:=hide hN
 have HT:=hide HT
 have HG:=hide hG.2
 have hst:=hR.one hif
 have hn6:n≤676:=by have:=hR.len;have:=unhide hn;omega
 clear hN hG
 go_enter Tryz.func105,Tryz.ntmps105
 go_wp2
 go_loop [5,6] (fun ks ps=> ∃m p:Nat,ks= .int .i64 (m:Int)∧ps= .int .i64 (p:Int)∧1≤m∧m≤N∧p<n∧Hid (fs.getD p (0,0,0)=poN d (fs.getD i (0,0,0)) m)) (fun ks _=>N-(intOf ks).toNat)
 case atStart=>exact ⟨1,i,rfl,rfl,Vn,n1,hi,hide hst⟩
 case round=>
  clear hst
  obtain ⟨m,p,rfl,rfl,m1,m2,hp,he⟩:=hrel
  have hpf:p<fs.length:=by rw[←unhide hn];exact hp
  have hnz:=(unhide HR).nz hif hpf (unhide he) m1 (by rw[unhide HNN];exact m2)
  rw[unhide HNN] at hnz
  by_cases cm:m=N
  ·have hp0:=hnz.2 cm
   clear hnz
   subst hp0 cm
   go_wp2
   go_ret
   exact ⟨rfl,rfl⟩
  ·have hmN:m<N:=by omega
   have hp0:((p:Int) != 0)=true:=by
    have: ¬p=0:=fun e=>cm (hnz.1 e)
    simp;omega
   obtain ⟨gp,gp1,gp2,gp3⟩:=unhide HG p hp
   have q3:=gp3 i hi
   obtain ⟨hr,hre⟩:=unhide HT p i hpf hif
   obtain ⟨r,hrr⟩: ∃r,T p i=r:=⟨_,rfl⟩
   rw[hrr] at q3 hr hre
   have hrn:r<n:=by rw[unhide hn];exact hr
   have HRE:Hid (fs.getD r (0,0,0)=poN d (fs.getD i (0,0,0)) (m+1)):=hide (by rw[hre,unhide he];rfl)
   have hpn:(p:Int)<(n:Int):=by omega
   have hin:(i:Int)<(n:Int):=by omega
   clear hnz hre hrr cm gp3 hr
   go_wp2
   go_round
   case rel=>first|exact ⟨m+1,r,by first|rfl|go_num,rfl,Vn,Vn,hrn,HRE⟩|((repeat apply Exists.intro);exact ⟨⟨m+1,r,by first|rfl|go_num,rfl,Vn,Vn,hrn,HRE⟩,rfl⟩)
   case measure=>simp [intOf];omega
theorem grOrders_a (d:Int) (HI g n:Nat) (T:Nat→Nat→Nat) (w:World) (hd:negB d=true) (hG:tabS HI g n T w) (hHI:HI≤w.heap.size) (hn:Hid (n=(rfL d).length))
  (HT: ∀i j,i<(rfL d).length→j<(rfL d).length→T i j<(rfL d).length∧(rfL d).getD (T i j) (0,0,0)=cmp ((rfL d).getD i (0,0,0)) ((rfL d).getD j (0,0,0))):
  Calls Tryz.prog 79 #[.slice (some ⟨g,0,none⟩) n n] w (RetIL w (orL d)):=by
 have hR:=rfs hd
 have hn6:n≤676:=by have:=hR.len;have:=unhide hn;omega
 have HC:Hid (∀(W:World) (k:Nat),tabS HI g n T W→k<n→Calls Tryz.prog 105 #[.slice (some ⟨g,0,none⟩) n n,.int .i64 (k:Int)] W fun e w'=>e= .returned (.int .i64 ((orN d ((rfL d).getD k (0,0,0)):Nat):Int))∧W=w'):=hide fun W k h1 h2=>
  grOrder_a d HI g n T (rfL d) k W hR h1 hn h2 HT rfl
 have HOG:Hid (∀k,k<n→(orL d).getD k 0=((orN d ((rfL d).getD k (0,0,0)):Nat):Int)):=hide fun k hk=>orL_get (by rw[←unhide hn];exact hk)
 have HOL:Hid ((orL d).length=n):=hide (by unfold orL;rw [List.length_map];exact (unhide hn).symm)
 obtain ⟨OL,hOL⟩: ∃OL,orL d=OL:=⟨_,rfl⟩
 rw[hOL] at HOG HOL ⊢
 clear hOL hR HT
 obtain ⟨j0,hj0,hy0,hy1,hy2⟩:=info_parts Tryz.infoInt'
 go_enter Tryz.func79,Tryz.ntmps79
 go_wp2_with (at_make;refine wpList_make_full _ rfl (.tmp 6) (.tmp 6) 29 rfl w.heap.size 3 j0 (.int .i64 0) 1 Tryz.underlying29 hj0 hy0 hy1 .i64 .i64 _ _ n rfl rfl rfl rfl (by rw[hy2];omega) VK (Nat.le_refl _) ?_;intro w3 hown3 hgrow3)
 have hrow3:=IL.of_row hown3 (fun j hj=>made_at hj)
 have hb3:Below w.heap.size w w3:=(Below.refl _ _).grown hgrow3 (Nat.le_refl _) (fun k hk=>by cases hk)
 clear hown3 hgrow3
 go_loopw [10] (fun is wr=> ∃(k:Nat) (l:List Int),is= .int .i64 (k:Int)∧k≤n∧Hid (l.length=n)∧IL wr w.heap.size (.slice (some ⟨w.heap.size,0,none⟩) n n) l∧Hid (∀j,j<k→l.getD j 0=OL.getD j 0)∧Below w.heap.size w wr) (fun is _=>n-(intOf is).toNat)
 case atStart=>exact ⟨0,_,rfl,Vn,hide Vs,hrow3,hide (fun j h=>absurd h Vn),hb3⟩
 case round=>
  clear hrow3 hb3
  obtain ⟨k,l,rfl,hk,hll,hrow,hdone,hb⟩:=hrel
  obtain ⟨w1,rfl⟩: ∃w1:World,w1=wr:=⟨_,rfl⟩
  by_cases ck:k<n
  ·have hci:(k:Int)<(n:Int):=by omega
   have q1:=IL.cellAt hrow (j:=k) (by rw[unhide hll];exact ck)
   have q2:=IL.frozenAt hrow k
   have hT1:tabS HI g n T w1:=tab_kept w w1 (fun j _ h=>hb.block j Vn) hG
   have HCk:=unhide HC w1 k hT1 ck
   have hok:=unhide HOG k ck
   obtain ⟨v,hv⟩: ∃v:Int,((orN d ((rfL d).getD k (0,0,0)):Nat):Int)=v:=⟨_,rfl⟩
   rw[hv] at HCk hok
   have HCk:=hide HCk
   have HOK:=hide hok
   clear hv hok
   generalize l.getD k 0=v8 at*
   go_wp2_with (go_at_call 105;refine (unhide HCk).mono ?_;rintro e w2 ⟨rfl,rfl⟩)
   go_roundw
   case rel=>
    obtain ⟨hrow7,hg7⟩:=IL.stored hrow k v
    have hlo:w.heap.size≤w1.heap.size:=hb.size
    have hl7:Hid ((l.set k v).length=n):=hide (by rw[List.length_set];exact unhide hll)
    have hd7:Hid (∀j',j'<k+1→(l.set k v).getD j' 0=OL.getD j' 0):=hide fun j' hj'=>by
     have hll9:=unhide hll
     rw[List.getD_eq_getElem?_getD,List.getElem?_set]
     by_cases e:k=j'
     ·subst e;rw [if_pos rfl,if_pos Vn,unhide HOK];rfl
     ·rw [if_neg e,←List.getD_eq_getElem?_getD];exact unhide hdone j' Vn
    have hb7:=hb.grown hg7 hlo (fun j hj=>by cases hj;exact Nat.le_refl _)
    first|exact ⟨k+1,_,by first|rfl|go_num,Vn,hl7,hrow7,hd7,hb7⟩|((repeat apply Exists.intro);exact ⟨⟨k+1,_,by first|rfl|go_num,Vn,hl7,hrow7,hd7,hb7⟩,rfl⟩)
   case measure=>simp [intOf];omega
  ·obtain rfl:k=n:=by omega
   have hle:l=OL:=ints_eq ((unhide hll).trans (unhide HOL).symm) (fun i hi=>unhide hdone i (by rw[unhide hll] at hi;exact hi))
   go_wp2
   go_ret
   exact ⟨some ⟨w.heap.size,0,none⟩,_,by rw[unhide HOL];rfl,by rw[unhide HOL,←hle];exact hrow,hb⟩
end Go.Proofs.YtobkcnmlmmhpoaaGreatDoor
namespace Go.Proofs.YtobkcnmlmmhpoaaGreatDoor
open Go.RowKit
set_option linter.unusedVariables false
set_option linter.unusedSimpArgs false
attribute [local go_sem] q2 q3 q4 q5 q6 q7 q8 q9 q10 q11 q12

abbrev GR:=Nat × Nat × Nat × Int × Int × Int
def gr0:GR:=(0,0,0,0,0,0)
def rsV (r:GR):Value:= .slice (some ⟨r.1,0,none⟩) r.2.1 r.2.2.1
def GIn (w W:World) (HI K:Nat) (r:GR):Prop:=HI≤r.1∧r.2.1≤K∧ ∃l:List (Int × Int × Int),r.2.1=l.length∧0<l.length∧l.getD 0 (0,0,0)=r.2.2.2∧FL W w.heap.size (.slice (some ⟨r.1,0,none⟩) r.2.1 r.2.2.1) l
structure GX (w:World) (HI K:Nat) (S:World→Prop) (wr:World) (a:Option Addr) (n9 c:Nat) (rs:List GR):Prop where
 sd:SD 55 1 w w.heap.size HI S wr (.slice a n9 c) n9 (rs.map rsV)
 len:Hid (n9=rs.length)
 inn: ∀j,j<rs.length→GIn w wr HI K (rs.getD j gr0)
 dis: ∀i j,i<rs.length→j<rs.length→i≠j→(rs.getD i gr0).1≠(rs.getD j gr0).1
theorem GIn.call {w W W':World} {HI K:Nat} {r:GR} (h:GIn w W HI K r) (hb:Below W.heap.size W W'):GIn w W' HI K r:=by
 obtain ⟨h1,h2,l,h3,h4,h5,h6⟩:=h
 exact ⟨h1,h2,l,h3,h4,h5,h6.below hb⟩
theorem GX.call {w wr w2:World} {HI K n9 c:Nat} {S:World→Prop} {a:Option Addr} {rs:List GR} (h:GX w HI K S wr a n9 c rs) (hK:Kept w.heap.size HI S) (hb:Below wr.heap.size wr w2):GX w HI K S w2 a n9 c rs:=
 ⟨h.sd.call hK hb,h.len,fun j hj=>(h.inn j hj).call hb,h.dis⟩
theorem FL.row {w:World} {lo g n c:Nat} {l:List (Int × Int × Int)} (h:FL w lo (.slice (some ⟨g,0,none⟩) n c) l): ∃cur,w.heap[g]? =some (.cells cur 81 (0,0)):=by
 rcases h.2 with ⟨h1,h2⟩|⟨g',cap,cur,h1,h2,h3,h4⟩
 ·cases h1
 ·simp only[Value.slice.injEq,Option.some.injEq,Addr.mk.injEq] at h1
  obtain ⟨⟨rfl,_⟩,_⟩:=h1
  exact ⟨cur,h3⟩
theorem row_ne {w:World} {lo lo2 g n c n9:Nat} {v:Value} {vs:List Value} {l:List (Int × Int × Int)} (h:FL w lo (.slice (some ⟨g,0,none⟩) n c) l) (h2:w.ownsRow lo2 55 1 v n9 vs):v.ownBlock≠some g:=by
 intro e
 obtain ⟨cur,hc⟩:=h.row
 rcases h2.2 with ⟨q1,q2⟩|⟨g',cap,cur',q1,q2,q3,q4⟩
 ·rw [q1] at e;cases e
 ·rw [q1] at e
  simp only[Value.ownBlock,Option.some.injEq] at e
  subst e
  rw[q3] at hc
  simp only[Option.some.injEq,Obj.cells.injEq] at hc
  exact absurd hc.2.1 VA
theorem GX.at {w wr:World} {HI K n9 c:Nat} {S:World→Prop} {a:Option Addr} {rs:List GR} (h:GX w HI K S wr a n9 c rs) {i:Nat} (hi:i<n9):
  ∃go,a=some ⟨go,0,none⟩∧go<wr.heap.size∧wr.cell? ⟨go,i,none⟩=some (.slice (some ⟨(rs.getD i gr0).1,0,none⟩) (rs.getD i gr0).2.1 (rs.getD i gr0).2.2.1)∧wr.frozen? ⟨go,i,none⟩=false∧0<(rs.getD i gr0).2.1∧(rs.getD i gr0).1<wr.heap.size∧
   wr.cell? ⟨(rs.getD i gr0).1,0,none⟩=some (.int .i64 (rs.getD i gr0).2.2.2.1)∧wr.cell? ⟨(rs.getD i gr0).1,1,none⟩=some (.int .i64 (rs.getD i gr0).2.2.2.2.1)∧wr.cell? ⟨(rs.getD i gr0).1,2,none⟩=some (.int .i64 (rs.getD i gr0).2.2.2.2.2):=by
 have hl:=unhide h.len
 obtain ⟨h1,h2,l,h3,h4,h5,h6⟩:=h.inn i Vn
 obtain ⟨go,cap,e⟩: ∃g cap,Value.slice a n9 c= .slice (some ⟨g,0,none⟩) n9 cap:=by
  rcases h.sd.own.2 with ⟨q1,q2⟩|⟨g,cap,cur,q1,_⟩
  ·omega
  ·exact ⟨g,cap,q1⟩
 simp only[Value.slice.injEq] at e
 obtain ⟨rfl,-,rfl⟩:=e
 obtain ⟨g3,q1,q2,q3,q4,q5⟩:=h6.at.2.cells h4
 simp only[Option.some.injEq,Addr.mk.injEq] at q1
 obtain ⟨rfl,_⟩:=q1
 rw[h5] at q3 q4 q5
 refine ⟨go,rfl,(World.ownsRow.lt h.sd.own go rfl).2,?_,World.ownsRow.frozenAt h.sd.own i,Vn,q2,by simpa using q3,by simpa using q4,by simpa using q5⟩
 rw[World.ownsRow.cellAt h.sd.own i Vn,List.getElem?_map,List.getElem?_eq_getElem Vn,List.getD_eq_getElem?_getD,List.getElem?_eq_getElem Vn];rfl
theorem gdA {α:Type} {l:List α} {x d:α} {i:Nat} :(l++ [x]).getD i d=if i=l.length then x else if i<l.length then l.getD i d else d:=by
 by_cases q:i<l.length
 ·rw [if_neg Vn,if_pos q,List.getD_eq_getElem?_getD,List.getElem?_append_left q,←List.getD_eq_getElem?_getD]
 ·by_cases e:i=l.length
  ·subst e;rw [if_pos rfl,List.getD_eq_getElem?_getD];simp
  ·rw [if_neg e,if_neg q,List.getD_eq_getElem?_getD,List.getElem?_eq_none VX];rfl
theorem gdS {α:Type} {l:List α} {x d:α} {i j:Nat} (hi:i<l.length):(l.set i x).getD j d=if i=j then x else l.getD j d:=by
 simp only[List.getD_eq_getElem?_getD,List.getElem?_set]
 by_cases q:i=j
 ·rw [if_pos q,if_pos hi,if_pos q];rfl
 ·rw [if_neg q,if_neg q]
theorem GX.new {w wr w2:World} {HI K n9 c g cap:Nat} {S:World→Prop} {a:Option Addr} {rs:List GR} {x y z:Int} {o2:Obj} (h:GX w HI K S wr a n9 c rs) (hK:Kept w.heap.size HI S) (hK1:1≤K)
  (hown:w2.ownsRow w.heap.size 55 1 (.slice (some ⟨g,0,none⟩) (n9+1) cap) (n9+1) (rs.map rsV++ [.slice (some ⟨wr.heap.size,0,none⟩) 1 1]))
  (hgrow:((wr.alloc (.cells #[.int .i64 x,.int .i64 y,.int .i64 z] 81)).alloc o2).grownBy w2 (Value.slice a n9 c).ownBlock) (hat:(Value.slice a n9 c).ownBlock=some g∨g=((wr.alloc (.cells #[.int .i64 x,.int .i64 y,.int .i64 z] 81)).alloc o2).heap.size):
  GX w HI K S w2 (some ⟨g,0,none⟩) (n9+1) cap (rs++ [(wr.heap.size,1,1,x,y,z)]):=by
 have hl:=unhide h.len
 have hs:w.heap.size≤wr.heap.size:=h.sd.bel.size
 have hH:=h.sd.hi
 have hlt: ∀r:GR,GIn w wr HI K r→r.1<wr.heap.size:=fun r hr=>by
  obtain ⟨h1,h2,l,h3,h4,h5,h6⟩:=hr
  exact (FL.lt h6 r.1 rfl).2
 have hnew:GIn w w2 HI K (wr.heap.size,1,1,x,y,z):=by
  refine ⟨hH,hK1,[(x,y,z)],rfl,Vs,rfl,?_⟩
  have q1:FL (wr.alloc (.cells #[.int .i64 x,.int .i64 y,.int .i64 z] 81)) w.heap.size (.slice (some ⟨wr.heap.size,0,none⟩) 1 1) [(x,y,z)]:=World.ownsRow_lit (size:=3) wr #[.int .i64 x,.int .i64 y,.int .i64 z] 1 hs VA rfl
  refine World.ownsRow.kept (q1.alloc o2) hgrow (.inr fun e=> ?_)
  have:=World.ownsRow.lt h.sd.own wr.heap.size e.symm
  omega
 have hold: ∀r,GIn w wr HI K r→GIn w w2 HI K r:=fun r hr=>by
  obtain ⟨h1,h2,l,h3,h4,h5,h6⟩:=hr
  exact ⟨h1,h2,l,h3,h4,h5,World.ownsRow.kept ((h6.alloc _).alloc o2) hgrow (.inr fun e=>row_ne h6 h.sd.own e.symm)⟩
 refine ⟨?_,hide VX,fun j hj=> ?_,fun i j hi hj hij=> ?_⟩
 ·rw [List.map_append]
  exact ((h.sd.alloc hK _).alloc hK _).app hK hown hgrow hat
 ·rw [gdA]
  split
  ·exact hnew
  ·rw [if_pos (by simp at hj;omega)]
   exact hold _ (h.inn j (by simp at hj;omega))
 ·simp only[List.length_append,List.length_cons,List.length_nil] at hi hj
  rw[gdA,gdA]
  by_cases ei:i=rs.length
  ·rw [if_pos ei,if_neg Vn,if_pos Vn]
   have:=hlt _ (h.inn j Vn)
   simp only;omega
  ·by_cases ej:j=rs.length
   ·rw [if_neg ei,if_pos Vn,if_pos ej]
    have:=hlt _ (h.inn i Vn)
    simp only;omega
   ·rw [if_neg ei,if_pos Vn,if_neg ej,if_pos Vn]
    exact h.dis i j Vn Vn hij
theorem GX.set {w wr W w7:World} {HI K n9 c g cap i go:Nat} {S:World→Prop} {a:Option Addr} {rs:List GR} {l:List (Int × Int × Int)} {f:Int × Int × Int} (h:GX w HI K S wr a n9 c rs) (hK:Kept w.heap.size HI S) (hi:i<n9) (ha:a=some ⟨go,0,none⟩) (hb:Below wr.heap.size wr W)
  (hl:l.getD 0 (0,0,0)=(rs.getD i gr0).2.2.2) (hl0:0<l.length) (hln:(rs.getD i gr0).2.1=l.length)
  (hown:FL w7 w.heap.size (.slice (some ⟨g,0,none⟩) (l.length+1) cap) (l++ [f])) (hgrow:W.grownBy w7 (some (rs.getD i gr0).1)) (hat:(rs.getD i gr0).1=g∨g=W.heap.size):
  GX w HI (K+1) S (w7.setCell ⟨go,i,none⟩ (.slice (some ⟨g,0,none⟩) (l.length+1) cap)) a n9 c (rs.set i (g,l.length+1,cap,(rs.getD i gr0).2.2.2)):=by
 subst ha
 have hL:=unhide h.len
 have hW:=h.call hK hb
 obtain ⟨r1,r2,lr,r3,r4,r5,r6⟩:=hW.inn i Vn
 have hne0:=row_ne r6 hW.sd.own
 have out7:w7.ownsRow w.heap.size 55 1 (.slice (some ⟨go,0,none⟩) n9 c) n9 (rs.map rsV):=World.ownsRow.kept hW.sd.own hgrow (.inr hne0)
 obtain ⟨out8,grow8⟩:=World.ownsRow.stored out7 i (.slice (some ⟨g,0,none⟩) (l.length+1) cap)
 have hsz:=hgrow.size
 have hgo:go≠g:=by
  intro e
  exact row_ne hown out7 (by rw[←e];rfl)
 have hgo2:go<wr.heap.size:=(World.ownsRow.lt h.sd.own go rfl).2
 have hgo3:=h.sd.far go rfl
 have hgo4:=(World.ownsRow.lt h.sd.own go rfl).1
 have hil:i<rs.length:=by omega
 have b7:Below w.heap.size w w7:=hW.sd.bel.grown hgrow hW.sd.bel.size (fun k hk=>by cases hk;have:=r1;have:=(FL.lt r6 _ rfl).1;omega)
 have hold: ∀j,j<rs.length→j≠i→GIn w (w7.setCell ⟨go,i,none⟩ (.slice (some ⟨g,0,none⟩) (l.length+1) cap)) HI (K+1) (rs.getD j gr0):=fun j hj hji=>by
  obtain ⟨s1,s2,ls,s3,s4,s5,s6⟩:=hW.inn j hj
  refine ⟨s1,Vn,ls,s3,s4,s5,?_⟩
  have t7:FL w7 w.heap.size (.slice (some ⟨(rs.getD j gr0).1,0,none⟩) (rs.getD j gr0).2.1 (rs.getD j gr0).2.2.1) ls:=World.ownsRow.kept s6 hgrow (.inr fun e=>by
   simp only[Value.ownBlock,Option.some.injEq] at e
   exact h.dis j i hj hil hji e)
  exact World.ownsRow.kept t7 grow8 (.inr fun e=>row_ne t7 out7 e.symm)
 have hnew:GIn w (w7.setCell ⟨go,i,none⟩ (.slice (some ⟨g,0,none⟩) (l.length+1) cap)) HI (K+1) (g,l.length+1,cap,(rs.getD i gr0).2.2.2):=by
  refine ⟨?_,by simp only;omega,l++ [f],Vs,Vs,?_,World.ownsRow.kept hown grow8 (.inr fun e=>row_ne hown out7 e.symm)⟩
  ·rcases hat with e|e
   ·simp only;omega
   ·have:=hW.sd.hi;simp only;omega
  ·rw [List.getD_eq_getElem?_getD,List.getElem?_append_left hl0,←List.getD_eq_getElem?_getD];exact hl
 refine ⟨⟨?_,h.sd.far,b7.grown grow8 b7.size (fun k hk=>by cases hk;exact hgo4),?_,?_⟩,hide (by rw[List.length_set];exact hL),fun j hj=> ?_,fun i' j hi' hj hij=> ?_⟩
 ·have e:(rs.set i (g,l.length+1,cap,(rs.getD i gr0).2.2.2)).map rsV=(rs.map rsV).set i (.slice (some ⟨g,0,none⟩) (l.length+1) cap):=by rw[List.map_set];rfl
  rw[e];exact out8
 ·refine hK _ _ (fun k k1 k2=> ?_) hW.sd.src
  have q1:=grow8.block k (Nat.lt_of_lt_of_le k2 (Nat.le_trans hW.sd.hi hsz)) (fun e=>by simp only[Option.some.injEq] at e;omega)
  have q2:=hgrow.block k (Nat.lt_of_lt_of_le k2 hW.sd.hi) (fun e=>by simp only[Option.some.injEq] at e;omega)
  exact q1.trans q2
 ·exact Nat.le_trans hW.sd.hi (Nat.le_trans hsz grow8.size)
 ·rw [List.length_set] at hj
  rw[gdS hil]
  split
  ·exact hnew
  ·rename_i e;exact hold j hj (fun q=>e q.symm)
 ·rw [List.length_set] at hi' hj
  have key: ∀j,j<rs.length→j≠i→(rs.getD j gr0).1≠g:=fun j hj hji e=>by
   obtain ⟨s1,s2,ls,s3,s4,s5,s6⟩:=hW.inn j hj
   have hlt:(rs.getD j gr0).1<W.heap.size:=(FL.lt s6 _ rfl).2
   rcases hat with q|q
   ·exact h.dis j i hj hil hji (by rw[e,q])
   ·omega
  rw[gdS hil,gdS hil]
  by_cases e1:i=i'
  ·rw [if_pos e1,if_neg Vn]
   exact fun e=>key j hj Vn e.symm
  ·by_cases e2:i=j
   ·rw [if_neg e1,if_pos e2]
    exact key i' hi' Vn
   ·rw [if_neg e1,if_neg e2]
    exact h.dis i' j hi' hj hij
theorem GX.up {w wr:World} {HI K n9 c:Nat} {S:World→Prop} {a:Option Addr} {rs:List GR} (h:GX w HI K S wr a n9 c rs):GX w HI (K+1) S wr a n9 c rs:=
 ⟨h.sd,h.len,fun j hj=>by
  obtain ⟨h1,h2,h3⟩:=h.inn j hj
  exact ⟨h1,Vn,h3⟩,h.dis⟩
theorem step_app_FL {ops:Array Oper} {o:Oper} {a:Act} {w:World} {K:Act→World→Prop} {Q:Exit→Act→World→Prop} {E:Prop} (hgd:o.guard=none) (s x:Operand)
  (ho:o.op= .call { callee:= .builtin .append,args:= #[s,x],argTypes:= #[55,55] })
  (lo:Nat) (v:Value) (n:Nat) (fs:List (Int × Int × Int)) (x0 x1 x2:Int) (B:Nat) (hn:Hid (n=fs.length)) (hs:a.eval s=v) (hx:a.eval x= .slice (some ⟨B,0,none⟩) 1 1)
  (hown:FL w lo v fs) (hB0:w.cell? ⟨B,0,none⟩=some (.int .i64 x0)) (hB1:w.cell? ⟨B,1,none⟩=some (.int .i64 x1)) (hB2:w.cell? ⟨B,2,none⟩=some (.int .i64 x2)) (hlen:n≤100000000) (hlo:lo≤w.heap.size)
  (hK: ∀g cap w',FL w' lo (.slice (some ⟨g,0,none⟩) (n+1) cap) (fs++ [(x0,x1,x2)])→w.grownBy w' v.ownBlock→(v.ownBlock=some g∨g=w.heap.size)→g<w'.heap.size→
   K (a.put o.dst (.slice (some ⟨g,0,none⟩) (n+1) cap)) w'):
  if Region.wanted o (yielded ops a.tmps)=true then Oper.wp Tryz.prog o a w K Q else E:=by
 have hw:Region.wanted o (yielded ops a.tmps)=true:=by simp [Region.wanted,hgd]
 have hn:=unhide hn
 subst hn
 rw[if_pos hw]
 obtain ⟨i0,hi,hz0,hz1,hz2⟩:=info_parts Tryz.infoForm
 refine wp_append_lies w s x 55 ho lo 81 i0 (.agg #[.int .i64 0,.int .i64 0,.int .i64 0]) 3 24 Tryz.underlying55 hi hz0 hz1 hz2 rfl VA v fs.length _ hs hown ⟨B,0,none⟩ 1 1 ([x0,x1,x2].map (Value.int .i64)) hx rfl ?_ (by simp [Value.oneCell']) VA VK Vn hlo _ rfl ?_
 ·intro j u hu
  match j with
  |0=>simp at hu;subst hu;simpa [Addr.add] using hB0
  |1=>simp at hu;subst hu;simpa [Addr.add] using hB1
  |2=>simp at hu;subst hu;simpa [Addr.add] using hB2
  |j+3=>simp at hu
 ·intro g cap w' h1 h2 h3 h4
  refine hK g cap w' ?_ h2 h3 h4
  unfold FL FormL
  rw[flat3_append,List.length_append,List.map_append]
  exact h1
end Go.Proofs.YtobkcnmlmmhpoaaGreatDoor
namespace Go.Proofs.YtobkcnmlmmhpoaaGreatDoor
open Go.RowKit
set_option linter.unusedVariables false
set_option linter.unusedSimpArgs false
attribute [local go_sem] q2 q3 q4 q5 q6 q7 q8 q9 q10 q11 q12

def newB (fs:List (Int × Int × Int)) (k:Nat):Prop:= ∀j,j<k→gvL (fs.getD j (0,0,0))≠gvL (fs.getD k (0,0,0))
open Classical in
noncomputable def gsK (fs:List (Int × Int × Int)):Nat→Nat
 |0=>0
 |k+1=>gsK fs k+if newB fs k then 1 else 0
theorem gsK_yes {fs:List (Int × Int × Int)} {k:Nat} (h:newB fs k):gsK fs (k+1)=gsK fs k+1:=by rw[gsK,if_pos h]
theorem gsK_no {fs:List (Int × Int × Int)} {k:Nat} (h: ¬newB fs k):gsK fs (k+1)=gsK fs k:=by rw[gsK,if_neg h];rfl
theorem gsK_le (fs:List (Int × Int × Int)): ∀k,gsK fs k≤k
 |0=>Nat.le_refl _
 |k+1=>by have:=gsK_le fs k;rw [gsK];split<;>omega
theorem gsK_pos {fs:List (Int × Int × Int)} : ∀k,1≤gsK fs (k+1)
 |0=>by rw[gsK_yes (fun j h=>absurd h Vn)];omega
 |k+1=>by have:=gsK_pos (fs:=fs) k;rw [gsK];omega
noncomputable def gsN (d:Int):Nat:=gsK (rfL d) (rfL d).length
theorem new_iff {fs:List (Int × Int × Int)} (hn:fs.Nodup) {j k:Nat} (hk:k<fs.length) (hj:j<fs.length) (h1:gvL (fs.getD j (0,0,0))=gvL (fs.getD k (0,0,0))) (h2: ∀i,i<j→gvL (fs.getD i (0,0,0))≠gvL (fs.getD k (0,0,0))):fs.getD j (0,0,0)=fs.getD k (0,0,0)↔newB fs k:=by
 constructor
 ·intro e i hi
  have:j=k:=by
   simp only[List.getD_eq_getElem?_getD,List.getElem?_eq_getElem hj,List.getElem?_eq_getElem hk,Option.getD_some] at e
   rcases Nat.lt_trichotomy j k with q|q|q
   ·exact absurd e (List.pairwise_iff_getElem.1 hn j k hj hk q)
   ·exact q
   ·exact absurd e.symm (List.pairwise_iff_getElem.1 hn k j hk hj q)
  subst this
  exact h2 i hi
 ·intro h
  have h3: ¬j<k:=fun q=>h j q h1
  have h4: ¬k<j:=fun q=>h2 k q rfl
  rw[show j=k by omega]

theorem genera_a (d:Int) (w:World) (hd:negB d=true):
  Calls Tryz.prog 47 #[.int .i64 d] w (RetLen w (gsN d)):=by
 have HGW: ∀(W:World) (vs:List Int) (av:Option Addr) (cv lv:Nat),vs.length≤2002→IL W lv (.slice av vs.length cv) vs→Calls Tryz.prog 75 #[.int .i64 d,.slice av vs.length cv] W (RetFL W (gwK (rfL d) vs (rfL d).length)):=fun W vs av cv lv hle hl=>
  genusWith_a d vs av vs.length cv lv W.heap.size W hd (hide rfl) (Nat.le_refl _) hl.ints.2 Vn
 have HGW:=hide HGW
 obtain ⟨d0,d1⟩:=neg_true hd
 have HLen:=rfL_len d0 d1
 have HRF:=fun k hk=>rf_at hd (k:=k) hk
 have HND:=rf_nodup d
 have HC: ∀W,Calls Tryz.prog 42 #[.int .i64 d] W (RetFL W (rfL d)):=fun W=>reducedForms_a d W d0 d1
 have HC:=hide HC
 unfold gsN
 generalize rfL d=fs at*
 go_enter Tryz.func47,Tryz.ntmps47
 go_wp2_with (go_at_call 42;refine ((unhide HC) _).mono ?_;rintro e wA ⟨a0,c0,rfl,hlA,hbA⟩)
 have hS:FAt wA (w.heap.size+1) wA.heap.size a0 fs:=hlA.at.2.low Vs
 have hK:=forms_kept (LO:=(w.heap.size+1)) (HI:=wA.heap.size) (a:=a0) (fs:=fs)
 have hsd:SD 55 1 w (w.heap.size+1) wA.heap.size (srcF (w.heap.size+1) wA.heap.size a0 fs) wA (.slice (some ⟨w.heap.size,0,none⟩) 0 0) 0 []:=SD.startM hbA hS (Nat.le_refl _)
 obtain ⟨HI,hHI⟩: ∃HI,wA.heap.size=HI:=⟨_,rfl⟩
 rw[hHI] at hsd hK hS
 clear hlA hS
 go_loopw [3,11] (fun ls is wr=> ∃(k n9 c:Nat) (a:Option Addr) (vs:List Value),is= .int .i64 (k:Int)∧ls= .slice a n9 c∧k≤fs.length∧n9≤k∧Hid (n9=gsK fs k)∧SD 55 1 w (w.heap.size+1) HI (srcF (w.heap.size+1) HI a0 fs) wr (.slice a n9 c) n9 vs) (fun _ is _=>fs.length-(intOf is).toNat)
 case atStart=>exact ⟨0,0,0,_,[],rfl,rfl,Vn,Vn,hide rfl,hsd⟩
 case round=>
  clear hsd hbA
  obtain ⟨k,n9,c,a,vs,rfl,rfl,hk,hnk,hl,hsd⟩:=hrel
  obtain ⟨w1,rfl⟩: ∃w1:World,w1=wr:=⟨_,rfl⟩
  have hz:=hsd.bel.size
  by_cases c9:k<fs.length
  ·have hci:(k:Int)<(fs.length:Int):=by omega
   obtain ⟨g0,hg0,hg2,e0,e1,e2⟩:=FAt.cells hsd.src c9
   obtain ⟨hrc,hdi⟩:=HRF k c9
   obtain ⟨X,hX⟩: ∃X,fs.getD k (0,0,0)=X:=⟨_,rfl⟩
   rw[hX] at e0 e1 e2 hrc hdi
   obtain ⟨x,y,z⟩:=X
   simp only at e0 e1 e2 hrc hdi
   have hgl:=gvL_len (F:=(x,y,z)) d0 d1 hdi
   subst hg0
   obtain ⟨j,hj,j1,j2,j3,j4⟩:=gw_head (fs:=fs) (vs:=gvL (x,y,z)) (k:=fs.length) ⟨k,c9,by rw[hX]⟩
   have hnew:=new_iff HND c9 hj (by rw[hX];exact j1) (by rw[hX];exact j2)
   rw[hX,←j4] at hnew
   obtain ⟨gs,hgs⟩: ∃gs,gwK fs (gvL (x,y,z)) fs.length=gs:=⟨_,rfl⟩
   have hgsl:gs.length≤fs.length:=by rw[←hgs];exact gw_len _ _ _
   rw[hgs] at j3 j4 hnew
   obtain ⟨G,hG⟩: ∃G,gs.getD 0 (0,0,0)=G:=⟨_,rfl⟩
   have HW:=hide (fun W av cv lv h=>hgs▸unhide HGW W (gvL (x,y,z)) av cv lv Vn h)
   clear hgs j1 j2 j4 hX
   rw[hG] at hnew
   have HFX: ∀(W:World) (a3:Option Addr) (c3 lo3:Nat),FL W lo3 (.slice a3 gs.length c3) gs→ ∃g3,a3=some ⟨g3,0,none⟩∧g3<W.heap.size∧W.cell? ⟨g3,0,none⟩=some (.int .i64 G.1)∧W.cell? ⟨g3,1,none⟩=some (.int .i64 G.2.1)∧W.cell? ⟨g3,2,none⟩=some (.int .i64 G.2.2):=fun W a3 c3 lo3 h=>by
    obtain ⟨g3,q1,q2,q3,q4,q5⟩:=h.at.2.cells j3
    rw[hG] at q3 q4 q5
    exact ⟨g3,q1,q2,by simpa using q3,by simpa using q4,by simpa using q5⟩
   have HFX:=hide HFX
   clear hG
   obtain ⟨m,hm⟩: ∃m,gs.length=m+1:=⟨gs.length-1,Vn⟩
   by_cases cg:newB fs k
   ·obtain rfl:=hnew.2 cg
    have YES:Hid (n9+1=gsK fs (k+1)):=hide (by rw[gsK_yes cg,unhide hl])
    clear cg hnew
    go_wp2_with (first|(go_at_call 76;refine (genusValues_a x y z d _ hrc hd hdi).mono ?_;rintro e w2 ⟨a2,c2,rfl,hl2,hb2⟩;have f00:=cell_call hb2 (a:=⟨w1.heap.size,0,none⟩) (v:= .int .i64 x) Vq;have f01:=cell_call hb2 (a:=⟨w1.heap.size,1,none⟩) (v:= .int .i64 y) Vq;have f02:=cell_call hb2 (a:=⟨w1.heap.size,2,none⟩) (v:= .int .i64 z) Vq;have hs2:=(hsd.alloc hK _).call hK hb2;have hz2:=hs2.bel.size)|(go_at_call 75;refine ((unhide HW) _ _ _ _ hl2).mono ?_;rintro e w3 ⟨a3,c3,rfl,hl3,hb3⟩;have f00:=cell_call hb3 (a:=⟨w1.heap.size,0,none⟩) (v:= .int .i64 x) VV;have f01:=cell_call hb3 (a:=⟨w1.heap.size,1,none⟩) (v:= .int .i64 y) VV;have f02:=cell_call hb3 (a:=⟨w1.heap.size,2,none⟩) (v:= .int .i64 z) VV;have hs3:=hs2.call hK hb3;have hz3:=hs3.bel.size;obtain ⟨g3,rfl,hg3,q0,q1,q2⟩:=unhide HFX _ _ _ _ hl3;have q0:=q0;have q1:=q1;have q2:=q2))
    go_quiet (fail)
    have hs4:=hs3.call hK (below_drewN_self w3 nq)
    obtain ⟨w4,hw4⟩: ∃w4,w4=w3.drewN nq:=⟨_,rfl⟩
    rw[←hw4] at hs4 ⊢
    clear hw4
    go_wp2_with (at_builtin;refine app_sl _ rfl (.tmp 24) (.tmp 26) rfl w.heap.size (.slice a n9 c) n9 vs (.slice (some ⟨g3,0,none⟩) (m+1) c3) w4.heap.size rfl rfl (hs4.alloc hK _).own VB rfl Vn (by have:=hs4.bel.size;first|omega|(simp;omega)) ?_;intro g cap w5 hown hgrow hat hlt)
    go_roundw
    case rel=>
     have hs5:=(hs4.alloc hK _).app hK hown hgrow hat
     exact ⟨k+1,n9+1,cap,some ⟨g,0,none⟩,_,by go_num,rfl,Vn,Vn,YES,hs5⟩
    case measure=>simp [intOf];omega
   ·have hne: ¬G=(x,y,z):=fun e=>cg (hnew.1 e)
    have NO:Hid (n9=gsK fs (k+1)):=hide (by rw[gsK_no cg,unhide hl])
    clear cg hnew
    obtain ⟨p,q,r⟩:=G
    simp only at HFX
    have hcs: ¬p=x∨(p=x∧ ¬q=y)∨(p=x∧q=y∧ ¬r=z):=by
     by_cases e0:p=x
     ·by_cases e1:q=y
      ·by_cases e2:r=z
       ·subst e0 e1 e2;exact absurd rfl hne
       ·exact .inr (.inr ⟨e0,e1,e2⟩)
      ·exact .inr (.inl ⟨e0,e1⟩)
     ·exact .inl e0
    clear hne
    rcases hcs with n1|⟨e1,n1⟩|⟨e1,e2,n1⟩
    all_goals
     go_wp2_with (first|(go_at_call 76;refine (genusValues_a x y z d _ hrc hd hdi).mono ?_;rintro e w2 ⟨a2,c2,rfl,hl2,hb2⟩;have f00:=cell_call hb2 (a:=⟨w1.heap.size,0,none⟩) (v:= .int .i64 x) Vq;have f01:=cell_call hb2 (a:=⟨w1.heap.size,1,none⟩) (v:= .int .i64 y) Vq;have f02:=cell_call hb2 (a:=⟨w1.heap.size,2,none⟩) (v:= .int .i64 z) Vq;have hs2:=(hsd.alloc hK _).call hK hb2;have hz2:=hs2.bel.size)|(go_at_call 75;refine ((unhide HW) _ _ _ _ hl2).mono ?_;rintro e w3 ⟨a3,c3,rfl,hl3,hb3⟩;have f00:=cell_call hb3 (a:=⟨w1.heap.size,0,none⟩) (v:= .int .i64 x) VV;have f01:=cell_call hb3 (a:=⟨w1.heap.size,1,none⟩) (v:= .int .i64 y) VV;have f02:=cell_call hb3 (a:=⟨w1.heap.size,2,none⟩) (v:= .int .i64 z) VV;have hs3:=hs2.call hK hb3;have hz3:=hs3.bel.size;obtain ⟨g3,rfl,hg3,q0,q1,q2⟩:=unhide HFX _ _ _ _ hl3;have q0:=q0;have q1:=q1;have q2:=q2))
     go_quiet (fail)
     have hs4:=hs3.call hK (below_drewN_self w3 nq)
     go_wp2
     go_roundw
     case rel=>first|exact ⟨k+1,n9,c,_,vs,by first|rfl|go_num,rfl,Vn,Vn,NO,hs4⟩|((repeat apply Exists.intro);exact ⟨⟨k+1,n9,c,_,vs,by first|rfl|go_num,rfl,Vn,Vn,NO,hs4⟩,rfl⟩)
     case measure=>simp [intOf];omega
  ·obtain rfl:k=fs.length:=by omega
   have HE:=unhide hl
   clear hl
   subst HE
   go_wp2
   go_ret
   exact ⟨_,_,rfl,hsd.bel⟩
end Go.Proofs.YtobkcnmlmmhpoaaGreatDoor
