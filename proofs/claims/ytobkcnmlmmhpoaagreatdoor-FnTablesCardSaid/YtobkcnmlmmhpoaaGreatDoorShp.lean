/- ParseRow, impl., joined. big, sameInts. What the law FnTables asks of rows and ranges. The law FnTables. The last step of a law whose walk ends in a world in which nothing that was there has turned. An argument that is a slice of bytes, opened: its length, its bytes. The wrap with the world's shape. -/
import Derived.Test.YtobkcnmlmmhpoaaGreatDoorPrk
import Derived.Test.YtobkcnmlmmhpoaaGreatDoorPrj
import Derived.Test.YtobkcnmlmmhpoaaGreatDoorDsq
import Derived.Test.YtobkcnmlmmhpoaaGreatDoorFtc
import Derived.Test.YtobkcnmlmmhpoaaGreatDoorPrp
import Derived.Below
import Derived.ChangeSame
import Derived.ProofKit
import Derived.Deep.Slices
import Derived.Carry
import Derived.Handed
import Derived.RowKit
set_option maxRecDepth 100000
set_option maxHeartbeats 80000000
namespace Go.Proofs.YtobkcnmlmmhpoaaGreatDoor
open Go.RowKit
set_option linter.unusedVariables false
set_option linter.unusedSimpArgs false
attribute [local go_sem] q2 q3 q4 q5 q6 q7 q8 q9 q10 q11 q12

theorem list5 {α:Type} {l:List α} (h:l.length=5): ∃a b c d e,l= [a,b,c,d,e]:=by
 match l,h with
 | [a,b,c,d,e],_=>exact ⟨a,b,c,d,e,rfl⟩
theorem list4 {α:Type} {l:List α} (h:l.length=4): ∃a b c d,l= [a,b,c,d]:=by
 match l,h with
 | [a,b,c,d],_=>exact ⟨a,b,c,d,rfl⟩
theorem implPr_a (s:ByteArray) (hs:s.size≤1100000) {r:RowV} {n:Nat} {z:Nat→Int} {ok:Bool} (hP:PrIs s r n z ok) (w:World) (hE:Env w):
  Calls Tryz.prog 14 #[.string s] w (RetRowB w r n z ok):=by
 have hsp: ∀W,Below w.heap.size w W→Calls Tryz.prog 39 #[.string s,.string (tx [32])] W fun e w'=>e= .returned (.slice (some ⟨W.heap.size,0,none⟩) (spW s).length (spW s).length)∧SL w' W.heap.size (.slice (some ⟨W.heap.size,0,none⟩) (spW s).length (spW s).length) (spW s)∧Below W.heap.size W w':=fun W hb=>split_a s Vn W (hE.below hb)
 have hsz:=spW_sz s
 by_cases h5:(spW s).length=5
 ·obtain ⟨x0,x1,x2,x3,x4,hx⟩:=list5 h5
  rw[hx] at hsp hsz
  have z0:=hsz x0 Vs
  have z1:=hsz x1 Vs
  have z2:=hsz x2 Vs
  have z3:=hsz x3 Vs
  have z4:=hsz x4 Vs
  have g0:(spW s).getD 0 ⟨#[]⟩=x0:=by rw[hx];rfl
  have g1:(spW s).getD 1 ⟨#[]⟩=x1:=by rw[hx];rfl
  have g2:(spW s).getD 2 ⟨#[]⟩=x2:=by rw[hx];rfl
  have g3:(spW s).getD 3 ⟨#[]⟩=x3:=by rw[hx];rfl
  have g4:(spW s).getD 4 ⟨#[]⟩=x4:=by rw[hx];rfl
  have hcs:(x0++tx [32]++x1++tx [32]++x3++tx [32]++x4).size≤9000000:=by simp only[ByteArray.size_append,tx_size,List.length_cons,List.length_nil];omega
  have hii: ∀W,Below w.heap.size w W→Calls Tryz.prog 40 #[.string (x0++tx [32]++x1++tx [32]++x3++tx [32]++x4)] W (RetIL W (iiL (x0++tx [32]++x1++tx [32]++x3++tx [32]++x4))):=fun W hb=>integersIn_a _ hcs W (hE.below hb)
  have hpI: ∀(r':RowV) (n':Nat) (z':Nat→Int),rwB r' n' z'=true→tx (rwT r' n' z')=s→(iiL (x0++tx [32]++x1++tx [32]++x3++tx [32]++x4)).length=4∧prIx s=(r',zlD n' z'):=by
   intro r' n' z' h1 h2
   have:=prI_row h1
   rw[h2,g0,g1,g3,g4] at this
   exact this.2
  have hbE:=iiL_b (x0++tx [32]++x1++tx [32]++x3++tx [32]++x4)
  have hcand:prIx s=(⟨(iiL (x0++tx [32]++x1++tx [32]++x3++tx [32]++x4)).getD 0 0,(iiL (x0++tx [32]++x1++tx [32]++x3++tx [32]++x4)).getD 1 0,(iiL (x0++tx [32]++x1++tx [32]++x3++tx [32]++x4)).getD 2 0,(iiL (x0++tx [32]++x1++tx [32]++x3++tx [32]++x4)).getD 3 0⟩,if x2=tx [45] then [] else iiL x2):=by
   unfold prIx;rw [g0,g1,g2,g3,g4]
  by_cases h4:(iiL (x0++tx [32]++x1++tx [32]++x3++tx [32]++x4)).length=4
  ·obtain ⟨e0,e1,e2,e3,he⟩:=list4 h4
   rw[he] at hii hcand hbE
   obtain ⟨F,hF⟩: ∃F,(if x2=tx [45] then [] else iiL x2)=F:=⟨_,rfl⟩
   obtain ⟨R,hR⟩: ∃R:RowV,R=⟨e0,e1,e2,e3⟩:=⟨_,rfl⟩
   have hc: ∀(r':RowV) (n':Nat) (z':Nat→Int),rwB r' n' z'=true→tx (rwT r' n' z')=s→R=r'∧F=zlD n' z':=by
    intro r' n' z' h1 h2
    have h3:=(hpI r' n' z' h1 h2).2
    rw[hcand,hF] at h3
    rw[hR]
    injection h3 with h3 h4
    exact ⟨h3,h4⟩
   obtain ⟨gd,hgd⟩: ∃gd,rwB R F.length (fun i=>F.getD i 0)=gd:=⟨_,rfl⟩
   obtain ⟨te,hte⟩: ∃te,((tx (rwT R F.length (fun i=>F.getD i 0))).toList==s.toList)=te:=⟨_,rfl⟩
   obtain ⟨mi,hmi⟩: ∃mi,(x2.toList== [45])=mi:=⟨_,rfl⟩
   have hx2:mi=decide (x2=tx [45]):=by
    rw[←hmi,Lib.toList_data]
    by_cases q:x2=tx [45]
    ·rw [q,tx_list];simp
    ·have: ¬x2.data.toList= [45]:=fun e=>q (by rw[←tx_of x2,e])
     simp [q,this]
   have hFl:F.length≤2000000:=by
    rw[←hF]
    split
    ·simp
    ·have:=iiL_len x2;omega
   have hRok:RowOk R:=by
    rw[hR]
    exact ⟨hbE e0 Vs,hbE e1 Vs,hbE e2 Vs,hbE e3 Vs⟩
   refine (implPr_3 s x0 x1 x2 x3 x4 e0 e1 e2 e3 F mi gd te (tx (rwT R F.length (fun i=>F.getD i 0))) w Vn Vn Vn Vn
    (hide fun W hb=>(hsp W hb).mono fun e w' h=>⟨h.1,h.2.2,h.2.1⟩) (hide hii) hmi
    (fun h=>by rw[←hF];rw [hx2] at h;exact if_pos (of_decide_eq_true h))
    (hide fun h W hb=>by rw[←hF,if_neg (by rw[hx2] at h;exact of_decide_eq_false h)];exact integersIn_a x2 Vn W (hE.below hb))
    (hide fun W a c hA=>by rw[←hgd,hR];exact isRow_a ⟨e0,e1,e2,e3⟩ _ F.length _ W hA hFl (by rw[←hR];exact hRok))
    (hide fun h W a c hb hA=>by rw[hR];exact rowText_a ⟨e0,e1,e2,e3⟩ _ F.length _ W hA hFl (by rw[←hR];exact hRok) ((rw_all (by rw[hgd];exact h)).1) (hE.below hb).tab) hte).mono ?_
   intro e w' he
   by_cases q:(gd&&te)=true
   ·rw [if_pos q] at he
    rw[Bool.and_eq_true] at q
    have hT:tx (rwT R F.length (fun i=>F.getD i 0))=s:=by
     have:=q.2
     rw[←hte] at this
     have h9:=eq_of_beq this
     rw[Lib.toList_data,Lib.toList_data] at h9
     rw[←tx_of s,←h9,tx_list]
    obtain ⟨k1,k2,k3,k4⟩:=hP.yes (by rw[hgd];exact q.1) hT
    subst k3
    obtain ⟨a,c,h1,h2,h3⟩:=he
    rw[←k1,←k2,hR]
    exact ⟨a,c,h1,h2.congr (fun i hi=>k4 i Vn),h3⟩
   ·rw [if_neg q] at he
    have hno: ¬(rwB R F.length (fun i=>F.getD i 0)=true∧tx (rwT R F.length (fun i=>F.getD i 0))=s):=by
     rintro ⟨h1,h2⟩
     apply q
     rw[Bool.and_eq_true]
     refine ⟨by rw[←hgd];exact h1,?_⟩
     rw[←hte,h2];simp
    obtain ⟨k1,k2,k3⟩:=hP.no (cand_no hc hno)
    subst k1;subst k2;subst k3
    obtain ⟨a,c,h1,h2,h3⟩:=he
    exact ⟨a,c,h1,.inl rfl,h3⟩

  ·obtain ⟨k1,k2,k3⟩:=hP.no (fun r' n' z' h1 h2=>h4 (hpI r' n' z' h1 h2).1)
   subst k1;subst k2;subst k3
   refine (implPr_2 s x0 x1 x2 x3 x4 _ w VX Vn Vn Vn Vn (hide fun W hb=>(hsp W hb).mono fun e w' h=>⟨h.1,h.2.2,h.2.1⟩) (hide fun W hb=>(hii W hb).mono fun e w' ⟨a,c,h1,h2,h3⟩=>⟨a,c,h1,h3⟩)).mono ?_
   rintro e w' ⟨a,c,h1,h2,h3⟩
   exact ⟨a,c,h1,.inl rfl,h3⟩
 ·obtain ⟨k1,k2,k3⟩:=hP.no (fun r' n' z' h1 h2=>h5 (by have:=(prI_row h1).1;rw [h2] at this;exact this))
  subst k1;subst k2;subst k3
  refine (implPr_1 s _ w VX (hide fun W hb=>(hsp W hb).mono fun e w' h=>⟨h.1,h.2.2,trivial⟩)).mono ?_
  rintro e w' ⟨a,c,h1,h2,h3⟩
  exact ⟨a,c,h1,.inl rfl,h3⟩
end Go.Proofs.YtobkcnmlmmhpoaaGreatDoor
namespace Go.Proofs.YtobkcnmlmmhpoaaGreatDoor
open Go.RowKit
set_option linter.unusedVariables false
set_option linter.unusedSimpArgs false
attribute [local go_sem] q2 q3 q4 q5 q6 q7 q8 q9 q10 q11 q12

theorem big_a (v1 v2:Value) (n1 n2:Nat) (w:World) (h1:ArgB w v1 n1) (h2:ArgB w v2 n2) (m1:n1≤9223372036854775807) (m2:n2≤9223372036854775807):
  Calls Tryz.prog 4 #[v1,v2] w fun e w'=> ∃t:Bool,e= .returned (.bool t)∧w=w':=by
 obtain ⟨a1,c1,rfl⟩:=h1.len
 obtain ⟨a2,c2,rfl⟩:=h2.len
 by_cases q:1048576<(n1:Int)
 ·go_enter Tryz.func4,Tryz.ntmps4
  go_wp2
  go_ret
  first|exact ⟨_,rfl,rfl⟩|exact rfl|simp
 ·by_cases q2:1048576-(n1:Int)<(n2:Int)
  ·go_enter Tryz.func4,Tryz.ntmps4
   go_wp2
   go_ret
   first|exact ⟨_,rfl,rfl⟩|exact rfl|simp
  ·go_enter Tryz.func4,Tryz.ntmps4
   go_wp2
   go_ret
   first|exact ⟨_,rfl,rfl⟩|exact rfl|simp
theorem sameInts_nil (a1 a2:Option Addr) (c1 c2:Nat) (w:World):
  Calls Tryz.prog 8 #[.slice a1 0 c1,.slice a2 0 c2] w fun e w'=>e= .returned (.bool true)∧ ∃k,w'=w.drewN k:=by
 go_enter Tryz.func8,Tryz.ntmps8
 go_wp2
 refine wp_loop_rounds 1 ?_
 rw[rounds_succ]
 go_wp2
 go_ret
 exact ⟨rfl,0,rfl⟩

theorem sameInts_row (g1 g2 n c1 c2 cap1 cap2:Nat) (F1 F2:Nat→Value) (f:Nat→Int) (w:World) (hn:n≤1000000000) (h1:n≤cap1) (h2:n≤cap2)
  (r1:w.rowIs g1 3 cap1 F1) (r2:w.rowIs g2 3 cap2 F2) (e1: ∀i,i<n→F1 i= .int .i64 (f i)) (e2: ∀i,i<n→F2 i= .int .i64 (f i)):
  Calls Tryz.prog 8 #[.slice (some ⟨g1,0,none⟩) n c1,.slice (some ⟨g2,0,none⟩) n c2] w fun e w'=>e= .returned (.bool true)∧ ∃k,w'=w.drewN k:=by
 have E1:=hide e1
 have E2:=hide e2
 clear e1 e2
 go_enter Tryz.func8,Tryz.ntmps8
 go_wp2
 go_loopw [13] (fun is wr=> ∃i k:Nat,i≤n∧is= .int .i64 (i:Int)∧wr=w.drewN k) (fun is _=>n-(intOf is).toNat)
 case atStart=>exact ⟨0,0,Vn,rfl,rfl⟩
 case round=>
  obtain ⟨i,k,hi,rfl,rfl⟩:=hrel
  by_cases c:i<n
  ·have hc1:=r1.cell (i:=i) Vn
   have hc2:=r2.cell (i:=i) Vn
   rw[unhide E1 i c] at hc1
   rw[unhide E2 i c] at hc2
   have hci:(i:Int)<(n:Int):=by omega
   have hi0:(0:Int)≤(i:Int):=by omega
   go_wp2
   go_quiet (fail)
   go_wp2
   go_roundw
   case rel=>exact ⟨i+1,_,Vn,by go_num,rfl⟩
   case measure=>simp [intOf];omega
  ·go_wp2
   go_ret
   exact ⟨rfl,k,rfl⟩

theorem sameInts_any (a1 a2:Option Addr) (l1 u1 l2 u2 n c1 c2:Nat) (f:Nat→Int) (w:World) (hn:n≤1000000000) (h1:IntsAt w l1 u1 a1 n f) (h2:IntsAt w l2 u2 a2 n f):
  Calls Tryz.prog 8 #[.slice a1 n c1,.slice a2 n c2] w fun e w'=>e= .returned (.bool true)∧ ∃k,w'=w.drewN k:=by
 rcases h1 with rfl|⟨g1,k1,F1,rfl,_,_,q1,r1,e1⟩
 ·exact sameInts_nil _ _ _ _ _
 ·rcases h2 with rfl|⟨g2,k2,F2,rfl,_,_,q2,r2,e2⟩
  ·exact sameInts_nil _ _ _ _ _
  ·exact sameInts_row g1 g2 n c1 c2 k1 k2 F1 F2 f w hn q1 q2 r1 r2 e1 e2

end Go.Proofs.YtobkcnmlmmhpoaaGreatDoor
namespace Go.Proofs.YtobkcnmlmmhpoaaGreatDoor
open Go.RowKit
set_option linter.unusedVariables false
set_option linter.unusedSimpArgs false
attribute [local go_sem] q2 q3 q4 q5 q6 q7 q8 q9 q10 q11 q12

structure RowF (r:RowV) (F:List Int) (s:ByteArray):Prop where
 ok:RowOk r
 len:F.length≤700
 num: ∀W,Calls Tryz.prog 9 #[.int .i64 r.d] W fun e w'=>e= .returned (.tuple #[.int .i64 r.num,.bool true])∧Below W.heap.size W w'
 fac: ∀W,Calls Tryz.prog 10 #[.int .i64 r.d] W fun e w'=> ∃a c,e= .returned (.tuple #[.slice a F.length c,.bool true])∧IntsAt w' W.heap.size w'.heap.size a F.length (fun i=>F.getD i 0)∧Below W.heap.size W w'
 gen: ∀W,Calls Tryz.prog 11 #[.int .i64 r.d] W fun e w'=>e= .returned (.tuple #[.int .i64 r.ge,.bool true])∧Below W.heap.size W w'
 exp: ∀W,Calls Tryz.prog 12 #[.int .i64 r.d] W fun e w'=>e= .returned (.tuple #[.int .i64 r.ex,.bool true])∧Below W.heap.size W w'
 txt: ∀W v,ArgI W v F.length (fun i=>F.getD i 0)→Tab W→Calls Tryz.prog 13 #[rwv r v] W fun e w'=>e= .returned (.tuple #[.string s,.bool true])∧Below W.heap.size W w'
 prs: ∀W,Env W→Calls Tryz.prog 14 #[.string s] W (RetRowB W r F.length (fun i=>F.getD i 0) true)
 isr: ∀W v,ArgI W v F.length (fun i=>F.getD i 0)→Calls Tryz.prog 15 #[rwv r v] W fun e w'=>e= .returned (.bool true)∧Below W.heap.size W w'
theorem row_f {d:Int} (hd:negB d=true): ∃s,RowF (rowV d) (rowFL d) s:=by
 have hg:=row_good hd
 have hk:=rowOk hd
 have hl:=rowFL_len hd
 have hL:rtL (rowV d) (rowFL d).length (fun i=>(rowFL d).getD i 0)=rwT (rowV d) (rowFL d).length (fun i=>(rowFL d).getD i 0):=by unfold rtL;rw [if_pos hg]
 have hz:(tx (rwT (rowV d) (rowFL d).length (fun i=>(rowFL d).getD i 0))).size≤1100000:=by
  rw[tx_size]
  have h1:=fcS_len (z:=fun i=>(rowFL d).getD i 0) (rowFL d).length (fun i hi=>by have:=(rw_all hg).1 i hi;exact ⟨Vn,Vn⟩)
  have h2:=itoa_len hk.d
  have h3:=itoa_len hk.num
  have h4:=itoa_len hk.ge
  have h5:=itoa_len hk.ex
  unfold rwT
  simp only[List.length_append,List.length_cons,List.length_nil]
  omega
 refine ⟨_,hk,hl,fun W=>classNumber_t d W hd _ rfl,fun W=>invFactors_t d W hd _ rfl,fun W=>genusCount_t d W hd _ rfl,fun W=>groupExp_t d W hd _ rfl,fun W v h ht=> ?_,
  fun W hE=>implPr_a (tx (rwT (rowV d) (rowFL d).length (fun i=>(rowFL d).getD i 0))) hz (by unfold PrIs;rw [if_pos rfl];exact ⟨hg,rfl⟩) W hE,fun W v h=>isRow_t _ v _ _ W h Vn hk true hg⟩
 have:=implRowText (rowV d) v (rowFL d).length (fun i=>(rowFL d).getD i 0) W h Vn hk ht
 rw[hL,hg] at this
 exact this
structure TabF (x y:Int) (N:Nat) (R:Nat→RowV) (Z:Nat→List Int) (ok:Bool) (cs:List Int):Prop where
 imp: ∀W,Calls Tryz.prog 6 #[.int .i64 x,.int .i64 y] W (RetRows W N R Z ok)
 spc: ∀W,Calls Tryz.prog 7 #[.int .i64 x,.int .i64 y] W (RetRows W N R Z ok)
 n40:N≤40
 row: ∀k,k<N→ ∃s,RowF (R k) (Z k) s
 tru: ∀k,k<N→ ∃d,negB d=true∧R k=rowV d∧Z k=rowFL d
 cnt:ok=true→ ∀W,Calls Tryz.prog 17 #[.int .i64 x,.int .i64 y] W (RetInts W cs.length (fun i=>cs.getD i 0) true)
 cl:cs.length≤1000
 cb: ∀z ∈ cs,0≤z∧z≤1000000
 sm:ok=true→smI cs=(N:Int)
theorem tab_f (x y:Int): ∃N R Z ok cs,TabF x y N R Z ok cs:=by
 have hT: ∀k,k<tbN x y→negB ((dcL x y).getD k 0)=true:=fun k hk=>dcL_mem (gdm (d:=0) (by
  unfold tbN at hk
  split at hk
  ·exact hk
  ·omega))
 have hcb:(cbL x y).length≤1000∧ ∀z ∈ cbL x y,0≤z∧z≤1000000:=by
  unfold cbL
  split
  ·rename_i h
   obtain ⟨r0,r1,r2⟩:=rg_true h
   have hl:=dcL_len (lo:=x) (hi:=y) r0 r2
   obtain ⟨h1,h2⟩:=cbK_ok (dcL x y) (fun z hz=>by obtain ⟨q0,q1⟩:=neg_true (dcL_mem hz);exact rfL_len q0 q1) _ (Nat.le_refl _)
   exact ⟨Vn,fun z hz=>by have:=h2 z hz;omega⟩
  ·exact ⟨Vs,fun z hz=>by cases hz⟩
 have hrg:tbOk x y=true→rgB x y=true∧tbN x y=(dcL x y).length:=fun h=>by
  unfold tbOk at h
  unfold tbN
  rw[if_pos h]
  rw[Bool.and_eq_true] at h
  exact ⟨h.1,rfl⟩
 refine ⟨tbN x y,fun i=>rowV ((dcL x y).getD i 0),fun i=>rowFL ((dcL x y).getD i 0),tbOk x y,cbL x y,fun W=>implTb_a x y W,fun W=>specTb_a x y W,?_,fun k hk=>row_f (hT k hk),fun k hk=>⟨_,hT k hk,rfl,rfl⟩,fun h W=> ?_,hcb.1,hcb.2,fun h=> ?_⟩
 ·unfold tbN
  split
  ·rename_i h
   rw[Bool.and_eq_true,decide_eq_true_eq] at h;exact h.2
  ·omega
 ·have:=implCountByNumber_a x y W
  rw[(hrg h).1] at this
  exact this
 ·rw [(hrg h).2]
  unfold cbL
  rw[if_pos (hrg h).1]
  exact smI_cb _ _
theorem wrong_both (a:Option Addr) (n c hi:Nat) (t:Nat→TR) (w:World) (h:RowsAt w 0 hi a n t) (h9:hi≤w.heap.size) (hn:n≤41) (E: ∀i,i<n→RowOk (t i).r∧(t i).zs.length≤2000000):
  ∃m g ok,m≤100∧(∀W,Below w.heap.size w W→Calls Tryz.prog 16 #[.slice a n c] W (RetInts W m g ok))∧(∀W,Below w.heap.size w W→Calls Tryz.prog 20 #[.slice a n c] W (RetInts W m g ok)):=by
 by_cases h40:40<n
 ·exact ⟨0,fun _=>0,false,Vn,fun W _=>implWr_0 a n c W h40 Vn _,fun W _=>specWr_0 a n c W h40 Vn _⟩
 ·by_cases hx: ∃i,i<n∧wrG t i=false
  ·exact ⟨0,fun _=>0,false,Vn,fun W hb=>implWr_1 a n c 0 hi t W Vn (h.below hb h9 (Nat.le_refl _)) (Nat.le_trans h9 hb.size) E _ (hide hx),fun W hb=>specWr_1 a n c 0 hi t W Vn (h.below hb h9 (Nat.le_refl _)) (Nat.le_trans h9 hb.size) E _ (hide hx)⟩
  ·have hall: ∀i,i<n→wrG t i=true:=fun i hi=>by
    cases q:wrG t i
    ·exact absurd ⟨i,hi,q⟩ hx
    ·rfl
   have hl:(wrL t n).length≤n:=flN_len _ _ _
   exact ⟨(wrL t n).length,fun i=>(wrL t n).getD i 0,true,Vn,fun W hb=>implWr_2 a n c 0 hi t W Vn (h.below hb h9 (Nat.le_refl _)) (Nat.le_trans h9 hb.size) E hall,fun W hb=>specWr_2 a n c 0 hi t W Vn (h.below hb h9 (Nat.le_refl _)) (Nat.le_trans h9 hb.size) E hall⟩
end Go.Proofs.YtobkcnmlmmhpoaaGreatDoor
namespace Go.Proofs.YtobkcnmlmmhpoaaGreatDoor
open Go.RowKit
set_option linter.unusedVariables false
set_option linter.unusedSimpArgs false
attribute [local go_sem] q2 q3 q4 q5 q6 q7 q8 q9 q10 q11 q12
theorem lawTables (v1 v2:Value) (n1 n2:Nat) (w:World) (h1:ArgB w v1 n1) (h2:ArgB w v2 n2) (m1:n1≤9223372036854775807) (m2:n2≤9223372036854775807) (hE:Env w):
  Calls Tryz.prog 3 #[v1,v2] w fun e w'=>e= .returned (.bool true)∧Below w.heap.size w w':=by
 have HA1:=hide h1
 have HA2:=hide h2
 have HE:=hide hE
 clear h1 h2 hE
 go_enter Tryz.func3,Tryz.ntmps3
 go_wp2_with fail
 refine (big_a v1 v2 n1 n2 w (unhide HA1) (unhide HA2) m1 m2).mono ?_
 rintro e0 w0 ⟨t0,rfl,rfl⟩
 cases t0
 ·go_wp2_with fail
  refine (drawTb_a v1 n1 w (unhide HA1)).mono ?_
  rintro e1 w1 ⟨x,y,rfl,b1⟩
  have G1:=hide b1
  obtain ⟨N,R,Z,ok,cs,hT⟩:=tab_f x y
  have HT:=hide hT
  have hN:=hT.n40
  have HRW:=hide hT.row
  have HIM:=hide hT.imp
  have HSP:=hide hT.spc
  clear b1 HA1 hT
  go_wp2_with fail
  refine ((unhide HIM) _).mono ?_
  rintro e2 w2 ⟨a0,c0,t1,rfl,r1,E1,b2⟩
  have G2:=hide ((unhide G1).trans (b2.mono (unhide G1).size))
  go_wp2_with fail
  refine ((unhide HSP) _).mono ?_
  rintro e3 w3 ⟨b0,d0,t2,rfl,r2,E2,b3⟩
  have G3:=hide ((unhide G2).trans (b3.mono (unhide G2).size))
  have hs3:=b3.size
  have HR1:=hide ((r1.below b3 (Nat.le_refl _) (Nat.le_refl _)).weak (lo':=0) hs3)
  have HR2:=hide (r2.weak (lo':=0) (Nat.le_refl _))
  have HE1:=hide E1
  have HE2:=hide E2
  have hok:(ok != ok)=false:=by cases ok<;>rfl
  have hnn:((N:Int) != (N:Int))=false:=by simp
  clear r1 r2 E1 E2 b2 b3 HIM HSP G1 G2 hs3
  go_wp2
  go_loopw [67] (fun is wr=> ∃k:Nat,k≤N∧is= .int .i64 (k:Int)∧Below w3.heap.size w3 wr) (fun is _=>N-(intOf is).toNat)
  case atStart=>exact ⟨0,Vn,rfl,Below.refl _ _⟩
  case round=>
   obtain ⟨k,hk,rfl,hbk⟩:=hrel
   obtain ⟨wl,rfl⟩: ∃wl:World,wl=wr:=⟨_,rfl⟩
   by_cases c9:k<N
   ·have hci:(k:Int)<(N:Int):=by omega
    have K1:=(unhide HR1).below hbk (Nat.le_refl _) (Nat.le_refl _)
    have K2:=(unhide HR2).below hbk (Nat.le_refl _) (Nat.le_refl _)
    obtain ⟨g1,rfl⟩:=K1.some c9
    obtain ⟨g2,rfl⟩:=K2.some c9
    obtain ⟨⟨x0,x1,x2,x3,x4⟩,gb1,-⟩:=K1.ent c9
    obtain ⟨⟨y0,y1,y2,y3,y4⟩,gb2,-⟩:=K2.ent c9
    have i1:=K1.inn k c9
    have i2:=K2.inn k c9
    have u1:=K1.top k c9
    have u2:=K2.top k c9
    unfold TR.ints at i1 i2
    obtain ⟨e1,e2⟩:=unhide HE1 k c9
    obtain ⟨e3,e4⟩:=unhide HE2 k c9
    obtain ⟨s,hF⟩:=unhide HRW k c9
    rw[e1] at x0 x1 x3 x4
    rw[e2] at x2
    rw[e2] at i1
    rw[e3] at y0 y1 y3 y4
    rw[e4] at y2
    rw[e4] at i2
    have hzl:=hbk.size
    clear K1 K2 e1 e2 e3 e4
    generalize R k=r at*
    generalize Z k=F at*
    generalize (t1 k).a=a1 at*
    generalize (t1 k).c=c1 at*
    generalize (t2 k).a=a2 at*
    generalize (t2 k).c=c2 at*
    generalize (t1 k).lo=lo1 at*
    generalize (t1 k).hi=hi1 at*
    generalize (t2 k).lo=lo2 at*
    generalize (t2 k).hi=hi2 at*
    have hl:=hF.len
    have HF:=hide hF
    have EW:=hide (show Env wl from (unhide HE).below ((unhide G3).trans (hbk.mono (unhide G3).size)))
    have HI1:=hide (fun (W:World) (hb:Below wl.heap.size wl W)=>(⟨i1.below hb Vn,by have:=hb.size;omega⟩:IntsAt W lo1 hi1 a1 F.length (fun i=>F.getD i 0)∧hi1≤W.heap.size))
    have HS:=hide (fun (W:World) (hb:Below wl.heap.size wl W)=>sameInts_any a1 a2 _ _ _ _ F.length c1 c2 (fun i=>F.getD i 0) W Vn (i1.below hb Vn) (i2.below hb Vn))
    clear i1 i2 u1 u2 hF
    have P4:=hide ((WR.new wl r (.slice a1 F.length c1)).al (.cells #[.int .i64 r.d,.int .i64 r.num,.slice a2 F.length c2,.int .i64 r.ge,.int .i64 r.ex] 31))
    have Q4:=hide (WR.new (wl.alloc (.cells #[.int .i64 r.d,.int .i64 r.num,.slice a1 F.length c1,.int .i64 r.ge,.int .i64 r.ex] 31)) r (.slice a2 F.length c2))
    go_upto_region 12 with fail
    have G4:=hide (below_drewN (B:=wl.heap.size) (show Below wl.heap.size wl ((wl.alloc (.cells #[.int .i64 r.d,.int .i64 r.num,.slice a1 F.length c1,.int .i64 r.ge,.int .i64 r.ex] 31)).alloc (.cells #[.int .i64 r.d,.int .i64 r.num,.slice a2 F.length c2,.int .i64 r.ge,.int .i64 r.ex] 31)) from byGG))
    obtain ⟨p0,p1,p2,p3,p4,fp0,fp1,fp2,fp3,fp4,zp⟩:=unhide P4
    obtain ⟨q0,q1,q2,q3,q4,fq0,fq1,fq2,fq3,fq4,zq⟩:=unhide Q4
    simp only[World.size_alloc] at q0 q1 q2 q3 q4 fq0 fq1 fq2 fq3 fq4 zq
    go_wp2_with (go_at_call 8;refine ((unhide HS) _ byGG).mono ?_;rintro e w' ⟨rfl,nq,rfl⟩)
    refine ((unhide HF).num _).mono ?_
    rintro e5 w5 ⟨rfl,b5⟩
    have P5:=hide (((unhide P4).c (below_drewN (Below.refl _ _) nq)).c b5)
    have G5:=hide ((unhide G4 nq).trans (b5.mono (unhide G4 nq).size))
    clear p0 p1 p2 p3 p4 fp0 fp1 fp2 fp3 fp4 zp
    clear q0 q1 q2 q3 q4 fq0 fq1 fq2 fq3 fq4 zq
    clear P4 Q4 G4 HS b5
    obtain ⟨c0,c1,c2,c3,c4,fc0,fc1,fc2,fc3,fc4,zc⟩:=unhide P5
    go_wp2_with fail
    refine ((unhide HF).fac _).mono ?_
    rintro e6 w6 ⟨a6,c6,rfl,i6,b6⟩
    have P6:=hide ((unhide P5).c b6)
    have G6:=hide ((unhide G5).trans (b6.mono (unhide G5).size))
    clear c0 c1 c2 c3 c4 fc0 fc1 fc2 fc3 fc4 zc
    have I6:=hide (fun (W:World) (hb:Below w6.heap.size w6 W)=>i6.below hb (Nat.le_refl _))
    clear i6 b6 P5 G5
    obtain ⟨c0,c1,c2,c3,c4,fc0,fc1,fc2,fc3,fc4,zc⟩:=unhide P6
    go_wp2_with fail
    refine ((unhide HF).gen _).mono ?_
    rintro e7 w7 ⟨rfl,b7⟩
    have P7:=hide ((unhide P6).c b7)
    have G7:=hide ((unhide G6).trans (b7.mono (unhide G6).size))
    clear c0 c1 c2 c3 c4 fc0 fc1 fc2 fc3 fc4 zc
    have J7:=b7
    clear P6
    obtain ⟨c0,c1,c2,c3,c4,fc0,fc1,fc2,fc3,fc4,zc⟩:=unhide P7
    go_wp2_with fail
    refine ((unhide HF).exp _).mono ?_
    rintro e8 w8 ⟨rfl,b8⟩
    have P8:=hide ((unhide P7).c b8)
    have G8:=hide ((unhide G7).trans (b8.mono (unhide G7).size))
    clear c0 c1 c2 c3 c4 fc0 fc1 fc2 fc3 fc4 zc
    have hI8:=unhide HI1 w8 (unhide G8)
    have hE8:=(unhide EW).below (unhide G8)
    obtain ⟨c0,c1,c2,c3,c4,fc0,fc1,fc2,fc3,fc4,zc⟩:=unhide P8
    go_wp2_with fail
    refine ((unhide HF).txt _ _ (IntsAt.argI hI8.1 hI8.2) hE8.tab).mono ?_
    rintro e9 w9 ⟨rfl,b9⟩
    have P9:=hide ((unhide P8).c b9)
    have G9:=hide ((unhide G8).trans (b9.mono (unhide G8).size))
    clear c0 c1 c2 c3 c4 fc0 fc1 fc2 fc3 fc4 zc
    have hE9:=(unhide EW).below (unhide G9)
    obtain ⟨c0,c1,c2,c3,c4,fc0,fc1,fc2,fc3,fc4,zc⟩:=unhide P9
    go_wp2_with fail
    refine ((unhide HF).prs _ hE9).mono ?_
    rintro e10 w10 ⟨a10,c10,rfl,i10,b10⟩
    have P10:=hide ((unhide P9).c b10)
    have G10:=hide ((unhide G9).trans (b10.mono (unhide G9).size))
    clear c0 c1 c2 c3 c4 fc0 fc1 fc2 fc3 fc4 zc
    have hb6:Below w6.heap.size w6 w10:=(((b7.trans (b8.mono b7.size)).trans (b9.mono (Nat.le_trans b7.size b8.size))).trans (b10.mono (Nat.le_trans (Nat.le_trans b7.size b8.size) b9.size)))
    have I10:=unhide I6 w10 hb6
    have hs6:=hb6.size
    clear I6 J7 b7 b8 b9 b10 hb6 P7 P8 P9 G6 G7 G8 G9 hI8 hE8 hE9
    have hI:=unhide HI1 w10 (unhide G10)
    have HS1:=hide (fun (W:World) (hb:Below w10.heap.size w10 W)=>sameInts_any a6 a1 _ _ _ _ F.length c6 c1 (fun i=>F.getD i 0) W (by have:=(unhide HF).len;omega) (I10.below hb hs6) (hI.1.below hb hI.2))
    have HS2:=hide (fun (W:World) (hb:Below w10.heap.size w10 W)=>sameInts_any a10 a1 _ _ _ _ F.length c10 c1 (fun i=>F.getD i 0) W (by have:=(unhide HF).len;omega) (i10.below hb (Nat.le_refl _)) (hI.1.below hb hI.2))
    have HIR:=hide (fun (W:World) (hb:Below w10.heap.size w10 W)=>(unhide HF).isr W (.slice a1 F.length c1) (IntsAt.argI (hI.1.below hb hI.2) (Nat.le_trans hI.2 hb.size)))
    clear I10 i10 hI HF EW HI1 hs6
    have Q10:=hide (WR.new w10 r (.slice a10 F.length c10))
    have z10:=(unhide P10).z
    obtain ⟨p0,p1,p2,p3,p4,fp0,fp1,fp2,fp3,fp4,zp⟩:=unhide P10
    obtain ⟨q0,q1,q2,q3,q4,fq0,fq1,fq2,fq3,fq4,zq⟩:=unhide Q10
    go_wp2_with fail
    refine ((unhide HS1) _ byGG).mono ?_
    rintro e w' ⟨rfl,nq,rfl⟩
    go_wp2_with fail
    refine ((unhide HS2) _ byGG).mono ?_
    rintro e w' ⟨rfl,nq2,rfl⟩
    go_wp2_with fail
    refine ((unhide HIR) _ byGG).mono ?_
    rintro e w11 ⟨rfl,b11⟩
    have hg11:Below w10.heap.size w10 w11:=byGG
    clear b11
    clear p0 p1 p2 p3 p4 fp0 fp1 fp2 fp3 fp4 zp
    clear q0 q1 q2 q3 q4 fq0 fq1 fq2 fq3 fq4 zq
    go_wp2
    go_roundw
    case rel=>exact ⟨k+1,Vn,by first|rfl|go_num,hbk.trans (((unhide G10).trans (hg11.mono (unhide G10).size)).mono hzl)⟩
    case measure=>simp [intOf];omega
   ·obtain rfl:k=N:=by omega
    have G4:=hide ((unhide G3).trans (hbk.mono (unhide G3).size))
    have hz3:=hbk.size
    clear HRW HR2 HE2 hok c9
    go_upto_if 212 with fail
    go_cut [] (fun wx=>Hid (Below w.heap.size w wx))
    case first=>as_aux_lemma=>
     cases ok
     ·go_wp2
      go_meet
      exact G4
     ·have hT:=unhide HT
      have K1:=(unhide HR1).below hbk (Nat.le_refl _) (Nat.le_refl _)
      have hw:wrL t1 k= []:=wr_true fun i hi=>by
       obtain ⟨d,hd,q1,q2⟩:=hT.tru i hi
       obtain ⟨q3,q4⟩:=unhide HE1 i hi
       exact ⟨d,q3.trans q1,q4.trans q2⟩
      have hE: ∀i,i<k→RowOk (t1 i).r∧(t1 i).zs.length≤2000000:=fun i hi=>by
       obtain ⟨s,hF⟩:=hT.row i hi
       obtain ⟨q3,q4⟩:=unhide HE1 i hi
       rw[q3,q4]
       exact ⟨hF.ok,by have:=hF.len;omega⟩
      have hX: ∀i,i<k→wrG t1 i=true:=fun i hi=>by
       obtain ⟨d,hd,q1,q2⟩:=hT.tru i hi
       obtain ⟨q3,q4⟩:=unhide HE1 i hi
       unfold wrG
       rw[q3,q4,q1,q2]
       exact row_good hd
      have hW:=implWr_2 a0 k c0 0 w3.heap.size t1 wl hN K1 hz3 hE hX
      rw[hw] at hW
      have HW:=hide hW
      have HC:=hide (hT.cnt rfl)
      have HQ:=hide (fun (W:World) (a:Option Addr) (c lo hi:Nat) (h:IntsAt W lo hi a cs.length (fun i=>cs.getD i 0))=>qSum_t cs a cs.length c lo hi W rfl h hT.cl hT.cb (k:Int) (hT.sm rfl))
      have hcl:=hT.cl
      clear hT hW hE hX K1 hw HT HE1 HR1 G3
      generalize cs.length=cn at*
      go_wp2_with fail
      refine (unhide HW).mono ?_
      rintro e5 w5 ⟨a5,c5,rfl,-,b5⟩
      go_wp2_with fail
      refine ((unhide HC) _).mono ?_
      rintro e6 w6 ⟨a6,c6,rfl,i6,b6⟩
      go_wp2_with fail
      refine ((unhide HQ) _ _ c6 _ _ i6).mono ?_
      rintro e7 w7 ⟨rfl,q7,rfl⟩
      go_wp2
      go_meet
      exact hide (below_drewN (((unhide G4).trans (b5.mono (unhide G4).size)).trans (b6.mono (Nat.le_trans (unhide G4).size b5.size))) q7)
    clear HT HE1 HR1 G3 G4
    obtain ⟨w7,rfl⟩: ∃w7:World,w7=wc:=⟨_,rfl⟩
    have G7:=hcut
    go_wp2_with fail
    refine (drawWr_a v2 n2 _ ((unhide HA2).below (unhide G7))).mono ?_
    rintro e8 w8 ⟨a8,n8,c8,t8,rfl,hn8,hr8,E8,b8⟩
    obtain ⟨m,g,okw,hm,H1,H2⟩:=wrong_both a8 n8 c8 w8.heap.size t8 w8 hr8 (Nat.le_refl _) hn8 E8
    have H1:=hide H1
    have H2:=hide H2
    have hkk:(okw==okw)=true:=by simp
    clear hr8 E8
    go_wp2_with fail
    refine ((unhide H1) _ (Below.refl _ _)).mono ?_
    rintro e9 w9 ⟨a9,c9,rfl,i9,b9⟩
    go_wp2_with fail
    refine ((unhide H2) _ b9).mono ?_
    rintro e10 w10 ⟨a10,c10,rfl,i10,b10⟩
    have I9:=hide (i9.below b10 (Nat.le_refl _))
    have I10:=hide i10
    have GE:Below w.heap.size w w10:=(((unhide G7).trans (b8.mono (unhide G7).size)).trans (b9.mono (Nat.le_trans (unhide G7).size b8.size))).trans (b10.mono (Nat.le_trans (Nat.le_trans (unhide G7).size b8.size) b9.size))
    clear i9 i10 b8 b9 b10
    go_wp2_with fail
    refine (sameInts_any a9 a10 _ _ _ _ m c9 c10 g _ Vn (unhide I9) (unhide I10)).mono ?_
    rintro e11 w11 ⟨rfl,q11,rfl⟩
    go_wp2
    go_ret
    exact ⟨rfl,below_drewN GE q11⟩

 ·go_wp2
  go_ret
  exact ⟨rfl,byGG⟩
end Go.Proofs.YtobkcnmlmmhpoaaGreatDoor
namespace Go.Proofs.YtobkcnmlmmhpoaaGreatDoor
open Go.RowKit Go.WideShapes Go.ChangeShapes
set_option linter.unusedVariables false

theorem post_of_below {H:Type} {enc:TypeId × Value→H} {P:Program} {f:Func} {s:ChangeSpec} {apart fresh handsOn again:Bool} {W W':World} {args:Array Value} {v:Value} {ds gs:List (DataW H)} {before pa pv:List MemPlace}
  (hW:DataW.Whole enc P f.params.toList s.vars apart W args.toList ds gs before)
  (hres: ∀(b:Nat) (sp:Nat→Bool) (hd:Bool),DataW.TrodAll enc P W' b sp hd f.resultTypes.toList (v.resultList f.resultTypes.size) (s.fn H (ds++gs)).results [])
  (hargs: ∀sp:Nat→Bool,(∀p ∈ before,sp p.block=true)→DataW.TrodAll enc P W' 0 sp true f.params.toList args.toList (s.fn H (ds++gs)).args pa)
  (hvars: ∀sp:Nat→Bool,(∀p ∈ before,sp p.block=true)→DataW.TrodVars enc P W' sp s.vars (s.fn H (ds++gs)).vars pv)
  (hps:before=pa++pv) (hb:Below W.heap.size W W')
  (hok: ∀(j:Nat) (t:TypeId) (r:Value),f.resultTypes[j]? =some t→(v.resultList f.resultTypes.size)[j]? =some r→Value.okWide P W' .any 0 t r):
  s.post enc P f apart fresh handsOn again W args v W':=by
 have hlt: ∀p ∈ before,p.block<W.heap.size:=fun p hp=>hW.lt p hp
 have hold: ∀p ∈ before,(fun b=>decide (b<W.heap.size)) p.block=true:=fun p hp=>by simpa using hlt p hp
 refine ⟨ds,gs,before,[],pa,pv,hW,hres _ _ _,hargs _ hold,hvars _ hold,World.keptBut_mono (fun p hp=>⟨hp,?_⟩) (hb.frame (· ∈ before)),fun _=> ?_⟩
 ·rw [hps,List.mem_append] at hp
  exact Or.inr hp
 ·obtain ⟨_,_,_,_,_,hz,hn⟩:=hW
  refine ⟨hok,_,_,([]++pa)++pv,⟨[]++pa,pv,trodAll_append (hargs _ (fun _ _=>rfl)) (hres _ _ _),hvars _ (fun _ _=>rfl),rfl,?_,?_⟩,?_⟩
  ·intro b off hp
   have hin:MemPlace.cell b off ∈ before:=by rw[hps];simpa using hp
   rw[hb.frozen (hlt _ hin)]
   exact hz b off hin
  ·intro ha
   have:=hn ha
   rw[hps] at this
   simpa using this
  ·intro p hp _
   rw[hps]
   simpa using hp
end Go.Proofs.YtobkcnmlmmhpoaaGreatDoor
namespace Go.Proofs.YtobkcnmlmmhpoaaGreatDoor
open Go.RowKit Go.WideShapes Go.ChangeShapes Go.Deep
set_option linter.unusedVariables false
set_option linter.unusedSimpArgs false

theorem Tryz.cellsU8:Tryz.prog.cellsOf 5=1:=by kernel_rfl
theorem addr_addB {b off k:Nat} :(⟨b,off,none⟩:Addr).add k=⟨b,off+k,none⟩:=by unfold Addr.add;split<;>simp_all
theorem cell_spotB {w:World} {a:Addr} {v:Value} (h:w.cell? a=some v):a.spot=none:=by
 unfold World.cell? at h
 split at h
 ·split at h
  ·cases h
  ·rename_i hs;cases hx:a.spot with
   |none=>rfl
   |some _=>rw[hx] at hs;simp at hs
 ·cases h
section
variable {H:Type} {enc:TypeId × Value→H} {w:World} {base:Nat} {spare:Nat→Bool} {held:Bool}
theorem open_bytes {fuel:Nat} {cs:List Value} {x:DataW H × List MemPlace} (h:DataW.trod enc Tryz.prog w base spare held fuel 22 cs=some x):
  ∃(v:Value) (n:Nat),cs= [v]∧ArgB w v n∧n≤maxLen:=by
 rcases open_slice Tryz.underlying22 h with ⟨hcs,_⟩|⟨a,len,cap,m,n,D,Pl,hcs,hb,hl,hm,hmm,hx,hi⟩
 ·exact ⟨_,0,hcs,.inl ⟨none,0,rfl,rfl⟩,Nat.zero_le _⟩
 ·have hlm:len≤m:=by rw[hmm];split<;>omega
  have one: ∀i,i<len→ ∃X:Int,w.cell? (a.add i)=some (.int .u8 X)∧0≤X∧X≤255:=by
   intro i q
   obtain ⟨cs',hc,ht⟩:=hi i Vn
   rw[Tryz.cellsU8,Nat.mul_one] at hc
   obtain ⟨hl1,_,hat⟩:=World.cells?_some hc
   match cs',hl1 with
   | [c0],_=>
    obtain ⟨n0,e0,_,w0⟩:=DataW.trod_int Tryz.underlying5 ht
    cases e0
    have a0:=hat 0 Vn
    rw[Go.Deep.add_add] at a0
    refine ⟨n0,a0,?_⟩
    simp only[Lit.wf,Bool.and_eq_true,decide_eq_true_eq] at w0
    exact ⟨w0.1,w0.2⟩
  refine ⟨_,len,hcs,?_,Nat.le_trans hl hm⟩
  by_cases q:len=0
  ·exact .inl ⟨some a,cap,rfl,q⟩
  ·obtain ⟨X0,h0,_⟩:=one 0 Vn
   have hs:a.spot=none:=cell_spotB (a:=a) (by simpa [Addr.add] using h0)
   obtain ⟨b,off,sp⟩:=a
   have hs2:sp=none:=hs
   subst hs2
   refine .inr ⟨b,off,cap,rfl,World.block_lt_of_cell? _ _ h0,fun i hi=> ?_⟩
   obtain ⟨X,h1,h2⟩:=one i hi
   rw[addr_addB] at h1
   exact ⟨X,h1,h2⟩
end
end Go.Proofs.YtobkcnmlmmhpoaaGreatDoor
namespace Go.Proofs.YtobkcnmlmmhpoaaGreatDoor
open Go.RowKit
set_option linter.unusedVariables false
set_option linter.unusedSimpArgs false

theorem rih_shaped {H:Type} {enc:TypeId × Value→H} {a:Assume} {C:Checked} {os:Os} {f:FuncId} {fn:Func} {s:ChangeSpec} {conds:List PathCond} {apart fresh handsOn again:Bool} {X:World→Array Value→Prop}
  (hX: ∀(w w':World) (args:Array Value),w.heap=w'.heap→X w args→X w' args)
  (own:ownKnob C.prog.godebug=none) (started:os.Started) (noInit:C.prog.inits.idxOf? f=none) (hfn:C.prog.funcs[f]? =some fn)
  (witness: ∃(w:World) (tape:Tape) (i:Input),w.os=os∧(w.forCall tape i).Shaped C.prog∧i.vars= []∧Input.okWide C.prog (w.forCall tape i) .any w.heap.size f i∧
   ((s.pre enc C.prog fn conds apart (w.forCall tape i).memory i.args∧X (w.forCall tape i).memory i.args)∧sizedMet enc C.prog fn (OpenSpec.ofChange s) apart (w.forCall tape i).memory i.args)∧a.holds C.prog (lone (Frame.enter C.prog f i.args .normal) [] (w.forCall tape i)))
  (contract: ∀(W:World) (base:Nat) (args:Array Value) (ds gs:List (DataW H)) (before:List MemPlace),
   (∀(j:Nat) t v,fn.params[j]? =some t→args[j]? =some v→Value.okWide C.prog W .any base t v)→
   DataW.Whole enc C.prog fn.params.toList s.vars apart W args.toList ds gs before→X W args→W.ShapedOpen C.prog→
   Calls C.prog f args W fun e W'=> ∃v,e= .returned v∧s.post enc C.prog fn apart fresh handsOn again W args v W'):
  ReturnsInHanded a C os f .any (fun w args=>(s.pre enc C.prog fn conds apart w args∧X w args)∧sizedMet enc C.prog fn (OpenSpec.ofChange s) apart w args) (s.post enc C.prog fn apart fresh handsOn again):=by
 refine returnsInHanded_of_calls own started noInit witness ?_
 intro w tape i _ hsh _ hok hpre hholds
 obtain ⟨_,_,_,fn',hfn',_,_,_,_,hval⟩:=hok
 have e:fn'=fn:=Option.some.inj (hfn'.symm.trans hfn)
 subst e
 obtain ⟨⟨⟨ds,gs,before,hw,hc⟩,hx⟩,hz⟩:=hpre
 have hw':=DataW.Whole.of_heap (w':=w.forCall tape i) VH hw
 refine (contract (w.forCall tape i) w.heap.size i.args ds gs before hval hw' (hX _ _ _ VH hx) hsh).mono fun e W' ⟨v,he,hp⟩=> ?_
 subst he
 exact ChangeSpec.post_blind hp
end Go.Proofs.YtobkcnmlmmhpoaaGreatDoor
