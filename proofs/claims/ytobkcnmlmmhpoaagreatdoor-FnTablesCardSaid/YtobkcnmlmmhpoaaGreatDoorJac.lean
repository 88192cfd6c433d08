/- l1Put at the end of an increasing list; nuPrimes. Lists of characters. The Jacobi symbol, the program's side. -/
import Derived.Test.YtobkcnmlmmhpoaaGreatDoorFap
import Derived.Test.YtobkcnmlmmhpoaaGreatDoorOwn
import Derived.Maps.AppendAt
import Derived.Test.YtobkcnmlmmhpoaaGreatDoorConv
import Derived.Test.YtobkcnmlmmhpoaaGreatDoorNum
set_option maxRecDepth 100000
set_option maxHeartbeats 80000000
namespace Go.Proofs.YtobkcnmlmmhpoaaGreatDoor
open Go.RowKit
set_option linter.unusedVariables false
set_option linter.unusedSimpArgs false
attribute [local go_sem] q2 q3 q4 q5 q6 q7 q8 q9 q10 q11 q12

theorem nI_get2 {L:List Nat} {i:Nat} (h:i<L.length):(nI L).getD i 0=((L[i]:Nat):Int):=by rw[nI_get h,List.getD_eq_getElem?_getD,List.getElem?_eq_getElem h];rfl
theorem dd_lt {l:List Nat} {p:Nat} (h:(l++ [p]).Pairwise (· < ·)): ∀i,i<l.length→(nI l).getD i 0<(p:Int):=fun i hi=>by
 have:=(List.pairwise_append.1 h).2.2 _ (List.getElem_mem hi) p Vs
 rw[nI_get2 hi];exact_mod_cast this
theorem dd_lt2 {l:List Nat} {q:Nat} (h:l.Pairwise (· < ·)) (hq:q<l.length): ∀i,i<q→(nI l).getD i 0<(nI l).getD q 0:=fun i hi=>by
 have:=List.pairwise_iff_getElem.1 h i q Vn hq hi
 rw[nI_get2 Vn,nI_get2 hq];exact_mod_cast this
theorem ints_one (zs:List Int): ∀u ∈ zs.map (Value.int .i64),u.oneCell'=true:=by
 intro u hu
 rw[List.mem_map] at hu
 obtain ⟨x,_,rfl⟩:=hu
 rfl
theorem app_intsN (w:World) {ops:Array Oper} {rest:List Oper} {o:Oper} {a:Act} {Q:Exit→Act→World→Prop} (hgd:o.guard=none) (s x:Operand)
  (ho:o.op= .call { callee:= .builtin .append,args:= #[s,x],argTypes:= #[29,29] })
  (lo:Nat) (v:Value) (zs news:List Int) (ad:Addr) (nn c:Nat) (hnn:news.length=nn) (hs:a.eval s=v) (hx:a.eval x= .slice (some ad) nn c)
  (hown:IL w lo v zs) (hnews: ∀j,j<nn→w.cell? (ad.add j)=some (.int .i64 (news.getD j 0))) (hlen:zs.length+nn≤1000000000) (hlo:lo≤w.heap.size)
  (h: ∀v' w',IL w' lo v' (zs++news)→w.grownBy w' v.ownBlock→(v'.ownBlock=v.ownBlock∨v'.ownBlock=some w.heap.size)→
   wpList Tryz.prog ops Q rest (a.put o.dst v') w'):wpList Tryz.prog ops Q (o :: rest) a w:=by
 obtain ⟨i0,hi,hz0,hz1,hz2⟩:=info_parts Tryz.infoInt'
 refine wpList_append_own_at w hgd s x 29 ho lo 3 i0 (.int .i64 0) 1 8 Tryz.underlying29 hi hz0 hz1 hz2 rfl VA v zs.length _ hs hown ad nn c (news.map (Value.int .i64)) hx (by simp [hnn]) (fun j u hu=> ?_) (ints_one _) VK Vn hlo ?_
 ·rw [List.getElem?_map] at hu
  by_cases hj:j<news.length
  ·rw [List.getElem?_eq_getElem hj] at hu
   simp at hu
   subst hu
   rw[hnews j Vn,List.getD_eq_getElem?_getD,List.getElem?_eq_getElem hj];rfl
  ·rw [List.getElem?_eq_none Vn] at hu;cases hu
 ·intro v' w' h2 h3 _ h5
  refine h v' w' ?_ h3 h5
  unfold IL
  rw[List.map_append,List.length_append,hnn]
  exact h2
theorem IL.own {w:World} {lo k:Nat} {v:Value} {zs:List Int} (h:IL w lo v zs) (hk:v.ownBlock=some k): ∃cap,v= .slice (some ⟨k,0,none⟩) zs.length cap∧zs.length≤cap:=by
 rcases h.2 with ⟨h1,h2⟩|⟨g,cap,cur,h1,h2,h3,h4,h5⟩
 ·rw [h1] at hk;cases hk
 ·rw [h1] at hk;cases hk;exact ⟨cap,h1,h4⟩
theorem add_at (g j k:Nat):(⟨g,k,none⟩:Addr).add j=⟨g,k+j,none⟩:=by unfold Addr.add;split<;>simp_all
def RetPut (w:World) (l:List Int) (e:Ending) (w':World):Prop:= ∃g cap,e= .returned (.slice (some ⟨g,0,none⟩) l.length cap)∧l.length≤cap∧IL w' w.heap.size (.slice (some ⟨g,0,none⟩) l.length cap) l∧Below w.heap.size w w'
theorem l1Put_nil (p:Int) (w:World):Calls Tryz.prog 132 #[.slice none 0 0,.int .i64 p] w (RetPut w [p]):=by
 go_enter Tryz.func132,Tryz.ntmps132
 go_wp2
 refine wp_loop_rounds 1 ?_
 rw[rounds_succ]
 obtain ⟨i0,hi,hz0,hz1,hz2⟩:=info_parts Tryz.infoInt'
 go_wp2_with (first|(at_builtin;refine wpList_append_own_none rfl (.tmp 34) (.tmp 37) 29 rfl w.heap.size 3 i0 1 Tryz.underlying29 hi (.slice (some ⟨w.heap.size,0,none⟩) 0 0) 0 [] rfl (IL.made w _ (Nat.le_refl _)) rfl ?_)|(at_builtin;refine app_intsN _ rfl (.tmp 39) (.tmp 41) rfl w.heap.size (.slice (some ⟨w.heap.size,0,none⟩) 0 0) [] [p] ⟨w.heap.size+1,0,none⟩ 1 1 rfl rfl rfl ((IL.made w _ (Nat.le_refl _)).alloc _) (fun j hj=>by obtain rfl:j=0:=Vn;rw [add_at];go_simp) Vs VX ?_;intro v1 w2 hown1 hgrow1 hat1;obtain ⟨k1,hk1⟩: ∃k,v1.ownBlock=some k:=(by rcases hat1 with e|e<;>exact ⟨_,e⟩);obtain ⟨c1,rfl,hc1⟩:=hown1.own hk1)|(at_builtin;refine wpList_append_own_none rfl (.tmp 43) (.tmp 46) 29 rfl w.heap.size 3 i0 1 Tryz.underlying29 hi _ _ _ rfl hown1 rfl ?_))
 go_ret
 exact ⟨k1,c1,rfl,hc1,hown1,((Below.refl _ _).alloc (Nat.le_refl _) _ |>.alloc Vs _).grown hgrow1 VX (fun k hk=>by cases hk;exact Nat.le_refl _)⟩
theorem l1Put_new (g n c:Nat) (l:List Int) (p:Int) (w:World) (hl:Hid (n=l.length)) (hr: ∀i,i<n→w.cell? ⟨g,i,none⟩=some (.int .i64 (l.getD i 0))) (hn:n≤100000) (hc:n≤c) (hlt: ∀i,i<n→l.getD i 0<p) (hn0:0<n):
  Calls Tryz.prog 132 #[.slice (some ⟨g,0,none⟩) n c,.int .i64 p] w (RetPut w (l++ [p])):=by
 have HR:=hide hr
 have HT:=hide hlt
 have hgw:=World.block_lt_of_cell? _ _ (hr 0 hn0)
 clear hr hlt
 go_enter Tryz.func132,Tryz.ntmps132
 go_wp2
 go_loop [5] (fun is=> ∃jx:Nat,jx≤n∧is= .int .i64 (jx:Int)) (fun is=>n-(intOf is).toNat)
 case atStart=>exact ⟨0,Vn,rfl⟩
 case round=>
  obtain ⟨jx,hj,rfl⟩:=hrel
  by_cases k:jx<n
  ·have hci:(jx:Int)<(n:Int):=by omega
   have d0:=unhide HR jx k
   have t0:=unhide HT jx k
   obtain ⟨y,hy⟩: ∃y,l.getD jx 0=y:=⟨_,rfl⟩
   rw[hy] at d0 t0
   clear hy
   go_wp2
   go_round
   case rel=>exact ⟨jx+1,Vn,by go_num⟩
   case measure=>simp [intOf];omega
  ·obtain rfl:jx=n:=by omega
   by_cases hca:c=jx
   ·subst hca
    go_wp2_with (first|(at_builtin;refine app_intsN _ rfl (.tmp 34) (.tmp 37) rfl w.heap.size (.slice (some ⟨w.heap.size,0,none⟩) 0 0) [] l ⟨g,0,none⟩ _ _ (unhide hl).symm rfl rfl (IL.made w _ (Nat.le_refl _)) (fun j hj=>by rw[add_at,Nat.zero_add];exact cell_al _ (unhide HR j hj)) VX Vs ?_;intro v1 w2 hown1 hgrow1 hat1;obtain ⟨k1,hk1⟩: ∃k,v1.ownBlock=some k:=(by rcases hat1 with e|e<;>exact ⟨_,e⟩);obtain ⟨c1,rfl,hc1⟩:=hown1.own hk1;have hlt1:=hown1.lt k1 rfl;have hz2:=hgrow1.size;simp only[World.size_alloc] at hz2)|(at_builtin;refine app_intsN _ rfl (.tmp 39) (.tmp 41) rfl w.heap.size (.slice (some ⟨k1,0,none⟩) ([]++l).length c1) ([]++l) [p] ⟨w2.heap.size,0,none⟩ 1 1 rfl rfl rfl (hown1.alloc _) (fun j hj=>by obtain rfl:j=0:=Vn;rw [add_at];go_simp) (by have:=unhide hl;simp;omega) VX ?_;intro v2 w3 hown2 hgrow2 hat2;obtain ⟨k2,hk2⟩: ∃k,v2.ownBlock=some k:=(by rcases hat2 with e|e<;>exact ⟨_,e⟩);obtain ⟨c2,rfl,hc2⟩:=hown2.own hk2;have hlt2:=hown2.lt k2 rfl;simp only[List.nil_append,List.length_append,List.length_cons,List.length_nil,Nat.zero_add] at hown2 hc2;have hz3:=hgrow2.size;simp only[World.size_alloc] at hz3)|(at_builtin;refine app_intsN _ rfl (.tmp 43) (.tmp 46) rfl w.heap.size (.slice (some ⟨k2,0,none⟩) (l.length+1) c2) (l++ [p]) [] _ 0 _ rfl rfl rfl hown2 (fun j hj=>absurd hj Vn) (by have:=unhide hl;simp;omega) Vn ?_;intro v3 w4 hown3 hgrow3 hat3;obtain ⟨k3,hk3⟩: ∃k,v3.ownBlock=some k:=(by rcases hat3 with e|e<;>exact ⟨_,e⟩);obtain ⟨c3,rfl,hc3⟩:=hown3.own hk3))
    go_ret
    have hg1:Below w.heap.size w w2:=Below.grown ((Below.refl _ _).alloc (Nat.le_refl _) _) hgrow1 Vs (fun k hk=>by cases hk;exact Nat.le_refl _)
    have hg2:Below w.heap.size w w3:=Below.grown (hg1.alloc Vn _) hgrow2 VX (fun k hk=>by cases hk;exact hlt1.1)
    have hg3:Below w.heap.size w w4:=hg2.grown hgrow3 Vn (fun k hk=>by cases hk;exact hlt2.1)
    rw[List.append_nil] at hown3 hc3
    exact ⟨k3,c3,by rw[show (l++ [p]).length=l.length+1 by simp];rfl,hc3,hown3,hg3⟩
   ·have hca2:jx<c:=by omega
    go_wp2_with (first|(at_builtin;refine app_intsN _ rfl (.tmp 34) (.tmp 37) rfl w.heap.size (.slice (some ⟨w.heap.size,0,none⟩) 0 0) [] l ⟨g,0,none⟩ _ _ (unhide hl).symm rfl rfl (IL.made w _ (Nat.le_refl _)) (fun j hj=>by rw[add_at,Nat.zero_add];exact cell_al _ (unhide HR j hj)) VX Vs ?_;intro v1 w2 hown1 hgrow1 hat1;obtain ⟨k1,hk1⟩: ∃k,v1.ownBlock=some k:=(by rcases hat1 with e|e<;>exact ⟨_,e⟩);obtain ⟨c1,rfl,hc1⟩:=hown1.own hk1;have hlt1:=hown1.lt k1 rfl;have hz2:=hgrow1.size;simp only[World.size_alloc] at hz2)|(at_builtin;refine app_intsN _ rfl (.tmp 39) (.tmp 41) rfl w.heap.size (.slice (some ⟨k1,0,none⟩) ([]++l).length c1) ([]++l) [p] ⟨w2.heap.size,0,none⟩ 1 1 rfl rfl rfl (hown1.alloc _) (fun j hj=>by obtain rfl:j=0:=Vn;rw [add_at];go_simp) (by have:=unhide hl;simp;omega) VX ?_;intro v2 w3 hown2 hgrow2 hat2;obtain ⟨k2,hk2⟩: ∃k,v2.ownBlock=some k:=(by rcases hat2 with e|e<;>exact ⟨_,e⟩);obtain ⟨c2,rfl,hc2⟩:=hown2.own hk2;have hlt2:=hown2.lt k2 rfl;simp only[List.nil_append,List.length_append,List.length_cons,List.length_nil,Nat.zero_add] at hown2 hc2;have hz3:=hgrow2.size;simp only[World.size_alloc] at hz3)|(at_builtin;refine app_intsN _ rfl (.tmp 43) (.tmp 46) rfl w.heap.size (.slice (some ⟨k2,0,none⟩) (l.length+1) c2) (l++ [p]) [] _ 0 _ rfl rfl rfl hown2 (fun j hj=>absurd hj Vn) (by have:=unhide hl;simp;omega) Vn ?_;intro v3 w4 hown3 hgrow3 hat3;obtain ⟨k3,hk3⟩: ∃k,v3.ownBlock=some k:=(by rcases hat3 with e|e<;>exact ⟨_,e⟩);obtain ⟨c3,rfl,hc3⟩:=hown3.own hk3))
    go_ret
    have hg1:Below w.heap.size w w2:=Below.grown ((Below.refl _ _).alloc (Nat.le_refl _) _) hgrow1 Vs (fun k hk=>by cases hk;exact Nat.le_refl _)
    have hg2:Below w.heap.size w w3:=Below.grown (hg1.alloc Vn _) hgrow2 VX (fun k hk=>by cases hk;exact hlt1.1)
    have hg3:Below w.heap.size w w4:=hg2.grown hgrow3 Vn (fun k hk=>by cases hk;exact hlt2.1)
    rw[List.append_nil] at hown3 hc3
    exact ⟨k3,c3,by rw[show (l++ [p]).length=l.length+1 by simp];rfl,hc3,hown3,hg3⟩
theorem l1Put_old (g q c:Nat) (l:List Int) (p:Int) (w:World) (hr: ∀i,i<q+1→w.cell? ⟨g,i,none⟩=some (.int .i64 (l.getD i 0))) (hn:q≤100000) (hc:q+1≤c) (hlt: ∀i,i<q→l.getD i 0<p) (he:l.getD q 0=p):
  Calls Tryz.prog 132 #[.slice (some ⟨g,0,none⟩) (q+1) c,.int .i64 p] w fun e w'=>e= .returned (.slice (some ⟨g,0,none⟩) (q+1) c)∧w=w':=by
 have HR:=hide hr
 have HT:=hide hlt
 have dq:=hr q Vn
 rw[he] at dq
 clear hr hlt he
 go_enter Tryz.func132,Tryz.ntmps132
 go_wp2
 go_loop [5] (fun is=> ∃jx:Nat,jx≤q∧is= .int .i64 (jx:Int)) (fun is=>q-(intOf is).toNat)
 case atStart=>exact ⟨0,Vn,rfl⟩
 case round=>
  obtain ⟨jx,hj,rfl⟩:=hrel
  by_cases k:jx<q
  ·have hci:(jx:Int)<(q:Int)+1:=by omega
   have d0:=unhide HR jx Vn
   have t0:=unhide HT jx k
   obtain ⟨y,hy⟩: ∃y,l.getD jx 0=y:=⟨_,rfl⟩
   rw[hy] at d0 t0
   clear hy
   go_wp2
   go_round
   case rel=>exact ⟨jx+1,Vn,by go_num⟩
   case measure=>simp [intOf];omega
  ·obtain rfl:jx=q:=by omega
   go_wp2
   go_ret
   exact ⟨rfl,rfl⟩

theorem nuPrimes_a (n:Nat) (w:World) (h0:1≤n) (h1:n≤2000):
  Calls Tryz.prog 103 #[.int .i64 (n:Int)] w (RetIL w (nI (psL n))):=by
 have HC: ∀W,Calls Tryz.prog 131 #[.int .i64 (n:Int)] W (RetIL W (nI (fcL 2 n))):=fun W=>nuFactors_a n W h0 h1
 have HC:=hide HC
 have hps:psL n=ddK (fcL 2 n) (fcL 2 n).length:=rfl
 have hfl:(fcL 2 n).length≤2000:=by have:=fc_len h0;omega
 have hge:=fs_ge h0
 have hdd:=ps_dd h0
 rw[hps]
 clear hps
 generalize fcL 2 n=fs at*
 have hdd:=hide hdd
 go_enter Tryz.func103,Tryz.ntmps103
 go_wp2_with (go_at_call 131;refine ((unhide HC) _).mono ?_;rintro e wA ⟨a0,c0,rfl,hlA,hbA⟩)
 have hS:IntsAt wA w.heap.size wA.heap.size a0 fs.length (fun i=>(nI fs).getD i 0):=by
  have:=hlA.ints.2;rw [nI_len] at this;exact this
 have hsd:=SI.startN (LO:=w.heap.size) (S:=srcI w.heap.size wA.heap.size a0 fs.length (fun i=>(nI fs).getD i 0)) hbA hS (Nat.le_refl _)
 have hN:(nI fs).length=fs.length:=nI_len fs
 rw[hN]
 clear hN
 have hK:=ints_kept (LO:=w.heap.size) (HI:=wA.heap.size) (n:=fs.length) (a:=a0) (f:=fun i=>(nI fs).getD i 0)
 obtain ⟨HI,hHI⟩: ∃HI,wA.heap.size=HI:=⟨_,rfl⟩
 rw[hHI] at hsd hK hS
 clear hlA hS
 go_loopw [3,9] (fun ls is wr=> ∃(k n c:Nat) (a:Option Addr) (l:List Int),is= .int .i64 (k:Int)∧ls= .slice a n c∧k≤fs.length∧n≤k∧n≤c∧(n=0→a=none∧c=0)∧Hid (l=nI (ddK fs k))∧SI w w.heap.size HI (srcI w.heap.size HI a0 fs.length (fun i=>(nI fs).getD i 0)) wr a n c l) (fun _ is _=>fs.length-(intOf is).toNat)
 case atStart=>exact ⟨0,0,0,_,[],rfl,rfl,Vn,Vn,Vn,fun _=>⟨rfl,rfl⟩,hide rfl,hsd⟩
 case round=>
  clear hsd hbA
  obtain ⟨k,n9,c,a,l,rfl,rfl,hk,hnk,hnc,hnn,hl,hsd⟩:=hrel
  obtain ⟨w1,rfl⟩: ∃w1:World,w1=wr:=⟨_,rfl⟩
  have hz:=hsd.sd.bel.size
  have hln:=hsd.len
  by_cases c9:k<fs.length
  ·have hci:(k:Int)<(fs.length:Int):=by omega
   obtain ⟨g0,hg0,hg2,d0⟩:=IntsAt.cell hsd.sd.src c9
   rw[nI_get c9] at d0
   obtain ⟨p,hp⟩: ∃p,fs.getD k 0=p:=⟨_,rfl⟩
   rw[hp] at d0
   subst hg0
   have hd1:=unhide hdd k Vn
   have hd2:=unhide hdd (k+1) Vn
   have hge1:1≤p:=by rw[←hp];exact hge _ (gdm c9)
   have LN:n9=(ddK fs k).length:=by have:=unhide hln;rw [unhide hl,nI_len] at this;exact this
   by_cases cq:(ddK fs k).getD ((ddK fs k).length-1) 0=p
   ·have EL:l=nI (ddK fs (k+1)):=by rw[unhide hl,dd_yes (by rw[hp];exact cq)]
    cases n9 with
    |zero=>
     exfalso
     rw[List.getD_eq_getElem?_getD,List.getElem?_eq_none Vn] at cq
     simp at cq;omega
    |succ q=>
     obtain ⟨gl,hgl,hgl2,hcl⟩:=hsd.ptr (Nat.succ_pos q)
     subst hgl
     have hle:l.getD q 0=(p:Int):=by rw[unhide hl,nI_get Vn,←cq,←LN];rfl
     have hlt: ∀i,i<q→l.getD i 0<(p:Int):=by rw[←hle,unhide hl];exact dd_lt2 hd1.up Vn
     have HP: ∀W,W=w1→Calls Tryz.prog 132 #[.slice (some ⟨gl,0,none⟩) (q+1) c,.int .i64 (p:Int)] W fun e w'=>e= .returned (.slice (some ⟨gl,0,none⟩) (q+1) c)∧W=w':=fun W hW=>by subst hW;exact l1Put_old gl q c l p _ hcl Vn hnc hlt hle
     have HP:=hide HP
     have EH:=hide EL
     clear EL hle hlt hcl LN cq hd1 hd2 hp
     go_wp2_with (go_at_call 132;refine (unhide HP _ rfl).mono ?_;rintro e w' ⟨rfl,rfl⟩)
     go_roundw
     case rel=>first|exact ⟨k+1,q+1,c,_,l,by first|rfl|go_num,rfl,Vn,Vn,hnc,fun h=>by omega,EH,hsd⟩|((repeat apply Exists.intro);exact ⟨⟨k+1,q+1,c,_,l,by first|rfl|go_num,rfl,Vn,Vn,hnc,fun h=>by omega,EH,hsd⟩,rfl⟩)
     case measure=>simp [intOf];omega
   ·have EL:l++ [(p:Int)]=nI (ddK fs (k+1)):=by rw[unhide hl,dd_no (by rw[hp];exact cq),nI_app,hp]
    have hup:=hd2.up
    rw[dd_no (by rw[hp];exact cq),hp] at hup
    have hlt:=dd_lt hup
    rw[←LN,←unhide hl] at hlt
    have HP: ∀W,W=w1→Calls Tryz.prog 132 #[.slice a n9 c,.int .i64 (p:Int)] W (RetPut W (l++ [(p:Int)])):=fun W hW=>by
     subst hW
     cases n9 with
     |zero=>
      obtain ⟨rfl,rfl⟩:=hnn rfl
      have:l= []:=List.eq_nil_of_length_eq_zero (unhide hln).symm
      subst this
      exact l1Put_nil p _
     |succ q=>
      obtain ⟨gl,hgl,hgl2,hcl⟩:=hsd.ptr (Nat.succ_pos q)
      subst hgl
      exact l1Put_new gl (q+1) c l p _ hln hcl Vn hnc hlt (Nat.succ_pos q)
    have HP:=hide HP
    have EH:=hide EL
    clear EL hlt LN cq hd1 hd2 hp hup hnn
    go_wp2_with (go_at_call 132;refine (unhide HP _ rfl).mono ?_;rintro e w2 ⟨g2,cap2,rfl,hcap,hl2,hb2⟩)
    go_roundw
    case rel=>
     have hll:(l++ [(p:Int)]).length=l.length+1:=by simp
     rw[hll] at hl2 hcap
     have hs2:SI w w.heap.size HI _ w2 (some ⟨g2,0,none⟩) (l.length+1) cap2 (l++ [(p:Int)]):=⟨hide hll.symm,hsd.sd.put hK (by have:=hl2;unfold IL at this;rw [hll] at this;exact this) hb2⟩
     clear hll
     first|exact ⟨k+1,_,cap2,_,_,by first|rfl|go_num,rfl,Vn,by have:=unhide hln;simp;omega,hcap,fun h=>by simp at h,EH,hs2⟩|((repeat apply Exists.intro);exact ⟨⟨k+1,_,cap2,_,_,by first|rfl|go_num,rfl,Vn,by have:=unhide hln;simp;omega,hcap,fun h=>by simp at h,EH,hs2⟩,rfl⟩)
    case measure=>simp [intOf];omega
  ·obtain rfl:k=fs.length:=by omega
   go_wp2
   go_ret
   exact hsd.ret (unhide hl) rfl
end Go.Proofs.YtobkcnmlmmhpoaaGreatDoor
namespace Go.Proofs.YtobkcnmlmmhpoaaGreatDoor
open Go.RowKit
set_option linter.unusedVariables false
set_option linter.unusedSimpArgs false
attribute [local go_sem] q2 q3 q4 q5 q6 q7 q8 q9 q10 q11 q12

def srcV (LO HI:Nat) (a:Option Addr) (vs:List Value) (W:World):Prop:=vs= []∨ ∃g,a=some ⟨g,0,none⟩∧LO≤g∧g<HI∧ ∀j,j<vs.length→W.cell? ⟨g,j,none⟩=some (vs.getD j undef)
theorem srcV_kept {LO HI:Nat} {a:Option Addr} {vs:List Value} :Kept LO HI (srcV LO HI a vs):=by
 intro w w' hk h
 rcases h with h|⟨g,ha,h1,h2,h3⟩
 ·exact .inl h
 ·exact .inr ⟨g,ha,h1,h2,fun j hj=>(World.cell?_of_block (hk g h1 h2)).trans (h3 j hj)⟩
theorem srcV_of {w:World} {lo n c sz:Nat} {T:TypeId} {a:Option Addr} {vs:List Value} (h:w.ownsRow lo T sz (.slice a n c) n vs):srcV lo w.heap.size a vs w:=by
 have hl:=h.1
 by_cases q:vs= []
 ·exact .inl q
 ·have hn:0<n:=by
   rcases Nat.eq_zero_or_pos n with z|z
   ·subst z;rw [Nat.zero_mul] at hl;exact absurd (List.eq_nil_of_length_eq_zero hl) q
   ·exact z
  obtain ⟨g,cap,e⟩: ∃g cap,Value.slice a n c= .slice (some ⟨g,0,none⟩) n cap:=by
   rcases h.2 with ⟨h1,h2⟩|⟨g,cap,cur,h1,_⟩
   ·omega
   ·exact ⟨g,cap,h1⟩
  simp only[Value.slice.injEq] at e
  obtain ⟨rfl,-,rfl⟩:=e
  refine .inr ⟨g,rfl,(World.ownsRow.lt h g rfl).1,(World.ownsRow.lt h g rfl).2,fun j hj=> ?_⟩
  rw[World.ownsRow.cellAt h j Vn,List.getElem?_eq_getElem hj,List.getD_eq_getElem?_getD,List.getElem?_eq_getElem hj];rfl
theorem srcV_at {LO HI:Nat} {a:Option Addr} {vs:List Value} {W:World} (h:srcV LO HI a vs W) (hn:0<vs.length): ∃g,a=some ⟨g,0,none⟩∧LO≤g∧g<HI∧ ∀j,j<vs.length→W.cell? ⟨g,j,none⟩=some (vs.getD j undef):=by
 rcases h with h|h
 ·subst h;exact absurd hn Vs
 ·exact h
def RetV (T:TypeId) (sz:Nat) (w:World) (n:Nat) (vs:List Value) (e:Ending) (w':World):Prop:= ∃a c,e= .returned (.slice a n c)∧w'.ownsRow w.heap.size T sz (.slice a n c) n vs∧Below w.heap.size w w'
theorem SD.ret {T:TypeId} {sz n c LO HI:Nat} {w wr:World} {S:World→Prop} {a:Option Addr} {vs:List Value} (h:SD T sz w LO HI S wr (.slice a n c) n vs) {en:Ending} (he:en= .returned (.slice a n c)):RetV T sz w n vs en wr:=⟨a,c,he,h.own,h.bel⟩
def chV (zs:List (Int × Int)):List Value:=zs.flatMap fun z=> [.int .i64 z.1,.int .i64 z.2]
theorem chV_len (zs:List (Int × Int)):(chV zs).length=zs.length*2:=by
 induction zs with
 |nil=>rfl
 |cons z zs ih=>
  have e:chV (z :: zs)= .int .i64 z.1 :: .int .i64 z.2 :: chV zs:=rfl
  rw[e,List.length_cons,List.length_cons,ih,List.length_cons];omega
theorem chV_app (zs ys:List (Int × Int)):chV (zs++ys)=chV zs++chV ys:=by unfold chV;rw [List.flatMap_append]
theorem chV_at: ∀(zs:List (Int × Int)) (i:Nat),i<zs.length→(chV zs).getD (i*2) undef= .int .i64 (zs.getD i (0,0)).1∧(chV zs).getD (i*2+1) undef= .int .i64 (zs.getD i (0,0)).2
 | [],i,h=>by simp at h
 |z :: zs,0,h=>⟨rfl,rfl⟩
 |z :: zs,i+1,h=>by
  have:=chV_at zs i (by simp at h;omega)
  have e:(chV (z :: zs))= .int .i64 z.1 :: .int .i64 z.2 :: chV zs:=rfl
  rw[e,show (i+1)*2=i*2+1+1 by omega]
  exact this
theorem chV_one (zs:List (Int × Int)): ∀u ∈ chV zs,u.oneCell'=true:=by
 intro u hu
 unfold chV at hu
 rw[List.mem_flatMap] at hu
 obtain ⟨e,_,he⟩:=hu
 simp only[List.mem_cons,List.not_mem_nil,or_false] at he
 rcases he with rfl|rfl<;>rfl
theorem Tryz.infoCh:(Tryz.prog.info? 138).map (fun i=>(i.zero,i.size,i.bytes))=some (some (.agg #[.int .i64 0,.int .i64 0]),2,16):=by kernel_rfl
theorem news_ch1 {w:World} {B:Nat} {k p:Int} (h0:w.cell? ⟨B,0,none⟩=some (.int .i64 k)) (h1:w.cell? ⟨B,1,none⟩=some (.int .i64 p)): ∀j u,(chV [(k,p)])[j]? =some u→w.cell? ((⟨B,0,none⟩:Addr).add j)=some u:=by
 intro j u hu
 match j with
 |0=>simp [chV] at hu;subst hu;simpa [Addr.add] using h0
 |1=>simp [chV] at hu;subst hu;simpa [Addr.add] using h1
 |j+2=>simp [chV] at hu
theorem news_ch2 {w:World} {B:Nat} {k p k2 p2:Int} (h0:w.cell? ⟨B,0,none⟩=some (.int .i64 k)) (h1:w.cell? ⟨B,1,none⟩=some (.int .i64 p)) (h2:w.cell? ⟨B,2,none⟩=some (.int .i64 k2)) (h3:w.cell? ⟨B,3,none⟩=some (.int .i64 p2)): ∀j u,(chV [(k,p),(k2,p2)])[j]? =some u→w.cell? ((⟨B,0,none⟩:Addr).add j)=some u:=by
 intro j u hu
 match j with
 |0=>simp [chV] at hu;subst hu;simpa [Addr.add] using h0
 |1=>simp [chV] at hu;subst hu;simpa [Addr.add] using h1
 |2=>simp [chV] at hu;subst hu;simpa [Addr.add] using h2
 |3=>simp [chV] at hu;subst hu;simpa [Addr.add] using h3
 |j+4=>simp [chV] at hu
theorem app_ch (w:World) {ops:Array Oper} {rest:List Oper} {o:Oper} {a:Act} {Q:Exit→Act→World→Prop} (hgd:o.guard=none) (s x:Operand)
  (ho:o.op= .call { callee:= .builtin .append,args:= #[s,x],argTypes:= #[135,135] })
  (lo:Nat) (v:Value) (n m:Nat) (zs news:List (Int × Int)) (B:Nat) (hs:a.eval s=v) (hx:a.eval x= .slice (some ⟨B,0,none⟩) m m)
  (hown:w.ownsRow lo 138 2 v n (chV zs)) (hm:news.length=m) (hm0:m≤10) (hB: ∀j u,(chV news)[j]? =some u→w.cell? ((⟨B,0,none⟩:Addr).add j)=some u) (hlen:n≤1000000000) (hlo:lo≤w.heap.size)
  (h: ∀g cap w',w'.ownsRow lo 138 2 (.slice (some ⟨g,0,none⟩) (n+m) cap) (n+m) (chV (zs++news))→w.grownBy w' v.ownBlock→(v.ownBlock=some g∨g=w.heap.size)→g<w'.heap.size→
   wpList Tryz.prog ops Q rest (a.put o.dst (.slice (some ⟨g,0,none⟩) (n+m) cap)) w') (hm1:1≤m):wpList Tryz.prog ops Q (o :: rest) a w:=by
 obtain ⟨i0,hi,hz0,hz1,hz2⟩:=info_parts Tryz.infoCh
 refine wpList_append_lies w hgd s x 135 ho lo 138 i0 (.agg #[.int .i64 0,.int .i64 0]) 2 16 Tryz.underlying135 hi hz0 hz1 hz2 rfl VA v n _ hs hown ⟨B,0,none⟩ m m (chV news) hx (by rw[chV_len,hm]) hB (chV_one _) hm1 VK Vn hlo _ rfl ?_
 intro g cap w' h1 h2 h3 h4
 refine h g cap w' ?_ h2 h3 h4
 rw[chV_app];exact h1
theorem neg_mod {d:Int} (h:negB d=true):d%4≤1:=by
 unfold negB at h;simp at h;exact h.2
def chP (ps:List Nat):Nat→List (Int × Int)
 |0=> []
 |k+1=>if 2<ps.getD k 0 then chP ps k++ [(1,(ps.getD k 0:Int))] else chP ps k
theorem chP_len (ps:List Nat): ∀k,(chP ps k).length≤k
 |0=>Nat.le_refl _
 |k+1=>by
  have:=chP_len ps k
  rw[chP];split
  ·rw [List.length_append];simp;omega
  ·omega
def chT (d:Int):List (Int × Int):=if d%2≠0 then [] else if (-d / 4)%8=1∨(-d / 4)%8=5∨(-d / 4)%8=4 then [(2,0)] else if (-d / 4)%8=2 then [(4,0)] else if (-d / 4)%8=6 then [(3,0)] else if (-d / 4)%8=0 then [(2,0),(3,0)] else []
def chL (d:Int):List (Int × Int):=chP (psL (-d).toNat) (psL (-d).toNat).length++chT d
theorem chL_len {d:Int} (h: -2000≤d) (h1:d≤ -3):(chL d).length≤2002:=by
 unfold chL
 rw[List.length_append]
 have h2:=chP_len (psL (-d).toNat) (psL (-d).toNat).length
 have h3:(psL (-d).toNat).length≤2000:=by
  have q1:=(ps_dd (n:=(-d).toNat) Vn _ (Nat.le_refl _)).len
  have q2:=fc_len (n:=(-d).toNat) Vn
  unfold psL;omega
 have h4:(chT d).length≤2:=by unfold chT;(repeat' split)<;>simp
 omega
end Go.Proofs.YtobkcnmlmmhpoaaGreatDoor
namespace Go.Proofs.YtobkcnmlmmhpoaaGreatDoor
open Go.RowKit
set_option linter.unusedVariables false
set_option linter.unusedSimpArgs false
attribute [local go_sem] q2 q3 q4 q5 q6 q7 q8 q9 q10 q11 q12

def two8 (n:Int):Int:=if n%8=1∨n%8=7 then 1 else -1
def sg4 (a n:Nat):Int:=if a%4=3∧n%4=3 then -1 else 1
def jcb (a n:Nat):Int:=if h:a=0 then (if n=1 then 1 else 0) else if a%2=0 then two8 n*jcb (a / 2) n else sg4 a n*jcb (n%a) a
termination_by a
decreasing_by
 ·omega
 ·exact Nat.mod_lt _ Vn
theorem jcb_zero (n:Nat):jcb 0 n=if n=1 then 1 else 0:=by rw[jcb];simp
theorem jcb_even {a n:Nat} (h:1≤a) (h2:a%2=0):jcb a n=two8 n*jcb (a / 2) n:=by rw[jcb,dif_neg Vn,if_pos h2]
theorem jcb_odd {a n:Nat} (h2:a%2=1):jcb a n=sg4 a n*jcb (n%a) a:=by rw[jcb,dif_neg Vn,if_neg Vn]
theorem jcb_one (n:Nat):jcb 1 n=1:=by
 rw[jcb_odd VA,Nat.mod_one,jcb_zero,if_pos rfl];rfl
theorem two8_pm (n:Int):two8 n=1∨two8 n= -1:=by unfold two8;split<;>simp
theorem pm_mul {s t:Int} (h:s=1∨s= -1) (k:t=1∨t= -1):s*t=1∨s*t= -1:=by rcases h with rfl|rfl<;>rcases k with rfl|rfl<;>simp

theorem symbolOfTwo_a (n:Int) (w:World) (h0: -4611686018427387904≤n∧n≤4611686018427387904):Calls Tryz.prog 161 #[.int .i64 n] w fun e w'=>e= .returned (.int .i64 (two8 n))∧w=w':=by
 obtain ⟨r,hr⟩: ∃r,n%8=r:=⟨_,rfl⟩
 have hE:Hid (two8 n=if r=1∨r=7 then 1 else -1):=hide (by unfold two8;rw [hr])
 have HM: ∀W,Calls Tryz.prog 53 #[.int .i64 n,.int .i64 8] W fun e w'=>e= .returned (.int .i64 r)∧W=w':=fun W=>by rw[←hr];exact mod_a n 8 W h0 Vn Vn
 have HM:=hide HM
 by_cases c1:r=1
 ·have HV:Hid (two8 n=1):=hide (by rw[unhide hE,if_pos (.inl c1)])
  subst c1
  go_enter Tryz.func161,Tryz.ntmps161
  go_wp2_with (go_at_call 53;refine ((unhide HM) _).mono ?_;rintro e w' ⟨rfl,rfl⟩)
  go_ret
  exact ⟨by rw[unhide HV];rfl,rfl⟩
 ·by_cases c7:r=7
  ·have HV:Hid (two8 n=1):=hide (by rw[unhide hE,if_pos (.inr c7)])
   subst c7
   go_enter Tryz.func161,Tryz.ntmps161
   go_wp2_with (go_at_call 53;refine ((unhide HM) _).mono ?_;rintro e w' ⟨rfl,rfl⟩)
   go_ret
   exact ⟨by rw[unhide HV];rfl,rfl⟩
  ·have HV:Hid (two8 n= -1):=hide (by rw[unhide hE,if_neg Vn])
   have e1:(r==1)=false:=by simpa using c1
   have e7:(r==7)=false:=by simpa using c7
   go_enter Tryz.func161,Tryz.ntmps161
   go_wp2_with (go_at_call 53;refine ((unhide HM) _).mono ?_;rintro e w' ⟨rfl,rfl⟩)
   go_ret
   exact ⟨by rw[unhide HV];rfl,rfl⟩

theorem jacobi_a (a:Int) (N:Nat) (w:World) (h0: -4611686018427387904≤a∧a≤4611686018427387904) (h1:1≤N) (h2:N≤1000000):
  Calls Tryz.prog 160 #[.int .i64 a,.int .i64 (N:Int)] w fun e w'=>e= .returned (.int .i64 (jcb (a%(N:Int)).toNat N))∧w=w':=by
 obtain ⟨u0,hu0⟩: ∃u:Nat,a%(N:Int)=(u:Int):=⟨(a%(N:Int)).toNat,by have:=Int.emod_nonneg a (show (N:Int)≠0 by omega);omega⟩
 have hul:u0<N:=by have:=Int.emod_lt_of_pos a (show 0<(N:Int) by omega);omega
 obtain ⟨R,hR⟩: ∃R,jcb (a%(N:Int)).toNat N=R:=⟨_,rfl⟩
 have HR0:Hid (1*jcb u0 N=R):=hide (by rw[←hR,hu0,Int.one_mul];rfl)
 have HM: ∀W,Calls Tryz.prog 53 #[.int .i64 a,.int .i64 (N:Int)] W fun e w'=>e= .returned (.int .i64 (u0:Int))∧W=w':=fun W=>by rw[←hu0];exact mod_a a N W h0 Vn Vn
 have HM:=hide HM
 have HRR:=hide hR
 clear hR hu0
 go_enter Tryz.func160,Tryz.ntmps160
 go_wp2_with (go_at_call 53;refine ((unhide HM) _).mono ?_;rintro e w' ⟨rfl,rfl⟩)
 go_loop [0,1,5] (fun au ns ss=> ∃(u m:Nat) (s:Int),au= .int .i64 (u:Int)∧ns= .int .i64 (m:Int)∧ss= .int .i64 s∧(s=1∨s= -1)∧u<m∧m≤N∧Hid (s*jcb u m=R)) (fun au _ _=>(intOf au).toNat)
 case atStart=>exact ⟨u0,N,1,rfl,rfl,rfl,.inl rfl,hul,Nat.le_refl _,HR0⟩
 case round=>
  obtain ⟨u,m,s,rfl,rfl,rfl,hs,hum,hmN,hR1⟩:=hrel
  by_cases c:u=0
  ·subst c
   by_cases c1:m=1
   ·have HV:Hid (R=s):=hide (by rw[←unhide hR1,jcb_zero,if_pos c1,Int.mul_one])
    subst c1
    clear hs
    go_wp2
    go_ret
    exact ⟨by rw[unhide HRR,unhide HV];rfl,rfl⟩
   ·have HV:Hid (R=0):=hide (by rw[←unhide hR1,jcb_zero,if_neg c1,Int.mul_zero])
    have c1': ¬(m:Int)=1:=by omega
    clear hs
    go_wp2
    go_ret
    exact ⟨by rw[unhide HRR,unhide HV];rfl,rfl⟩
  ·have c': ¬(u:Int)=0:=by omega
   have HS:=hide hs
   clear hs
   go_wp2
   go_loop [0,5] (fun au ss=> ∃(v:Nat) (t:Int),au= .int .i64 (v:Int)∧ss= .int .i64 t∧Hid (t=1∨t= -1)∧1≤v∧v≤u∧Hid (t*jcb v m=R)) (fun au _=>(intOf au).toNat)
   case atStart=>exact ⟨u,s,rfl,rfl,HS,Vn,Nat.le_refl _,hR1⟩
   case round=>
    obtain ⟨v,t,rfl,rfl,hT,hv1,hvu,hR2⟩:=hrel
    by_cases c2:v%2=0
    ·have h2':Int.tmod (v:Int) 2=0:=by rw[Int.tmod_eq_emod_of_nonneg Vn];omega
     have h3:Int.tdiv (v:Int) 2=((v / 2:Nat):Int):=by rw[Int.tdiv_eq_ediv_of_nonneg Vn];omega
     obtain ⟨y,hy⟩: ∃y,two8 (m:Int)=y:=⟨_,rfl⟩
     have hy1:=two8_pm (m:Int)
     rw[hy] at hy1
     have HN:Hid (t*y*jcb (v / 2) m=R):=hide (by rw[←unhide hR2,jcb_even hv1 c2,hy,Int.mul_assoc])
     have HT2:Hid (t*y=1∨t*y= -1):=hide (pm_mul (unhide hT) hy1)
     have HY: ∀W,Calls Tryz.prog 161 #[.int .i64 (m:Int)] W fun e w'=>e= .returned (.int .i64 y)∧W=w':=fun W=>by rw[←hy];exact symbolOfTwo_a m W Vn
     have HY:=hide HY
     obtain ⟨z,hz⟩: ∃z,t*y=z:=⟨_,rfl⟩
     have hz1:=unhide HT2
     rw[hz] at hz1
     have hz0: -1≤z∧z≤1:=by omega
     have hv2:1≤v / 2:=by omega
     clear hy hy1 c2
     go_wp2_with (go_at_call 161;refine ((unhide HY) _).mono ?_;rintro e w' ⟨rfl,rfl⟩)
     go_round
     case rel=>exact ⟨v / 2,t*y,by first|rfl|go_num,by first|rfl|(rw [hz];done)|go_num,HT2,Vn,Vn,HN⟩
     case measure=>simp [intOf];omega
    ·have h2':Int.tmod (v:Int) 2=1:=by rw[Int.tmod_eq_emod_of_nonneg Vn];omega
     have ht:=unhide hT
     by_cases c4:v%4=3
     ·by_cases d4:m%4=3
      ·have h4:Int.tmod (v:Int) 4=3:=by rw[Int.tmod_eq_emod_of_nonneg Vn];omega
       have h5:Int.tmod (m:Int) 4=3:=by rw[Int.tmod_eq_emod_of_nonneg Vn];omega
       have HN:Hid (-t*jcb (m%v) v=R):=hide (by rw[←unhide hR2,jcb_odd (a:=v) (n:=m) Vn];unfold sg4;rw [if_pos ⟨c4,d4⟩];rw [Int.neg_mul,Int.neg_mul,Int.one_mul,Int.mul_neg])
       have h6:Int.tmod (m:Int) (v:Int)=((m%v:Nat):Int):=by rw[Int.tmod_eq_emod_of_nonneg Vn];rfl
       have h7:=Nat.mod_lt m (show 0<v by omega)
       have h8: ¬(v:Int)=0:=by omega
       have ht0: -1≤t∧t≤1:=by omega
       have HT:Hid (-t=1∨ -t= -1):=hide Vn
       clear c4 d4 ht
       go_wp2
       go_round
       case rel=>exact ⟨m%v,v,-t,by first|rfl|go_num,rfl,by first|rfl|go_num,unhide HT,Vn,Vn,HN⟩
       case measure=>simp [intOf];omega
      ·have h4:Int.tmod (v:Int) 4=3:=by rw[Int.tmod_eq_emod_of_nonneg Vn];omega
       obtain ⟨r5,hr5⟩: ∃r:Int,Int.tmod (m:Int) 4=r:=⟨_,rfl⟩
       have h5: ¬r5=3:=by rw[Int.tmod_eq_emod_of_nonneg Vn] at hr5;omega
       have HN:Hid (t*jcb (m%v) v=R):=hide (by rw[←unhide hR2,jcb_odd (a:=v) (n:=m) Vn];unfold sg4;rw [if_neg Vn];rw [Int.one_mul])
       have h6:Int.tmod (m:Int) (v:Int)=((m%v:Nat):Int):=by rw[Int.tmod_eq_emod_of_nonneg Vn];rfl
       have h7:=Nat.mod_lt m (show 0<v by omega)
       have h8: ¬(v:Int)=0:=by omega
       have ht0: -1≤t∧t≤1:=by omega
       have HT:Hid (t=1∨t= -1):=hide Vn
       clear c4 d4 ht
       go_wp2
       go_round
       case rel=>exact ⟨m%v,v,t,by first|rfl|go_num,rfl,by first|rfl|go_num,unhide HT,Vn,Vn,HN⟩
       case measure=>simp [intOf];omega
     ·obtain ⟨r4,hr4⟩: ∃r:Int,Int.tmod (v:Int) 4=r:=⟨_,rfl⟩
      have h4: ¬r4=3:=by rw[Int.tmod_eq_emod_of_nonneg Vn] at hr4;omega
      have HN:Hid (t*jcb (m%v) v=R):=hide (by rw[←unhide hR2,jcb_odd (a:=v) (n:=m) Vn];unfold sg4;rw [if_neg Vn];rw [Int.one_mul])
      have h6:Int.tmod (m:Int) (v:Int)=((m%v:Nat):Int):=by rw[Int.tmod_eq_emod_of_nonneg Vn];rfl
      have h7:=Nat.mod_lt m (show 0<v by omega)
      have h8: ¬(v:Int)=0:=by omega
      have ht0: -1≤t∧t≤1:=by omega
      have HT:Hid (t=1∨t= -1):=hide Vn
      clear c4  ht
      go_wp2
      go_round
      case rel=>exact ⟨m%v,v,t,by first|rfl|go_num,rfl,by first|rfl|go_num,unhide HT,Vn,Vn,HN⟩
      case measure=>simp [intOf];omega
end Go.Proofs.YtobkcnmlmmhpoaaGreatDoor
