/- Assigned characters, the program's side. Assigned characters, the specification's side. -/
import Derived.Test.YtobkcnmlmmhpoaaGreatDoorJac
set_option maxRecDepth 100000
set_option maxHeartbeats 80000000
namespace Go.Proofs.YtobkcnmlmmhpoaaGreatDoor
open Go.RowKit
set_option linter.unusedVariables false
set_option linter.unusedSimpArgs false
attribute [local go_sem] q2 q3 q4 q5 q6 q7 q8 q9 q10 q11 q12

theorem assigned_a (d:Int) (w:World) (hd:negB d=true):
  Calls Tryz.prog 129 #[.int .i64 d] w (RetV 138 2 w (chL d).length (chV (chL d))):=by
 obtain ⟨d0,d1⟩:=neg_true hd
 have h4:=neg_mod hd
 have HLen:=chL_len d0 d1
 obtain ⟨N,hN⟩: ∃N:Nat,(-d).toNat=N:=⟨_,rfl⟩
 have hdN:d= -(N:Int):=by omega
 have HL:Hid (chL d=chP (psL N) (psL N).length++chT d):=hide (by unfold chL;rw [hN])
 have HC: ∀W,Calls Tryz.prog 54 #[.int .i64 (N:Int)] W (RetIL W (nI (psL N))):=fun W=>primesOf_a N W Vn Vn
 have HC:=hide HC
 have hps:(psL N).length≤2000:=by
  have q1:=(ps_dd (n:=N) Vn _ (Nat.le_refl _)).len
  have q2:=fc_len (n:=N) Vn
  unfold psL;omega
 obtain ⟨Z,hZ⟩: ∃Z,chL d=Z:=⟨_,rfl⟩
 rw[hZ]
 rw[hZ] at HLen
 have HZ:Hid (Z=chP (psL N) (psL N).length++chT d):=hide (by rw[←hZ];exact unhide HL)
 clear HL hZ hN
 generalize psL N=ps at*
 have hneg: -d=(N:Int):=by omega
 have hdd:=hide hdN
 clear hdN
 go_enter Tryz.func129,Tryz.ntmps129
 go_wp2_with (go_at_call 54;refine ((unhide HC) _).mono ?_;rintro e wA ⟨a0,c0,rfl,hlA,hbA⟩)
 have hS:IntsAt wA (w.heap.size+1) wA.heap.size a0 ps.length (fun i=>(nI ps).getD i 0):=by
  have:=hlA.ints.2;rw [nI_len] at this;exact this.weak Vs (Nat.le_refl _)
 have hsd:=SD.startM (T:=138) (sz:=2) (S:=srcI (w.heap.size+1) wA.heap.size a0 ps.length (fun i=>(nI ps).getD i 0)) hbA hS (Nat.le_refl _)
 have hNN:(nI ps).length=ps.length:=nI_len ps
 rw[hNN]
 clear hNN
 have hK:=ints_kept (LO:=(w.heap.size+1)) (HI:=wA.heap.size) (n:=ps.length) (a:=a0) (f:=fun i=>(nI ps).getD i 0)
 obtain ⟨HI,hHI⟩: ∃HI,wA.heap.size=HI:=⟨_,rfl⟩
 rw[hHI] at hsd hK hS
 clear hlA hS
 go_loopw [3,15] (fun ls is wr=> ∃(k n c:Nat) (a:Option Addr) (l:List (Int × Int)),is= .int .i64 (k:Int)∧ls= .slice a n c∧k≤ps.length∧n≤k∧Hid (n=l.length)∧Hid (l=chP ps k)∧SD 138 2 w (w.heap.size+1) HI (srcI (w.heap.size+1) HI a0 ps.length (fun i=>(nI ps).getD i 0)) wr (.slice a n c) n (chV l)) (fun _ is _=>ps.length-(intOf is).toNat)
 case atStart=>exact ⟨0,0,0,_,[],rfl,rfl,Vn,Vn,hide rfl,hide rfl,hsd⟩
 case round=>
  clear hsd hbA
  obtain ⟨k,n9,c,a,l,rfl,rfl,hk,hnk,hln,hl,hsd⟩:=hrel
  obtain ⟨w1,rfl⟩: ∃w1:World,w1=wr:=⟨_,rfl⟩
  have hz:=hsd.bel.size
  by_cases c9:k<ps.length
  ·have hci:(k:Int)<(ps.length:Int):=by omega
   obtain ⟨g0,hg0,hg2,d00⟩:=IntsAt.cell hsd.src c9
   rw[nI_get c9] at d00
   obtain ⟨p,hp⟩: ∃p,ps.getD k 0=p:=⟨_,rfl⟩
   rw[hp] at d00
   subst hg0
   by_cases cp:2<p
   ·have cp2:2<(p:Int):=by omega
    have YES:Hid (l++ [(1,(p:Int))]=chP ps (k+1)):=hide (by rw[unhide hl,chP,if_pos (by rw[hp];exact cp),hp])
    clear hp cp
    go_wp2_with (at_builtin;refine app_ch _ rfl (.tmp 21) (.tmp 24) rfl w.heap.size (.slice a n9 c) n9 1 l [(1,(p:Int))] w1.heap.size rfl rfl (hsd.alloc hK _).own rfl Vn (news_ch1 VB VB) Vn VW ?_ Vn;intro g cap w2 hown hgrow hat hlt)
    go_roundw
    case rel=>
     have hs2:=(hsd.alloc hK _).app hK hown hgrow hat
     exact ⟨k+1,n9+1,cap,some ⟨g,0,none⟩,_,by go_num,rfl,Vn,Vn,hide (by have:=unhide hln;simp;omega),YES,hs2⟩
    case measure=>simp [intOf];omega
   ·have cp2: ¬2<(p:Int):=by omega
    have NO:Hid (l=chP ps (k+1)):=hide (by rw[unhide hl,chP,if_neg (by rw[hp];exact cp)])
    clear hp cp
    go_wp2
    go_roundw
    case rel=>first|exact ⟨k+1,n9,c,_,l,by first|rfl|go_num,rfl,Vn,Vn,hln,NO,hsd⟩|((repeat apply Exists.intro);exact ⟨⟨k+1,n9,c,_,l,by first|rfl|go_num,rfl,Vn,Vn,hln,NO,hsd⟩,rfl⟩)
    case measure=>simp [intOf];omega
  ·obtain rfl:k=ps.length:=by omega
   have hcl: ¬((ps.length:Int)<(ps.length:Int)):=by omega
   by_cases codd:d%2=0
   ·have t2:Int.tmod d 2=0:=Int.tmod_eq_zero_of_dvd Vn
    obtain ⟨M,hM⟩: ∃M:Nat,(N:Int)=4*(M:Int):=⟨N / 4,Vn⟩
    have tq:Int.tdiv (N:Int) 4=(M:Int):=by rw[Int.tdiv_eq_ediv_of_nonneg Vn];omega
    have hM2: -d / 4=(M:Int):=by omega
    have hMb:(M:Int)≤1000:=by omega
    have e2: ¬d%2≠0:=by omega
    have hr8:(M:Int)%8=0∨(M:Int)%8=1∨(M:Int)%8=2∨(M:Int)%8=3∨(M:Int)%8=4∨(M:Int)%8=5∨(M:Int)%8=6∨(M:Int)%8=7:=by omega
    rcases hr8 with r8|r8|r8|r8|r8|r8|r8|r8
    ·have t8:Int.tmod (M:Int) 8=0:=by rw[Int.tmod_eq_emod_of_nonneg Vn];omega
     have t4:Int.tmod (M:Int) 4=0:=by rw[Int.tmod_eq_emod_of_nonneg Vn];omega
     have CT:chT d= [(2,0),(3,0)]:=by unfold chT;rw [if_neg e2,hM2,r8];rfl
     clear r8 e2 hM2 hM
     have hst: ∀W,Below w1.heap.size w1 W→SD 138 2 w (w.heap.size+1) HI (srcI (w.heap.size+1) HI _ ps.length (fun i=>(nI ps).getD i 0)) W (.slice a n9 c) n9 (chV l):=fun W hW=>hsd.call hK hW
     go_wp2_with (at_builtin;refine app_ch _ rfl (.tmp 61) (.tmp 64) rfl w.heap.size (.slice a n9 c) n9 2 l [(2,0),(3,0)] (w1.heap.size+3) rfl rfl ((hst _ byGG).alloc hK _).own rfl Vn (news_ch2 VB VB VB VB) Vn VW ?_ Vn;intro g cap w2 hown hgrow hat hlt)
     go_ret
     have EZ:Z=l++ [(2,0),(3,0)]:=by rw[unhide HZ,CT,unhide hl]
     have hs2:=(((hst _ byGG).alloc hK _)).app hK hown hgrow hat
     have hn9:(l++ [(2,0),(3,0)]).length=n9+2:=by have:=unhide hln;simp;omega
     subst EZ
     rw[hn9]
     exact hs2.ret rfl
    ·have t8:Int.tmod (M:Int) 8=1:=by rw[Int.tmod_eq_emod_of_nonneg Vn];omega
     have t4:Int.tmod (M:Int) 4=1:=by rw[Int.tmod_eq_emod_of_nonneg Vn];omega
     have CT:chT d= [(2,0)]:=by unfold chT;rw [if_neg e2,hM2,r8];rfl
     clear r8 e2 hM2 hM
     have hst: ∀W,Below w1.heap.size w1 W→SD 138 2 w (w.heap.size+1) HI (srcI (w.heap.size+1) HI _ ps.length (fun i=>(nI ps).getD i 0)) W (.slice a n9 c) n9 (chV l):=fun W hW=>hsd.call hK hW
     go_wp2_with (at_builtin;refine app_ch _ rfl (.tmp 43) (.tmp 45) rfl w.heap.size (.slice a n9 c) n9 1 l [(2,0)] (w1.heap.size+3) rfl rfl ((hst _ byGG).alloc hK _).own rfl Vn (news_ch1 VB VB) Vn VW ?_ Vn;intro g cap w2 hown hgrow hat hlt)
     go_ret
     have EZ:Z=l++ [(2,0)]:=by rw[unhide HZ,CT,unhide hl]
     have hs2:=(((hst _ byGG).alloc hK _)).app hK hown hgrow hat
     have hn9:(l++ [(2,0)]).length=n9+1:=by have:=unhide hln;simp;omega
     subst EZ
     rw[hn9]
     exact hs2.ret rfl
    ·have t8:Int.tmod (M:Int) 8=2:=by rw[Int.tmod_eq_emod_of_nonneg Vn];omega
     have t4:Int.tmod (M:Int) 4=2:=by rw[Int.tmod_eq_emod_of_nonneg Vn];omega
     have CT:chT d= [(4,0)]:=by unfold chT;rw [if_neg e2,hM2,r8];rfl
     clear r8 e2 hM2 hM
     have hst: ∀W,Below w1.heap.size w1 W→SD 138 2 w (w.heap.size+1) HI (srcI (w.heap.size+1) HI _ ps.length (fun i=>(nI ps).getD i 0)) W (.slice a n9 c) n9 (chV l):=fun W hW=>hsd.call hK hW
     go_wp2_with (at_builtin;refine app_ch _ rfl (.tmp 49) (.tmp 51) rfl w.heap.size (.slice a n9 c) n9 1 l [(4,0)] (w1.heap.size+3) rfl rfl ((hst _ byGG).alloc hK _).own rfl Vn (news_ch1 VB VB) Vn VW ?_ Vn;intro g cap w2 hown hgrow hat hlt)
     go_ret
     have EZ:Z=l++ [(4,0)]:=by rw[unhide HZ,CT,unhide hl]
     have hs2:=(((hst _ byGG).alloc hK _)).app hK hown hgrow hat
     have hn9:(l++ [(4,0)]).length=n9+1:=by have:=unhide hln;simp;omega
     subst EZ
     rw[hn9]
     exact hs2.ret rfl
    ·have t8:Int.tmod (M:Int) 8=3:=by rw[Int.tmod_eq_emod_of_nonneg Vn];omega
     have t4:Int.tmod (M:Int) 4=3:=by rw[Int.tmod_eq_emod_of_nonneg Vn];omega
     have CT:chT d= []:=by unfold chT;rw [if_neg e2,hM2,r8];rfl
     clear r8 e2 hM2 hM
     have hst: ∀W,Below w1.heap.size w1 W→SD 138 2 w (w.heap.size+1) HI (srcI (w.heap.size+1) HI _ ps.length (fun i=>(nI ps).getD i 0)) W (.slice a n9 c) n9 (chV l):=fun W hW=>hsd.call hK hW
     go_wp2
     go_ret
     have EZ:Z=l:=by rw[unhide HZ,CT,List.append_nil,unhide hl]
     subst EZ
     have:=unhide hln
     subst this
     exact (hst _ byGG).ret rfl
    ·have t8:Int.tmod (M:Int) 8=4:=by rw[Int.tmod_eq_emod_of_nonneg Vn];omega
     have t4:Int.tmod (M:Int) 4=0:=by rw[Int.tmod_eq_emod_of_nonneg Vn];omega
     have CT:chT d= [(2,0)]:=by unfold chT;rw [if_neg e2,hM2,r8];rfl
     clear r8 e2 hM2 hM
     have hst: ∀W,Below w1.heap.size w1 W→SD 138 2 w (w.heap.size+1) HI (srcI (w.heap.size+1) HI _ ps.length (fun i=>(nI ps).getD i 0)) W (.slice a n9 c) n9 (chV l):=fun W hW=>hsd.call hK hW
     go_wp2_with (at_builtin;refine app_ch _ rfl (.tmp 43) (.tmp 45) rfl w.heap.size (.slice a n9 c) n9 1 l [(2,0)] (w1.heap.size+3) rfl rfl ((hst _ byGG).alloc hK _).own rfl Vn (news_ch1 VB VB) Vn VW ?_ Vn;intro g cap w2 hown hgrow hat hlt)
     go_ret
     have EZ:Z=l++ [(2,0)]:=by rw[unhide HZ,CT,unhide hl]
     have hs2:=(((hst _ byGG).alloc hK _)).app hK hown hgrow hat
     have hn9:(l++ [(2,0)]).length=n9+1:=by have:=unhide hln;simp;omega
     subst EZ
     rw[hn9]
     exact hs2.ret rfl
    ·have t8:Int.tmod (M:Int) 8=5:=by rw[Int.tmod_eq_emod_of_nonneg Vn];omega
     have t4:Int.tmod (M:Int) 4=1:=by rw[Int.tmod_eq_emod_of_nonneg Vn];omega
     have CT:chT d= [(2,0)]:=by unfold chT;rw [if_neg e2,hM2,r8];rfl
     clear r8 e2 hM2 hM
     have hst: ∀W,Below w1.heap.size w1 W→SD 138 2 w (w.heap.size+1) HI (srcI (w.heap.size+1) HI _ ps.length (fun i=>(nI ps).getD i 0)) W (.slice a n9 c) n9 (chV l):=fun W hW=>hsd.call hK hW
     go_wp2_with (at_builtin;refine app_ch _ rfl (.tmp 43) (.tmp 45) rfl w.heap.size (.slice a n9 c) n9 1 l [(2,0)] (w1.heap.size+3) rfl rfl ((hst _ byGG).alloc hK _).own rfl Vn (news_ch1 VB VB) Vn VW ?_ Vn;intro g cap w2 hown hgrow hat hlt)
     go_ret
     have EZ:Z=l++ [(2,0)]:=by rw[unhide HZ,CT,unhide hl]
     have hs2:=(((hst _ byGG).alloc hK _)).app hK hown hgrow hat
     have hn9:(l++ [(2,0)]).length=n9+1:=by have:=unhide hln;simp;omega
     subst EZ
     rw[hn9]
     exact hs2.ret rfl
    ·have t8:Int.tmod (M:Int) 8=6:=by rw[Int.tmod_eq_emod_of_nonneg Vn];omega
     have t4:Int.tmod (M:Int) 4=2:=by rw[Int.tmod_eq_emod_of_nonneg Vn];omega
     have CT:chT d= [(3,0)]:=by unfold chT;rw [if_neg e2,hM2,r8];rfl
     clear r8 e2 hM2 hM
     have hst: ∀W,Below w1.heap.size w1 W→SD 138 2 w (w.heap.size+1) HI (srcI (w.heap.size+1) HI _ ps.length (fun i=>(nI ps).getD i 0)) W (.slice a n9 c) n9 (chV l):=fun W hW=>hsd.call hK hW
     go_wp2_with (at_builtin;refine app_ch _ rfl (.tmp 55) (.tmp 57) rfl w.heap.size (.slice a n9 c) n9 1 l [(3,0)] (w1.heap.size+3) rfl rfl ((hst _ byGG).alloc hK _).own rfl Vn (news_ch1 VB VB) Vn VW ?_ Vn;intro g cap w2 hown hgrow hat hlt)
     go_ret
     have EZ:Z=l++ [(3,0)]:=by rw[unhide HZ,CT,unhide hl]
     have hs2:=(((hst _ byGG).alloc hK _)).app hK hown hgrow hat
     have hn9:(l++ [(3,0)]).length=n9+1:=by have:=unhide hln;simp;omega
     subst EZ
     rw[hn9]
     exact hs2.ret rfl
    ·have t8:Int.tmod (M:Int) 8=7:=by rw[Int.tmod_eq_emod_of_nonneg Vn];omega
     have t4:Int.tmod (M:Int) 4=3:=by rw[Int.tmod_eq_emod_of_nonneg Vn];omega
     have CT:chT d= []:=by unfold chT;rw [if_neg e2,hM2,r8];rfl
     clear r8 e2 hM2 hM
     have hst: ∀W,Below w1.heap.size w1 W→SD 138 2 w (w.heap.size+1) HI (srcI (w.heap.size+1) HI _ ps.length (fun i=>(nI ps).getD i 0)) W (.slice a n9 c) n9 (chV l):=fun W hW=>hsd.call hK hW
     go_wp2
     go_ret
     have EZ:Z=l:=by rw[unhide HZ,CT,List.append_nil,unhide hl]
     subst EZ
     have:=unhide hln
     subst this
     exact (hst _ byGG).ret rfl
   ·obtain ⟨r,hr⟩: ∃r,Int.tmod d 2=r:=⟨_,rfl⟩
    have hrn:r≠0:=fun e=>by rw[e] at hr;have:=Int.dvd_of_tmod_eq_zero hr;omega
    have hr0:(r != 0)=true:=by simp;exact hrn
    have CT:chT d= []:=by unfold chT;rw [if_pos Vn]
    clear hrn
    go_wp2
    go_ret
    have EZ:Z=l:=by rw[unhide HZ,CT,List.append_nil,unhide hl]
    subst EZ
    have:=unhide hln
    subst this
    exact hsd.ret rfl
end Go.Proofs.YtobkcnmlmmhpoaaGreatDoor
namespace Go.Proofs.YtobkcnmlmmhpoaaGreatDoor
open Go.RowKit
set_option linter.unusedVariables false
set_option linter.unusedSimpArgs false
attribute [local go_sem] q2 q3 q4 q5 q6 q7 q8 q9 q10 q11 q12

theorem chAll_a (d:Int) (w:World) (hd:negB d=true):
  Calls Tryz.prog 136 #[.int .i64 d] w (RetV 138 2 w (chL d).length (chV (chL d))):=by
 obtain ⟨d0,d1⟩:=neg_true hd
 have h4:=neg_mod hd
 have HLen:=chL_len d0 d1
 obtain ⟨N,hN⟩: ∃N:Nat,(-d).toNat=N:=⟨_,rfl⟩
 have hdN:d= -(N:Int):=by omega
 have HL:Hid (chL d=chP (psL N) (psL N).length++chT d):=hide (by unfold chL;rw [hN])
 have HC: ∀W,Calls Tryz.prog 103 #[.int .i64 (N:Int)] W (RetIL W (nI (psL N))):=fun W=>nuPrimes_a N W Vn Vn
 have HC:=hide HC
 have hps:(psL N).length≤2000:=by
  have q1:=(ps_dd (n:=N) Vn _ (Nat.le_refl _)).len
  have q2:=fc_len (n:=N) Vn
  unfold psL;omega
 obtain ⟨Z,hZ⟩: ∃Z,chL d=Z:=⟨_,rfl⟩
 rw[hZ]
 rw[hZ] at HLen
 have HZ:Hid (Z=chP (psL N) (psL N).length++chT d):=hide (by rw[←hZ];exact unhide HL)
 clear HL hZ hN
 generalize psL N=ps at*
 have hneg: -d=(N:Int):=by omega
 have hdd:=hide hdN
 clear hdN
 go_enter Tryz.func136,Tryz.ntmps136
 go_wp2_with (go_at_call 103;refine ((unhide HC) _).mono ?_;rintro e wA ⟨a0,c0,rfl,hlA,hbA⟩)
 have hS:IntsAt wA w.heap.size wA.heap.size a0 ps.length (fun i=>(nI ps).getD i 0):=by
  have:=hlA.ints.2;rw [nI_len] at this;exact this.weak Vs (Nat.le_refl _)
 have hsd:=SD.startN (T:=138) (sz:=2) (LO:=w.heap.size) (S:=srcI w.heap.size wA.heap.size a0 ps.length (fun i=>(nI ps).getD i 0)) hbA hS (Nat.le_refl _)
 have hNN:(nI ps).length=ps.length:=nI_len ps
 rw[hNN]
 clear hNN
 have hK:=ints_kept (LO:=w.heap.size) (HI:=wA.heap.size) (n:=ps.length) (a:=a0) (f:=fun i=>(nI ps).getD i 0)
 obtain ⟨HI,hHI⟩: ∃HI,wA.heap.size=HI:=⟨_,rfl⟩
 rw[hHI] at hsd hK hS
 clear hlA hS
 go_loopw [3,11] (fun ls is wr=> ∃(k n c:Nat) (a:Option Addr) (l:List (Int × Int)),is= .int .i64 (k:Int)∧ls= .slice a n c∧k≤ps.length∧n≤k∧Hid (n=l.length)∧Hid (l=chP ps k)∧SD 138 2 w w.heap.size HI (srcI w.heap.size HI a0 ps.length (fun i=>(nI ps).getD i 0)) wr (.slice a n c) n (chV l)) (fun _ is _=>ps.length-(intOf is).toNat)
 case atStart=>exact ⟨0,0,0,_,[],rfl,rfl,Vn,Vn,hide rfl,hide rfl,hsd⟩
 case round=>
  clear hsd hbA
  obtain ⟨k,n9,c,a,l,rfl,rfl,hk,hnk,hln,hl,hsd⟩:=hrel
  obtain ⟨w1,rfl⟩: ∃w1:World,w1=wr:=⟨_,rfl⟩
  have hz:=hsd.bel.size
  by_cases c9:k<ps.length
  ·have hci:(k:Int)<(ps.length:Int):=by omega
   obtain ⟨g0,hg0,hg2,d00⟩:=IntsAt.cell hsd.src c9
   rw[nI_get c9] at d00
   obtain ⟨p,hp⟩: ∃p,ps.getD k 0=p:=⟨_,rfl⟩
   rw[hp] at d00
   subst hg0
   by_cases cp:2<p
   ·have cp2:2<(p:Int):=by omega
    have YES:Hid (l++ [(1,(p:Int))]=chP ps (k+1)):=hide (by rw[unhide hl,chP,if_pos (by rw[hp];exact cp),hp])
    clear hp cp
    go_wp2_with (at_builtin;refine app_ch _ rfl (.tmp 17) (.tmp 20) rfl w.heap.size (.slice a n9 c) n9 1 l [(1,(p:Int))] w1.heap.size rfl rfl (hsd.alloc hK _).own rfl Vn (news_ch1 VB VB) Vn VW ?_ Vn;intro g cap w2 hown hgrow hat hlt)
    go_roundw
    case rel=>
     have hs2:=(hsd.alloc hK _).app hK hown hgrow hat
     exact ⟨k+1,n9+1,cap,some ⟨g,0,none⟩,_,by go_num,rfl,Vn,Vn,hide (by have:=unhide hln;simp;omega),YES,hs2⟩
    case measure=>simp [intOf];omega
   ·have cp2: ¬2<(p:Int):=by omega
    have NO:Hid (l=chP ps (k+1)):=hide (by rw[unhide hl,chP,if_neg (by rw[hp];exact cp)])
    clear hp cp
    go_wp2
    go_roundw
    case rel=>first|exact ⟨k+1,n9,c,_,l,by first|rfl|go_num,rfl,Vn,Vn,hln,NO,hsd⟩|((repeat apply Exists.intro);exact ⟨⟨k+1,n9,c,_,l,by first|rfl|go_num,rfl,Vn,Vn,hln,NO,hsd⟩,rfl⟩)
    case measure=>simp [intOf];omega
  ·obtain rfl:k=ps.length:=by omega
   have hcl: ¬((ps.length:Int)<(ps.length:Int)):=by omega
   by_cases codd:d%2=0
   ·have t2:Int.tmod d 2=0:=Int.tmod_eq_zero_of_dvd Vn
    obtain ⟨M,hM⟩: ∃M:Nat,(N:Int)=4*(M:Int):=⟨N / 4,Vn⟩
    have tq:Int.tdiv (N:Int) 4=(M:Int):=by rw[Int.tdiv_eq_ediv_of_nonneg Vn];omega
    have hM2: -d / 4=(M:Int):=by omega
    have hMb:(M:Int)≤1000:=by omega
    have e2: ¬d%2≠0:=by omega
    have hr8:(M:Int)%8=0∨(M:Int)%8=1∨(M:Int)%8=2∨(M:Int)%8=3∨(M:Int)%8=4∨(M:Int)%8=5∨(M:Int)%8=6∨(M:Int)%8=7:=by omega
    rcases hr8 with r8|r8|r8|r8|r8|r8|r8|r8
    ·have t8:Int.tmod (M:Int) 8=0:=by rw[Int.tmod_eq_emod_of_nonneg Vn];omega
     have t4:Int.tmod (M:Int) 4=0:=by rw[Int.tmod_eq_emod_of_nonneg Vn];omega
     have CT:chT d= [(2,0),(3,0)]:=by unfold chT;rw [if_neg e2,hM2,r8];rfl
     clear r8 e2 hM2 hM
     go_wp2_with (at_builtin;refine app_ch _ rfl (.tmp 64) (.tmp 67) rfl w.heap.size (.slice a n9 c) n9 2 l [(2,0),(3,0)] w1.heap.size rfl rfl (hsd.alloc hK _).own rfl Vn (news_ch2 VB VB VB VB) Vn VW ?_ Vn;intro g cap w2 hown hgrow hat hlt)
     go_ret
     have EZ:Z=l++ [(2,0),(3,0)]:=by rw[unhide HZ,CT,unhide hl]
     have hs2:=((hsd.alloc hK _)).app hK hown hgrow hat
     have hn9:(l++ [(2,0),(3,0)]).length=n9+2:=by have:=unhide hln;simp;omega
     subst EZ
     rw[hn9]
     exact hs2.ret rfl
    ·have t8:Int.tmod (M:Int) 8=1:=by rw[Int.tmod_eq_emod_of_nonneg Vn];omega
     have t4:Int.tmod (M:Int) 4=1:=by rw[Int.tmod_eq_emod_of_nonneg Vn];omega
     have CT:chT d= [(2,0)]:=by unfold chT;rw [if_neg e2,hM2,r8];rfl
     clear r8 e2 hM2 hM
     go_wp2_with (at_builtin;refine app_ch _ rfl (.tmp 44) (.tmp 46) rfl w.heap.size (.slice a n9 c) n9 1 l [(2,0)] w1.heap.size rfl rfl (hsd.alloc hK _).own rfl Vn (news_ch1 VB VB) Vn VW ?_ Vn;intro g cap w2 hown hgrow hat hlt)
     go_ret
     have EZ:Z=l++ [(2,0)]:=by rw[unhide HZ,CT,unhide hl]
     have hs2:=((hsd.alloc hK _)).app hK hown hgrow hat
     have hn9:(l++ [(2,0)]).length=n9+1:=by have:=unhide hln;simp;omega
     subst EZ
     rw[hn9]
     exact hs2.ret rfl
    ·have t8:Int.tmod (M:Int) 8=2:=by rw[Int.tmod_eq_emod_of_nonneg Vn];omega
     have t4:Int.tmod (M:Int) 4=2:=by rw[Int.tmod_eq_emod_of_nonneg Vn];omega
     have CT:chT d= [(4,0)]:=by unfold chT;rw [if_neg e2,hM2,r8];rfl
     clear r8 e2 hM2 hM
     go_wp2_with (at_builtin;refine app_ch _ rfl (.tmp 52) (.tmp 54) rfl w.heap.size (.slice a n9 c) n9 1 l [(4,0)] w1.heap.size rfl rfl (hsd.alloc hK _).own rfl Vn (news_ch1 VB VB) Vn VW ?_ Vn;intro g cap w2 hown hgrow hat hlt)
     go_ret
     have EZ:Z=l++ [(4,0)]:=by rw[unhide HZ,CT,unhide hl]
     have hs2:=((hsd.alloc hK _)).app hK hown hgrow hat
     have hn9:(l++ [(4,0)]).length=n9+1:=by have:=unhide hln;simp;omega
     subst EZ
     rw[hn9]
     exact hs2.ret rfl
    ·have t8:Int.tmod (M:Int) 8=3:=by rw[Int.tmod_eq_emod_of_nonneg Vn];omega
     have t4:Int.tmod (M:Int) 4=3:=by rw[Int.tmod_eq_emod_of_nonneg Vn];omega
     have CT:chT d= []:=by unfold chT;rw [if_neg e2,hM2,r8];rfl
     clear r8 e2 hM2 hM
     go_wp2
     go_ret
     have EZ:Z=l:=by rw[unhide HZ,CT,List.append_nil,unhide hl]
     subst EZ
     have:=unhide hln
     subst this
     exact hsd.ret rfl
    ·have t8:Int.tmod (M:Int) 8=4:=by rw[Int.tmod_eq_emod_of_nonneg Vn];omega
     have t4:Int.tmod (M:Int) 4=0:=by rw[Int.tmod_eq_emod_of_nonneg Vn];omega
     have CT:chT d= [(2,0)]:=by unfold chT;rw [if_neg e2,hM2,r8];rfl
     clear r8 e2 hM2 hM
     go_wp2_with (at_builtin;refine app_ch _ rfl (.tmp 44) (.tmp 46) rfl w.heap.size (.slice a n9 c) n9 1 l [(2,0)] w1.heap.size rfl rfl (hsd.alloc hK _).own rfl Vn (news_ch1 VB VB) Vn VW ?_ Vn;intro g cap w2 hown hgrow hat hlt)
     go_ret
     have EZ:Z=l++ [(2,0)]:=by rw[unhide HZ,CT,unhide hl]
     have hs2:=((hsd.alloc hK _)).app hK hown hgrow hat
     have hn9:(l++ [(2,0)]).length=n9+1:=by have:=unhide hln;simp;omega
     subst EZ
     rw[hn9]
     exact hs2.ret rfl
    ·have t8:Int.tmod (M:Int) 8=5:=by rw[Int.tmod_eq_emod_of_nonneg Vn];omega
     have t4:Int.tmod (M:Int) 4=1:=by rw[Int.tmod_eq_emod_of_nonneg Vn];omega
     have CT:chT d= [(2,0)]:=by unfold chT;rw [if_neg e2,hM2,r8];rfl
     clear r8 e2 hM2 hM
     go_wp2_with (at_builtin;refine app_ch _ rfl (.tmp 44) (.tmp 46) rfl w.heap.size (.slice a n9 c) n9 1 l [(2,0)] w1.heap.size rfl rfl (hsd.alloc hK _).own rfl Vn (news_ch1 VB VB) Vn VW ?_ Vn;intro g cap w2 hown hgrow hat hlt)
     go_ret
     have EZ:Z=l++ [(2,0)]:=by rw[unhide HZ,CT,unhide hl]
     have hs2:=((hsd.alloc hK _)).app hK hown hgrow hat
     have hn9:(l++ [(2,0)]).length=n9+1:=by have:=unhide hln;simp;omega
     subst EZ
     rw[hn9]
     exact hs2.ret rfl
    ·have t8:Int.tmod (M:Int) 8=6:=by rw[Int.tmod_eq_emod_of_nonneg Vn];omega
     have t4:Int.tmod (M:Int) 4=2:=by rw[Int.tmod_eq_emod_of_nonneg Vn];omega
     have CT:chT d= [(3,0)]:=by unfold chT;rw [if_neg e2,hM2,r8];rfl
     clear r8 e2 hM2 hM
     go_wp2_with (at_builtin;refine app_ch _ rfl (.tmp 60) (.tmp 62) rfl w.heap.size (.slice a n9 c) n9 1 l [(3,0)] w1.heap.size rfl rfl (hsd.alloc hK _).own rfl Vn (news_ch1 VB VB) Vn VW ?_ Vn;intro g cap w2 hown hgrow hat hlt)
     go_ret
     have EZ:Z=l++ [(3,0)]:=by rw[unhide HZ,CT,unhide hl]
     have hs2:=((hsd.alloc hK _)).app hK hown hgrow hat
     have hn9:(l++ [(3,0)]).length=n9+1:=by have:=unhide hln;simp;omega
     subst EZ
     rw[hn9]
     exact hs2.ret rfl
    ·have t8:Int.tmod (M:Int) 8=7:=by rw[Int.tmod_eq_emod_of_nonneg Vn];omega
     have t4:Int.tmod (M:Int) 4=3:=by rw[Int.tmod_eq_emod_of_nonneg Vn];omega
     have CT:chT d= []:=by unfold chT;rw [if_neg e2,hM2,r8];rfl
     clear r8 e2 hM2 hM
     go_wp2
     go_ret
     have EZ:Z=l:=by rw[unhide HZ,CT,List.append_nil,unhide hl]
     subst EZ
     have:=unhide hln
     subst this
     exact hsd.ret rfl
   ·obtain ⟨r,hr⟩: ∃r,Int.tmod d 2=r:=⟨_,rfl⟩
    have hrn:r≠0:=fun e=>by rw[e] at hr;have:=Int.dvd_of_tmod_eq_zero hr;omega
    have hr0:(r != 0)=true:=by simp;exact hrn
    have CT:chT d= []:=by unfold chT;rw [if_pos Vn]
    clear hrn
    go_wp2
    go_ret
    have EZ:Z=l:=by rw[unhide HZ,CT,List.append_nil,unhide hl]
    subst EZ
    have:=unhide hln
    subst this
    exact hsd.ret rfl
end Go.Proofs.YtobkcnmlmmhpoaaGreatDoor
