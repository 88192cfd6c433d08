/- The invariant factors, the program's side: invariants. -/
import Derived.Test.YtobkcnmlmmhpoaaGreatDoorIvp
set_option maxRecDepth 100000
set_option maxHeartbeats 80000000
namespace Go.Proofs.YtobkcnmlmmhpoaaGreatDoor
open Go.RowKit
set_option linter.unusedVariables false
set_option linter.unusedSimpArgs false
attribute [local go_sem] q2 q3 q4 q5 q6 q7 q8 q9 q10 q11 q12
theorem invariants_a (os:List Int) (ao:Option Addr) (n co lo hi:Nat) (w:World) (hQ:OsQ os) (hn:Hid (n=os.length)) (hhi:hi≤w.heap.size) (hO:IntsAt w lo hi ao n (fun i=>os.getD i 0)):
  Calls Tryz.prog 32 #[.slice ao n co] w (RetIL w (nI (fsL os).reverse)):=by
 have hPs: ∀p ∈ psL os.length,Pr p:=(ps_ok hQ.n1).pr
 have HC: ∀W,Calls Tryz.prog 54 #[.int .i64 (n:Int)] W (RetIL W (nI (psL n))):=fun W=>primesOf_a n W (by have:=hQ.n1;have:=unhide hn;omega) (by have:=hQ.n2;have:=unhide hn;omega)
 have HC:=hide HC
 have hn1:1≤n:=by have:=hQ.n1;have:=unhide hn;omega
 have hn2:n≤676:=by have:=hQ.n2;have:=unhide hn;omega
 have HQ:=hide hQ
 have HPs:=hide hPs
 have hps9:(psL n).length≤676:=by
  have q1:=(ps_dd (n:=n) hn1 _ (Nat.le_refl _)).len
  have q2:=fc_len (n:=n) hn1
  unfold psL;omega
 obtain ⟨ps,hps⟩: ∃ps,psL n=ps:=⟨_,rfl⟩
 have HPS:Hid (psL os.length=ps):=hide (by rw[←unhide hn,hps])
 rw[hps] at HC hps9
 clear hps hQ hPs
 go_enter Tryz.func32,Tryz.ntmps32
 go_wp2_with (go_at_call 54;refine ((unhide HC) _).mono ?_;rintro e wA ⟨a0,c0,rfl,hlA,hbA⟩)
 have hS:IntsAt wA (w.heap.size+1) wA.heap.size a0 ps.length (fun i=>(nI ps).getD i 0):=by
  have:=hlA.ints.2;rw [nI_len] at this;exact this.weak Vs (Nat.le_refl _)
 have hsd:=SI.startM (S:=srcI (w.heap.size+1) wA.heap.size a0 ps.length (fun i=>(nI ps).getD i 0)) hbA hS (Nat.le_refl _)
 have hN:(nI ps).length=ps.length:=nI_len ps
 rw[hN]
 clear hN
 have hK:=ints_kept (LO:=(w.heap.size+1)) (HI:=wA.heap.size) (n:=ps.length) (a:=a0) (f:=fun i=>(nI ps).getD i 0)
 obtain ⟨HI,hHI⟩: ∃HI,wA.heap.size=HI:=⟨_,rfl⟩
 rw[hHI] at hsd hK hS
 clear hlA hS hHI
 go_loopw [3,19] (fun ls is wr=> ∃(k n9 c:Nat) (a:Option Addr) (l:List Int),is= .int .i64 (k:Int)∧ls= .slice a n9 c∧k≤ps.length∧n9≤3000∧Hid (l=nI (fsK os (psL os.length) k))∧SI w (w.heap.size+1) HI (srcI (w.heap.size+1) HI a0 ps.length (fun i=>(nI ps).getD i 0)) wr a n9 c l) (fun _ is _=>ps.length-(intOf is).toNat)
 case atStart=>exact ⟨0,0,0,_,[],rfl,rfl,Vn,Vn,hide rfl,hsd⟩
 case round=>
  clear hsd hbA
  obtain ⟨k,n9,c,a,l,rfl,rfl,hk,hn9,hl,hsd⟩:=hrel
  obtain ⟨w1,rfl⟩: ∃w1:World,w1=wr:=⟨_,rfl⟩
  by_cases c9:k<ps.length
  ·have hci:(k:Int)<(ps.length:Int):=by omega
   obtain ⟨g0,hg0,hg2,d0⟩:=IntsAt.cell hsd.sd.src c9
   rw[nI_get c9] at d0
   obtain ⟨p,hp⟩: ∃p,ps.getD k 0=p:=⟨_,rfl⟩
   rw[hp] at d0
   have hpm:p ∈ psL os.length:=by rw[unhide HPS,←hp];exact gdm c9
   have hpr:=unhide HPs p hpm
   obtain ⟨p2,p3,p4⟩:=(unhide HQ).le p hpm
   have hbL:=(unhide HQ).bd k
   have hfsS:fsK os (psL os.length) (k+1)=rnd os p (fsK os (psL os.length) k) (exN os.length p):=by rw[fsK_succ (by rw[unhide HPS];exact c9),unhide HPS,hp]
   obtain ⟨L0,hL0⟩: ∃L0,fsK os (psL os.length) k=L0:=⟨_,rfl⟩
   rw[hL0] at hbL hfsS
   have hl0:l=nI L0:=by rw[unhide hl,hL0]
   have hrb:=(unhide HQ).rb p hpm L0 hbL
   have hfull:=(unhide HQ).full p hpm L0
   have hck1:=(unhide HQ).ck1 p hpm
   have hdv1:=(unhide HQ).dv1 p hpm
   have htop:=(unhide HQ).top p hpm
   have hexo:exN os.length p=exN n p:=by rw[unhide hn]
   rw[hexo] at hfsS
   rw[←unhide hn] at p3 p4 hck1 hrb hfull htop
   obtain ⟨ex,hex⟩: ∃ex,exN n p=ex:=⟨_,rfl⟩
   rw[hex] at hfsS p4 hck1 hfull htop
   obtain ⟨P,hP⟩: ∃P,p ^ ex=P:=⟨_,rfl⟩
   rw[hP] at p4 hfull htop
   have hPart: ∀W,Calls Tryz.prog 55 #[.int .i64 (n:Int),.int .i64 (p:Int)] W fun e w'=>e= .returned (.int .i64 (P:Int))∧W=w':=fun W=>by
    have:=part_a n p W hn1 Vn p2 Vn
    rw[hex,hP] at this;exact this
   have HPart:=hide hPart
   have HPS2:=hide hfsS
   have HRB:=hide hrb
   have HFULL:=hide hfull
   have HCK1:=hide hck1
   have HDV1:=hide hdv1
   have HTOP:=hide htop
   have HP:=hide hP
   have HPR:=hide hpr
   have HEX:=hide hex
   have hsd0:=hsd
   subst hg0
   clear hPart hfsS hrb hfull hck1 hdv1 htop hP hpr hp hL0 hpm hex
   have HL0:=hide hl0
   clear hl0 hsd0
   go_wp2
   go_loopw [3,6,7] (fun ls bs qs wr=> ∃(m B Q n9 c:Nat) (a:Option Addr) (l:List Int),ls= .slice a n9 c∧bs= .int .i64 (B:Int)∧qs= .int .i64 (Q:Int)∧m≤ex∧Hid (cK os p m=B)∧Hid (p ^ (m+1)=Q)∧Hid (l=nI (rnd os p L0 m))∧n9≤3000∧SI w (w.heap.size+1) HI (srcI (w.heap.size+1) HI (some ⟨g0,0,none⟩) ps.length (fun i=>(nI ps).getD i 0)) wr a n9 c l) (fun _ _ qs _=>1000000-(intOf qs).toNat)
   case atStart=>exact ⟨0,1,p,n9,c,a,l,rfl,rfl,rfl,Vn,hide (by unfold cK;rw [if_pos rfl]),hide (by rw[Nat.zero_add,Nat.pow_one]),HL0,hn9,hsd⟩
   case round=>
    clear hsd HL0 hl
    obtain ⟨m,B,Q,n9,c,a,l,rfl,rfl,rfl,hm,hB,hQe,hl,hn9,hsd⟩:=hrel
    obtain ⟨wo,rfl⟩: ∃wo:World,wo=wr:=⟨_,rfl⟩
    have hCK:=unhide HCK1 m hm
    rw[unhide hB] at hCK
    have hQ2:Q≤P*p:=by
     have e1:p ^ m≤P:=by rw[←unhide HP];exact Nat.pow_le_pow_right Vn hm
     have e2:=Nat.mul_le_mul_right p e1
     have e3:=unhide hQe
     rw[Nat.pow_succ] at e3
     omega
    have hQ3:P*p≤676*676:=Nat.mul_le_mul Vn Vn
    have hQ4:2≤Q:=by
     have e3:=unhide hQe
     rw[Nat.pow_succ] at e3
     have e4:1≤p ^ m:=Nat.pow_pos Vn
     have:=Nat.mul_le_mul_right p e4
     omega
    have hQ5:Q≤456976:=by omega
    clear hQ2 hQ3
    by_cases cB:B<P
    ·have cB2:(B:Int)<(P:Int):=by omega
     have hmx:m<ex:=by rcases Nat.lt_or_ge m ex with q|q;exact q;exfalso;have e:m=ex:=Nat.le_antisymm hm q;have:=unhide hB;rw [e,unhide HTOP] at this;omega
     have hCK2:=unhide HCK1 (m+1) Vn
     obtain ⟨C,hC⟩: ∃C,cK os p (m+1)=C:=⟨_,rfl⟩
     rw[hC] at hCK2
     have hD1:=unhide HDV1 m
     rw[hC,unhide hB] at hD1
     obtain ⟨D,hD⟩: ∃D,C / B=D:=⟨_,rfl⟩
     rw[hD] at hD1
     have hDC:D≤C:=by rw[←hD];exact Nat.div_le_self _ _
     have td:Int.tdiv (C:Int) (B:Int)=(D:Int):=by rw[tdivN,hD]
     obtain ⟨r,hr⟩: ∃r,exN D p=r:=⟨_,rfl⟩
     have hrD:r<D:=by rw[←hr];exact ex_le p2 hD1
     have HXP:Hid (∀W,Calls Tryz.prog 56 #[.int .i64 (D:Int),.int .i64 (p:Int)] W fun e w'=>e= .returned (.int .i64 (r:Int))∧W=w'):=hide fun W=>by
      have:=exponent_a D p W hD1 Vn p2 Vn
      rw[hr] at this;exact this
     obtain ⟨Lm,hLm⟩: ∃Lm,rnd os p L0 m=Lm:=⟨_,rfl⟩
     have hLb: ∀x ∈ Lm,1≤x∧x≤456976:=fun x hx=>by
      rw[←hLm] at hx
      have e1:=unhide HRB m x hx
      have e2:p ^ m≤P:=by rw[←unhide HP];exact Nat.pow_le_pow_right Vn hm
      have e3:=Nat.mul_le_mul (show p ^ m≤676 by omega) hn2
      omega
     have hMb: ∀i,∀x ∈ mulF p i Lm,1≤x∧x≤308915776:=fun i x hx=>by
      have e1:=mulF_bd p2 i Lm 456976 Vn hLb x hx
      omega
     have hl1:l=nI Lm:=by rw[unhide hl,hLm]
     have HNXT:Hid (rnd os p L0 (m+1)=mulF p r Lm):=hide (by rw[rnd,hC,unhide hB,hD,hr,hLm])
     have HCN:Hid (∀cc,cntK os (Q:Int) n=cc→cc=C):=hide fun cc h=>by rw[←h,unhide hn,←unhide hQe,cntK_all,hC]
     have HL1:=hide hl1
     have HMB:=hide hMb
     have HCC:=hide hC
     have HB0: ¬(B:Int)=0:=by omega
     have HQQ2:Hid (p ^ (m+1+1)=Q*p):=hide (by rw[Nat.pow_succ,unhide hQe])
     clear hC hD hr hLm hLb hMb hl1
     go_wp2_with (go_at_call 55;refine ((unhide HPart) _).mono ?_;rintro e w' ⟨rfl,rfl⟩)
     go_loop [8,35] (fun ms is=> ∃kk cc:Nat,is= .int .i64 (kk:Int)∧ms= .int .i64 (cc:Int)∧kk≤n∧cc≤kk∧Hid (cntK os (Q:Int) kk=cc)) (fun _ is=>n-(intOf is).toNat)
     case atStart=>exact ⟨0,0,rfl,rfl,Vn,Vn,hide rfl⟩
     case round=>
      obtain ⟨kk,cc,rfl,rfl,hkk,hcc,hcn⟩:=hrel
      by_cases c5:kk<n
      ·have hci5:(kk:Int)<(n:Int):=by omega
       obtain ⟨go,hgo,hgo2,d5⟩:=IntsAt.cell (IntsAt.below hO hsd.sd.bel hhi) c5
       obtain ⟨o1,o2⟩:=(unhide HQ).pos _ (gdm (l:=os) (i:=kk) (d:=0) (by have:=unhide hn;omega))
       obtain ⟨x,hx⟩: ∃x,os.getD kk 0=x:=⟨_,rfl⟩
       rw[hx] at d5 o1 o2
       have hsucc:=cntK_succ (q:=(Q:Int)) (show kk<os.length by have:=unhide hn;omega) hx
       rw[unhide hcn] at hsucc
       subst hgo
       have hxne: ¬x=0:=by omega
       by_cases c6:(Q:Int)%x=0
       ·have t1:Int.tmod (Q:Int) x=0:=by rw[Int.tmod_eq_emod_of_nonneg Vn];exact c6
        have HN2:Hid (cntK os (Q:Int) (kk+1)=cc+1):=hide (by rw[hsucc,if_pos (by simpa using c6)])
        clear hsucc hx c6
        go_wp2
        go_round
        case rel=>first|exact ⟨kk+1,cc+1,by first|rfl|go_num,by first|rfl|go_num,Vn,Vn,HN2⟩|((repeat apply Exists.intro);exact ⟨⟨kk+1,cc+1,by first|rfl|go_num,by first|rfl|go_num,Vn,Vn,HN2⟩,rfl⟩)
        case measure=>simp [intOf];omega
       ·obtain ⟨rr,hrr⟩: ∃rr:Int,Int.tmod (Q:Int) x=rr:=⟨_,rfl⟩
        have hr0: ¬rr=0:=by rw[←hrr,Int.tmod_eq_emod_of_nonneg Vn];exact c6
        have HN2:Hid (cntK os (Q:Int) (kk+1)=cc):=hide (by rw[hsucc,if_neg (by simpa using c6)];rfl)
        clear hsucc hx c6
        go_wp2
        go_round
        case rel=>first|exact ⟨kk+1,cc,by first|rfl|go_num,rfl,Vn,Vn,HN2⟩|((repeat apply Exists.intro);exact ⟨⟨kk+1,cc,by first|rfl|go_num,rfl,Vn,Vn,HN2⟩,rfl⟩)
        case measure=>simp [intOf];omega
      ·obtain rfl:kk=n:=by omega
       have hcC:=unhide HCN cc (unhide hcn)
       subst hcC
       clear hcn
       go_wp2
       go_loopw [3,11] (fun ls is wr=> ∃(i n9 c:Nat) (a:Option Addr) (l:List Int),is= .int .i64 (i:Int)∧ls= .slice a n9 c∧i≤r∧n9≤3000∧Hid (l=nI (mulF p i Lm))∧SI w (w.heap.size+1) HI (srcI (w.heap.size+1) HI (some ⟨g0,0,none⟩) ps.length (fun i=>(nI ps).getD i 0)) wr a n9 c l) (fun _ is _=>r-(intOf is).toNat)
       case atStart=>exact ⟨0,n9,c,a,l,rfl,rfl,Vn,hn9,HL1,hsd⟩
       case round=>
        clear hsd hn9 HL1 hl
        obtain ⟨i,n9,c,a,l,rfl,rfl,hi,hn9,hl2,hsd⟩:=hrel
        obtain ⟨w5,rfl⟩: ∃w5:World,w5=wr:=⟨_,rfl⟩
        have hz5:=hsd.sd.bel.size
        have hln:=hsd.len
        by_cases c4:i<r
        ·have hci4:(i:Int)<(r:Int):=by omega
         by_cases ci:i=n9
         ·have hNew:Hid (l++ [(p:Int)]=nI (mulF p (i+1) Lm)):=hide (by
           have h1:(mulF p i Lm).length=i:=by have e1:=unhide hln;rw [unhide hl2,nI_len] at e1;omega
           have h2:=mulF_len p i Lm
           rw[mulF_new p h1 Vn,nI_app,unhide hl2])
          have hll:l.length=i:=by rw[←unhide hln,ci]
          have hST:Hid ((l++ [(1:Int)]).set i (p:Int)=l++ [(p:Int)]):=hide (by rw[←hll,List.set_append_right _ _ (Nat.le_refl _),Nat.sub_self];rfl)
          have hGT:Hid ((l++ [(1:Int)]).getD i 0=1):=hide (by rw[←hll,List.getD_eq_getElem?_getD];simp)
          have HLL:=hide hll
          have hlb:l.length≤2000:=by omega
          have hin2:(i:Int)<((l.length:Nat):Int)+1:=by omega
          clear hll
          subst ci
          go_wp2_with (first|(go_at_call 56;refine ((unhide HXP) _).mono ?_;rintro e w' ⟨rfl,rfl⟩)|(at_builtin;refine app_int _ rfl (.tmp 59) (.tmp 60) rfl w.heap.size (.slice a i c) l 1 w5.heap.size rfl rfl (hsd.alloc hK _).il VB Vn VW ?_;intro g cap w6 hown hgrow hat hlt;have hs6:=(hsd.alloc hK _).app hK hown hgrow hat;have q1:=(IL.cellAt hs6.il (j:=i) (by have:=unhide HLL;simp;omega)).trans (by rw[unhide hGT]);have q2:=IL.frozenAt hs6.il i))
          go_roundw
          case rel=>
           have hs7:=hs6.set hK i (p:Int)
           rw[unhide hST] at hs7
           first|exact ⟨i+1,l.length+1,cap,some ⟨g,0,none⟩,_,by first|rfl|go_num,rfl,Vn,Vn,hNew,hs7⟩|((repeat apply Exists.intro);exact ⟨⟨i+1,l.length+1,cap,some ⟨g,0,none⟩,_,by first|rfl|go_num,rfl,Vn,Vn,hNew,hs7⟩,rfl⟩)
          case measure=>simp [intOf];omega
         ·have hci5: ¬(i:Int)=(n9:Int):=by omega
          have hci6:i<n9:=by
           have h1:(mulF p i Lm).length=n9:=by rw[unhide hln,unhide hl2,nI_len]
           have h2:=mulF_len p i Lm
           omega
          have hlen:=unhide hln
          have hle9:(mulF p i Lm).length=n9:=by rw[hlen,unhide hl2,nI_len]
          have hmx2:=mulF_len p i Lm
          obtain ⟨gl,hgl,hgl2,hcl⟩:=hsd.ptr (show 0<n9 by omega)
          have e0:=hcl i Vn
          have q2:=IL.frozenAt (hgl▸hsd.il) i
          have hxm:=unhide HMB i _ (gdm (l:=mulF p i Lm) (i:=i) (d:=1) Vn)
          have hxe:l.getD i 0=(((mulF p i Lm).getD i 1:Nat):Int):=by rw[unhide hl2,nI_get Vn,List.getD_eq_getElem?_getD,List.getD_eq_getElem?_getD,List.getElem?_eq_getElem (show i<(mulF p i Lm).length by omega)];rfl
          have hNew:Hid (l.set i (((mulF p i Lm).getD i 1*p:Nat):Int)=nI (mulF p (i+1) Lm)):=hide (by rw[mulF_old p (show i<Lm.length by omega),←nI_set,unhide hl2])
          rw[hxe] at e0
          obtain ⟨x,hx⟩: ∃x,(mulF p i Lm).getD i 1=x:=⟨_,rfl⟩
          rw[hx] at e0 hxm hNew
          obtain ⟨X,hX⟩: ∃X,x*p=X:=⟨_,rfl⟩
          rw[hX] at hNew
          have hXb:X≤208827064576:=by
           rw[←hX]
           have:=Nat.mul_le_mul hxm.2 (show p≤676 by omega)
           omega
          have tm:(x:Int)*(p:Int)=(X:Int):=by rw[←hX];push_cast;rfl
          have hin:(i:Int)<(n9:Int):=by omega
          clear hx hX hxe hle9 hmx2 hlen hcl
          subst hgl
          clear ci
          go_wp2_with (go_at_call 56;refine ((unhide HXP) _).mono ?_;rintro e w' ⟨rfl,rfl⟩)
          go_roundw
          case rel=>
           have hs7:=hsd.set hK i (X:Int)
           first|exact ⟨i+1,n9,c,some ⟨gl,0,none⟩,_,by first|rfl|go_num,rfl,Vn,hn9,hNew,hs7⟩|((repeat apply Exists.intro);exact ⟨⟨i+1,n9,c,some ⟨gl,0,none⟩,_,by first|rfl|go_num,rfl,Vn,hn9,hNew,hs7⟩,rfl⟩)
          case measure=>simp [intOf];omega
        ·obtain rfl:i=r:=by omega
         have hci4: ¬((i:Int)<(i:Int)):=by omega
         obtain ⟨Q2,hQ9⟩: ∃Q2,Q*p=Q2:=⟨_,rfl⟩
         have HQ9:Hid (p ^ (m+1+1)=Q2):=hide ((unhide HQQ2).trans hQ9)
         have tq:(Q:Int)*(p:Int)=(Q2:Int):=by rw[←hQ9];push_cast;rfl
         have hq1:Q<Q2:=by
          rw[←hQ9]
          have:=Nat.mul_le_mul_left Q p2
          omega
         have hq2:Q2≤456976*676:=by rw[←hQ9];exact Nat.mul_le_mul hQ5 Vn
         have HL2:Hid (l=nI (rnd os p L0 (m+1))):=hide (by rw[unhide HNXT];exact unhide hl2)
         clear hQ9
         go_wp2_with (go_at_call 56;refine ((unhide HXP) _).mono ?_;rintro e w' ⟨rfl,rfl⟩)
         go_roundw
         case rel=>first|exact ⟨m+1,_,Q2,n9,c,a,l,rfl,rfl,rfl,Vn,HCC,HQ9,HL2,hn9,hsd⟩|((repeat apply Exists.intro);exact ⟨⟨m+1,_,Q2,n9,c,a,l,rfl,rfl,rfl,Vn,HCC,HQ9,HL2,hn9,hsd⟩,rfl⟩)
         case measure=>simp [intOf];omega
    ·have cB2: ¬(B:Int)<(P:Int):=by omega
     have HLN:Hid (l=nI (fsK os (psL os.length) (k+1))):=hide (by rw[unhide HPS2,unhide HFULL m hm (by rw[unhide hB];omega)];exact unhide hl)
     go_wp2_with (go_at_call 55;refine ((unhide HPart) _).mono ?_;rintro e w' ⟨rfl,rfl⟩)
     go_roundw
     case rel=>first|exact ⟨k+1,n9,c,a,l,by first|rfl|go_num,rfl,Vn,hn9,HLN,hsd⟩|((repeat apply Exists.intro);exact ⟨⟨k+1,n9,c,a,l,by first|rfl|go_num,rfl,Vn,hn9,HLN,hsd⟩,rfl⟩)
     case measure=>simp [intOf];omega
  ·obtain rfl:k=ps.length:=by omega
   have hz1:=hsd.sd.bel.size
   obtain ⟨L9,hL9⟩: ∃L9,L9=l:=⟨_,rfl⟩
   have HL9:Hid (L9=nI (fsL os)):=hide (by rw[hL9,unhide hl];unfold fsL;rw [unhide HPS])
   have hsdR:=hsd
   rw[←hL9] at hsdR
   have HLEN:Hid (L9.length=n9):=hide (by rw[hL9];exact (unhide hsd.len).symm)
   clear hL9 hl hsd
   go_wp2
   go_loopw [12,13] (fun ts rs wr=> ∃(t:Nat) (R:Int) (l:List Int),ts= .int .i64 (t:Int)∧rs= .int .i64 R∧2*t≤n9∧Hid (R=(n9:Int)-1-t)∧Hid (RvOk L9 l t)∧SI w (w.heap.size+1) HI (srcI (w.heap.size+1) HI a0 ps.length (fun i=>(nI ps).getD i 0)) wr a n9 c l) (fun ts _ _=>n9-(intOf ts).toNat)
   case atStart=>exact ⟨0,_,L9,rfl,rfl,Vn,hide Vn,hide (rv_zero _),hsdR⟩
   case round=>
    clear hsdR
    obtain ⟨t,R,l,rfl,rfl,ht,hR,hrv,hsd⟩:=hrel
    obtain ⟨w5,rfl⟩: ∃w5:World,w5=wr:=⟨_,rfl⟩
    by_cases c5:2*t+1<n9
    ·obtain ⟨R2,hR2⟩: ∃R2:Nat,R=(R2:Int):=⟨n9-1-t,by have:=unhide hR;omega⟩
     have hRt:n9-1-t=R2:=by have:=unhide hR;omega
     subst hR2
     have hci5:(t:Int)<(R2:Int):=by omega
     have hci6:(R2:Int)<(n9:Int):=by omega
     have hci7:(t:Int)<(n9:Int):=by omega
     obtain ⟨gl,hgl,hgl2,hcl⟩:=hsd.ptr (show 0<n9 by omega)
     have e0:=hcl t Vn
     have e1:=hcl R2 Vn
     have q0:=IL.frozenAt (hgl▸hsd.il) t
     have q1:=IL.frozenAt (hgl▸hsd.il) R2
     have hst:=rv_step (unhide hrv) (by rw[unhide HLEN];exact c5)
     rw[unhide HLEN,hRt] at hst
     obtain ⟨u,hu⟩: ∃u,l.getD t 0=u:=⟨_,rfl⟩
     obtain ⟨v,hv⟩: ∃v,l.getD R2 0=v:=⟨_,rfl⟩
     rw[hu,hv] at hst
     rw[hu] at e0
     rw[hv] at e1
     have HST:=hide hst
     have hne: ¬R2=t:=by omega
     clear hst hu hv hcl hrv
     subst hgl
     go_wp2
     go_region
     all_goals
      go_wp2
      go_roundw
      case rel=>
       first|(refine ⟨t+1,_,_,by first|rfl|go_num,rfl,Vn,hide (by have:=unhide hR;omega),HST,?_⟩;first|exact SI.call ((hsd.set hK t v).set hK R2 u) hK byGG|(rw [List.set_comm _ _ (fun e=>hne e.symm)];exact SI.call ((hsd.set hK R2 u).set hK t v) hK byGG))|((repeat apply Exists.intro);refine ⟨⟨t+1,_,_,by first|rfl|go_num,rfl,Vn,hide (by have:=unhide hR;omega),HST,?_⟩,rfl⟩;first|exact SI.call ((hsd.set hK t v).set hK R2 u) hK byGG|(rw [List.set_comm _ _ (fun e=>hne e.symm)];exact SI.call ((hsd.set hK R2 u).set hK t v) hK byGG))
      case measure=>simp [intOf];omega
    ·have hci5: ¬((t:Int)<R):=by have:=unhide hR;omega
     have hend:l=nI (fsL os).reverse:=by rw[rv_end (unhide hrv) (by rw[unhide HLEN];omega),unhide HL9,nI_rev]
     go_wp2
     go_ret
     exact hsd.ret hend rfl
end Go.Proofs.YtobkcnmlmmhpoaaGreatDoor
