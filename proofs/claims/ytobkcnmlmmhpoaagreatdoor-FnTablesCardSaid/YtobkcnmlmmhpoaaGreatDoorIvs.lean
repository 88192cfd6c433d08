/- The invariant factors, the specification's side: grFactors. -/
import Derived.Test.YtobkcnmlmmhpoaaGreatDoorIvp
import Derived.Test.YtobkcnmlmmhpoaaGreatDoorJac
set_option maxRecDepth 100000
set_option maxHeartbeats 80000000
namespace Go.Proofs.YtobkcnmlmmhpoaaGreatDoor
open Go.RowKit
set_option linter.unusedVariables false
set_option linter.unusedSimpArgs false
attribute [local go_sem] q2 q3 q4 q5 q6 q7 q8 q9 q10 q11 q12
theorem grFactors_a (os:List Int) (ao:Option Addr) (n co lo hi:Nat) (w:World) (hQ:OsQ os) (hn:Hid (n=os.length)) (hhi:hi≤w.heap.size) (hO:IntsAt w lo hi ao n (fun i=>os.getD i 0)):
  Calls Tryz.prog 78 #[.slice ao n co] w (RetIL w (nI (fsL os).reverse)):=by
 have hPs: ∀p ∈ psL os.length,Pr p:=(ps_ok hQ.n1).pr
 have HC: ∀W,Calls Tryz.prog 103 #[.int .i64 (n:Int)] W (RetIL W (nI (psL n))):=fun W=>nuPrimes_a n W (by have:=hQ.n1;have:=unhide hn;omega) (by have:=hQ.n2;have:=unhide hn;omega)
 have HC:=hide HC
 have hn1:1≤n:=by have:=hQ.n1;have:=unhide hn;omega
 have hn2:n≤676:=by have:=hQ.n2;have:=unhide hn;omega
 have HQ:=hide hQ
 have HPs:=hide hPs
 have hps9:(psL n).length≤676:=by
  have q1:=(ps_dd (n:=n) hn1 _ (Nat.le_refl _)).len
  have q2:=fc_len (n:=n) hn1
  unfold psL;omega
 obtain ⟨ps,hps⟩: ∃ps,psL n=ps:=⟨_,rfl⟩
 have HPS:Hid (psL os.length=ps):=hide (by rw[←unhide hn,hps])
 rw[hps] at HC hps9
 clear hps hQ hPs
 go_enter Tryz.func78,Tryz.ntmps78
 go_wp2_with (go_at_call 103;refine ((unhide HC) _).mono ?_;rintro e wA ⟨a0,c0,rfl,hlA,hbA⟩)
 have hS:IntsAt wA w.heap.size wA.heap.size a0 ps.length (fun i=>(nI ps).getD i 0):=by
  have:=hlA.ints.2;rw [nI_len] at this;exact this.weak Vs (Nat.le_refl _)
 have hsd:=SI.startN (LO:=w.heap.size) (S:=srcI w.heap.size wA.heap.size a0 ps.length (fun i=>(nI ps).getD i 0)) hbA hS (Nat.le_refl _)
 have hN:(nI ps).length=ps.length:=nI_len ps
 rw[hN]
 clear hN
 have hK:=ints_kept (LO:=w.heap.size) (HI:=wA.heap.size) (n:=ps.length) (a:=a0) (f:=fun i=>(nI ps).getD i 0)
 obtain ⟨HI,hHI⟩: ∃HI,wA.heap.size=HI:=⟨_,rfl⟩
 rw[hHI] at hsd hK hS
 clear hlA hS hHI
 go_loopw [3,20] (fun ls is wr=> ∃(k n9 c:Nat) (a:Option Addr) (l:List Int),is= .int .i64 (k:Int)∧ls= .slice a n9 c∧k≤ps.length∧n9≤3000∧Hid (l=nI (fsK os (psL os.length) k))∧SI w w.heap.size HI (srcI w.heap.size HI a0 ps.length (fun i=>(nI ps).getD i 0)) wr a n9 c l) (fun _ is _=>ps.length-(intOf is).toNat)
 case atStart=>exact ⟨0,0,0,_,[],rfl,rfl,Vn,Vn,hide rfl,hsd⟩
 case round=>
  clear hsd hbA
  obtain ⟨k,n9,c,a,l,rfl,rfl,hk,hn9,hl,hsd⟩:=hrel
  obtain ⟨w1,rfl⟩: ∃w1:World,w1=wr:=⟨_,rfl⟩
  by_cases c9:k<ps.length
  ·have hci:(k:Int)<(ps.length:Int):=by omega
   obtain ⟨g0,hg0,hg2,d0⟩:=IntsAt.cell hsd.sd.src c9
   rw[nI_get c9] at d0
   obtain ⟨p,hp⟩: ∃p,ps.getD k 0=p:=⟨_,rfl⟩
   rw[hp] at d0
   have hpm:p ∈ psL os.length:=by rw[unhide HPS,←hp];exact gdm c9
   have hpr:=unhide HPs p hpm
   obtain ⟨p2,p3,p4⟩:=(unhide HQ).le p hpm
   have hbL:=(unhide HQ).bd k
   have hfsS:fsK os (psL os.length) (k+1)=rnd os p (fsK os (psL os.length) k) (exN os.length p):=by rw[fsK_succ (by rw[unhide HPS];exact c9),unhide HPS,hp]
   obtain ⟨L0,hL0⟩: ∃L0,fsK os (psL os.length) k=L0:=⟨_,rfl⟩
   rw[hL0] at hbL hfsS
   have hl0:l=nI L0:=by rw[unhide hl,hL0]
   have hrb:=(unhide HQ).rb p hpm L0 hbL
   have hfull:=(unhide HQ).full p hpm L0
   have hck1:=(unhide HQ).ck1 p hpm
   have hdv1:=(unhide HQ).dv1 p hpm
   have htop:=(unhide HQ).top p hpm
   have hexo:exN os.length p=exN n p:=by rw[unhide hn]
   rw[hexo] at hfsS
   rw[←unhide hn] at p3 p4 hck1 hrb hfull htop
   obtain ⟨ex,hex⟩: ∃ex,exN n p=ex:=⟨_,rfl⟩
   rw[hex] at hfsS p4 hck1 hfull htop
   obtain ⟨P,hP⟩: ∃P,p ^ ex=P:=⟨_,rfl⟩
   rw[hP] at p4 hfull htop
   have hPart: ∀W,Calls Tryz.prog 55 #[.int .i64 (n:Int),.int .i64 (p:Int)] W fun e w'=>e= .returned (.int .i64 (P:Int))∧W=w':=fun W=>by
    have:=part_a n p W hn1 Vn p2 Vn
    rw[hex,hP] at this;exact this
   have HPart:=hide hPart
   have HPS2:=hide hfsS
   have HRB:=hide hrb
   have HFULL:=hide hfull
   have HCK1:=hide hck1
   have HDV1:=hide hdv1
   have HTOP:=hide htop
   have HP:=hide hP
   have HPR:=hide hpr
   have HEX:=hide hex
   have hsd0:=hsd
   subst hg0
   clear hPart hfsS hrb hfull hck1 hdv1 htop hP hpr hp hL0 hpm hex
   have HL0:=hide hl0
   clear hl0 hsd0
   go_wp2
   go_loopw [3,6,7] (fun ls bs qs wr=> ∃(m B Q n9 c:Nat) (a:Option Addr) (l:List Int),ls= .slice a n9 c∧bs= .int .i64 (B:Int)∧qs= .int .i64 (Q:Int)∧m≤ex∧Hid (cK os p m=B)∧Hid (p ^ (m+1)=Q)∧Hid (l=nI (rnd os p L0 m))∧n9≤3000∧SI w w.heap.size HI (srcI w.heap.size HI (some ⟨g0,0,none⟩) ps.length (fun i=>(nI ps).getD i 0)) wr a n9 c l) (fun _ _ qs _=>1000000-(intOf qs).toNat)
   case atStart=>exact ⟨0,1,p,n9,c,a,l,rfl,rfl,rfl,Vn,hide (by unfold cK;rw [if_pos rfl]),hide (by rw[Nat.zero_add,Nat.pow_one]),HL0,hn9,hsd⟩
   case round=>
    clear hsd HL0 hl
    obtain ⟨m,B,Q,n9,c,a,l,rfl,rfl,rfl,hm,hB,hQe,hl,hn9,hsd⟩:=hrel
    obtain ⟨wo,rfl⟩: ∃wo:World,wo=wr:=⟨_,rfl⟩
    have hCK:=unhide HCK1 m hm
    rw[unhide hB] at hCK
    have hQ2:Q≤P*p:=by
     have e1:p ^ m≤P:=by rw[←unhide HP];exact Nat.pow_le_pow_right Vn hm
     have e2:=Nat.mul_le_mul_right p e1
     have e3:=unhide hQe
     rw[Nat.pow_succ] at e3
     omega
    have hQ3:P*p≤676*676:=Nat.mul_le_mul Vn Vn
    have hQ4:2≤Q:=by
     have e3:=unhide hQe
     rw[Nat.pow_succ] at e3
     have e4:1≤p ^ m:=Nat.pow_pos Vn
     have:=Nat.mul_le_mul_right p e4
     omega
    have hQ5:Q≤456976:=by omega
    clear hQ2 hQ3
    have hQne: ¬(Q:Int)=0:=by omega
    have hdvi:=pow_dvd_iff p2 hn1 (unhide HPR) (m:=m)
    rw[unhide HEX,unhide hQe] at hdvi
    by_cases cB:m<ex
    ·have t9:Int.tmod (n:Int) (Q:Int)=0:=by rw[tmodN,hdvi.2 cB];rfl
     clear hdvi
     have hmx:m<ex:=cB
     have hCK2:=unhide HCK1 (m+1) Vn
     obtain ⟨C,hC⟩: ∃C,cK os p (m+1)=C:=⟨_,rfl⟩
     rw[hC] at hCK2
     have hD1:=unhide HDV1 m
     rw[hC,unhide hB] at hD1
     obtain ⟨D,hD⟩: ∃D,C / B=D:=⟨_,rfl⟩
     rw[hD] at hD1
     have hDC:D≤C:=by rw[←hD];exact Nat.div_le_self _ _
     have td:Int.tdiv (C:Int) (B:Int)=(D:Int):=by rw[tdivN,hD]
     obtain ⟨r,hr⟩: ∃r,exN D p=r:=⟨_,rfl⟩
     have hrD:r<D:=by rw[←hr];exact ex_le p2 hD1
     have HXP:Hid (∀W,Calls Tryz.prog 104 #[.int .i64 (D:Int),.int .i64 (p:Int)] W fun e w'=>e= .returned (.int .i64 (r:Int))∧W=w'):=hide fun W=>by
      have:=nuExponent_a D p W hD1 Vn p2 Vn
      rw[hr] at this;exact this
     obtain ⟨Lm,hLm⟩: ∃Lm,rnd os p L0 m=Lm:=⟨_,rfl⟩
     have hLb: ∀x ∈ Lm,1≤x∧x≤456976:=fun x hx=>by
      rw[←hLm] at hx
      have e1:=unhide HRB m x hx
      have e2:p ^ m≤P:=by rw[←unhide HP];exact Nat.pow_le_pow_right Vn hm
      have e3:=Nat.mul_le_mul (show p ^ m≤676 by omega) hn2
      omega
     have hMb: ∀i,∀x ∈ mulF p i Lm,1≤x∧x≤308915776:=fun i x hx=>by
      have e1:=mulF_bd p2 i Lm 456976 Vn hLb x hx
      omega
     have hl1:l=nI Lm:=by rw[unhide hl,hLm]
     have HNXT:Hid (rnd os p L0 (m+1)=mulF p r Lm):=hide (by rw[rnd,hC,unhide hB,hD,hr,hLm])
     have HCN:Hid (∀cc,cntK os (Q:Int) n=cc→cc=C):=hide fun cc h=>by rw[←h,unhide hn,←unhide hQe,cntK_all,hC]
     have HL1:=hide hl1
     have HMB:=hide hMb
     have HCC:=hide hC
     have HB0: ¬(B:Int)=0:=by omega
     have HQQ2:Hid (p ^ (m+1+1)=Q*p):=hide (by rw[Nat.pow_succ,unhide hQe])
     have HLB:=hide hLb
     clear hC hD hr hLm hLb hMb hl1
     go_wp2
     go_loop [8,35] (fun ms is=> ∃kk cc:Nat,is= .int .i64 (kk:Int)∧ms= .int .i64 (cc:Int)∧kk≤n∧cc≤kk∧Hid (cntK os (Q:Int) kk=cc)) (fun _ is=>n-(intOf is).toNat)
     case atStart=>exact ⟨0,0,rfl,rfl,Vn,Vn,hide rfl⟩
     case round=>
      obtain ⟨kk,cc,rfl,rfl,hkk,hcc,hcn⟩:=hrel
      by_cases c5:kk<n
      ·have hci5:(kk:Int)<(n:Int):=by omega
       obtain ⟨go,hgo,hgo2,d5⟩:=IntsAt.cell (IntsAt.below hO hsd.sd.bel hhi) c5
       obtain ⟨o1,o2⟩:=(unhide HQ).pos _ (gdm (l:=os) (i:=kk) (d:=0) (by have:=unhide hn;omega))
       obtain ⟨x,hx⟩: ∃x,os.getD kk 0=x:=⟨_,rfl⟩
       rw[hx] at d5 o1 o2
       have hsucc:=cntK_succ (q:=(Q:Int)) (show kk<os.length by have:=unhide hn;omega) hx
       rw[unhide hcn] at hsucc
       subst hgo
       have hxne: ¬x=0:=by omega
       by_cases c6:(Q:Int)%x=0
       ·have t1:Int.tmod (Q:Int) x=0:=by rw[Int.tmod_eq_emod_of_nonneg Vn];exact c6
        have HN2:Hid (cntK os (Q:Int) (kk+1)=cc+1):=hide (by rw[hsucc,if_pos (by simpa using c6)])
        clear hsucc hx c6
        go_wp2
        go_round
        case rel=>first|exact ⟨kk+1,cc+1,by first|rfl|go_num,by first|rfl|go_num,Vn,Vn,HN2⟩|((repeat apply Exists.intro);exact ⟨⟨kk+1,cc+1,by first|rfl|go_num,by first|rfl|go_num,Vn,Vn,HN2⟩,rfl⟩)
        case measure=>simp [intOf];omega
       ·obtain ⟨rr,hrr⟩: ∃rr:Int,Int.tmod (Q:Int) x=rr:=⟨_,rfl⟩
        have hr0: ¬rr=0:=by rw[←hrr,Int.tmod_eq_emod_of_nonneg Vn];exact c6
        have HN2:Hid (cntK os (Q:Int) (kk+1)=cc):=hide (by rw[hsucc,if_neg (by simpa using c6)];rfl)
        clear hsucc hx c6
        go_wp2
        go_round
        case rel=>first|exact ⟨kk+1,cc,by first|rfl|go_num,rfl,Vn,Vn,HN2⟩|((repeat apply Exists.intro);exact ⟨⟨kk+1,cc,by first|rfl|go_num,rfl,Vn,Vn,HN2⟩,rfl⟩)
        case measure=>simp [intOf];omega
      ·obtain rfl:kk=n:=by omega
       have hcC:=unhide HCN cc (unhide hcn)
       subst hcC
       clear hcn
       go_wp2_with (go_at_call 104;refine ((unhide HXP) _).mono ?_;rintro e w' ⟨rfl,rfl⟩)
       go_loopw [3] (fun ls wr=> ∃(s n9 c:Nat) (a:Option Addr) (l:List Int),ls= .slice a n9 c∧Hid (n9=Lm.length+s)∧n9≤3000∧Hid (s=0∨Lm.length+s≤r)∧Hid (l=nI (Lm++List.replicate s 1))∧SI w w.heap.size HI (srcI w.heap.size HI (some ⟨g0,0,none⟩) ps.length (fun i=>(nI ps).getD i 0)) wr a n9 c l) (fun ls _=>r-lenOf ls)
       case atStart=>exact ⟨0,n9,c,a,l,rfl,hide (by have e1:=unhide hsd.len;rw [unhide HL1,nI_len] at e1;omega),hn9,hide (.inl rfl),hide (by rw[unhide HL1];simp),hsd⟩
       case round=>
        clear hsd hn9 HL1 hl
        obtain ⟨s,n9,c,a,l,rfl,hn9,hn8,hsr,hl2,hsd⟩:=hrel
        obtain ⟨w5,rfl⟩: ∃w5:World,w5=wr:=⟨_,rfl⟩
        have hz5:=hsd.sd.bel.size
        have hln:=hsd.len
        by_cases c4:n9<r
        ·have hci4:(n9:Int)<(r:Int):=by omega
         have hlb:l.length≤2000:=by have:=unhide hln;omega
         have HNW:Hid (l++ [(1:Int)]=nI (Lm++List.replicate (s+1) 1)):=hide (by rw[List.replicate_succ',←List.append_assoc,nI_app,←unhide hl2];rfl)
         go_wp2_with (at_builtin;refine app_int _ rfl (.tmp 55) (.tmp 56) rfl w.heap.size (.slice a n9 c) l 1 w5.heap.size rfl rfl (hsd.alloc hK _).il VB Vn VW ?_;intro g cap w6 hown hgrow hat hlt)
         go_roundw
         case rel=>
          have hs6:=(hsd.alloc hK _).app hK hown hgrow hat
          first|exact ⟨s+1,l.length+1,cap,some ⟨g,0,none⟩,_,rfl,hide (by have:=unhide hln;have:=unhide hn9;omega),by have:=unhide hln;omega,hide (by have:=unhide hn9;omega),HNW,hs6⟩|((repeat apply Exists.intro);exact ⟨⟨s+1,l.length+1,cap,some ⟨g,0,none⟩,_,rfl,hide (by have:=unhide hln;have:=unhide hn9;omega),by have:=unhide hln;omega,hide (by have:=unhide hn9;omega),HNW,hs6⟩,rfl⟩)
         case measure=>have:=unhide hln;simp [lenOf];omega
        ·have hci4: ¬((n9:Int)<(r:Int)):=by omega
         obtain ⟨Lp,hLp⟩: ∃Lp,Lm++List.replicate (r-Lm.length) 1=Lp:=⟨_,rfl⟩
         have hsE:s=r-Lm.length:=by have:=unhide hn9;have:=unhide hsr;omega
         have hpl:Hid (Lp.length=n9):=hide (by rw[←hLp,List.length_append,List.length_replicate,←hsE];exact (unhide hn9).symm)
         have hpad:Hid (mulF p r Lp=mulF p r Lm):=hide (by rw[←hLp];exact mulF_pad p r Lm)
         have HLp:Hid (l=nI (mulF p 0 Lp)):=hide (by rw[unhide hl2,hsE,hLp];rfl)
         have hLpb: ∀x ∈ Lp,1≤x∧x≤456976:=fun x hx=>by
          rw[←hLp,List.mem_append] at hx
          rcases hx with hx|hx
          ·have:=unhide HMB 0 x hx
           have e0:=unhide HLB x hx
           exact e0
          ·have:=List.eq_of_mem_replicate hx;omega
         have HMP:Hid (∀i,∀x ∈ mulF p i Lp,1≤x∧x≤308915776):=hide fun i x hx=>by
          have e1:=mulF_bd p2 i Lp 456976 Vn hLpb x hx
          omega
         clear hLp hLpb hsE hsr hl2 hn9
         go_wp2
         go_loopw [12] (fun is wr=> ∃(i:Nat) (l:List Int),is= .int .i64 (i:Int)∧i≤r∧Hid (l=nI (mulF p i Lp))∧SI w w.heap.size HI (srcI w.heap.size HI (some ⟨g0,0,none⟩) ps.length (fun i=>(nI ps).getD i 0)) wr a n9 c l) (fun is _=>r-(intOf is).toNat)
         case atStart=>exact ⟨0,l,rfl,Vn,HLp,hsd⟩
         case round=>
          clear hsd HLp hln
          obtain ⟨i,l,rfl,hi,hl2,hsd⟩:=hrel
          obtain ⟨w6,rfl⟩: ∃w6:World,w6=wr:=⟨_,rfl⟩
          have hln:=hsd.len
          by_cases c5:i<r
          ·have hci5:(i:Int)<(r:Int):=by omega
           have hlen:=unhide hln
           have hle9:(mulF p i Lp).length=n9:=by rw[hlen,unhide hl2,nI_len]
           have hmx2:=mulF_len p i Lp
           obtain ⟨gl,hgl,hgl2,hcl⟩:=hsd.ptr (show 0<n9 by omega)
           have e0:=hcl i Vn
           have q2:=IL.frozenAt (hgl▸hsd.il) i
           have hxm:=unhide HMP i _ (gdm (l:=mulF p i Lp) (i:=i) (d:=1) Vn)
           have hxe:l.getD i 0=(((mulF p i Lp).getD i 1:Nat):Int):=by rw[unhide hl2,nI_get Vn,List.getD_eq_getElem?_getD,List.getD_eq_getElem?_getD,List.getElem?_eq_getElem (show i<(mulF p i Lp).length by omega)];rfl
           have hNew:Hid (l.set i (((mulF p i Lp).getD i 1*p:Nat):Int)=nI (mulF p (i+1) Lp)):=hide (by rw[mulF_old p (show i<Lp.length by have:=unhide hpl;omega),←nI_set,unhide hl2])
           rw[hxe] at e0
           obtain ⟨x,hx⟩: ∃x,(mulF p i Lp).getD i 1=x:=⟨_,rfl⟩
           rw[hx] at e0 hxm hNew
           obtain ⟨X,hX⟩: ∃X,x*p=X:=⟨_,rfl⟩
           rw[hX] at hNew
           have hXb:X≤208827064576:=by
            rw[←hX]
            have:=Nat.mul_le_mul hxm.2 (show p≤676 by omega)
            omega
           have tm:(x:Int)*(p:Int)=(X:Int):=by rw[←hX];push_cast;rfl
           have hin:(i:Int)<(n9:Int):=by omega
           clear hx hX hxe hle9 hmx2 hlen hcl
           subst hgl
           go_wp2
           go_roundw
           case rel=>
            have hs7:=hsd.set hK i (X:Int)
            first|exact ⟨i+1,_,by first|rfl|go_num,Vn,hNew,hs7⟩|((repeat apply Exists.intro);exact ⟨⟨i+1,_,by first|rfl|go_num,Vn,hNew,hs7⟩,rfl⟩)
           case measure=>simp [intOf];omega
          ·obtain rfl:i=r:=by omega
           have hci5: ¬((i:Int)<(i:Int)):=by omega
           obtain ⟨Q2,hQ9⟩: ∃Q2,Q*p=Q2:=⟨_,rfl⟩
           have HQ9:Hid (p ^ (m+1+1)=Q2):=hide ((unhide HQQ2).trans hQ9)
           have tq:(Q:Int)*(p:Int)=(Q2:Int):=by rw[←hQ9];push_cast;rfl
           have hq1:Q<Q2:=by
            rw[←hQ9]
            have:=Nat.mul_le_mul_left Q p2
            omega
           have hq2:Q2≤456976*676:=by rw[←hQ9];exact Nat.mul_le_mul hQ5 Vn
           have HL2:Hid (l=nI (rnd os p L0 (m+1))):=hide (by rw[unhide HNXT,←unhide hpad];exact unhide hl2)
           have hn99:n9≤3000:=by omega
           clear hQ9
           go_wp2
           go_roundw
           case rel=>first|exact ⟨m+1,_,Q2,n9,c,a,l,rfl,rfl,rfl,Vn,HCC,HQ9,HL2,hn99,hsd⟩|((repeat apply Exists.intro);exact ⟨⟨m+1,_,Q2,n9,c,a,l,rfl,rfl,rfl,Vn,HCC,HQ9,HL2,hn99,hsd⟩,rfl⟩)
           case measure=>simp [intOf];omega
    ·obtain ⟨rr,hrr⟩: ∃rr:Int,Int.tmod (n:Int) (Q:Int)=rr:=⟨_,rfl⟩
     have hr0: ¬rr=0:=by
      rw[←hrr,tmodN]
      have: ¬n%Q=0:=fun e=>cB (hdvi.1 e)
      omega
     have HLN:Hid (l=nI (fsK os (psL os.length) (k+1))):=hide (by rw[unhide HPS2,show ex=m by omega];exact unhide hl)
     clear hdvi
     go_wp2
     go_roundw
     case rel=>first|exact ⟨k+1,n9,c,a,l,by first|rfl|go_num,rfl,Vn,hn9,HLN,hsd⟩|((repeat apply Exists.intro);exact ⟨⟨k+1,n9,c,a,l,by first|rfl|go_num,rfl,Vn,hn9,HLN,hsd⟩,rfl⟩)
     case measure=>simp [intOf];omega
  ·obtain rfl:k=ps.length:=by omega
   have hz1:=hsd.sd.bel.size
   obtain ⟨L9,hL9⟩: ∃L9,L9=l:=⟨_,rfl⟩
   have HL9:Hid (L9=nI (fsL os)):=hide (by rw[hL9,unhide hl];unfold fsL;rw [unhide HPS])
   have hsdR:=hsd
   rw[←hL9] at hsdR
   have HLEN:Hid (L9.length=n9):=hide (by rw[hL9];exact (unhide hsd.len).symm)
   clear hL9 hl hsd
   go_wp2
   go_loopw [13,14] (fun ts rs wr=> ∃(t:Nat) (R:Int) (l:List Int),ts= .int .i64 (t:Int)∧rs= .int .i64 R∧2*t≤n9∧Hid (R=(n9:Int)-1-t)∧Hid (RvOk L9 l t)∧SI w w.heap.size HI (srcI w.heap.size HI a0 ps.length (fun i=>(nI ps).getD i 0)) wr a n9 c l) (fun ts _ _=>n9-(intOf ts).toNat)
   case atStart=>exact ⟨0,_,L9,rfl,rfl,Vn,hide Vn,hide (rv_zero _),hsdR⟩
   case round=>
    clear hsdR
    obtain ⟨t,R,l,rfl,rfl,ht,hR,hrv,hsd⟩:=hrel
    obtain ⟨w5,rfl⟩: ∃w5:World,w5=wr:=⟨_,rfl⟩
    by_cases c5:2*t+1<n9
    ·obtain ⟨R2,hR2⟩: ∃R2:Nat,R=(R2:Int):=⟨n9-1-t,by have:=unhide hR;omega⟩
     have hRt:n9-1-t=R2:=by have:=unhide hR;omega
     subst hR2
     have hci5:(t:Int)<(R2:Int):=by omega
     have hci6:(R2:Int)<(n9:Int):=by omega
     have hci7:(t:Int)<(n9:Int):=by omega
     obtain ⟨gl,hgl,hgl2,hcl⟩:=hsd.ptr (show 0<n9 by omega)
     have e0:=hcl t Vn
     have e1:=hcl R2 Vn
     have q0:=IL.frozenAt (hgl▸hsd.il) t
     have q1:=IL.frozenAt (hgl▸hsd.il) R2
     have hst:=rv_step (unhide hrv) (by rw[unhide HLEN];exact c5)
     rw[unhide HLEN,hRt] at hst
     obtain ⟨u,hu⟩: ∃u,l.getD t 0=u:=⟨_,rfl⟩
     obtain ⟨v,hv⟩: ∃v,l.getD R2 0=v:=⟨_,rfl⟩
     rw[hu,hv] at hst
     rw[hu] at e0
     rw[hv] at e1
     have HST:=hide hst
     have hne: ¬R2=t:=by omega
     clear hst hu hv hcl hrv
     subst hgl
     go_wp2
     go_roundw
     case rel=>
      have hs7:=(hsd.set hK t v).set hK R2 u
      first|exact ⟨t+1,_,_,by first|rfl|go_num,rfl,Vn,hide (by have:=unhide hR;omega),HST,hs7⟩|((repeat apply Exists.intro);exact ⟨⟨t+1,_,_,by first|rfl|go_num,rfl,Vn,hide (by have:=unhide hR;omega),HST,hs7⟩,rfl⟩)
     case measure=>simp [intOf];omega
    ·have hci5: ¬((t:Int)<R):=by have:=unhide hR;omega
     have hend:l=nI (fsL os).reverse:=by rw[rv_end (unhide hrv) (by rw[unhide HLEN];omega),unhide HL9,nI_rev]
     go_wp2
     go_ret
     exact hsd.ret hend rfl
end Go.Proofs.YtobkcnmlmmhpoaaGreatDoor
