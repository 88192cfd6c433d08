/- Prime factors, the exponent and the part of a prime: both sides. The different primes of a number: primesOf. -/
import Derived.Test.YtobkcnmlmmhpoaaGreatDoorFaw
import Derived.Test.YtobkcnmlmmhpoaaGreatDoorConv
import Derived.Test.YtobkcnmlmmhpoaaGreatDoorGreat
set_option maxRecDepth 100000
set_option maxHeartbeats 80000000
namespace Go.Proofs.YtobkcnmlmmhpoaaGreatDoor
open Go.RowKit
set_option linter.unusedVariables false
set_option linter.unusedSimpArgs false
attribute [local go_sem] q2 q3 q4 q5 q6 q7 q8 q9 q10 q11 q12

theorem factors_a (n:Nat) (w:World) (h0:1≤n) (h1:n≤2000):
  Calls Tryz.prog 84 #[.int .i64 (n:Int)] w (RetIL w (nI (fcL 2 n))):=by
 go_enter Tryz.func84,Tryz.ntmps84
 go_wp2
 go_loopw [0,3,4] (fun ns ls ps wr=> ∃(m p:Nat) (L:List Nat) (a:Option Addr) (c:Nat),ns= .int .i64 (m:Int)∧ls= .slice a (nI L).length c∧ps= .int .i64 (p:Int)∧FcInv n p m L∧p≤45∧IL wr w.heap.size (.slice a (nI L).length c) (nI L)∧Below w.heap.size w wr) (fun _ _ ps _=>60-(intOf ps).toNat)
 case atStart=>exact ⟨n,2,[],some ⟨w.heap.size,0,none⟩,0,rfl,rfl,rfl,FcInv.start h0,Vn,IL.made w _ (Nat.le_refl _),(Below.refl _ _).alloc (Nat.le_refl _) _⟩
 case round=>
  obtain ⟨m,p,L,a,c,rfl,rfl,rfl,hi,hp45,hl,hb⟩:=hrel
  obtain ⟨w1,rfl⟩: ∃w1:World,w1=wr:=⟨_,rfl⟩
  have hz:=hb.size
  have hL0:=hi.len h1
  have hL:(nI L).length≤2000:=by rw[nI_len];exact hL0
  clear hL0
  have hp2:=hi.p2
  have hm1:=hi.m1
  have hmn:=hi.mn
  by_cases c1:p*p≤m
  ·have hpb:=hi.bd h1 c1
   have c1':(p:Int)*(p:Int)≤(m:Int):=by exact_mod_cast c1
   have c0:0≤(p:Int)*(p:Int):=Int.mul_nonneg Vn Vn
   clear c1
   go_wp2
   clear c1' c0 hm1 hmn
   go_loopw [0,3] (fun ns ls wr=> ∃(m:Nat) (L:List Nat) (a:Option Addr) (c:Nat),ns= .int .i64 (m:Int)∧ls= .slice a (nI L).length c∧FcInv n p m L∧p≤45∧IL wr w.heap.size (.slice a (nI L).length c) (nI L)∧Below w.heap.size w wr) (fun ns _ _=>(intOf ns).toNat)
   case atStart=>exact ⟨m,L,a,c,rfl,rfl,hi,Vn,hl,hb⟩
   case round=>
    clear hi hl hb hz hL
    obtain ⟨m,L,a,c,rfl,rfl,hi,hp45x,hl,hb⟩:=hrel
    obtain ⟨w1,rfl⟩: ∃w1:World,w1=wr:=⟨_,rfl⟩
    have hz:=hb.size
    have hL0:=hi.len h1
    have hL:(nI L).length≤2000:=by rw[nI_len];exact hL0
    clear hL0
    have hm1:=hi.m1
    have hmn:=hi.mn
    have hpne: ¬(p:Int)=0:=by omega
    by_cases c2:m%p=0
    ·have t1:Int.tmod (m:Int) (p:Int)=0:=by rw[tmodN,c2];rfl
     obtain ⟨M,hM⟩: ∃M,m / p=M:=⟨_,rfl⟩
     have t2:Int.tdiv (m:Int) (p:Int)=(M:Int):=by rw[tdivN,hM]
     obtain ⟨hi2,hlt⟩:=hi.next c2 hM
     have HE:=hide (nI_app L p)
     clear hM c2
     go_wp2_with (at_builtin;refine app_int _ rfl (.tmp 17) (.tmp 19) rfl w.heap.size (.slice a (nI L).length c) (nI L) (p:Int) w1.heap.size rfl rfl (hl.alloc _) VB Vn VW ?_;intro g cap w2 hown hgrow hat hlt)
     go_roundw
     case rel=>
      refine ⟨M,L++ [p],some ⟨g,0,none⟩,cap,rfl,?_,hi2,Vn,?_,(hb.alloc hz _).grown hgrow VX (fun k hk=>(hl.lt k hk).1)⟩
      ·rw [unhide HE,List.length_append];rfl
      ·rw [unhide HE,List.length_append];exact hown
     case measure=>simp [intOf];omega
    ·obtain ⟨r,hr⟩: ∃r:Int,Int.tmod (m:Int) (p:Int)=r:=⟨_,rfl⟩
     have hr0: ¬r=0:=by
      rw[←hr,tmodN];omega
     have hi2:=hi.up c2
     go_wp2
     go_roundw
     case rel=>first|exact ⟨m,p+1,L,a,c,rfl,rfl,by first|rfl|go_num,hi2,Vn,hl,hb⟩|((repeat apply Exists.intro);exact ⟨⟨m,p+1,L,a,c,rfl,rfl,by first|rfl|go_num,hi2,Vn,hl,hb⟩,rfl⟩)
     case measure=>simp [intOf];omega
  ·have c1': ¬(p:Int)*(p:Int)≤(m:Int):=by
    intro h;apply c1;exact_mod_cast h
   have cq0:0≤(p:Int)*(p:Int):=Int.mul_nonneg Vn Vn
   have cq1:(p:Int)*(p:Int)≤2025:=by exact_mod_cast (Nat.mul_le_mul hp45 hp45)
   by_cases c3:1<m
   ·have c3':1<(m:Int):=by omega
    have HE:Hid (nI (fcL 2 n)=nI L++ [(m:Int)]):=hide (by rw[←hi.end1 Vn c3,nI_app])
    clear c1
    go_wp2_with (at_builtin;refine app_int _ rfl (.tmp 26) (.tmp 28) rfl w.heap.size (.slice a (nI L).length c) (nI L) (m:Int) w1.heap.size rfl rfl (hl.alloc _) VB Vn VW ?_;intro g cap w2 hown hgrow hat hlt)
    go_ret
    refine ⟨some ⟨g,0,none⟩,cap,?_,?_,(hb.alloc hz _).grown hgrow VX (fun k hk=>(hl.lt k hk).1)⟩
    ·rw [unhide HE,List.length_append];rfl
    ·rw [unhide HE,List.length_append];exact hown
   ·have c3': ¬1<(m:Int):=by omega
    have HE:Hid (nI (fcL 2 n)=nI L):=hide (by rw[←hi.end0 Vn Vn])
    clear c1
    go_wp2
    go_ret
    refine ⟨a,c,?_,?_,hb⟩
    ·rw [unhide HE];rfl
    ·rw [unhide HE];exact hl

theorem nuFactors_a (n:Nat) (w:World) (h0:1≤n) (h1:n≤2000):
  Calls Tryz.prog 131 #[.int .i64 (n:Int)] w (RetIL w (nI (fcL 2 n))):=by
 go_enter Tryz.func131,Tryz.ntmps131
 go_wp2
 go_loopw [0,3,4] (fun ns ls ps wr=> ∃(m p:Nat) (L:List Nat) (a:Option Addr) (c:Nat),ns= .int .i64 (m:Int)∧ls= .slice a (nI L).length c∧ps= .int .i64 (p:Int)∧FcInv n p m L∧p≤45∧IL wr w.heap.size (.slice a (nI L).length c) (nI L)∧Below w.heap.size w wr) (fun _ _ ps _=>60-(intOf ps).toNat)
 case atStart=>exact ⟨n,2,[],none,0,rfl,rfl,rfl,FcInv.start h0,Vn,IL.nil _ _,Below.refl _ _⟩
 case round=>
  obtain ⟨m,p,L,a,c,rfl,rfl,rfl,hi,hp45,hl,hb⟩:=hrel
  obtain ⟨w1,rfl⟩: ∃w1:World,w1=wr:=⟨_,rfl⟩
  have hz:=hb.size
  have hL0:=hi.len h1
  have hL:(nI L).length≤2000:=by rw[nI_len];exact hL0
  clear hL0
  have hp2:=hi.p2
  have hm1:=hi.m1
  have hmn:=hi.mn
  by_cases c1:p*p≤m
  ·have hpb:=hi.bd h1 c1
   have c1':(p:Int)*(p:Int)≤(m:Int):=by exact_mod_cast c1
   have c0:0≤(p:Int)*(p:Int):=Int.mul_nonneg Vn Vn
   clear c1
   go_wp2
   clear c1' c0 hm1 hmn
   go_loopw [0,3] (fun ns ls wr=> ∃(m:Nat) (L:List Nat) (a:Option Addr) (c:Nat),ns= .int .i64 (m:Int)∧ls= .slice a (nI L).length c∧FcInv n p m L∧p≤45∧IL wr w.heap.size (.slice a (nI L).length c) (nI L)∧Below w.heap.size w wr) (fun ns _ _=>(intOf ns).toNat)
   case atStart=>exact ⟨m,L,a,c,rfl,rfl,hi,Vn,hl,hb⟩
   case round=>
    clear hi hl hb hz hL
    obtain ⟨m,L,a,c,rfl,rfl,hi,hp45x,hl,hb⟩:=hrel
    obtain ⟨w1,rfl⟩: ∃w1:World,w1=wr:=⟨_,rfl⟩
    have hz:=hb.size
    have hL0:=hi.len h1
    have hL:(nI L).length≤2000:=by rw[nI_len];exact hL0
    clear hL0
    have hm1:=hi.m1
    have hmn:=hi.mn
    have hpne: ¬(p:Int)=0:=by omega
    by_cases c2:m%p=0
    ·have t1:Int.tmod (m:Int) (p:Int)=0:=by rw[tmodN,c2];rfl
     obtain ⟨M,hM⟩: ∃M,m / p=M:=⟨_,rfl⟩
     have t2:Int.tdiv (m:Int) (p:Int)=(M:Int):=by rw[tdivN,hM]
     obtain ⟨hi2,hlt⟩:=hi.next c2 hM
     have HE:=hide (nI_app L p)
     clear hM c2
     go_wp2_with (at_builtin;refine app_int _ rfl (.tmp 16) (.tmp 18) rfl w.heap.size (.slice a (nI L).length c) (nI L) (p:Int) w1.heap.size rfl rfl (hl.alloc _) VB Vn VW ?_;intro g cap w2 hown hgrow hat hlt)
     go_roundw
     case rel=>
      refine ⟨M,L++ [p],some ⟨g,0,none⟩,cap,rfl,?_,hi2,Vn,?_,(hb.alloc hz _).grown hgrow VX (fun k hk=>(hl.lt k hk).1)⟩
      ·rw [unhide HE,List.length_append];rfl
      ·rw [unhide HE,List.length_append];exact hown
     case measure=>simp [intOf];omega
    ·obtain ⟨r,hr⟩: ∃r:Int,Int.tmod (m:Int) (p:Int)=r:=⟨_,rfl⟩
     have hr0: ¬r=0:=by
      rw[←hr,tmodN];omega
     have hi2:=hi.up c2
     go_wp2
     go_roundw
     case rel=>first|exact ⟨m,p+1,L,a,c,rfl,rfl,by first|rfl|go_num,hi2,Vn,hl,hb⟩|((repeat apply Exists.intro);exact ⟨⟨m,p+1,L,a,c,rfl,rfl,by first|rfl|go_num,hi2,Vn,hl,hb⟩,rfl⟩)
     case measure=>simp [intOf];omega
  ·have c1': ¬(p:Int)*(p:Int)≤(m:Int):=by
    intro h;apply c1;exact_mod_cast h
   have cq0:0≤(p:Int)*(p:Int):=Int.mul_nonneg Vn Vn
   have cq1:(p:Int)*(p:Int)≤2025:=by exact_mod_cast (Nat.mul_le_mul hp45 hp45)
   by_cases c3:1<m
   ·have c3':1<(m:Int):=by omega
    have HE:Hid (nI (fcL 2 n)=nI L++ [(m:Int)]):=hide (by rw[←hi.end1 Vn c3,nI_app])
    clear c1
    go_wp2_with (at_builtin;refine app_int _ rfl (.tmp 25) (.tmp 27) rfl w.heap.size (.slice a (nI L).length c) (nI L) (m:Int) w1.heap.size rfl rfl (hl.alloc _) VB Vn VW ?_;intro g cap w2 hown hgrow hat hlt)
    go_ret
    refine ⟨some ⟨g,0,none⟩,cap,?_,?_,(hb.alloc hz _).grown hgrow VX (fun k hk=>(hl.lt k hk).1)⟩
    ·rw [unhide HE,List.length_append];rfl
    ·rw [unhide HE,List.length_append];exact hown
   ·have c3': ¬1<(m:Int):=by omega
    have HE:Hid (nI (fcL 2 n)=nI L):=hide (by rw[←hi.end0 Vn Vn])
    clear c1
    go_wp2
    go_ret
    refine ⟨a,c,?_,?_,hb⟩
    ·rw [unhide HE];rfl
    ·rw [unhide HE];exact hl

theorem exponent_a (n p:Nat) (w:World) (h0:1≤n) (h1:n≤2000) (h2:2≤p) (h3:p≤2000):
  Calls Tryz.prog 56 #[.int .i64 (n:Int),.int .i64 (p:Int)] w fun e w'=>e= .returned (.int .i64 ((exN n p:Nat):Int))∧w=w':=by
 obtain ⟨T,hT⟩: ∃T,exN n p=T:=⟨_,rfl⟩
 have HT:=hide (show 0+exN n p=T by omega)
 rw[hT]
 have hTb:T<n:=by rw[←hT];exact ex_le h2 h0
 clear hT
 have hpne: ¬(p:Int)=0:=by omega
 go_enter Tryz.func56,Tryz.ntmps56
 go_wp2
 go_loop [0,5] (fun ns ks=> ∃(m k:Nat),ns= .int .i64 (m:Int)∧ks= .int .i64 (k:Int)∧1≤m∧m≤n∧Hid (k+exN m p=T)) (fun ns _=>(intOf ns).toNat)
 case atStart=>exact ⟨n,0,rfl,rfl,h0,Nat.le_refl _,HT⟩
 case round=>
  obtain ⟨m,k,rfl,rfl,m1,m2,HK⟩:=hrel
  have hkT:k≤T:=by have:=unhide HK;omega
  by_cases c2:m%p=0
  ·have t1:Int.tmod (m:Int) (p:Int)=0:=by rw[tmodN,c2];rfl
   obtain ⟨M,hM⟩: ∃M,m / p=M:=⟨_,rfl⟩
   have t2:Int.tdiv (m:Int) (p:Int)=(M:Int):=by rw[tdivN,hM]
   have HK2:Hid (k+1+exN M p=T):=hide (by have:=unhide HK;rw [ex_yes h2 m1 c2,hM] at this;omega)
   have hM1:1≤M∧M<m:=by
    have:=Nat.div_add_mod m p
    rw[c2,hM] at this
    rcases Nat.eq_zero_or_pos M with z|z
    ·subst z;omega
    ·have:=Nat.mul_le_mul_right M h2;omega
   clear hM c2 HK
   go_wp2
   go_round
   case rel=>exact ⟨M,k+1,rfl,by first|rfl|go_num,hM1.1,Vn,HK2⟩
   case measure=>simp [intOf];omega
  ·obtain ⟨r,hr⟩: ∃r:Int,Int.tmod (m:Int) (p:Int)=r:=⟨_,rfl⟩
   have hr0: ¬r=0:=by
    rw[←hr,tmodN];omega
   have HE:Hid (k=T):=hide (by have:=unhide HK;rw [ex_no c2] at this;omega)
   clear HK
   go_wp2
   go_ret
   exact ⟨ret_int (by rw[unhide HE]),rfl⟩

theorem nuExponent_a (n p:Nat) (w:World) (h0:1≤n) (h1:n≤2000) (h2:2≤p) (h3:p≤2000):
  Calls Tryz.prog 104 #[.int .i64 (n:Int),.int .i64 (p:Int)] w fun e w'=>e= .returned (.int .i64 ((exN n p:Nat):Int))∧w=w':=by
 obtain ⟨T,hT⟩: ∃T,exN n p=T:=⟨_,rfl⟩
 have HT:=hide (show 0+exN n p=T by omega)
 rw[hT]
 have hTb:T<n:=by rw[←hT];exact ex_le h2 h0
 clear hT
 have hpne: ¬(p:Int)=0:=by omega
 go_enter Tryz.func104,Tryz.ntmps104
 go_wp2
 go_loop [0,5] (fun ns ks=> ∃(m k:Nat),ns= .int .i64 (m:Int)∧ks= .int .i64 (k:Int)∧1≤m∧m≤n∧Hid (k+exN m p=T)) (fun ns _=>(intOf ns).toNat)
 case atStart=>exact ⟨n,0,rfl,rfl,h0,Nat.le_refl _,HT⟩
 case round=>
  obtain ⟨m,k,rfl,rfl,m1,m2,HK⟩:=hrel
  have hkT:k≤T:=by have:=unhide HK;omega
  by_cases c2:m%p=0
  ·have t1:Int.tmod (m:Int) (p:Int)=0:=by rw[tmodN,c2];rfl
   obtain ⟨M,hM⟩: ∃M,m / p=M:=⟨_,rfl⟩
   have t2:Int.tdiv (m:Int) (p:Int)=(M:Int):=by rw[tdivN,hM]
   have HK2:Hid (k+1+exN M p=T):=hide (by have:=unhide HK;rw [ex_yes h2 m1 c2,hM] at this;omega)
   have hM1:1≤M∧M<m:=by
    have:=Nat.div_add_mod m p
    rw[c2,hM] at this
    rcases Nat.eq_zero_or_pos M with z|z
    ·subst z;omega
    ·have:=Nat.mul_le_mul_right M h2;omega
   clear hM c2 HK
   go_wp2
   go_round
   case rel=>exact ⟨M,k+1,rfl,by first|rfl|go_num,hM1.1,Vn,HK2⟩
   case measure=>simp [intOf];omega
  ·obtain ⟨r,hr⟩: ∃r:Int,Int.tmod (m:Int) (p:Int)=r:=⟨_,rfl⟩
   have hr0: ¬r=0:=by
    rw[←hr,tmodN];omega
   have HE:Hid (k=T):=hide (by have:=unhide HK;rw [ex_no c2] at this;omega)
   clear HK
   go_wp2
   go_ret
   exact ⟨ret_int (by rw[unhide HE]),rfl⟩

theorem part_a (n p:Nat) (w:World) (h0:1≤n) (h1:n≤2000) (h2:2≤p) (h3:p≤2000):
  Calls Tryz.prog 55 #[.int .i64 (n:Int),.int .i64 (p:Int)] w fun e w'=>e= .returned (.int .i64 ((p ^ exN n p:Nat):Int))∧w=w':=by
 obtain ⟨T,hT⟩: ∃T,p ^ exN n p=T:=⟨_,rfl⟩
 have HT:=hide (show 1*p ^ exN n p=T by omega)
 rw[hT]
 have hTb:T≤n:=by
  obtain ⟨k,hk,hk2⟩:=ex_spec h2 n h0
  rw[←hT]
  have hk0:1≤k:=Nat.pos_of_ne_zero fun z=>hk2 (z▸Nat.dvd_zero p)
  have:=Nat.mul_le_mul_left (p ^ exN n p) hk0
  omega
 clear hT
 have hpne: ¬(p:Int)=0:=by omega
 go_enter Tryz.func55,Tryz.ntmps55
 go_wp2
 go_loop [0,5] (fun ns ks=> ∃(m q:Nat),ns= .int .i64 (m:Int)∧ks= .int .i64 (q:Int)∧1≤m∧m≤n∧q≤T∧Hid (q*p ^ exN m p=T)) (fun ns _=>(intOf ns).toNat)
 case atStart=>exact ⟨n,1,rfl,rfl,h0,Nat.le_refl _,by have:=unhide HT;have h4:1≤p ^ exN n p:=Nat.pow_pos Vn;omega,HT⟩
 case round=>
  obtain ⟨m,q,rfl,rfl,m1,m2,hqT,HK⟩:=hrel
  by_cases c2:m%p=0
  ·have t1:Int.tmod (m:Int) (p:Int)=0:=by rw[tmodN,c2];rfl
   obtain ⟨M,hM⟩: ∃M,m / p=M:=⟨_,rfl⟩
   have t2:Int.tdiv (m:Int) (p:Int)=(M:Int):=by rw[tdivN,hM]
   obtain ⟨Q,hQ⟩: ∃Q,q*p=Q:=⟨_,rfl⟩
   have HK2:Hid (Q*p ^ exN M p=T):=hide (by have:=unhide HK;rw [ex_yes h2 m1 c2,hM,Nat.pow_succ,Nat.mul_comm _ p,←Nat.mul_assoc,hQ] at this;exact this)
   have hQT:Q≤T:=by
    have:=unhide HK2
    have h4:1≤p ^ exN M p:=Nat.pow_pos Vn
    have:=Nat.mul_le_mul_left Q h4
    omega
   have t3:(q:Int)*(p:Int)=(Q:Int):=by rw[←hQ];push_cast;rfl
   have hM1:1≤M∧M<m:=by
    have:=Nat.div_add_mod m p
    rw[c2,hM] at this
    rcases Nat.eq_zero_or_pos M with z|z
    ·subst z;omega
    ·have:=Nat.mul_le_mul_right M h2;omega
   clear hM c2 HK hQ
   go_wp2
   go_round
   case rel=>exact ⟨M,Q,rfl,by first|rfl|go_num,hM1.1,Vn,hQT,HK2⟩
   case measure=>simp [intOf];omega
  ·obtain ⟨r,hr⟩: ∃r:Int,Int.tmod (m:Int) (p:Int)=r:=⟨_,rfl⟩
   have hr0: ¬r=0:=by
    rw[←hr,tmodN];omega
   have HE:Hid (q=T):=hide (by have:=unhide HK;rw [ex_no c2,Nat.pow_zero,Nat.mul_one] at this;exact this)
   clear HK
   go_wp2
   go_ret
   exact ⟨ret_int (by rw[unhide HE]),rfl⟩
end Go.Proofs.YtobkcnmlmmhpoaaGreatDoor
namespace Go.Proofs.YtobkcnmlmmhpoaaGreatDoor
open Go.RowKit
set_option linter.unusedVariables false
set_option linter.unusedSimpArgs false
attribute [local go_sem] q2 q3 q4 q5 q6 q7 q8 q9 q10 q11 q12

theorem fs_ge {n:Nat} (h0:1≤n): ∀x ∈ fcL 2 n,1≤x:=fun x hx=>by have:=((ps_fc h0).pr x hx).1.1;omega

theorem primesOf_a (n:Nat) (w:World) (h0:1≤n) (h1:n≤2000):
  Calls Tryz.prog 54 #[.int .i64 (n:Int)] w (RetIL w (nI (psL n))):=by
 have HC: ∀W,Calls Tryz.prog 84 #[.int .i64 (n:Int)] W (RetIL W (nI (fcL 2 n))):=fun W=>factors_a n W h0 h1
 have HC:=hide HC
 have hps:psL n=ddK (fcL 2 n) (fcL 2 n).length:=rfl
 have hfl:(fcL 2 n).length≤2000:=by have:=fc_len h0;omega
 have hge:=fs_ge h0
 have hdd:=ps_dd h0
 rw[hps]
 clear hps
 generalize fcL 2 n=fs at*
 have hdd:=hide hdd
 go_enter Tryz.func54,Tryz.ntmps54
 go_wp2_with (go_at_call 84;refine ((unhide HC) _).mono ?_;rintro e wA ⟨a0,c0,rfl,hlA,hbA⟩)
 have hS:IntsAt wA (w.heap.size+1) wA.heap.size a0 fs.length (fun i=>(nI fs).getD i 0):=by
  have:=hlA.ints.2;rw [nI_len] at this;exact this.weak Vs (Nat.le_refl _)
 have hsd:=SI.startM (S:=srcI (w.heap.size+1) wA.heap.size a0 fs.length (fun i=>(nI fs).getD i 0)) hbA hS (Nat.le_refl _)
 have hN:(nI fs).length=fs.length:=nI_len fs
 rw[hN]
 clear hN
 have hK:=ints_kept (LO:=w.heap.size+1) (HI:=wA.heap.size) (n:=fs.length) (a:=a0) (f:=fun i=>(nI fs).getD i 0)
 obtain ⟨HI,hHI⟩: ∃HI,wA.heap.size=HI:=⟨_,rfl⟩
 rw[hHI] at hsd hK hS
 clear hlA hS
 go_loopw [3,10] (fun ls is wr=> ∃(k n c:Nat) (a:Option Addr) (l:List Int),is= .int .i64 (k:Int)∧ls= .slice a n c∧k≤fs.length∧n≤k∧Hid (l=nI (ddK fs k))∧SI w (w.heap.size+1) HI (srcI (w.heap.size+1) HI a0 fs.length (fun i=>(nI fs).getD i 0)) wr a n c l) (fun _ is _=>fs.length-(intOf is).toNat)
 case atStart=>exact ⟨0,0,0,_,[],rfl,rfl,Vn,Vn,hide rfl,hsd⟩
 case round=>
  clear hsd hbA
  obtain ⟨k,n9,c,a,l,rfl,rfl,hk,hnk,hl,hsd⟩:=hrel
  obtain ⟨w1,rfl⟩: ∃w1:World,w1=wr:=⟨_,rfl⟩
  have hz:=hsd.sd.bel.size
  have hln:=hsd.len
  have hIL:=hsd.il
  have hlb:l.length≤2000:=by have:=unhide hln;omega
  by_cases c9:k<fs.length
  ·have hci:(k:Int)<(fs.length:Int):=by omega
   obtain ⟨g0,hg0,hg2,d0⟩:=IntsAt.cell hsd.sd.src c9
   rw[nI_get c9] at d0
   obtain ⟨p,hp⟩: ∃p,fs.getD k 0=p:=⟨_,rfl⟩
   rw[hp] at d0
   have hp1:1≤p:=by rw[←hp];exact hge _ (gdm c9)
   subst hg0
   have YES:Hid ((ddK fs k).getD ((ddK fs k).length-1) 0≠p→l++ [(p:Int)]=nI (ddK fs (k+1))):=hide fun h=>by
    rw[unhide hl,dd_no (by rw[hp];exact h),nI_app,hp]
   have NO:Hid ((ddK fs k).getD ((ddK fs k).length-1) 0=p→l=nI (ddK fs (k+1))):=hide fun h=>by
    rw[unhide hl,dd_yes (by rw[hp];exact h)]
   have LN:Hid (n9=(ddK fs k).length):=hide (by have:=unhide hln;rw [unhide hl,nI_len] at this;exact this)
   clear hp
   cases n9 with
   |zero=>
    have YES2:Hid (l++ [(p:Int)]=nI (ddK fs (k+1))):=hide (unhide YES (by
     have:=unhide LN
     rw[List.getD_eq_getElem?_getD,List.getElem?_eq_none Vn];simp;omega))
    go_wp2_with (at_builtin;refine app_int _ rfl (.tmp 27) (.tmp 29) rfl w.heap.size (.slice a 0 c) l (p:Int) w1.heap.size rfl rfl (hIL.alloc _) VB Vn VW ?_;intro g cap w2 hown hgrow hat hlt)
    go_roundw
    case rel=>
     have hs2:=(hsd.alloc hK _).app hK hown hgrow hat
     exact ⟨k+1,l.length+1,cap,some ⟨g,0,none⟩,_,by go_num,rfl,Vn,by have:=unhide hln;omega,YES2,hs2⟩
    case measure=>simp [intOf];omega
   |succ q=>
    obtain ⟨gl,hgl,hgl2,hcl⟩:=hsd.ptr (Nat.succ_pos q)
    have e0:=hcl q Vn
    subst hgl
    have EL:Hid (l.getD q 0=(((ddK fs k).getD ((ddK fs k).length-1) 0:Nat):Int)):=hide (by
     have:=unhide LN
     rw[unhide hl,nI_get Vn,←this];rfl)
    obtain ⟨y,hy⟩: ∃y,(ddK fs k).getD ((ddK fs k).length-1) 0=y:=⟨_,rfl⟩
    rw[unhide EL,hy] at e0
    have YES:=hide (show y≠p→_ by rw[←hy];exact unhide YES)
    have NO:=hide (show y=p→_ by rw[←hy];exact unhide NO)
    clear hy hcl EL
    by_cases cp:y=p
    ·have NO2:=hide (unhide NO cp)
     subst cp
     clear NO YES
     go_wp2
     go_roundw
     case rel=>first|exact ⟨k+1,q+1,c,_,l,by first|rfl|go_num,rfl,Vn,Vn,NO2,hsd⟩|((repeat apply Exists.intro);exact ⟨⟨k+1,q+1,c,_,l,by first|rfl|go_num,rfl,Vn,Vn,NO2,hsd⟩,rfl⟩)
     case measure=>simp [intOf];omega
    ·have YES2:=hide (unhide YES cp)
     have cp2:((y:Int) != (p:Int))=true:=by simp;omega
     clear NO YES
     go_wp2_with (at_builtin;refine app_int _ rfl (.tmp 27) (.tmp 29) rfl w.heap.size (.slice (some ⟨gl,0,none⟩) (q+1) c) l (p:Int) w1.heap.size rfl rfl (hIL.alloc _) VB Vn VW ?_;intro g cap w2 hown hgrow hat hlt)
     go_roundw
     case rel=>
      have hs2:=(hsd.alloc hK _).app hK hown hgrow hat
      exact ⟨k+1,l.length+1,cap,some ⟨g,0,none⟩,_,by go_num,rfl,Vn,by have:=unhide hln;omega,YES2,hs2⟩
     case measure=>simp [intOf];omega
  ·obtain rfl:k=fs.length:=by omega
   go_wp2
   go_ret
   exact hsd.ret (unhide hl) rfl
end Go.Proofs.YtobkcnmlmmhpoaaGreatDoor
