/- The orders of the classes: powers, orders. Invariant factors: what the walks ask. -/
import Derived.Test.YtobkcnmlmmhpoaaGreatDoorGrt
import Derived.Test.YtobkcnmlmmhpoaaGreatDoorFap
import Derived.Test.YtobkcnmlmmhpoaaGreatDoorFaw
set_option maxRecDepth 100000
set_option maxHeartbeats 80000000
namespace Go.Proofs.YtobkcnmlmmhpoaaGreatDoor
open Go.RowKit
set_option linter.unusedVariables false
set_option linter.unusedSimpArgs false
attribute [local go_sem] q2 q3 q4 q5 q6 q7 q8 q9 q10 q11 q12

theorem ix_ex {fs:List (Int × Int × Int)} {F:Int × Int × Int} (h:F ∈ fs): ∃j,j<fs.length∧fs.getD j (0,0,0)=F:=by
 obtain ⟨j,hj,he⟩:=List.getElem_of_mem h
 exact ⟨j,hj,by rw[List.getD_eq_getElem?_getD,List.getElem?_eq_getElem hj];exact he⟩
theorem ix_inj {fs:List (Int × Int × Int)} (hn:fs.Nodup) {i j:Nat} (hi:i<fs.length) (hj:j<fs.length) (h:fs.getD i (0,0,0)=fs.getD j (0,0,0)):i=j:=by
 simp only[List.getD_eq_getElem?_getD,List.getElem?_eq_getElem hi,List.getElem?_eq_getElem hj,Option.getD_some] at h
 rcases Nat.lt_trichotomy i j with q|q|q
 ·exact absurd h (List.pairwise_iff_getElem.1 hn i j hi hj q)
 ·exact q
 ·exact absurd h.symm (List.pairwise_iff_getElem.1 hn j i hj hi q)
structure RfS (d:Int) (fs:List (Int × Int × Int)):Prop where
 nd:fs.Nodup
 inn: ∀j,j<fs.length→InD d (fs.getD j (0,0,0))∧RcT (fs.getD j (0,0,0))∧SmF (fs.getD j (0,0,0))
 mem: ∀F,InD d F→RcT F→F ∈ fs
 zero:fs.getD 0 (0,0,0)=onT d
 pos:0<fs.length
 len:fs.length≤676
theorem rfs {d:Int} (hd:negB d=true):RfS d (rfL d):=by
 obtain ⟨d0,d1⟩:=neg_true hd
 exact ⟨rf_nodup d,fun j hj=>⟨(rf_in hd (gdm hj)).1,(rf_in hd (gdm hj)).2,rf_sm hd hj⟩,fun F h h2=>rf_mem h h2,rf_zero hd,rf_pos hd,rfL_len d0 d1⟩
theorem RfS.pw {d:Int} {fs:List (Int × Int × Int)} (h:RfS d fs) {i:Nat} (hi:i<fs.length) (m:Nat): ∃p,p<fs.length∧fs.getD p (0,0,0)=poN d (fs.getD i (0,0,0)) m:=
 ix_ex (h.mem _ (poN_in (h.inn i hi).1 m) (poN_rc (h.inn i hi).1 m))
theorem RfS.one {d:Int} {fs:List (Int × Int × Int)} (h:RfS d fs) {i:Nat} (hi:i<fs.length):fs.getD i (0,0,0)=poN d (fs.getD i (0,0,0)) 1:=by
 rw[poN_one (h.inn i hi).1];exact (rd_same (h.inn i hi).2.1).symm
theorem RfS.nz {d:Int} {fs:List (Int × Int × Int)} (h:RfS d fs) {i p m:Nat} (hi:i<fs.length) (hp:p<fs.length) (he:fs.getD p (0,0,0)=poN d (fs.getD i (0,0,0)) m) (h1:1≤m) (h2:m≤orN d (fs.getD i (0,0,0))):p=0↔m=orN d (fs.getD i (0,0,0)):=by
 constructor
 ·intro e
  subst e
  exact or_here (h.inn i hi).1 h1 h2 (by rw[←he,h.zero])
 ·intro e
  refine ix_inj h.nd hp h.pos ?_
  rw[he,h.zero,e]
  exact (or_is (h.inn i hi).1).2.2.1
theorem orL_at {d:Int} {k:Nat} (hk:k<(rfL d).length):(orL d).take k++ [((orN d ((rfL d).getD k (0,0,0)):Nat):Int)]=(orL d).take (k+1):=by
 unfold orL
 rw[List.take_add_one,List.getElem?_map,List.getElem?_eq_getElem hk,List.getD_eq_getElem?_getD,List.getElem?_eq_getElem hk];rfl
theorem powers_a (d:Int) (HI gb:Nat) (fs:List (Int × Int × Int)) (i:Nat) (w:World) (hR:RfS d fs) (hG:grpS HI gb fs w) (hHI:HI≤w.heap.size) (hi:i<fs.length) {N:Nat} (hN:orN d (fs.getD i (0,0,0))=N):
  Calls Tryz.prog 57 #[.pointer (some ⟨gb,0,none⟩),.int .i64 (i:Int)] w (RetLen w N):=by
 have hor:=(or_is (hR.inn i hi).1)
 rw[hN] at hor
 obtain ⟨n1,n2,-,-⟩:=hor
 have HT: ∀(W:World) (p r:Nat),grpS w.heap.size gb fs W→w.heap.size≤W.heap.size→p<fs.length→r<fs.length→cmp (fs.getD p (0,0,0)) (fs.getD i (0,0,0))=fs.getD r (0,0,0)→Calls Tryz.prog 85 #[.pointer (some ⟨gb,0,none⟩),.int .i64 (p:Int),.int .i64 (i:Int)] W fun e w'=>e= .returned (.int .i64 (r:Int))∧Below W.heap.size W w':=fun W p r h1 h2 h3 h4 h5=>
  grTimes_a (D:=d) w.heap.size gb fs p i r W h1 h2 h3 hi h4 (fun j hj=>(hR.inn j hj).1) (hR.inn r h4).2.2 h5 (by have:=hR.len;omega)
 have HT:=hide HT
 have hG2:=grp_up hG hHI
 have hlen:=hR.len
 have hK:=grp_kept (HI:=w.heap.size) (gb:=gb) (fs:=fs)
 have hown:(w.alloc (.cells #[.int .i64 0] 3)).ownsRow w.heap.size 3 1 (.slice (some ⟨w.heap.size,0,none⟩) 1 1) 1 [.int .i64 0]:=World.ownsRow_lit (size:=1) w #[.int .i64 0] 1 (Nat.le_refl _) VA rfl
 have hsd:SI w 0 w.heap.size (grpS w.heap.size gb fs) (w.alloc (.cells #[.int .i64 0] 3)) (some ⟨w.heap.size,0,none⟩) 1 1 [0]:=
  ⟨hide rfl,hown,fun b hb=>by simp [Value.ownBlock] at hb;right;omega,byGG,grp_call hG2 byGG (Nat.le_refl _),Vs⟩
 have HR:=hide hR
 have HNN:=hide hN
 clear hG hG2 hown hN
 go_enter Tryz.func57,Tryz.ntmps57
 go_wp2
 go_loopw [5,6] (fun ls ps wr=> ∃(m p c:Nat) (a:Option Addr) (l:List Int),ls= .slice a m c∧ps= .int .i64 (p:Int)∧1≤m∧m≤N∧p<fs.length∧Hid (fs.getD p (0,0,0)=poN d (fs.getD i (0,0,0)) m)∧SI w 0 w.heap.size (grpS w.heap.size gb fs) wr a m c l) (fun ls _ _=>N-lenOf ls)
 case atStart=>exact ⟨1,i,1,_,_,rfl,rfl,Vn,n1,hi,hide (hR.one hi),hsd⟩
 case round=>
  clear hsd
  obtain ⟨m,p,c,a,l,rfl,rfl,m1,m2,hp,he,hsd⟩:=hrel
  obtain ⟨w1,rfl⟩: ∃w1:World,w1=wr:=⟨_,rfl⟩
  have hz:=hsd.sd.bel.size
  have hln:=hsd.len
  have hlb:l.length≤3000:=by have:=unhide hln;omega
  have hnz:=(unhide HR).nz hi hp (unhide he) m1 (by rw[unhide HNN];exact m2)
  rw[unhide HNN] at hnz
  by_cases cm:m=N
  ·have hp0:=hnz.2 cm
   clear hnz
   subst hp0 cm
   go_wp2
   go_ret
   exact ⟨_,_,rfl,hsd.sd.bel⟩
  ·have hmN:m<N:=by omega
   have hp0:((p:Int) != 0)=true:=by
    have: ¬p=0:=fun e=>cm (hnz.1 e)
    simp;omega
   obtain ⟨r,hr,hre⟩:=(unhide HR).pw hi (m+1)
   have hce:cmp (fs.getD p (0,0,0)) (fs.getD i (0,0,0))=fs.getD r (0,0,0):=by rw[hre,unhide he];rfl
   have HRE:=hide hre
   have HT2:=hide (fun W h1 h2=>unhide HT W p r h1 h2 hp hr hce)
   clear hnz hre hce he cm
   go_wp2_with (first|(at_builtin;refine app_int _ rfl (.tmp 15) (.tmp 17) rfl w.heap.size (.slice a m c) l (p:Int) w1.heap.size rfl rfl (hsd.alloc hK _).il VB Vn VW ?_;intro g cap w3 hown hgrow hat hlt;have hs3:=(hsd.alloc hK _).app hK hown hgrow hat)|(go_at_call 85;refine ((unhide HT2) _ hs3.sd.src hs3.sd.bel.size).mono ?_;rintro e w4 ⟨rfl,hb4⟩))
   go_roundw
   case rel=>
    have hs4:=hs3.call hK hb4
    have e1:m+1=l.length+1:=by have:=unhide hln;omega
    have HRE2:Hid (fs.getD r (0,0,0)=poN d (fs.getD i (0,0,0)) (l.length+1)):=hide (by rw[←e1];exact unhide HRE)
    first|exact ⟨l.length+1,r,cap,some ⟨g,0,none⟩,_,rfl,rfl,Vn,Vn,hr,HRE2,hs4⟩|((repeat apply Exists.intro);exact ⟨⟨l.length+1,r,cap,some ⟨g,0,none⟩,_,rfl,rfl,Vn,Vn,hr,HRE2,hs4⟩,rfl⟩)
   case measure=>have:=unhide hln;simp [lenOf];omega
theorem orders_a (d:Int) (HI gb:Nat) (w:World) (hd:negB d=true) (hG:grpS HI gb (rfL d) w) (hHI:HI≤w.heap.size):
  Calls Tryz.prog 34 #[.pointer (some ⟨gb,0,none⟩)] w (RetIL w (orL d)):=by
 have hR:=rfs hd
 have hoL:(orL d).take (rfL d).length=orL d:=List.take_of_length_le (by unfold orL;rw [List.length_map];exact Nat.le_refl _)
 have HS:=hide (fun k (hk:k<(rfL d).length)=>orL_at hk)
 have HOR:Hid (∀k,k<(rfL d).length→orN d ((rfL d).getD k (0,0,0))≤2000):=hide fun k hk=>(or_is (hR.inn k hk).1).2.1
 have HP: ∀(W:World) (k:Nat),grpS w.heap.size gb (rfL d) W→w.heap.size≤W.heap.size→k<(rfL d).length→Calls Tryz.prog 57 #[.pointer (some ⟨gb,0,none⟩),.int .i64 (k:Int)] W (RetLen W (orN d ((rfL d).getD k (0,0,0)))):=fun W k h1 h2 h3=>
  powers_a d w.heap.size gb (rfL d) k W hR h1 h2 h3 rfl
 have HP:=hide HP
 have hG2:=grp_up hG hHI
 have hlen:=hR.len
 obtain ⟨OL,hOL⟩: ∃OL,orL d=OL:=⟨_,rfl⟩
 have HO:Hid (∀k,k<(rfL d).length→OL.take k++ [((orN d ((rfL d).getD k (0,0,0)):Nat):Int)]=OL.take (k+1)):=hide (by rw[←hOL];exact unhide HS)
 rw[hOL] at hoL ⊢
 clear HS hOL hR hG
 generalize rfL d=fs at*
 have hK:=grp_kept (HI:=w.heap.size) (gb:=gb) (fs:=fs)
 have hsd:SI w 0 w.heap.size (grpS w.heap.size gb fs) (w.alloc (.cells #[] 3)) (some ⟨w.heap.size,0,none⟩) 0 0 []:=
  ⟨hide rfl,(SD.startM (S:=fun _=>True) (HI:=0) (Below.refl _ _) trivial (Nat.zero_le _)).own,fun b hb=>by simp [Value.ownBlock] at hb;right;omega,byGG,grp_call hG2 byGG (Nat.le_refl _),Vs⟩
 obtain ⟨-,a5,c5,mb5,lo5,q0,q1,q2,q3,q4⟩:=hG2
 have hgb:gb<w.heap.size:=World.block_lt_of_cell? _ _ q0
 clear q1 q2 q3 q4
 go_enter Tryz.func34,Tryz.ntmps34
 go_wp2
 go_loopw [3,11] (fun ls is wr=> ∃(k n9 c:Nat) (a:Option Addr) (l:List Int),is= .int .i64 (k:Int)∧ls= .slice a n9 c∧k≤fs.length∧n9≤k∧Hid (l=OL.take k)∧SI w 0 w.heap.size (grpS w.heap.size gb fs) wr a n9 c l) (fun _ is _=>fs.length-(intOf is).toNat)
 case atStart=>exact ⟨0,0,0,_,_,rfl,rfl,Vn,Vn,hide Vs,hsd⟩
 case round=>
  clear hsd q0
  obtain ⟨k,n9,c,a,l,rfl,rfl,hk,hnk,hl,hsd⟩:=hrel
  obtain ⟨w1,rfl⟩: ∃w1:World,w1=wr:=⟨_,rfl⟩
  have hz:=hsd.sd.bel.size
  have hln:=hsd.len
  have hlb:l.length≤3000:=by have:=unhide hln;omega
  by_cases c9:k<fs.length
  ·have hci:(k:Int)<(fs.length:Int):=by omega
   obtain ⟨N,hN⟩: ∃N,orN d (fs.getD k (0,0,0))=N:=⟨_,rfl⟩
   have hNb:N≤2000:=by rw[←hN];exact unhide HOR k c9
   have YES:=hide ((congrArg (· ++ [((orN d (fs.getD k (0,0,0)):Nat):Int)]) (unhide hl)).trans (unhide HO k c9))
   rw[hN] at YES
   have HPk:=hide (hN▸(fun W h1 h2=>unhide HP W k h1 h2 c9): ∀(W:World),grpS w.heap.size gb fs W→w.heap.size≤W.heap.size→Calls Tryz.prog 57 #[.pointer (some ⟨gb,0,none⟩),.int .i64 (k:Int)] W (RetLen W N))
   clear hN
   go_wp2_with (first|(go_at_call 57;refine ((unhide HPk) _ hsd.sd.src hz).mono ?_;rintro e w2 ⟨a2,c2,rfl,hb2⟩;have hs2:=hsd.call hK hb2;have hz2:=hs2.sd.bel.size)|(at_builtin;refine app_int _ rfl (.tmp 14) (.tmp 19) rfl w.heap.size (.slice a n9 c) l (N:Int) w2.heap.size rfl rfl (hs2.alloc hK _).il VB Vn VW ?_;intro g cap w3 hown hgrow hat hlt))
   go_roundw
   case rel=>
    have hs3:=(hs2.alloc hK _).app hK hown hgrow hat
    exact ⟨k+1,l.length+1,cap,some ⟨g,0,none⟩,_,by go_num,rfl,Vn,by have:=unhide hln;omega,YES,hs3⟩
   case measure=>simp [intOf];omega
  ·obtain rfl:k=fs.length:=by omega
   go_wp2
   go_ret
   exact hsd.ret ((unhide hl).trans hoL) rfl
end Go.Proofs.YtobkcnmlmmhpoaaGreatDoor
namespace Go.Proofs.YtobkcnmlmmhpoaaGreatDoor
open Go.RowKit
set_option linter.unusedVariables false
set_option linter.unusedSimpArgs false
attribute [local go_sem] q2 q3 q4 q5 q6 q7 q8 q9 q10 q11 q12

theorem SI.set {w wr:World} {LO HI n c g:Nat} {S:World→Prop} {l:List Int} (h:SI w LO HI S wr (some ⟨g,0,none⟩) n c l) (hK:Kept LO HI S) (j:Nat) (z:Int):SI w LO HI S (wr.setCell ⟨g,j,none⟩ (.int .i64 z)) (some ⟨g,0,none⟩) n c (l.set j z):=by
 obtain ⟨h1,h2⟩:=IL.stored h.il j z
 have hln:=unhide h.len
 have hlo:=(World.ownsRow.lt h.sd.own g rfl).1
 have hfar:=h.sd.far g rfl
 refine ⟨hide (by rw[List.length_set];exact hln),?_,h.sd.far,h.sd.bel.grown h2 h.sd.bel.size (fun k hk=>by cases hk;exact hlo),hK _ _ (fun k k1 k2=>h2.block k (Nat.lt_of_lt_of_le k2 h.sd.hi) (fun e=>by have:=Option.some.inj e;omega)) h.sd.src,Nat.le_trans h.sd.hi h2.size⟩
 have:=h1
 unfold IL at this
 rw[List.length_set,←hln] at this
 exact this
theorem mulF_bd {p:Nat} (hp:2≤p): ∀r (l:List Nat) (M:Nat),1≤M→(∀x ∈ l,1≤x∧x≤M)→ ∀x ∈ mulF p r l,1≤x∧x≤p*M
 |0,l,M,hM1,hl,x,hx=>by
  have:=hl x hx
  have h2:1*M≤p*M:=Nat.mul_le_mul_right M Vn
  omega
 |r+1,[],M,hM1,hl,x,hx=>by
  have hpM:p*1≤p*M:=Nat.mul_le_mul_left p hM1
  rcases List.mem_cons.1 hx with rfl|hx
  ·omega
  ·exact mulF_bd hp r [] M hM1 (fun y hy=>by cases hy) x hx
 |r+1,y :: l,M,hM1,hl,x,hx=>by
  rcases List.mem_cons.1 hx with rfl|hx
  ·obtain ⟨b1,b2⟩:=hl y Vs
   have c1:=Nat.mul_le_mul_right p b2
   have c2:=Nat.mul_le_mul b1 (show 1≤p by omega)
   rw[Nat.mul_comm M p] at c1;omega
  ·exact mulF_bd hp r l M hM1 (fun z hz=>hl z (by simp [hz])) x hx
theorem prd_pos1 {f:Nat→Nat} : ∀{l:List Nat},(∀p ∈ l,1≤f p)→1≤Fab.prd f l
 | [],_=>Nat.le_refl _
 |p :: l,h=>by
  have h1:=h p Vs
  have h2:=prd_pos1 (l:=l) (fun q hq=>h q (by simp [hq]))
  have:=Nat.mul_le_mul h1 h2
  rw[Fab.prd];omega
theorem prd_take {f:Nat→Nat} : ∀{l:List Nat} (k:Nat),(∀p ∈ l,1≤f p)→Fab.prd f (l.take k)≤Fab.prd f l
 |l,0,h=>by rw[List.take_zero];exact prd_pos1 h
 | [],k+1,h=>by simp
 |p :: l,k+1,h=>by
  rw[List.take_succ_cons,Fab.prd,Fab.prd]
  exact Nat.mul_le_mul_left _ (prd_take k (fun q hq=>h q (by simp [hq])))
structure OsQ (os:List Int):Prop where
 n1:1≤os.length
 n2:os.length≤676
 pos: ∀o ∈ os,1≤o∧o≤2000
 le: ∀p ∈ psL os.length,2≤p∧p≤os.length∧p ^ exN os.length p≤os.length
 bd: ∀k,∀x ∈ fsK os (psL os.length) k,1≤x∧x≤os.length
 rb: ∀p ∈ psL os.length,∀(L:List Nat),(∀x ∈ L,1≤x∧x≤os.length)→ ∀k,∀x ∈ rnd os p L k,1≤x∧x≤p ^ k*os.length
 top: ∀p ∈ psL os.length,cK os p (exN os.length p)=p ^ exN os.length p
 full: ∀p ∈ psL os.length,∀(L:List Nat) (k:Nat),k≤exN os.length p→p ^ exN os.length p≤cK os p k→rnd os p L (exN os.length p)=rnd os p L k
 ck1: ∀p ∈ psL os.length,∀k,k≤exN os.length p→1≤cK os p k∧cK os p k≤os.length
 dv1: ∀p ∈ psL os.length,∀k,1≤cK os p (k+1) / cK os p k
theorem os_q {d:Int} (hd:negB d=true):OsQ (orL d):=by
 have h:=cg_os hd
 have hR:=rfs hd
 have hl:(orL d).length=(rfL d).length:=by unfold orL;rw [List.length_map]
 have h1:=h.pos1
 have hps:=ps_ok h1
 have hpp: ∀p ∈ psL (orL d).length,p ^ exN (orL d).length p≤(orL d).length:=fun p hp=>by
  obtain ⟨k,hk,hk2⟩:=ex_spec (hps.pr p hp).1 (orL d).length h1
  have hk0:1≤k:=Nat.pos_of_ne_zero fun z=>hk2 (z▸Nat.dvd_zero p)
  have:=Nat.mul_le_mul_left (p ^ exN (orL d).length p) hk0
  omega
 refine ⟨h1,by rw[hl];exact hR.len,fun o ho=> ?_,fun p hp=>⟨(hps.pr p hp).1,Nat.le_of_dvd Vn (hps.dv p hp),hpp p hp⟩,fun k x hx=> ?_,fun p hp L hL k x hx=>OsOk.rnd_bd (hps.pr p hp) hL h1 k x hx,fun p hp=>h.ck_top (hps.pr p hp),fun p hp L k h2 h3=>h.rnd_full (hps.pr p hp) h2 h3 L,fun p hp k hk=>⟨(h.parts (hps.pr p hp) k).2.1,Nat.le_trans (h.ck_le (hps.pr p hp) k hk) (hpp p hp)⟩,fun p hp k=>(h.parts (hps.pr p hp) k).2.2⟩
 ·obtain ⟨F,hF,rfl⟩:=List.mem_map.1 ho
  have:=or_is (rf_in hd hF).1
  exact ⟨by have:=this.1;omega,by have:=this.2.1;omega⟩
 ·have hpr: ∀p ∈ (psL (orL d).length).take k,Pr p:=fun p hp=>hps.pr p (List.mem_of_mem_take hp)
  have q1:=h.fsP_bd hpr (l:= []) (M:=1) (Nat.le_refl _) (fun y hy=>by cases hy) x hx
  have q2:=prd_take (f:=fun p=>p ^ exN (orL d).length p) (l:=psL (orL d).length) k (fun p hp=>Nat.pow_pos (by have:=(hps.pr p hp).1;omega))
  have q3:Fab.prd (fun p=>p ^ exN (orL d).length p) (psL (orL d).length)=(orL d).length:=Fab.prd_all h1 hps.nd hps.pr hps.all (fun p hp=>ex_spec (hps.pr p hp).1 _ h1)
  omega
def cntK (os:List Int) (q:Int) (k:Nat):Nat:=((os.take k).filter (fun o=>q%o==0)).length
theorem cntK_succ {os:List Int} {q:Int} {k:Nat} (h:k<os.length) {x:Int} (hx:os.getD k 0=x):cntK os q (k+1)=cntK os q k+(if q%x==0 then 1 else 0):=by
 subst hx
 unfold cntK
 rw[List.take_add_one,List.getElem?_eq_getElem h,List.filter_append,List.length_append,List.getD_eq_getElem?_getD,List.getElem?_eq_getElem h]
 congr 1
 simp only[Option.toList,List.filter_cons,List.filter_nil,Option.getD_some]
 split<;>rfl
theorem cntK_all {os:List Int} {p m:Nat} :cntK os ((p ^ (m+1):Nat):Int) os.length=cK os p (m+1):=by
 unfold cntK cK cntI
 rw[List.take_length,if_neg Vn]
theorem nI_set {L:List Nat} {i x:Nat} :(nI L).set i (x:Int)=nI (L.set i x):=by
 unfold nI
 rw[List.map_set]
theorem nI_rev (L:List Nat):(nI L).reverse=nI L.reverse:=by unfold nI;rw [List.map_reverse]
theorem pow_dvd_iff {p n:Nat} (hp:2≤p) (hn:1≤n) (hpr:Pr p) {m:Nat} :n%p ^ (m+1)=0↔m<exN n p:=by
 obtain ⟨k,hk,hk2⟩:=ex_spec hp n hn
 constructor
 ·intro h
  have h1:p ^ (m+1)∣p ^ exN n p*k:=by rw[←hk];exact Nat.dvd_of_mod_eq_zero h
  have:=hpr.le_of hk2 h1
  omega
 ·intro h
  refine Nat.mod_eq_zero_of_dvd ?_
  have h1:p ^ (m+1)∣p ^ exN n p:=Nat.pow_dvd_pow p h
  exact hk▸Nat.dvd_trans h1 (Nat.dvd_mul_right _ _)
theorem mulF_pad (p r:Nat) (L:List Nat):mulF p r (L++List.replicate (r-L.length) 1)=mulF p r L:=by
 refine ext_getD (by rw[mulF_len,mulF_len,List.length_append,List.length_replicate];omega) fun i hi=> ?_
 rw[mulF_get,mulF_get]
 congr 1
 by_cases q:i<L.length
 ·exact gdl q
 ·rw [List.getD_eq_getElem?_getD,List.getD_eq_getElem?_getD,List.getElem?_append_right Vn,List.getElem?_eq_none (l:=L) Vn]
  by_cases c:i-L.length<r-L.length
  ·rw [List.getElem?_replicate,if_pos c];rfl
  ·rw [List.getElem?_replicate,if_neg c]
def RvOk (L l:List Int) (t:Nat):Prop:=l.length=L.length∧ ∀j,j<L.length→l.getD j 0=if j<t∨L.length≤j+t then L.getD (L.length-1-j) 0 else L.getD j 0
theorem rv_zero (L:List Int):RvOk L L 0:=⟨rfl,fun j hj=>by rw[if_neg Vn]⟩
theorem gset {l:List Int} {i j:Nat} {x:Int} (hi:i<l.length):(l.set i x).getD j 0=if i=j then x else l.getD j 0:=by
 simp only[List.getD_eq_getElem?_getD,List.getElem?_set]
 by_cases q:i=j
 ·rw [if_pos q,if_pos hi,if_pos q];rfl
 ·rw [if_neg q,if_neg q]
theorem rv_step {L l:List Int} {t:Nat} (h:RvOk L l t) (ht:2*t+1<L.length):RvOk L ((l.set t (l.getD (L.length-1-t) 0)).set (L.length-1-t) (l.getD t 0)) (t+1):=by
 obtain ⟨h1,h2⟩:=h
 refine ⟨by rw[List.length_set,List.length_set];exact h1,fun j hj=> ?_⟩
 rw[gset (by rw[List.length_set];omega),gset Vn]
 have a:=h2 t Vn
 have b:=h2 (L.length-1-t) Vn
 rw[if_neg Vn] at a b
 by_cases e1:L.length-1-t=j
 ·rw [if_pos e1,if_pos Vn,a];congr 1;omega
 ·rw [if_neg e1]
  by_cases e2:t=j
  ·rw [if_pos e2,if_pos Vn,b];congr 1;omega
  ·rw [if_neg e2,h2 j hj]
   by_cases c:j<t∨L.length≤j+t
   ·rw [if_pos c,if_pos Vn]
   ·rw [if_neg c,if_neg Vn]
theorem rv_end {L l:List Int} {t:Nat} (h:RvOk L l t) (ht:L.length≤2*t+1):l=L.reverse:=by
 obtain ⟨h1,h2⟩:=h
 refine ints_eq (by rw[List.length_reverse];exact h1) fun i hi=> ?_
 rw[h2 i Vn]
 have hr:L.reverse.getD i 0=L.getD (L.length-1-i) 0:=by
  rw[List.getD_eq_getElem?_getD,List.getD_eq_getElem?_getD,List.getElem?_reverse Vn]
 rw[hr]
 by_cases c:i<t∨L.length≤i+t
 ·rw [if_pos c]
 ·rw [if_neg c];congr 1;omega
end Go.Proofs.YtobkcnmlmmhpoaaGreatDoor
