/- Plain: a true row is a good row; what the counts sum up to. What FnTables calls: class numbers, factors, genera, exponents, a sum. -/
import Derived.Test.YtobkcnmlmmhpoaaGreatDoorUrt
import Derived.Test.YtobkcnmlmmhpoaaGreatDoorFaw
import Derived.Test.YtobkcnmlmmhpoaaGreatDoorUrw
import Derived.Test.YtobkcnmlmmhpoaaGreatDoorRtx
set_option maxRecDepth 100000
set_option maxHeartbeats 80000000
namespace Go.Proofs.YtobkcnmlmmhpoaaGreatDoor
open Go.RowKit
set_option linter.unusedVariables false
set_option linter.unusedSimpArgs false

theorem prL_app: ∀(a b:List Nat),prL (a++b)=prL a*prL b
 | [],b=>by simp [prL]
 |x :: a,b=>by rw[List.cons_append,prL,prL_app a b,prL,Nat.mul_assoc]
theorem prL_rev: ∀(l:List Nat),prL l.reverse=prL l
 | []=>rfl
 |x :: l=>by rw[List.reverse_cons,prL_app,prL_rev l];simp [prL,Nat.mul_comm]
theorem prL_mulF (p:Nat): ∀(r:Nat) (l:List Nat),prL (mulF p r l)=p ^ r*prL l
 |0,l=>by simp [mulF]
 |r+1,[]=>by simp only[mulF,prL,prL_mulF p r [],Nat.pow_succ,Nat.mul_one,Nat.mul_comm]
 |r+1,x :: l=>by rw[mulF,prL,prL_mulF p r l,prL,Nat.pow_succ];simp only[Nat.mul_comm,Nat.mul_left_comm,Nat.mul_assoc]
theorem prL_rnd {G:Type} [DecidableEq G] {g:Fab G} {os:List Int} (h:OsOk g os) {p:Nat} (hp:Pr p) (l:List Nat): ∀k,prL (rnd os p l k)=cK os p k*prL l
 |0=>by simp [rnd,cK]
 |k+1=>by
  rw[rnd,prL_mulF,prL_rnd h hp l k]
  obtain ⟨i,hi⟩:=h.ck_pp hp k
  obtain ⟨j,hj⟩:=h.ck_pp hp (k+1)
  have hm:=h.ck_mono hp k
  rw[hi,hj] at hm ⊢
  have hij:i≤j:=(Nat.pow_le_pow_iff_right hp.1).1 hm
  have hp0:0<p:=by have:=hp.1;omega
  rw[Nat.pow_div hij hp0,ex_pow hp.1,←Nat.mul_assoc,←Nat.pow_add,show j-i+i=j by omega]
theorem prL_fsP {G:Type} [DecidableEq G] {g:Fab G} {os:List Int} (h:OsOk g os): ∀{ps:List Nat} (l:List Nat),(∀p ∈ ps,Pr p)→prL (fsP os ps l)=Fab.prd (fun p=>p ^ exN os.length p) ps*prL l
 | [],l,_=>by simp [fsP,Fab.prd]
 |p :: ps,l,hp=>by
  rw[fsP,prL_fsP h _ (fun x hx=>hp x W5),prL_rnd h (hp p Vs),h.ck_top (hp p Vs),Fab.prd,←Nat.mul_assoc,Nat.mul_comm (Fab.prd _ _)]
def ChF (l:List Nat):Prop:=(∀i,l.getD (i+1) 1∣l.getD i 1)∧ ∀i,i<l.length→2≤l.getD i 1
theorem ChF.mulF {p r:Nat} {l:List Nat} (hp:2≤p) (h:ChF l):ChF (mulF p r l):=by
 refine ⟨fun i=> ?_,fun i hi=> ?_⟩
 ·rw [mulF_get,mulF_get]
  refine Nat.mul_dvd_mul ?_ (h.1 i)
  by_cases q:i+1<r
  ·rw [if_pos q,if_pos Vn];exact Nat.dvd_refl _
  ·rw [if_neg q];exact Nat.one_dvd _
 ·rw [mulF_len] at hi
  rw[mulF_get]
  have h1:1≤l.getD i 1:=by
   by_cases q:i<l.length
   ·have:=h.2 i q;omega
   ·rw [List.getD_eq_getElem?_getD,List.getElem?_eq_none Vn];simp
  by_cases q:i<r
  ·rw [if_pos q];exact Nat.le_trans hp (Nat.le_mul_of_pos_right p h1)
  ·rw [if_neg q,Nat.one_mul];exact h.2 i Vn
theorem ChF.rnd {os:List Int} {p:Nat} {l:List Nat} (hp:2≤p) (h:ChF l): ∀k,ChF (rnd os p l k)
 |0=>h
 |k+1=>ChF.mulF hp (ChF.rnd hp h k)
theorem ChF.fsP {os:List Int} : ∀{ps:List Nat} {l:List Nat},(∀p ∈ ps,Pr p)→ChF l→ChF (fsP os ps l)
 | [],l,_,h=>h
 |p :: ps,l,hp,h=>ChF.fsP (ps:=ps) (fun x hx=>hp x W5) (ChF.rnd (hp p Vs).1 h (exN os.length p))
theorem fsL_good {d:Int} (hd:negB d=true):ChF (fsL (orL d))∧prL (fsL (orL d))=(orL d).length:=by
 have h:=cg_os hd
 obtain ⟨p1,p2,p3,p4⟩:=ps_ok h.pos1
 unfold fsL fsK
 rw[List.take_length]
 refine ⟨ChF.fsP p2 ⟨fun i=>by simp,fun i hi=>absurd hi Vs⟩,?_⟩
 rw[prL_fsP h [] p2,Fab.prd_all h.pos1 p1 p2 p4 (fun p hp=>ex_spec (p2 p hp).1 _ h.pos1)]
 simp [prL]
theorem rev_get {l:List Nat} {i:Nat} (h:i<l.length):l.reverse.getD i 1=l.getD (l.length-1-i) 1:=by
 rw[List.getD_eq_getElem?_getD,List.getElem?_reverse h,List.getD_eq_getElem?_getD]
theorem ch_good {F:List Nat} (h:ChF F) (hp:prL F≤1000): ∀j,j≤F.length→chS (fun i=>(nI F.reverse).getD i 0) j=some ((prL (F.reverse.take j):Nat):Int)
 |0,_=>by simp [chS,prL]
 |j+1,hj=>by
  have ih:=ch_good h hp j Vn
  have hz: ∀i,i<F.length→(nI F.reverse).getD i 0=((F.getD (F.length-1-i) 1:Nat):Int):=fun i hi=>by
   rw[nI_get (by simpa using hi),←rev_get hi,List.getD_eq_getElem?_getD,List.getD_eq_getElem?_getD,List.getElem?_eq_getElem (by simpa using hi)];rfl
  have e0:prL (F.reverse.take (j+1))=prL (F.reverse.take j)*F.getD (F.length-1-j) 1:=by
   rw[List.take_add_one,List.getElem?_eq_getElem VX,prL_app,←rev_get Vn,List.getD_eq_getElem?_getD,List.getElem?_eq_getElem VX]
   simp [prL]
  have e1: ∀x ∈ F.reverse.drop (j+1),2≤x:=fun x hx=>by
   have hx2:=List.mem_reverse.1 (List.mem_of_mem_drop hx)
   obtain ⟨i,hi,he⟩:=List.getElem_of_mem hx2
   have:=h.2 i hi
   rw[List.getD_eq_getElem?_getD,List.getElem?_eq_getElem hi] at this
   simpa [he] using this
  have e2:=prL_len e1
  have e3:prL (F.reverse.take (j+1))*prL (F.reverse.drop (j+1))=prL F:=by rw[←prL_app,List.take_append_drop,prL_rev]
  have e4:prL (F.reverse.take (j+1))≤1000:=Nat.le_trans (Nat.le_mul_of_pos_right _ (show 0<prL (F.reverse.drop (j+1)) by omega)) (Nat.le_trans (Nat.le_of_eq e3) hp)
  have e5:2≤F.getD (F.length-1-j) 1:=h.2 _ Vn
  obtain ⟨p1,p2⟩:=ch_bd ih
  have e6:((prL (F.reverse.take (j+1)):Nat):Int)=((prL (F.reverse.take j):Nat):Int)*(nI F.reverse).getD j 0:=by rw[e0,hz j Vn];push_cast;rfl
  have e7:(nI F.reverse).getD j 0≤1000:=by
   rw[hz j Vn]
   rw[e0] at e4
   have:=Nat.le_trans (Nat.le_mul_of_pos_left (F.getD (F.length-1-j) 1) (show 0<prL (F.reverse.take j) by omega)) e4
   omega
  rw[e6]
  refine ch_next ih (by rw[hz j Vn];omega) e7 ?_ (by rw[←e6];omega)
  rcases Nat.eq_zero_or_pos j with q|q
  ·exact .inl q
  ·right
   show (nI F.reverse).getD j 0%(nI F.reverse).getD (j-1) 0=0
   rw[hz j Vn,hz (j-1) Vn,←Int.natCast_emod]
   have:=h.1 (F.length-1-j)
   rw[show F.length-1-j+1=F.length-1-(j-1) by omega] at this
   rw[Nat.mod_eq_zero_of_dvd this];rfl
theorem row_good {d:Int} (hd:negB d=true):rwB (rowV d) (rowFL d).length (fun i=>(rowFL d).getD i 0)=true:=by
 obtain ⟨h1,h2⟩:=fsL_good hd
 have hn:=(os_q hd).n2
 have hp:=(cg_os hd).pos1
 have hl:(orL d).length=(rfL d).length:=orL_len
 have hlen:(rowFL d).length=(fsL (orL d)).length:=by unfold rowFL;rw [nI_len,List.length_reverse]
 have hc:=ch_good h1 Vn _ (Nat.le_refl (fsL (orL d)).length)
 rw[List.take_of_length_le Vs,prL_rev,h2] at hc
 obtain ⟨c1,c2⟩:=ch_end hc
 have hx:=lc_bd hd (Nat.le_refl _)
 have hx2:=lcK_b hd (Nat.le_refl _)
 rw[lc_top hd] at hx2
 have g1:1≤gsN d:=by
  unfold gsN
  have: ∃m,(rfL d).length=m+1:=⟨(rfL d).length-1,Vn⟩
  obtain ⟨m,hm⟩:=this
  rw[hm];exact gsK_pos m
 have g2:=gsK_le (rfL d) (rfL d).length
 unfold rwB
 rw[hlen]
 unfold rowFL
 rw[c1,c2]
 have k1:inB (gsN d:Int) 1 1000=true:=by unfold inB;simp;unfold gsN at *;omega
 have k2:inB (((fsL (orL d)).getD 0 1:Nat):Int) 1 1000=true:=by unfold inB;simp only[Bool.and_eq_true,decide_eq_true_eq];omega
 show (true&&(negB d&&(decide (((orL d).length:Int)=((rfL d).length:Int))&&(inB (gsN d:Int) 1 1000&&inB (((fsL (orL d)).getD 0 1:Nat):Int) 1 1000))))=true
 rw[hd,k1,k2,hl];simp
theorem rw_all9 {r:RowV} {n:Nat} {z:Nat→Int} (h:rwB r n z=true):(1≤r.num∧r.num≤1000)∧(1≤r.ge∧r.ge≤1000)∧(1≤r.ex∧r.ex≤1000):=by
 unfold rwB at h
 simp only[Bool.and_eq_true,decide_eq_true_eq] at h
 obtain ⟨h1,h2,h3,h4,h5⟩:=h
 have:=ch_val h1
 have:=inB_true h4
 have:=inB_true h5
 exact ⟨Vn,Vn,Vn⟩
theorem rowOk {d:Int} (hd:negB d=true):RowOk (rowV d):=by
 have h:=rw_all9 (row_good hd)
 obtain ⟨d0,d1⟩:=neg_true hd
 refine ⟨?_,?_,?_,?_⟩<;>constructor<;>(try (have:=h.1;have:=h.2.1;have:=h.2.2))<;>(first|omega|(show _≤d;omega)|(show d≤_;omega))
def smI:List Int→Int
 | []=>0
 |x :: l=>x+smI l
theorem smI_app: ∀(a b:List Int),smI (a++b)=smI a+smI b
 | [],b=>by simp [smI]
 |x :: a,b=>by rw[List.cons_append,smI,smI_app a b,smI];omega
theorem smI_rep: ∀k,smI (List.replicate k 0)=0
 |0=>rfl
 |k+1=>by rw[List.replicate_succ,smI,smI_rep k];rfl
theorem smI_set: ∀(l:List Int) (i:Nat) (x:Int),i<l.length→smI (l.set i x)=smI l-l.getD i 0+x
 | [],i,x,h=>absurd h Vs
 |y :: l,0,x,_=>by simp [smI];omega
 |y :: l,i+1,x,h=>by
  have:=smI_set l i x W6
  simp only[List.set_cons_succ,smI,List.getD_cons_succ];rw [this];omega
theorem smI_cb (ds:List Int): ∀k,smI (cbK ds k)=k
 |0=>rfl
 |k+1=>by
  rw[cbK]
  unfold bumpL
  generalize (rfL (ds.getD k 0)).length=h
  rw[smI_set _ _ _ (by rw[padL_len];omega)]
  have:smI (padL (cbK ds k) (h+1-(cbK ds k).length))=k:=by unfold padL;rw [smI_app,smI_rep,smI_cb ds k];simp
  rw[this];push_cast;omega
theorem smI_take: ∀(l:List Int) (k:Nat),k<l.length→smI (l.take (k+1))=smI (l.take k)+l.getD k 0
 | [],k,h=>absurd h Vs
 |y :: l,0,_=>by simp [smI]
 |y :: l,k+1,h=>by
  have:=smI_take l k W6
  simp only[List.take_succ_cons,smI,List.getD_cons_succ];rw [this];omega
theorem smI_bd {M:Nat} : ∀(l:List Int),(∀z ∈ l,0≤z∧z≤(M:Int))→0≤smI l∧smI l≤l.length*M
 | [],_=>by simp [smI]
 |y :: l,h=>by
  have:=smI_bd l (fun z hz=>h z (by simp [hz]))
  have h2:=h y Vs
  simp only[smI,List.length_cons]
  push_cast
  rw[Int.add_mul];omega
theorem wr_true {t:Nat→TR} {n:Nat} (h: ∀i,i<n→ ∃d,(t i).r=rowV d∧(t i).zs=rowFL d):wrL t n= []:=by
 induction n with
 |zero=>rfl
 |succ n ih=>
  obtain ⟨d,e1,e2⟩:=h n Vn
  rw[wr_no (k:=n) (by unfold wrS sRB;rw [e1,e2];show (decide _&&(decide _&&(decide _&&(decide _&&decide _))))=true;simp [rowV])]
  exact ih fun i hi=>h i Vn
end Go.Proofs.YtobkcnmlmmhpoaaGreatDoor
namespace Go.Proofs.YtobkcnmlmmhpoaaGreatDoor
open Go.RowKit
set_option linter.unusedVariables false
set_option linter.unusedSimpArgs false
attribute [local go_sem] q2 q3 q4 q5 q6 q7 q8 q9 q10 q11 q12
theorem reducedForms_t (d:Int) (w:World) (hd:negB d=true) (n:Nat) (hn:(rfL d).length=n):Calls Tryz.prog 30 #[.int .i64 d] w fun e w'=> ∃a c,e= .returned (.tuple #[.slice a n c,.bool true])∧Below w.heap.size w w':=by
 have HC:Hid (∀W,Calls Tryz.prog 31 #[.int .i64 d] W fun e w'=>e= .returned (.bool true)∧W=w'):=hide fun W=>(isNegativeDisc_a d W).mono fun e w' ⟨h1,h2⟩=>⟨by rw[h1,hd],h2⟩
 have H1:Hid (∀W,Calls Tryz.prog 42 #[.int .i64 d] W (RetLen W n)):=hide fun W=>by rw[←hn];exact reducedForms_len d W (neg_true hd).1 (neg_true hd).2 rfl
 clear hd hn
 go_enter Tryz.func30,Tryz.ntmps30
 go_wp2_with fail
 refine ((unhide HC) _).mono ?_
 rintro e w0 ⟨rfl,rfl⟩
 go_wp2_with fail
 refine ((unhide H1) _).mono ?_
 rintro e w1 ⟨a,c,rfl,hb⟩
 go_wp2
 go_ret2
 exact ⟨a,c,rfl,byGG⟩
theorem classNumber_t (d:Int) (w:World) (hd:negB d=true) (n:Nat) (hn:(rfL d).length=n):Calls Tryz.prog 9 #[.int .i64 d] w fun e w'=>e= .returned (.tuple #[.int .i64 (n:Int),.bool true])∧Below w.heap.size w w':=by
 have H1:Hid (∀W,Calls Tryz.prog 30 #[.int .i64 d] W fun e w'=> ∃a c,e= .returned (.tuple #[.slice a n c,.bool true])∧Below W.heap.size W w'):=hide fun W=>reducedForms_t d W hd n hn
 have hb9:n≤1000000:=by rw[←hn];exact Nat.le_trans (rfL_len (neg_true hd).1 (neg_true hd).2) VA
 clear hd hn
 go_enter Tryz.func9,Tryz.ntmps9
 go_wp2_with fail
 refine ((unhide H1) _).mono ?_
 rintro e w1 ⟨a,c,rfl,hb⟩
 go_wp2
 go_ret2
 exact ⟨rfl,byGG⟩
theorem generaOf_t (d:Int) (w:World) (hd:negB d=true) (n:Nat) (hn:gsN d=n):Calls Tryz.prog 35 #[.int .i64 d] w fun e w'=> ∃a c,e= .returned (.tuple #[.slice a n c,.bool true])∧Below w.heap.size w w':=by
 have HC:Hid (∀W,Calls Tryz.prog 31 #[.int .i64 d] W fun e w'=>e= .returned (.bool true)∧W=w'):=hide fun W=>(isNegativeDisc_a d W).mono fun e w' ⟨h1,h2⟩=>⟨by rw[h1,hd],h2⟩
 have H1:Hid (∀W,Calls Tryz.prog 47 #[.int .i64 d] W (RetLen W n)):=hide fun W=>by rw[←hn];exact genera_a d W hd
 clear hd hn
 go_enter Tryz.func35,Tryz.ntmps35
 go_wp2_with fail
 refine ((unhide HC) _).mono ?_
 rintro e w0 ⟨rfl,rfl⟩
 go_wp2_with fail
 refine ((unhide H1) _).mono ?_
 rintro e w1 ⟨a,c,rfl,hb⟩
 go_wp2
 go_ret2
 exact ⟨a,c,rfl,byGG⟩
theorem genusCount_t (d:Int) (w:World) (hd:negB d=true) (n:Nat) (hn:gsN d=n):Calls Tryz.prog 11 #[.int .i64 d] w fun e w'=>e= .returned (.tuple #[.int .i64 (n:Int),.bool true])∧Below w.heap.size w w':=by
 have H1:Hid (∀W,Calls Tryz.prog 35 #[.int .i64 d] W fun e w'=> ∃a c,e= .returned (.tuple #[.slice a n c,.bool true])∧Below W.heap.size W w'):=hide fun W=>generaOf_t d W hd n hn
 have hb9:n≤1000000:=by rw[←hn];have h1:=gsK_le (rfL d) (rfL d).length;have h2:=rfL_len (neg_true hd).1 (neg_true hd).2;unfold gsN;omega
 clear hd hn
 go_enter Tryz.func11,Tryz.ntmps11
 go_wp2_with fail
 refine ((unhide H1) _).mono ?_
 rintro e w1 ⟨a,c,rfl,hb⟩
 go_wp2
 go_ret2
 exact ⟨rfl,byGG⟩
theorem invFactors_t (d:Int) (w:World) (hd:negB d=true) (zs:List Int) (hz:rowFL d=zs):Calls Tryz.prog 10 #[.int .i64 d] w fun e w'=> ∃a c,e= .returned (.tuple #[.slice a zs.length c,.bool true])∧IntsAt w' w.heap.size w'.heap.size a zs.length (fun i=>zs.getD i 0)∧Below w.heap.size w w':=by
 have hq:=os_q hd
 have HG:Hid (∀W,Calls Tryz.prog 33 #[.int .i64 d] W fun e w'=> ∃gb,e= .returned (.pointer (some ⟨gb,0,none⟩))∧grpS w'.heap.size gb (rfL d) w'∧Below W.heap.size W w'):=hide fun W=>groupOf_a d W hd
 have HO:Hid (∀W gb,grpS W.heap.size gb (rfL d) W→Calls Tryz.prog 34 #[.pointer (some ⟨gb,0,none⟩)] W (RetIL W (orL d))):=hide fun W gb h=>orders_a d W.heap.size gb W hd h (Nat.le_refl _)
 have HI:Hid (∀(W:World) (a:Option Addr) (c lo hi:Nat),hi≤W.heap.size→IntsAt W lo hi a (orL d).length (fun i=>(orL d).getD i 0)→Calls Tryz.prog 32 #[.slice a (orL d).length c] W (RetIL W zs)):=hide fun W a c lo hi h1 h2=>by rw[←hz];exact invariants_a (orL d) a _ c lo hi W hq (hide rfl) h1 h2
 have HC:Hid (∀W,Calls Tryz.prog 31 #[.int .i64 d] W fun e w'=>e= .returned (.bool true)∧W=w'):=hide fun W=>(isNegativeDisc_a d W).mono fun e w' ⟨h1,h2⟩=>⟨by rw[h1,hd],h2⟩
 clear hq hz hd
 generalize orL d=os at*
 go_enter Tryz.func10,Tryz.ntmps10
 go_wp2_with fail
 refine ((unhide HC) _).mono ?_
 rintro e w0 ⟨rfl,rfl⟩
 go_wp2_with fail
 refine ((unhide HG) _).mono ?_
 rintro e w1 ⟨gb,rfl,hgrp,hb1⟩
 go_wp2_with fail
 refine ((unhide HO) _ gb hgrp).mono ?_
 rintro e w2 ⟨a2,c2,rfl,hl2,hb2⟩
 have hO2:=hl2.ints.2
 go_wp2_with fail
 refine ((unhide HI) _ _ c2 _ _ (Nat.le_refl _) hO2).mono ?_
 rintro e w3 ⟨a3,c3,rfl,hl3,hb3⟩
 have hs1:=hb1.size
 have hs2:=hb2.size
 go_wp2
 go_ret2
 exact ⟨a3,c3,rfl,hl3.ints.2.weak Vn (Nat.le_refl _),byGG⟩
theorem groupExp_t (d:Int) (w:World) (hd:negB d=true) (x9:Int) (hx:(rowV d).ex=x9):Calls Tryz.prog 12 #[.int .i64 d] w fun e w'=>e= .returned (.tuple #[.int .i64 x9,.bool true])∧Below w.heap.size w w':=by
 have hq:=os_q hd
 have HG:Hid (∀W,Calls Tryz.prog 33 #[.int .i64 d] W fun e w'=> ∃gb,e= .returned (.pointer (some ⟨gb,0,none⟩))∧grpS w'.heap.size gb (rfL d) w'∧Below W.heap.size W w'):=hide fun W=>groupOf_a d W hd
 have HO:Hid (∀W gb,grpS W.heap.size gb (rfL d) W→Calls Tryz.prog 34 #[.pointer (some ⟨gb,0,none⟩)] W (RetIL W (orL d))):=hide fun W gb h=>orders_a d W.heap.size gb W hd h (Nat.le_refl _)
 have HC:Hid (∀W,Calls Tryz.prog 31 #[.int .i64 d] W fun e w'=>e= .returned (.bool true)∧W=w'):=hide fun W=>(isNegativeDisc_a d W).mono fun e w' ⟨h1,h2⟩=>⟨by rw[h1,hd],h2⟩
 have hlc:=fun k hk=>lcK_b hd (k:=k) hk
 have hpos:=hq.pos
 have hn2:=hq.n2
 have HTOP:Hid (lcK (orL d) (orL d).length=x9):=hide (by rw[←hx];exact lc_top hd)
 clear hx hd
 generalize hos:orL d=os at*
 clear hos hq
 go_enter Tryz.func12,Tryz.ntmps12
 go_wp2_with fail
 refine ((unhide HC) _).mono ?_
 rintro e w0 ⟨rfl,rfl⟩
 go_wp2_with fail
 refine ((unhide HG) _).mono ?_
 rintro e w1 ⟨gb,rfl,hgrp,hb1⟩
 have hs1:=hb1.size
 go_wp2_with fail
 refine ((unhide HO) _ gb hgrp).mono ?_
 rintro e w2 ⟨a2,c2,rfl,hl2,hb2⟩
 have hs2:=hb2.size
 have hO2:=hl2.ints.2
 have hbw2:Below w.heap.size w w2:=hb1.trans (hb2.mono hs1)
 clear hl2 hb1 hb2
 go_wp2
 go_loopw [4,14] (fun es is wr=> ∃k:Nat,is= .int .i64 (k:Int)∧es= .int .i64 (lcK os k)∧k≤os.length∧Below w2.heap.size w2 wr) (fun _ is _=>os.length-(intOf is).toNat)
 case atStart=>exact ⟨0,rfl,rfl,Vn,Below.refl _ _⟩
 case round=>
  obtain ⟨k,rfl,rfl,hk,hbk⟩:=hrel
  obtain ⟨w3,rfl⟩: ∃w3:World,w3=wr:=⟨_,rfl⟩
  by_cases c9:k<os.length
  ·have hci:(k:Int)<(os.length:Int):=by omega
   obtain ⟨g0,hg0,hg2,d0⟩:=IntsAt.cell (hO2.below hbk (Nat.le_refl _)) c9
   obtain ⟨o1,o2⟩:=hpos _ (gdm (d:=0) c9)
   obtain ⟨b1,b2⟩:=hlc k Vn
   obtain ⟨b3,b4⟩:=hlc (k+1) Vn
   have hnx:lcK os (k+1)=lcK os k / igcd (lcK os k) (os.getD k 0)*os.getD k 0:=rfl
   obtain ⟨x,hx⟩: ∃x,os.getD k 0=x:=⟨_,rfl⟩
   rw[hx] at d0 o1 o2 hnx
   obtain ⟨L,hL⟩: ∃L,lcK os k=L:=⟨_,rfl⟩
   rw[hL] at b1 b2 hnx
   have HL:=hide hL
   obtain ⟨gg,hgg⟩: ∃gg,igcd L x=gg:=⟨_,rfl⟩
   have hg1:1≤gg:=by
    rw[←hgg]
    have:Int.gcd L x≠0:=fun e=>by have:=(Int.gcd_eq_zero_iff.1 e).1;omega
    unfold igcd;omega
   obtain ⟨q,hqq⟩: ∃q,L / gg=q:=⟨_,rfl⟩
   have tq:Int.tdiv L gg=q:=by rw[Int.tdiv_eq_ediv_of_nonneg Vn];exact hqq
   rw[hgg,hqq] at hnx
   have hgc: ∀W,Calls Tryz.prog 36 #[.int .i64 L,.int .i64 x] W fun e w'=>e= .returned (.int .i64 gg)∧ ∃n,w'=W.drewN n:=fun W=>by rw[←hgg];exact gcd_a L x W Vn Vn
   have HGC:=hide hgc
   have HNX:=hide hnx
   have hq0:0≤q:=by rw[←hqq];exact Int.ediv_nonneg Vn Vn
   have hq1:q≤L:=by rw[←hqq];exact Int.ediv_le_self _ Vn
   have hgne: ¬gg=0:=by omega
   have hqx0:0≤q*x:=Int.mul_nonneg hq0 Vn
   have hqx1:q*x≤700:=by rw[←hnx];exact b4
   clear hx hgg hqq hgc hnx hL
   rw[unhide HL]
   subst hg0
   go_wp2_with (go_at_call 36;refine ((unhide HGC) _).mono ?_;rintro e w' ⟨rfl,nq,rfl⟩)
   go_roundw
   case rel=>first|exact ⟨k+1,by first|rfl|go_num,by rw[unhide HNX],Vn,hbk.trans byGG⟩|((repeat apply Exists.intro);exact ⟨⟨k+1,by first|rfl|go_num,by rw[unhide HNX],Vn,hbk.trans byGG⟩,rfl⟩)
   case measure=>simp [intOf];omega
  ·obtain rfl:k=os.length:=by omega
   rw[unhide HTOP]
   go_wp2
   go_ret2
   exact ⟨rfl,hbw2.trans (hbk.mono hbw2.size)⟩
theorem isRow_t (r:RowV) (v:Value) (n:Nat) (z:Nat→Int) (w:World) (h:ArgI w v n z) (hn:n≤2000000) (hr:RowOk r) (b9:Bool) (hb9:rwB r n z=b9):
  Calls Tryz.prog 15 #[rwv r v] w fun e w'=>e= .returned (.bool b9)∧Below w.heap.size w w':=by
 have HA:Hid (ArgI (w.alloc (.cells #[.int .i64 r.d,.int .i64 r.num,v,.int .i64 r.ge,.int .i64 r.ex] 31)) v n z):=hide (h.below (below_alloc_self _ _))
 subst hb9
 clear h
 go_enter Tryz.func15,Tryz.ntmps15
 go_wp2_with fail
 refine (isRow_a r v n z _ (unhide HA) hn hr).mono ?_
 rintro e w1 ⟨rfl,hb⟩
 go_wp2
 go_ret
 exact ⟨rfl,byGG⟩
theorem qSum_t (l:List Int) (a:Option Addr) (n c lo hi:Nat) (w:World) (hn:n=l.length) (h:IntsAt w lo hi a n (fun i=>l.getD i 0)) (hm:n≤1000) (hb: ∀z ∈ l,0≤z∧z≤1000000) (s:Int) (hs:smI l=s):
  Calls Tryz.prog 18 #[.slice a n c] w fun e w'=>e= .returned (.int .i64 s)∧ ∃k,w'=w.drewN k:=by
 have HB:Hid (∀k,k≤n→0≤smI (l.take k)∧smI (l.take k)≤1000000000):=hide fun k hk=>by
  have:=smI_bd (M:=1000000) (l.take k) (fun z hz=>hb z (List.mem_of_mem_take hz))
  have e:(l.take k).length≤1000:=by rw[List.length_take];omega
  omega
 have HT:Hid (∀k,k<n→smI (l.take (k+1))=smI (l.take k)+l.getD k 0):=hide fun k hk=>smI_take l k Vn
 have HE:Hid (smI (l.take n)=s):=hide (by rw[List.take_of_length_le Vn];exact hs)
 have HV:Hid (∀k,k<n→0≤l.getD k 0∧l.getD k 0≤1000000):=hide fun k hk=>hb _ (gdm (d:=0) Vn)
 clear hb hs hn
 go_enter Tryz.func18,Tryz.ntmps18
 go_wp2
 go_loopw [3,8] (fun es is wr=> ∃k q:Nat,is= .int .i64 (k:Int)∧es= .int .i64 (smI (l.take k))∧k≤n∧wr=w.drewN q) (fun _ is _=>n-(intOf is).toNat)
 case atStart=>exact ⟨0,0,rfl,rfl,Vn,rfl⟩
 case round=>
  obtain ⟨k,q,rfl,rfl,hk,rfl⟩:=hrel
  by_cases c9:k<n
  ·have hci:(k:Int)<(n:Int):=by omega
   obtain ⟨g0,hg0,hg2,d0⟩:=IntsAt.cell h c9
   subst hg0
   have e1:=unhide HT k c9
   have e2:=unhide HB k Vn
   have e3:=unhide HB (k+1) Vn
   have e4:=unhide HV k c9
   obtain ⟨x,hx⟩: ∃x,l.getD k 0=x:=⟨_,rfl⟩
   rw[hx] at d0 e1 e4
   obtain ⟨y,hy⟩: ∃y,smI (l.take k)=y:=⟨_,rfl⟩
   rw[hy] at e1 e2 ⊢
   have HY:=hide e1
   clear hx hy e1
   go_wp2
   go_roundw
   case rel=>exact ⟨k+1,_,by go_num,by rw[unhide HY],Vn,rfl⟩
   case measure=>simp [intOf];omega
  ·obtain rfl:k=n:=by omega
   rw[unhide HE]
   go_wp2
   go_ret
   exact ⟨rfl,q,rfl⟩
end Go.Proofs.YtobkcnmlmmhpoaaGreatDoor
