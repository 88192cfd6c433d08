/- How many genera: chGenera. Slices of numbers that come in: szIntS, toIntS. Chains of factors on both sides. -/
import Derived.Test.YtobkcnmlmmhpoaaGreatDoorGng
import Derived.Test.YtobkcnmlmmhpoaaGreatDoorOwn
import Derived.Test.YtobkcnmlmmhpoaaGreatDoorGreat
import Derived.Deep.OwnRows
import Derived.Test.YtobkcnmlmmhpoaaGreatDoorNum
import Derived.Test.YtobkcnmlmmhpoaaGreatDoorRule
set_option maxRecDepth 100000
set_option maxHeartbeats 80000000
namespace Go.Proofs.YtobkcnmlmmhpoaaGreatDoor
open Go.RowKit
set_option linter.unusedVariables false
set_option linter.unusedSimpArgs false
attribute [local go_sem] q2 q3 q4 q5 q6 q7 q8 q9 q10 q11 q12

def SlI (l:List Int) (w:World) (v:Value):Prop:= ∃(a:Option Addr) (c lo hi:Nat),v= .slice a l.length c∧hi≤w.heap.size∧IntsAt w lo hi a l.length (fun i=>l.getD i 0)
theorem SlI.st {l:List Int} :StB (SlI l):=fun W w' v hb ⟨a,c,lo,hi,h1,h2,h3⟩=>⟨a,c,lo,hi,h1,Nat.le_trans h2 hb.size,h3.below hb h2⟩
theorem RetIL.sl {w w':World} {l:List Int} {e:Ending} (h:RetIL w l e w'): ∃v',e= .returned v'∧SlI l w' v'∧Below w.heap.size w w':=by
 obtain ⟨a,c,h1,h2,h3⟩:=h
 exact ⟨_,h1,⟨a,c,_,_,rfl,Nat.le_refl _,h2.ints.2⟩,h3⟩
def AtInv (rs:List GR) (f:Int × Int × Int) (t:Int) (i:Nat):Prop:=(t= -1∧ ∀j,j<i→gvL (rs.getD j gr0).2.2.2≠gvL f)∨ ∃j:Nat,t=(j:Int)∧j<i∧gvL (rs.getD j gr0).2.2.2=gvL f
def RpA (fs:List (Int × Int × Int)) (rs:List GR) (k:Nat):Prop:= ∀i,i<rs.length→ ∃j,j<k∧(rs.getD i gr0).2.2.2=fs.getD j (0,0,0)
def RpB (fs:List (Int × Int × Int)) (rs:List GR) (k:Nat):Prop:= ∀j,j<k→ ∃i,i<rs.length∧gvL (rs.getD i gr0).2.2.2=gvL (fs.getD j (0,0,0))
theorem rp_new {fs:List (Int × Int × Int)} {rs:List GR} {k:Nat} {r:GR} (hA:RpA fs rs k) (hB:RpB fs rs k) (hr:r.2.2.2=fs.getD k (0,0,0)):RpA fs (rs++ [r]) (k+1)∧RpB fs (rs++ [r]) (k+1):=by
 constructor
 ·intro i hi
  simp only[List.length_append,List.length_cons,List.length_nil] at hi
  rw[gdA]
  split
  ·exact ⟨k,Vn,hr⟩
  ·rw [if_pos Vn]
   obtain ⟨j,h1,h2⟩:=hA i Vn
   exact ⟨j,Vn,h2⟩
 ·intro j hj
  by_cases e:j=k
  ·subst e
   exact ⟨rs.length,Vs,by rw[gdA,if_pos rfl,hr]⟩
  ·obtain ⟨i,h1,h2⟩:=hB j Vn
   exact ⟨i,by simp;omega,by rw[gdA,if_neg Vn,if_pos h1];exact h2⟩
theorem rp_old {fs:List (Int × Int × Int)} {rs:List GR} {k i:Nat} {r:GR} (hA:RpA fs rs k) (hB:RpB fs rs k) (hi:i<rs.length) (hr:r.2.2.2=(rs.getD i gr0).2.2.2) (hg:gvL (rs.getD i gr0).2.2.2=gvL (fs.getD k (0,0,0))):RpA fs (rs.set i r) (k+1)∧RpB fs (rs.set i r) (k+1):=by
 have key: ∀j,((rs.set i r).getD j gr0).2.2.2=(rs.getD j gr0).2.2.2:=fun j=>by
  rw[gdS hi]
  split
  ·rename_i e;subst e;exact hr
  ·rfl
 constructor
 ·intro j hj
  rw[List.length_set] at hj
  rw[key]
  obtain ⟨m,h1,h2⟩:=hA j hj
  exact ⟨m,Vn,h2⟩
 ·intro j hj
  by_cases e:j=k
  ·subst e
   exact ⟨i,by rw[List.length_set];exact hi,by rw[key];exact hg⟩
  ·obtain ⟨m,h1,h2⟩:=hB j Vn
   exact ⟨m,by rw[List.length_set];exact h1,by rw[key];exact h2⟩
theorem new_at {fs:List (Int × Int × Int)} {rs:List GR} {k n9:Nat} {f:Int × Int × Int} (hf:fs.getD k (0,0,0)=f) (hB:RpB fs rs k) (hn:n9=rs.length) (h: ∀j,j<n9→gvL (rs.getD j gr0).2.2.2≠gvL f):newB fs k:=by
 intro j hj e
 obtain ⟨i,h1,h2⟩:=hB j hj
 exact h i Vn (by rw[h2,e,hf])
theorem old_at {fs:List (Int × Int × Int)} {rs:List GR} {k j:Nat} {f:Int × Int × Int} (hf:fs.getD k (0,0,0)=f) (hA:RpA fs rs k) (hj:j<rs.length) (h:gvL (rs.getD j gr0).2.2.2=gvL f): ¬newB fs k:=by
 intro hn
 obtain ⟨m,h1,h2⟩:=hA j hj
 exact hn m h1 (by rw[←h2,h,hf])
theorem chGenera_a (d:Int) (w:World) (hd:negB d=true):
  Calls Tryz.prog 52 #[.int .i64 d] w (RetLen w (gsN d)):=by
 obtain ⟨d0,d1⟩:=neg_true hd
 have HLen:=rfL_len d0 d1
 have HRF:=fun k hk=>rf_at hd (k:=k) hk
 have HND:=rf_nodup d
 have HC: ∀W,Calls Tryz.prog 51 #[.int .i64 d] W (RetFL W (rfL d)):=fun W=>reList_a d W d0 d1
 have HC:=hide HC
 unfold gsN
 generalize rfL d=fs at*
 go_enter Tryz.func52,Tryz.ntmps52
 go_wp2_with (go_at_call 51;refine ((unhide HC) _).mono ?_;rintro e wA ⟨a0,c0,rfl,hlA,hbA⟩)
 have hS:FAt wA w.heap.size wA.heap.size a0 fs:=hlA.at.2.low Vs
 have hK:=forms_kept (LO:=w.heap.size) (HI:=wA.heap.size) (a:=a0) (fs:=fs)
 have hsd:SD 55 1 w w.heap.size wA.heap.size (srcF w.heap.size wA.heap.size a0 fs) wA (.slice none 0 0) 0 []:=SD.startN hbA hS (Nat.le_refl _)
 obtain ⟨HI,hHI⟩: ∃HI,wA.heap.size=HI:=⟨_,rfl⟩
 rw[hHI] at hsd hK hS
 have hgx:GX w HI 0 (srcF w.heap.size HI a0 fs) wA none 0 0 []:=⟨hsd,hide rfl,fun j hj=>absurd hj Vs,fun i j hi=>absurd hi Vs⟩
 clear hlA hS hsd
 go_loopw [3,12] (fun ls is wr=> ∃(k n9 c:Nat) (a:Option Addr) (rs:List GR),is= .int .i64 (k:Int)∧ls= .slice a n9 c∧k≤fs.length∧n9≤k∧Hid (n9=gsK fs k)∧Hid (RpA fs rs k∧RpB fs rs k)∧GX w HI k (srcF w.heap.size HI a0 fs) wr a n9 c rs) (fun _ is _=>fs.length-(intOf is).toNat)
 case atStart=>exact ⟨0,0,0,_,[],rfl,rfl,Vn,Vn,hide rfl,hide ⟨fun i hi=>absurd hi Vs,fun j hj=>absurd hj Vn⟩,hgx⟩
 case round=>
  clear hgx hbA
  obtain ⟨k,n9,c,a,rs,rfl,rfl,hk,hnk,hl,hAB,hgx⟩:=hrel
  obtain ⟨w1,rfl⟩: ∃w1:World,w1=wr:=⟨_,rfl⟩
  have hz:=hgx.sd.bel.size
  by_cases c9:k<fs.length
  ·have hci:(k:Int)<(fs.length:Int):=by omega
   obtain ⟨g0,hg0,hg2,e0,e1,e2⟩:=FAt.cells hgx.sd.src c9
   obtain ⟨hrc,hdi⟩:=HRF k c9
   obtain ⟨X,hX⟩: ∃X,fs.getD k (0,0,0)=X:=⟨_,rfl⟩
   rw[hX] at e0 e1 e2 hrc hdi
   obtain ⟨x,y,z⟩:=X
   simp only at e0 e1 e2 hrc hdi
   subst hg0
   have HX:=hide hX
   clear hX
   go_wp2
   go_loopw [6,18] (fun ts is wr=> ∃(i:Nat) (t:Int),is= .int .i64 (i:Int)∧ts= .int .i64 t∧i≤n9∧Hid (AtInv rs (x,y,z) t i)∧GX w HI k (srcF w.heap.size HI (some ⟨g0,0,none⟩) fs) wr a n9 c rs∧Ri3 wr w1.heap.size x y z) (fun _ is _=>n9-(intOf is).toNat)
   case atStart=>exact ⟨0,-1,rfl,rfl,Vn,hide (.inl ⟨rfl,fun j hj=>absurd hj Vn⟩),hgx.call hK byGG,Ri3.m VB VB VB⟩
   case round=>
    have HGX:=hgx
    clear hgx e0 e1 e2
    obtain ⟨i,t,rfl,rfl,hi9,hat,hgx,hri⟩:=hrel
    obtain ⟨wo,rfl⟩: ∃wo:World,wo=wr:=⟨_,rfl⟩
    obtain ⟨c00,c01,c02,hzb⟩:=hri
    have hlen:=hgx.len
    by_cases ci:i<n9
    ·have hci2:(i:Int)<(n9:Int):=by omega
     obtain ⟨go,hgo,hgo2,q0,-,q1,-,p0,p1,p2⟩:=hgx.at ci
     have hFA:RedC (rs.getD i gr0).2.2.2.1 (rs.getD i gr0).2.2.2.2.1 (rs.getD i gr0).2.2.2.2.2∧discI (rs.getD i gr0).2.2.2.1 (rs.getD i gr0).2.2.2.2.1 (rs.getD i gr0).2.2.2.2.2=d:=by
      obtain ⟨j,j1,j2⟩:=(unhide hAB).1 i (by have:=unhide hlen;omega)
      rw[j2];exact HRF j Vn
     have HAT:Hid (gvL (rs.getD i gr0).2.2.2=gvL (x,y,z)→AtInv rs (x,y,z) (i:Int) (i+1)):=hide fun e=> .inr ⟨i,rfl,Vn,e⟩
     have HAN:Hid (gvL (rs.getD i gr0).2.2.2≠gvL (x,y,z)→AtInv rs (x,y,z) t (i+1)):=hide fun e=>by
      rcases unhide hat with ⟨h1,h2⟩|⟨j,h1,h2,h3⟩
      ·refine .inl ⟨h1,fun j hj=> ?_⟩
       by_cases q:j<i
       ·exact h2 j q
       ·rw [show j=i by omega];exact e
      ·exact .inr ⟨j,h1,Vn,h3⟩
     obtain ⟨R,hR⟩: ∃R,rs.getD i gr0=R:=⟨_,rfl⟩
     rw[hR] at q0 q1 p0 p1 p2 hFA HAT HAN
     clear hR hat
     obtain ⟨gi,ni,cc,fa,fb,fc⟩:=R
     simp only at q0 q1 p0 p1 p2 hFA HAT HAN
     obtain ⟨hrF,hdF⟩:=hFA
     obtain ⟨mi,rfl⟩: ∃mi,ni=mi+1:=⟨ni-1,Vn⟩
     have lF:=gvL_len (F:=(fa,fb,fc)) d0 d1 hdF
     have lf:=gvL_len (F:=(x,y,z)) d0 d1 hdi
     have HCF:=fun W=>chOf_a fa fb fc d W hrF hd hdF
     have HCf:=fun W=>chOf_a x y z d W hrc hd hdi
     obtain ⟨gF,hgF⟩: ∃gF,gvL (fa,fb,fc)=gF:=⟨_,rfl⟩
     obtain ⟨gf,hgf⟩: ∃gf,gvL (x,y,z)=gf:=⟨_,rfl⟩
     rw[hgF] at HCF lF HAT HAN
     rw[hgf] at HCf lf HAT HAN
     have HS: ∀(W:World) (a2:Option Addr) (c2 lo2 hi2:Nat) (a4:Option Addr) (c4 lo4 hi4:Nat),hi2≤W.heap.size→IntsAt W lo2 hi2 a2 gF.length (fun i=>gF.getD i 0)→hi4≤W.heap.size→IntsAt W lo4 hi4 a4 gf.length (fun i=>gf.getD i 0)→Calls Tryz.prog 74 #[.slice a2 gF.length c2,.slice a4 gf.length c4] W fun e w'=>e= .returned (.bool (decide (gF=gf)))∧Below W.heap.size W w':=fun W a2 c2 lo2 hi2 a4 c4 lo4 hi4 q2 h2 q4 h4=>
      l1Same_a _ _ _ _ _ _ _ _ _ _ _ _ W (hide rfl) (hide rfl) q2 q4 h2 h4 Vn Vn
     have HCF:=hide (fun W=>(HCF W).mono fun _ _ h=>RetIL.sl h)
     have HCf:=hide (fun W=>(HCf W).mono fun _ _ h=>RetIL.sl h)
     have HGXo:=hgx
     have HNE:Hid (AtInv rs (x,y,z) (if decide (gF=gf)=true then (i:Int) else t) (i+1)):=hide (by
      by_cases cg:gF=gf
      ·rw [if_pos (by simpa using cg)];exact unhide HAT cg
      ·rw [if_neg (by simpa using cg)];exact unhide HAN cg)
     clear hgF hgf lF lf HAT HAN
     obtain ⟨bq,hbq⟩: ∃bq,decide (gF=gf)=bq:=⟨_,rfl⟩
     rw[hbq] at HS HNE
     clear hbq
     have HS:=hide HS
     subst hgo
     go_wp2
     go_upto_region 9 with fail
     go_cut [29] (fun s29 wx=>s29= .bool bq∧Ri3 wx w1.heap.size x y z∧Ri3 wx gi fa fb fc∧Below wo.heap.size wo wx)
     case first=>
      have h1:=trivial
      rename_i K2 h2 h3
      let hgf9:Nat→World→Value→Prop:=fun j=>match j with|0=>Kd.ok (Kd.val (.slice (some ⟨gi,0,none⟩) (mi+1) cc))|1=>Kd.ok (Kd.val (.pointer (some ⟨gi,0,none⟩)))|2=>Kd.ok (Kd.val (.agg #[.int .i64 fa,.int .i64 fb,.int .i64 fc]))|3=>(SlI gF)|4=>Kd.ok (Kd.val (.agg #[.int .i64 x,.int .i64 y,.int .i64 z]))|5=>(SlI gf)|6=>Kd.ok (Kd.val (.bool bq))|_=>Kd.ok Kd.any
      have hst9: ∀j,StB (hgf9 j):=fun j=>match j with|0=>(Kd.st (Kd.val (.slice (some ⟨gi,0,none⟩) (mi+1) cc)):StB (Kd.ok (Kd.val (.slice (some ⟨gi,0,none⟩) (mi+1) cc))))|1=>(Kd.st (Kd.val (.pointer (some ⟨gi,0,none⟩))):StB (Kd.ok (Kd.val (.pointer (some ⟨gi,0,none⟩)))))|2=>(Kd.st (Kd.val (.agg #[.int .i64 fa,.int .i64 fb,.int .i64 fc])):StB (Kd.ok (Kd.val (.agg #[.int .i64 fa,.int .i64 fb,.int .i64 fc]))))|3=>(SlI.st:StB (SlI gF))|4=>(Kd.st (Kd.val (.agg #[.int .i64 x,.int .i64 y,.int .i64 z])):StB (Kd.ok (Kd.val (.agg #[.int .i64 x,.int .i64 y,.int .i64 z]))))|5=>(SlI.st:StB (SlI gf))|6=>(Kd.st (Kd.val (.bool bq)):StB (Kd.ok (Kd.val (.bool bq))))|j+7=>(Kd.st Kd.any:StB (Kd.ok Kd.any))
      refine region_n0 Vw (fun j=> #[23,24,25,26,27,28,29].getD j 0) (hgf9) (Sy wo (wo.heap.size) [(⟨w1.heap.size,0,none⟩,.int .i64 x),(⟨w1.heap.size,1,none⟩,.int .i64 y),(⟨w1.heap.size,2,none⟩,.int .i64 z),(⟨gi,0,none⟩,.int .i64 fa),(⟨gi,1,none⟩,.int .i64 fb),(⟨gi,2,none⟩,.int .i64 fc)] []) Vw Vw ?_ ?_ ?_ ?_
      ·intro j hj
       have hj2:j<7:=hj
       have: ∀j,j<7→(#[23,24,25,26,27,28,29]:Array Nat).getD j 0<51:=by decide
       exact this j hj2
      ·refine Sy.drew (Sy.mk_of ?_ ?_ ?_ ?_)
       ·first|rfl|(simp;done)|(simp;omega)
       ·intro c hc
        simp only[List.mem_cons,List.not_mem_nil,or_false] at hc
        rcases hc with rfl|rfl|rfl|rfl|rfl|rfl<;>exact byCT
       ·intro p hp;cases hp
       ·(repeat' first|with_reducible (first|exact Below.refl _ _|assumption|refine gr_alloc ?_ _|refine below_drewN ?_ _|refine below_drew ?_|refine gr_call ?_ VV|refine Below.setCell ?_ ?_ _)|go_size|omega|(simp;omega))
      ·clear h1 h2 h3
       refine ⟨?r1x0,?r1x1,?r1x2,?r1x3,?r1x4,?r1x5,?r1x6,trivial⟩
       all_goals intro _ aq wx Kq hf hS hdep ev1 ev2 hK
       case' r1x0=>
        have F8:aq.eval (.tmp 8)= .slice (some ⟨gi,0,none⟩) (mi+1) cc:=hf 8
       case' r1x1=>
        have D0:aq.eval (.tmp 23)=_:=hdep 0
       case' r1x2=>
        have D1:aq.eval (.tmp 24)=_:=hdep 1
        have c0:=hS.cells (⟨gi,0,none⟩,.int .i64 fa) Vs
        have c1:=hS.cells (⟨gi,1,none⟩,.int .i64 fb) Vs
        have c2:=hS.cells (⟨gi,2,none⟩,.int .i64 fc) Vs
       case' r1x3=>
        have D2:aq.eval (.tmp 25)=_:=hdep 2
       case' r1x4=>
        have F5:aq.eval (.tmp 5)= .pointer (some ⟨w1.heap.size,0,none⟩):=hf 5
        have c0:=hS.cells (⟨w1.heap.size,0,none⟩,.int .i64 x) Vs
        have c1:=hS.cells (⟨w1.heap.size,1,none⟩,.int .i64 y) Vs
        have c2:=hS.cells (⟨w1.heap.size,2,none⟩,.int .i64 z) Vs
       case' r1x5=>
        have D4:aq.eval (.tmp 27)=_:=hdep 4
       case' r1x6=>
        obtain ⟨ga26,gc26,gl26,gh26,DP26,hgh26,hst26⟩:=hdep 3
        change aq.eval (.tmp 26)=_ at DP26
        obtain ⟨ga28,gc28,gl28,gh28,DP28,hgh28,hst28⟩:=hdep 5
        change aq.eval (.tmp 28)=_ at DP28
       all_goals (clear hf hdep;unfold Oper.wp;generalize Act.eval _=ev at *;go_simp)
       case' r1x1=>
        try rw[if_pos Vn,Oper.upon_value]
       case r1x3=>
        refine (((unhide HCF) _)).mono ?_
        rintro e w2 ⟨v9,rfl,hpr,hb⟩
        refine hK _ _ (hS.call hb) ?_ (fun j u _ h=>hst9 j _ _ _ hb h)
        rw[if_pos VH]
        exact hpr
       case r1x5=>
        refine (((unhide HCf) _)).mono ?_
        rintro e w2 ⟨v9,rfl,hpr,hb⟩
        refine hK _ _ (hS.call hb) ?_ (fun j u _ h=>hst9 j _ _ _ hb h)
        rw[if_pos VH]
        exact hpr
       case r1x6=>
        refine (((unhide HS) _ _ _ _ _ _ _ _ _ hgh26 hst26 hgh28 hst28)).mono ?_
        rintro e w2 ⟨rfl,hb⟩
        refine hK _ _ (hS.call hb) ?_ (fun j u _ h=>hst9 j _ _ _ hb h)
        rw[if_pos VH]
        show (_:Value)=_
        first|rfl|(refine congrArg (Value.int .i64) ?_;first|rfl|exact int_in Vn|exact quo_in Vn Vn Vn|exact rem_in Vn Vn|omega)|(simp;done)|(simp [*];done)
       all_goals (refine hK _ _ hS ?_ (fun j u _ h=>h);rw [if_pos VH];show (_:Value)=_;(first|rfl|(refine congrArg (Value.int .i64) ?_;first|rfl|exact int_in Vn|exact quo_in Vn Vn Vn|exact rem_in Vn Vn|omega)|(simp;done)|(simp [*];done)))
      ·intro aq wx hd hw hf hS hg
       have G29:tau aq 29= .bool bq:=hg 6 VA
       have haq:aq=⟨#[tau aq 0,tau aq 1,tau aq 2,tau aq 3,tau aq 4,tau aq 5,tau aq 6,tau aq 7,tau aq 8,tau aq 9,tau aq 10,tau aq 11,tau aq 12,tau aq 13,tau aq 14,tau aq 15,tau aq 16,tau aq 17,tau aq 18,tau aq 19,tau aq 20,tau aq 21,tau aq 22,tau aq 23,tau aq 24,tau aq 25,tau aq 26,tau aq 27,tau aq 28,tau aq 29,tau aq 30,tau aq 31,tau aq 32,tau aq 33,tau aq 34,tau aq 35,tau aq 36,tau aq 37,tau aq 38,tau aq 39,tau aq 40,tau aq 41,tau aq 42,tau aq 43,tau aq 44,tau aq 45,tau aq 46,tau aq 47,tau aq 48,tau aq 49,tau aq 50],[]⟩:=by
        obtain ⟨tq,dq⟩:=aq
        have h5:=arr_eq (show tq.size=51 from hw)
        have h6:dq= []:=hd
        subst h6
        exact congrArg (fun z=>Act.mk z []) h5
       show K2 aq wx
       rw[haq,hf 0,hf 1,hf 2,hf 3,hf 4,hf 5,hf 6,hf 7,hf 8,hf 9,hf 10,hf 11,hf 12,hf 13,hf 14,hf 15,hf 16,hf 17,hf 18,hf 19,hf 20,hf 21,hf 22,hf 30,hf 31,hf 32,hf 33,hf 34,hf 35,hf 36,hf 37,hf 38,hf 39,hf 40,hf 41,hf 42,hf 43,hf 44,hf 45,hf 46,hf 47,hf 48,hf 49,hf 50,G29]
       clear haq hf hd hw
       try dsimp only
       refine h3 _ _ ?_
       go_meet
       refine ⟨rfl,Ri3.m ?_ ?_ ?_,Ri3.m ?_ ?_ ?_,hS.below⟩
       all_goals first|exact hS.cells (_,_) Vs|exact (hS.free _ Vs).2
     try clear c00
     try clear c01
     try clear c02
     try clear p0
     try clear p1
     try clear p2
     obtain ⟨rfl,⟨c00,c01,c02,z0⟩,⟨c10,c11,c12,z1⟩,hb0⟩:=hcut
     skip
     cases bq
     ·go_wp2
      go_roundw
      case rel=>first|exact ⟨i+1,t,by first|rfl|go_num,rfl,Vn,HNE,HGXo.call hK hb0,Ri3.m c00 c01 c02⟩|((repeat apply Exists.intro);exact ⟨⟨i+1,t,by first|rfl|go_num,rfl,Vn,HNE,HGXo.call hK hb0,Ri3.m c00 c01 c02⟩,rfl⟩)
      case measure=>simp [intOf];omega
     ·go_wp2
      go_roundw
      case rel=>first|exact ⟨i+1,(i:Int),by first|rfl|go_num,rfl,Vn,HNE,HGXo.call hK hb0,Ri3.m c00 c01 c02⟩|((repeat apply Exists.intro);exact ⟨⟨i+1,(i:Int),by first|rfl|go_num,rfl,Vn,HNE,HGXo.call hK hb0,Ri3.m c00 c01 c02⟩,rfl⟩)
      case measure=>simp [intOf];omega
    ·obtain rfl:i=n9:=by omega
     rcases unhide hat with ⟨h1,h2⟩|⟨j,h1,h2,h3⟩
     ·have hnew:=new_at (unhide HX) (unhide hAB).2 (unhide hlen) h2
      have YES:Hid (i+1=gsK fs (k+1)):=hide (by rw[gsK_yes hnew,unhide hl])
      have HR2:=fun bs:Nat=>hide (rp_new (r:=(bs,1,1,x,y,z)) (unhide hAB).1 (unhide hAB).2 (unhide HX).symm)
      subst h1
      clear h2 hnew hat
      have hzo:=hgx.sd.bel.size
      go_wp2_with (at_builtin;refine app_sl _ rfl (.tmp 34) (.tmp 37) rfl w.heap.size (.slice a i c) i (rs.map rsV) (.slice (some ⟨wo.heap.size,0,none⟩) 1 1) (wo.heap.size+1) rfl rfl ((hgx.sd.alloc hK _).alloc hK _).own VB rfl Vn VW ?_;intro g cap w5 hown hgrow hat9 hlt)
      go_roundw
      case rel=>
       have hx5:=hgx.up.new hK Vn hown hgrow hat9
       exact ⟨k+1,i+1,cap,some ⟨g,0,none⟩,_,by go_num,rfl,Vn,Vn,YES,HR2 _,hx5⟩
      case measure=>simp [intOf];omega
     ·have hjl:j<rs.length:=by have:=unhide hlen;omega
      have hold:=old_at (unhide HX) (unhide hAB).1 hjl h3
      have NO:Hid (i=gsK fs (k+1)):=hide (by rw[gsK_no hold,unhide hl])
      obtain ⟨go,hgo,hgo2,q0,qf,q1,q3,p0,p1,p2⟩:=hgx.at h2
      obtain ⟨r1,r2,l,r3,r4,r5,r6⟩:=hgx.inn j hjl
      have HR2:=fun (g n2 cap:Nat)=>hide (rp_old (r:=(g,n2,cap,(rs.getD j gr0).2.2.2)) (unhide hAB).1 (unhide hAB).2 hjl rfl (by rw[h3,unhide HX]))
      have HST:=hide (fun (W w7:World) (g cap:Nat) (hb:Below wo.heap.size wo W) (hown:FL w7 w.heap.size (.slice (some ⟨g,0,none⟩) (l.length+1) cap) (l++ [(x,y,z)])) (hgrow:W.grownBy w7 (some (rs.getD j gr0).1)) (hat:(rs.getD j gr0).1=g∨g=W.heap.size)=>hgx.set hK h2 hgo hb r5 r4 r3 hown hgrow hat)
      have hne1: ¬go=(rs.getD j gr0).1:=fun e=>row_ne r6 hgx.sd.own (by rw[hgo,←e];rfl)
      have hlo6:=(FL.lt r6 _ rfl).1
      obtain ⟨gi,hgi⟩: ∃gi,(rs.getD j gr0).1=gi:=⟨_,rfl⟩
      obtain ⟨ni,hni⟩: ∃ni,(rs.getD j gr0).2.1=ni:=⟨_,rfl⟩
      obtain ⟨cc,hcc⟩: ∃cc,(rs.getD j gr0).2.2.1=cc:=⟨_,rfl⟩
      rw[hgi] at q0 q3 hne1 r6 HST
      rw[hni] at q0 q1 r6 r2 r3
      rw[hcc] at q0 r6
      have HLN:=hide r3
      have HFL:Hid (∀W,Below wo.heap.size wo W→FL W w.heap.size (.slice (some ⟨gi,0,none⟩) ni cc) l):=hide fun W hb=>r6.below hb
      have HSS:Hid (∀W w7:World,Below wo.heap.size wo W→W.grownBy w7 (some gi)→w7.cell? ⟨go,j,none⟩=some (.slice (some ⟨gi,0,none⟩) ni cc)∧w7.frozen? ⟨go,j,none⟩=false):=hide fun W w7 hb hg=>by
       have hne:(some go:Option Nat)≠some gi:=fun e=>hne1 (Option.some.inj e)
       have hgoW:go<W.heap.size:=Nat.lt_of_lt_of_le hgo2 hb.size
       exact ⟨((hg.cell_far ⟨go,j,none⟩ hgoW hne).trans (hb.cell hgo2)).trans q0,((hg.frozen_far ⟨go,j,none⟩ hgoW hne).trans (hb.frozen hgo2)).trans qf⟩
      have HG2:=hgx
      subst h1
      subst hgo
      clear hat h3 hold p0 p1 p2 r4 r5 r6 r3 hgi hni hcc r1 HGX
      have hni2:ni≤100000000:=by omega
      have hzo:=hgx.sd.bel.size
      go_wp2
      go_region_law (refine step_app_FL rfl (.tmp 44) (.tmp 46) rfl w.heap.size (.slice (some ⟨gi,0,none⟩) ni cc) ni l x y z wo.heap.size HLN (by simp [Act.eval,Act.put]) (by simp [Act.eval,Act.put]) (unhide HFL _ byGG) VB VB VB hni2 VW ?_;intro g cap w7 hown hgrow hat9 hlt;obtain ⟨s1,s2⟩:=unhide HSS _ _ byGG hgrow)
      all_goals
       go_wp2
       go_roundw
       case rel=>
        obtain rfl:=unhide HLN
        have hx7:=unhide HST _ w7 g cap byGG hown hgrow (hat9.imp (fun e=>by simpa [Value.ownBlock] using e) (fun e=>e))
        exact ⟨k+1,i,c,_,_,by go_num,rfl,Vn,Vn,NO,HR2 _ _ _,hx7⟩
       case measure=>simp [intOf];omega
  ·obtain rfl:k=fs.length:=by omega
   have HE:=unhide hl
   clear hl
   subst HE
   go_wp2
   go_ret
   exact ⟨_,_,rfl,hgx.sd.bel⟩
end Go.Proofs.YtobkcnmlmmhpoaaGreatDoor
namespace Go.Proofs.YtobkcnmlmmhpoaaGreatDoor
open Go.RowKit
set_option linter.unusedVariables false
set_option linter.unusedSimpArgs false
attribute [local go_sem] q2 q3 q4 q5 q6 q7 q8 q9 q10 q11 q12

def ArgI (w:World) (v:Value) (n:Nat) (z:Nat→Int):Prop:=
 (n=0∧ ∃a c,v= .slice a 0 c)∨ ∃b off c:Nat,v= .slice (some ⟨b,off,none⟩) n c∧b<w.heap.size∧ ∀i,i<n→w.cell? ⟨b,off+i,none⟩=some (.int .i64 (z i))
theorem ArgI.below {w w':World} {v:Value} {n:Nat} {z:Nat→Int} (h:ArgI w v n z) (hb:Below w.heap.size w w'):ArgI w' v n z:=by
 rcases h with h|⟨b,off,c,h1,h2,h3⟩
 ·exact .inl h
 ·exact .inr ⟨b,off,c,h1,Nat.lt_of_lt_of_le h2 hb.size,fun i hi=>cell_call hb (h3 i hi)⟩
theorem ArgI.len {w:World} {v:Value} {n:Nat} {z:Nat→Int} (h:ArgI w v n z): ∃a c,v= .slice a n c:=by
 rcases h with ⟨h,a,c,h2⟩|⟨b,off,c,h1,_⟩
 ·exact ⟨a,c,by rw[h];exact h2⟩
 ·exact ⟨_,_,h1⟩
theorem ArgI.cells {w:World} {a:Option Addr} {n c:Nat} {z:Nat→Int} (h:ArgI w (.slice a n c) n z) (hn:0<n): ∃b off,a=some ⟨b,off,none⟩∧ ∀i,i<n→w.cell? ⟨b,off+i,none⟩=some (.int .i64 (z i)):=by
 rcases h with ⟨h,_⟩|⟨b,off,c',h1,_,h3⟩
 ·omega
 ·simp only[Value.slice.injEq] at h1
  exact ⟨b,off,h1.1,h3⟩
def RowI (w:World) (g n:Nat) (z:Nat→Int):Prop:=w.rowIs g 3 n (fun i=> .int .i64 (z i))
theorem RowI.below {w w':World} {g n:Nat} {z:Nat→Int} (h:RowI w g n z) (hb:Below w.heap.size w w'):RowI w' g n z:=World.rowIs.of_block h (hb.block g (World.rowIs.lt h))
theorem RowI.arg {w:World} {g n:Nat} {z:Nat→Int} (h:RowI w g n z):ArgI w (.slice (some ⟨g,0,none⟩) n n) n z:=
 .inr ⟨g,0,n,rfl,World.rowIs.lt h,fun i hi=>by rw[Nat.zero_add];exact World.rowIs.cell h hi⟩
theorem RowI.at {w:World} {g n lo:Nat} {z:Nat→Int} (h:RowI w g n z) (hl:lo≤g):IntsAt w lo w.heap.size (some ⟨g,0,none⟩) n z:=
 .inr ⟨g,n,_,rfl,hl,World.rowIs.lt h,Nat.le_refl _,h,fun i hi=>rfl⟩

end Go.Proofs.YtobkcnmlmmhpoaaGreatDoor
namespace Go.Proofs.YtobkcnmlmmhpoaaGreatDoor
open Go.RowKit
set_option linter.unusedVariables false
set_option linter.unusedSimpArgs false
attribute [local go_sem] q2 q3 q4 q5 q6 q7 q8 q9 q10 q11 q12

def chS (z:Nat→Int):Nat→Option Int
 |0=>some 1
 |j+1=>match chS z j with
  |none=>none
  |some p=>if z j<2∨1000<z j∨(0<j∧z j%z (j-1)≠0)∨1000<p*z j then none else some (p*z j)
def cprV (z:Nat→Int) (n:Nat):Int:=(chS z n).getD 0
def chB (z:Nat→Int) (n:Nat):Bool:=(chS z n).isSome
theorem chS_no {z:Nat→Int} {j:Nat} (h:chS z j=none): ∀n,j≤n→chS z n=none
 |0,hn=>by rw[show (0:Nat)=j by omega];exact h
 |n+1,hn=>by
  by_cases q:j=n+1
  ·rw [←q];exact h
  ·rw [chS,chS_no h n Vn]
theorem ch_bad {z:Nat→Int} {j n:Nat} {p:Int} (h:chS z j=some p) (hb:z j<2∨1000<z j∨(0<j∧z j%z (j-1)≠0)∨1000<p*z j) (hn:j<n):cprV z n=0∧chB z n=false:=by
 have h1:chS z (j+1)=none:=by rw[chS,h];exact if_pos hb
 have h2:=chS_no h1 n hn
 exact ⟨by unfold cprV;rw [h2];rfl,by unfold chB;rw [h2];rfl⟩
theorem ch_next {z:Nat→Int} {j:Nat} {p:Int} (h:chS z j=some p) (h1:2≤z j) (h2:z j≤1000) (h3:j=0∨z j%z (j-1)=0) (h4:p*z j≤1000):chS z (j+1)=some (p*z j):=by
 rw[chS,h]
 refine if_neg ?_
 rintro (q|q|⟨q,q'⟩|q)
 ·omega
 ·omega
 ·rcases h3 with h3|h3
  ·omega
  ·exact q' h3
 ·omega
theorem ch_end {z:Nat→Int} {n:Nat} {p:Int} (h:chS z n=some p):cprV z n=p∧chB z n=true:=⟨by unfold cprV;rw [h];rfl,by unfold chB;rw [h];rfl⟩
theorem ch_two {z:Nat→Int} {i:Nat} {p:Int} (h:chS z (i+1)=some p):2≤z i∧z i≤1000:=by
 rw[chS] at h
 split at h
 ·cases h
 ·split at h
  ·cases h
  ·rename_i q
   simp only[not_or] at q
   omega
theorem ch_bd {z:Nat→Int} : ∀{j:Nat} {p:Int},chS z j=some p→1≤p∧p≤1000
 |0,p,h=>by rw[chS] at h;cases h;omega
 |j+1,p,h=>by
  have h2:=ch_two h
  rw[chS] at h
  split at h
  ·cases h
  ·rename_i p' hp
   have:=ch_bd hp
   split at h
   ·cases h
   ·rename_i q
    cases h
    simp only[not_or] at q
    refine ⟨?_,Vn⟩
    have:=Int.mul_le_mul (show (1:Int)≤p' by omega) (show (1:Int)≤z j by omega) Vn Vn
    omega

theorem isChain_a (v:Value) (n:Nat) (z:Nat→Int) (w:World) (h:ArgI w v n z) (hn:n≤2000000):
  Calls Tryz.prog 59 #[v] w fun e w'=>e= .returned (.tuple #[.int .i64 (cprV z n),.bool (chB z n)])∧w=w':=by
 have HA:=hide h
 obtain ⟨a,c,rfl⟩:=h.len
 clear h
 go_enter Tryz.func59,Tryz.ntmps59
 go_wp2
 go_loop [4,9] (fun ps is=> ∃(jx:Nat) (p:Int),jx≤n∧is= .int .i64 (jx:Int)∧ps= .int .i64 p∧Hid (chS z jx=some p)) (fun _ is=>n-(intOf is).toNat)
 case atStart=>exact ⟨0,1,Nat.zero_le _,rfl,rfl,hide rfl⟩
 case round=>
  obtain ⟨jx,p,hj,rfl,rfl,hp⟩:=hrel
  have hpb:=ch_bd (unhide hp)
  by_cases q:jx<n
  ·have hci:(jx:Int)<(n:Int):=by omega
   obtain ⟨b,off,hv,hcs⟩:=(unhide HA).cells Vn
   have c0:=hcs jx q
   subst hv
   obtain ⟨x,hx⟩: ∃x,z jx=x:=⟨_,rfl⟩
   rw[hx] at c0
   have HX:=hide hx
   clear hx
   by_cases c1:x<2
   ·clear hcs
    have HV:=hide (ch_bad (n:=n) (unhide hp) (by rw[unhide HX];exact .inl c1) q)
    skip
    go_wp2
    go_ret2
    exact ⟨by rw[(unhide HV).1,(unhide HV).2];rfl,rfl⟩
   ·by_cases c2:1000<x
    ·clear hcs
     have HV:=hide (ch_bad (n:=n) (unhide hp) (by rw[unhide HX];exact .inr (.inl c2)) q)
     have c1':2≤x:=by omega
     go_wp2
     go_ret2
     exact ⟨by rw[(unhide HV).1,(unhide HV).2];rfl,rfl⟩
    ·have c1':2≤x:=by omega
     have c2':x≤1000:=by omega
     by_cases c3:jx=0
     ·have hj0: ¬0<(jx:Int):=by omega
      have hj1:(jx:Int)≤0:=by omega
      have HC3:=hide c3
      clear hcs c1 c2 c3
      by_cases c4:p*x≤1000
      ·have HN:Hid (chS z (jx+1)=some (p*x)):=hide (by rw[←unhide HX];exact ch_next (unhide hp) VR VR (.inl (unhide HC3)) (by rw[unhide HX];exact c4))
       have hpx:0≤p*x:=Int.mul_nonneg Vn Vn
       go_wp2
       go_round
       case rel=>exact ⟨jx+1,p*x,Vn,by go_num,rfl,HN⟩
       case measure=>simp [intOf];omega
      ·have HV:=hide (ch_bad (n:=n) (unhide hp) VS q)
       have hpx:0≤p*x∧p*x≤1000000:=⟨Int.mul_nonneg Vn Vn,by have:=Int.mul_le_mul (show p≤1000 by omega) (show x≤1000 by omega) Vn Vn;omega⟩
       go_wp2
       go_ret2
       exact ⟨by rw[(unhide HV).1,(unhide HV).2];rfl,rfl⟩
     ·obtain ⟨i,rfl⟩: ∃i,jx=i+1:=⟨jx-1,Vn⟩
      have hy2:=ch_two (unhide hp)
      have d0:=hcs i Vn
      obtain ⟨y,hy⟩: ∃y,z i=y:=⟨_,rfl⟩
      rw[hy] at d0 hy2
      have HY:=hide hy
      clear hy hcs c1 c2 c3
      by_cases c5:x%y=0
      ·have t5:(x%y != 0)=false:=by simp [c5]
       by_cases c4:p*x≤1000
       ·have HN:Hid (chS z ((i+1)+1)=some (p*x)):=hide (by rw[←unhide HX];exact ch_next (unhide hp) VR VR (.inr (by rw[unhide HX];show x%z (i+1-1)=0;rw [Nat.add_sub_cancel,unhide HY];exact c5)) (by rw[unhide HX];exact c4))
        have hpx:0≤p*x:=Int.mul_nonneg Vn Vn
        go_wp2
        go_round
        case rel=>exact ⟨(i+1)+1,p*x,Vn,by go_num,rfl,HN⟩
        case measure=>simp [intOf];omega
       ·have HV:=hide (ch_bad (n:=n) (unhide hp) VS q)
        have hpx:0≤p*x∧p*x≤1000000:=⟨Int.mul_nonneg Vn Vn,by have:=Int.mul_le_mul (show p≤1000 by omega) (show x≤1000 by omega) Vn Vn;omega⟩
        go_wp2
        go_ret2
        exact ⟨by rw[(unhide HV).1,(unhide HV).2];rfl,rfl⟩
      ·have t5:(x%y != 0)=true:=by simp [c5]
       have HV:=hide (ch_bad (n:=n) (unhide hp) (by rw[unhide HX];refine .inr (.inr (.inl ⟨Vn,?_⟩));rw [Nat.add_sub_cancel,unhide HY];exact c5) q)
       skip
       go_wp2
       go_ret2
       exact ⟨by rw[(unhide HV).1,(unhide HV).2];rfl,rfl⟩
  ·obtain rfl:jx=n:=by omega
   have HV:=hide (ch_end (unhide hp))
   go_wp2
   go_ret2
   exact ⟨by rw[(unhide HV).1,(unhide HV).2];rfl,rfl⟩

theorem tbFactors_a (v:Value) (n:Nat) (z:Nat→Int) (w:World) (h:ArgI w v n z) (hn:n≤2000000):
  Calls Tryz.prog 73 #[v] w fun e w'=>e= .returned (.tuple #[.int .i64 (cprV z n),.bool (chB z n)])∧w=w':=by
 have HA:=hide h
 obtain ⟨a,c,rfl⟩:=h.len
 clear h
 go_enter Tryz.func73,Tryz.ntmps73
 go_wp2
 go_loop [4,9] (fun ps is=> ∃(jx:Nat) (p:Int),jx≤n∧is= .int .i64 (jx:Int)∧ps= .int .i64 p∧Hid (chS z jx=some p)) (fun _ is=>n-(intOf is).toNat)
 case atStart=>exact ⟨0,1,Nat.zero_le _,rfl,rfl,hide rfl⟩
 case round=>
  obtain ⟨jx,p,hj,rfl,rfl,hp⟩:=hrel
  have hpb:=ch_bd (unhide hp)
  by_cases q:jx<n
  ·have hci:(jx:Int)<(n:Int):=by omega
   obtain ⟨b,off,hv,hcs⟩:=(unhide HA).cells Vn
   have c0:=hcs jx q
   subst hv
   obtain ⟨x,hx⟩: ∃x,z jx=x:=⟨_,rfl⟩
   rw[hx] at c0
   have HX:=hide hx
   clear hx
   by_cases c1:x<2
   ·clear hcs
    have HV:=hide (ch_bad (n:=n) (unhide hp) (by rw[unhide HX];exact .inl c1) q)
    skip
    have hin:inB x 2 1000=false:=by unfold inB;simp;omega
    go_wp2_with (go_at_call 48;refine (l1In_any _ _ _ _).mono ?_;rintro e w' ⟨rfl,rfl⟩)
    go_ret2
    exact ⟨by rw[(unhide HV).1,(unhide HV).2];rfl,rfl⟩
   ·by_cases c2:1000<x
    ·clear hcs
     have HV:=hide (ch_bad (n:=n) (unhide hp) (by rw[unhide HX];exact .inr (.inl c2)) q)
     have c1':2≤x:=by omega
     have hin:inB x 2 1000=false:=by unfold inB;simp;omega
     go_wp2_with (go_at_call 48;refine (l1In_any _ _ _ _).mono ?_;rintro e w' ⟨rfl,rfl⟩)
     go_ret2
     exact ⟨by rw[(unhide HV).1,(unhide HV).2];rfl,rfl⟩
    ·have c1':2≤x:=by omega
     have c2':x≤1000:=by omega
     by_cases c3:jx=0
     ·have hj0: ¬0<(jx:Int):=by omega
      have hj1:(jx:Int)≤0:=by omega
      have HC3:=hide c3
      clear hcs c1 c2 c3
      by_cases c4:p*x≤1000
      ·have HN:Hid (chS z (jx+1)=some (p*x)):=hide (by rw[←unhide HX];exact ch_next (unhide hp) VR VR (.inl (unhide HC3)) (by rw[unhide HX];exact c4))
       have hpx:0≤p*x:=Int.mul_nonneg Vn Vn
       have hin:inB x 2 1000=true:=by unfold inB;simp;omega
       go_wp2_with (go_at_call 48;refine (l1In_any _ _ _ _).mono ?_;rintro e w' ⟨rfl,rfl⟩)
       go_round
       case rel=>exact ⟨jx+1,p*x,Vn,by go_num,rfl,HN⟩
       case measure=>simp [intOf];omega
      ·have HV:=hide (ch_bad (n:=n) (unhide hp) VS q)
       have hpx:0≤p*x∧p*x≤1000000:=⟨Int.mul_nonneg Vn Vn,by have:=Int.mul_le_mul (show p≤1000 by omega) (show x≤1000 by omega) Vn Vn;omega⟩
       have hin:inB x 2 1000=true:=by unfold inB;simp;omega
       go_wp2_with (go_at_call 48;refine (l1In_any _ _ _ _).mono ?_;rintro e w' ⟨rfl,rfl⟩)
       go_ret2
       exact ⟨by rw[(unhide HV).1,(unhide HV).2];rfl,rfl⟩
     ·obtain ⟨i,rfl⟩: ∃i,jx=i+1:=⟨jx-1,Vn⟩
      have hy2:=ch_two (unhide hp)
      have d0:=hcs i Vn
      obtain ⟨y,hy⟩: ∃y,z i=y:=⟨_,rfl⟩
      rw[hy] at d0 hy2
      have HY:=hide hy
      clear hy hcs c1 c2 c3
      by_cases c5:x%y=0
      ·have t5:(x%y != 0)=false:=by simp [c5]
       by_cases c4:p*x≤1000
       ·have HN:Hid (chS z ((i+1)+1)=some (p*x)):=hide (by rw[←unhide HX];exact ch_next (unhide hp) VR VR (.inr (by rw[unhide HX];show x%z (i+1-1)=0;rw [Nat.add_sub_cancel,unhide HY];exact c5)) (by rw[unhide HX];exact c4))
        have hpx:0≤p*x:=Int.mul_nonneg Vn Vn
        have hin:inB x 2 1000=true:=by unfold inB;simp;omega
        go_wp2_with (go_at_call 48;refine (l1In_any _ _ _ _).mono ?_;rintro e w' ⟨rfl,rfl⟩)
        go_round
        case rel=>exact ⟨(i+1)+1,p*x,Vn,by go_num,rfl,HN⟩
        case measure=>simp [intOf];omega
       ·have HV:=hide (ch_bad (n:=n) (unhide hp) VS q)
        have hpx:0≤p*x∧p*x≤1000000:=⟨Int.mul_nonneg Vn Vn,by have:=Int.mul_le_mul (show p≤1000 by omega) (show x≤1000 by omega) Vn Vn;omega⟩
        have hin:inB x 2 1000=true:=by unfold inB;simp;omega
        go_wp2_with (go_at_call 48;refine (l1In_any _ _ _ _).mono ?_;rintro e w' ⟨rfl,rfl⟩)
        go_ret2
        exact ⟨by rw[(unhide HV).1,(unhide HV).2];rfl,rfl⟩
      ·have t5:(x%y != 0)=true:=by simp [c5]
       have HV:=hide (ch_bad (n:=n) (unhide hp) (by rw[unhide HX];refine .inr (.inr (.inl ⟨Vn,?_⟩));rw [Nat.add_sub_cancel,unhide HY];exact c5) q)
       skip
       have hin:inB x 2 1000=true:=by unfold inB;simp;omega
       go_wp2_with (go_at_call 48;refine (l1In_any _ _ _ _).mono ?_;rintro e w' ⟨rfl,rfl⟩)
       go_ret2
       exact ⟨by rw[(unhide HV).1,(unhide HV).2];rfl,rfl⟩
  ·obtain rfl:jx=n:=by omega
   have HV:=hide (ch_end (unhide hp))
   go_wp2
   go_ret2
   exact ⟨by rw[(unhide HV).1,(unhide HV).2];rfl,rfl⟩
end Go.Proofs.YtobkcnmlmmhpoaaGreatDoor
