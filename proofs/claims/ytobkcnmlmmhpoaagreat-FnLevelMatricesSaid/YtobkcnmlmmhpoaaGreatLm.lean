/- levelMatrix. -/
import Derived.Test.YtobkcnmlmmhpoaaGreatAs
namespace Go.Proofs.YtobkcnmlmmhpoaaGreat
open Go.RowKit
set_option linter.unusedVariables false
set_option linter.unusedSimpArgs false
attribute [local go_sem] q2 q3 q4 q5 q6 q7 q8 q9 q10 q11 q12

def mm4 (m n:M4):M4:=(mmP m.1 m.2.1 m.2.2.1 m.2.2.2 n.1 n.2.1 n.2.2.1 n.2.2.2,mmQ m.1 m.2.1 m.2.2.1 m.2.2.2 n.1 n.2.1 n.2.2.1 n.2.2.2,mmR m.1 m.2.1 m.2.2.1 m.2.2.2 n.1 n.2.1 n.2.2.1 n.2.2.2,mmS m.1 m.2.1 m.2.2.1 m.2.2.2 n.1 n.2.1 n.2.2.1 n.2.2.2)
theorem KAt.keep' {w w':World} {B:Nat} {K:List M4} (h:KAt w B K) (hB:B<w.heap.size) (hb:Below w.heap.size w w'):KAt w' B K:=h.keep (hb.block B hB)
theorem tmod_bd9 {v n:Int} (h1:1≤n) (h2:n≤30): -30≤v.tmod n∧v.tmod n≤30:=by
 have a:=Int.tmod_lt_of_pos v (show 0<n by omega)
 have b:=Int.lt_tmod_of_pos v (show 0<n by omega)
 omega
def lmF (n:Int) (m k:M4):List M4→M4 × Bool
 | []=>((0,0,0,0),false)
 |t :: L=>if (mm4 (mm4 t m) k).2.2.1.tmod n=0 then (mm4 (mm4 t m) k,true) else lmF n m k L
def lmX (a b c x y z m0 m1 m2 m3 x' y' z' k0 k1 k2 k3 n:Int):M4 × Bool:=
 if x=x'∧y=y'∧z=z' then lmF n (m0,m1,m2,m3) (iM (k0,k1,k2,k3)) (putB [] (spK a b c 15)) else ((0,0,0,0),false)
def lmV (R:M4 × Bool):Value:= .tuple #[.agg #[.int .i64 R.1.1,.int .i64 R.1.2.1,.int .i64 R.1.2.2.1,.int .i64 R.1.2.2.2],.bool R.2]
theorem lmF_drop {n:Int} {m k:M4} {L:List M4} {i:Nat} (hi:i<L.length):lmF n m k (L.drop i)=if (mm4 (mm4 (L.getD i m40) m) k).2.2.1.tmod n=0 then (mm4 (mm4 (L.getD i m40) m) k,true) else lmF n m k (L.drop (i+1)):=by
 rw[List.drop_eq_getElem_cons hi,lmF]
 have:L.getD i m40=L[i]:=by rw[List.getD_eq_getElem?_getD,List.getElem?_eq_getElem hi];rfl
 rw[this]
theorem spK_len (a b c:Int): ∀n,(spK a b c n).length≤n
 |0=>Nat.le_refl _
 |n+1=>by
  unfold spK
  have:=spK_len a b c n
  split
  ·rw [List.length_append];simp only[List.length_cons,List.length_nil];omega
  ·omega
theorem i64_mmR (p q r s p2 q2 r2 s2:Int): -9223372036854775808≤mmR p q r s p2 q2 r2 s2∧mmR p q r s p2 q2 r2 s2≤9223372036854775807:=by unfold mmR wrap64;omega
theorem reReduce_rw9 (a b c x y z m0 m1 m2 m3:Int) (w:World) (h:OkF a b c) (hE:rfA a b c=x∧rfB a b c=y∧rfC a b c=z∧rmP a b c=m0∧rmQ a b c=m1∧rmR a b c=m2∧rmS a b c=m3):
  Calls Tryz.prog 54 #[.agg #[.int .i64 a,.int .i64 b,.int .i64 c]] w fun e w'=>e= .returned (.tuple #[.agg #[.int .i64 x,.int .i64 y,.int .i64 z],.agg #[.int .i64 m0,.int .i64 m1,.int .i64 m2,.int .i64 m3]])∧Below w.heap.size w w':=by
 obtain ⟨rfl,rfl,rfl,rfl,rfl,rfl,rfl⟩:=hE
 exact reReduce_a a b c w h

set_option maxRecDepth 100000 in
set_option maxHeartbeats 8000000 in
theorem levelMatrix_c (a b c p q r n x y z m0 m1 m2 m3 x' y' z' k0 k1 k2 k3:Int) (w:World) (hA:AutOk a b c x y z m0 m1 m2 m3) (hE1:rfA a b c=x∧rfB a b c=y∧rfC a b c=z∧rmP a b c=m0∧rmQ a b c=m1∧rmR a b c=m2∧rmS a b c=m3)
  (hB:AutOk p q r x' y' z' k0 k1 k2 k3) (hE2:rfA p q r=x'∧rfB p q r=y'∧rfC p q r=z'∧rmP p q r=k0∧rmQ p q r=k1∧rmR p q r=k2∧rmS p q r=k3) (hn1:1≤n) (hn2:n≤30):
  Calls Tryz.prog 21 #[.agg #[.int .i64 a,.int .i64 b,.int .i64 c],.agg #[.int .i64 p,.int .i64 q,.int .i64 r],.int .i64 n] w fun e w'=>e= .returned (lmV (lmX a b c x y z m0 m1 m2 m3 x' y' z' k0 k1 k2 k3 n))∧Below w.heap.size w w':=by
 have hof:=okF_cls hA.cls
 have hog:=okF_cls hB.cls
 have hpa:=hof.a0
 have HCL:=hide hA.cls
 have HOK:=hide hB.ok
 have HA:=hide hA
 have HE1:=hide hE1
 have HE2:=hide hE2
 have HF:=hide hof
 have HG:=hide hog
 obtain ⟨T,hT⟩: ∃T,putB [] (spK a b c 15)=T:=⟨_,rfl⟩
 have hTl:T.length≤15:=by rw[←hT,putB_len];have:=spK_len a b c 15;simp;omega
 have hT0:0<T.length:=by rw[←hT,←(unhide HA).eqB hpa,putB_len,List.length_map];have:=turn_len x y z;simp;omega
 have HT:=hide hT
 clear hA hB hE1 hE2 hof hog hT
 by_cases hxy:x=x'∧y=y'∧z=z'
 ·obtain ⟨rfl,rfl,rfl⟩:=hxy
  go_enter Tryz.func21,Tryz.ntmps21
  go_wp2_with fail
  refine (reduce_rw a b c x y z m0 m1 m2 m3 _ (unhide HF) (unhide HE1)).mono ?_
  rintro en w1 ⟨rfl,hb1⟩
  have hcs9:=cells_calls hb1 [⟨w.heap.size,0,none⟩,⟨w.heap.size,1,none⟩,⟨w.heap.size,2,none⟩,⟨w.heap.size+1,0,none⟩,⟨w.heap.size+1,1,none⟩,⟨w.heap.size+1,2,none⟩,⟨w.heap.size+1+1,0,none⟩,⟨w.heap.size+1+1,1,none⟩,⟨w.heap.size+1+1,2,none⟩,⟨w.heap.size+1+1,3,none⟩] [.int .i64 a,.int .i64 b,.int .i64 c,.int .i64 p,.int .i64 q,.int .i64 r,.int .i64 0,.int .i64 0,.int .i64 0,.int .i64 0] (by refine ⟨?_,?_,?_,?_,?_,?_,?_,?_,?_,?_,trivial⟩<;>exact byCT)
  have hfs9:=frees_calls hb1 [⟨w.heap.size+1+1,0,none⟩,⟨w.heap.size+1+1,1,none⟩,⟨w.heap.size+1+1,2,none⟩,⟨w.heap.size+1+1,3,none⟩] (by refine ⟨?_,?_,?_,?_,trivial⟩<;>first|with_reducible assumption|omega|(simp;omega)|(simp;done)) (by refine ⟨?_,?_,?_,?_,trivial⟩<;>exact byFT)
  have hzs9:=blocks_calls hb1 [w.heap.size,w.heap.size+1,w.heap.size+1+1] (by refine ⟨?_,?_,?_,trivial⟩<;>first|with_reducible assumption|omega|(simp;omega)|(simp;done))
  try clear c00 c01 c02
  try clear c10 c11 c12
  try clear c20 c21 c22 c23 f20 f21 f22 f23
  obtain ⟨c00,c01,c02,c10,c11,c12,c20,c21,c22,c23,-⟩:=hcs9
  obtain ⟨f20,f21,f22,f23,-⟩:=hfs9
  obtain ⟨z0,z1,z2,-⟩:=hzs9
  have hs1:=hb1.size
  go_wp2_with fail
  refine (reduce_rw p q r x y z k0 k1 k2 k3 _ (unhide HG) (unhide HE2)).mono ?_
  rintro en w2 ⟨rfl,hb2⟩
  have hcs9:=cells_calls hb2 [⟨w.heap.size,0,none⟩,⟨w.heap.size,1,none⟩,⟨w.heap.size,2,none⟩,⟨w.heap.size+1,0,none⟩,⟨w.heap.size+1,1,none⟩,⟨w.heap.size+1,2,none⟩,⟨w.heap.size+1+1,0,none⟩,⟨w.heap.size+1+1,1,none⟩,⟨w.heap.size+1+1,2,none⟩,⟨w.heap.size+1+1,3,none⟩,⟨w1.heap.size,0,none⟩,⟨w1.heap.size,1,none⟩,⟨w1.heap.size,2,none⟩,⟨w1.heap.size+1,0,none⟩,⟨w1.heap.size+1,1,none⟩,⟨w1.heap.size+1,2,none⟩,⟨w1.heap.size+1,3,none⟩] [.int .i64 a,.int .i64 b,.int .i64 c,.int .i64 p,.int .i64 q,.int .i64 r,.int .i64 0,.int .i64 0,.int .i64 0,.int .i64 0,.int .i64 x,.int .i64 y,.int .i64 z,.int .i64 m0,.int .i64 m1,.int .i64 m2,.int .i64 m3] (by refine ⟨?_,?_,?_,?_,?_,?_,?_,?_,?_,?_,?_,?_,?_,?_,?_,?_,?_,trivial⟩<;>exact byCT)
  have hfs9:=frees_calls hb2 [⟨w.heap.size+1+1,0,none⟩,⟨w.heap.size+1+1,1,none⟩,⟨w.heap.size+1+1,2,none⟩,⟨w.heap.size+1+1,3,none⟩] (by refine ⟨?_,?_,?_,?_,trivial⟩<;>first|with_reducible assumption|omega|(simp;omega)|(simp;done)) (by refine ⟨?_,?_,?_,?_,trivial⟩<;>exact byFT)
  have hzs9:=blocks_calls hb2 [w.heap.size,w.heap.size+1,w.heap.size+1+1,w1.heap.size,w1.heap.size+1] (by refine ⟨?_,?_,?_,?_,?_,trivial⟩<;>first|with_reducible assumption|omega|(simp;omega)|(simp;done))
  try clear c00 c01 c02
  try clear c10 c11 c12
  try clear c20 c21 c22 c23 f20 f21 f22 f23
  try clear c30 c31 c32
  try clear c40 c41 c42 c43
  obtain ⟨c00,c01,c02,c10,c11,c12,c20,c21,c22,c23,c30,c31,c32,c40,c41,c42,c43,-⟩:=hcs9
  obtain ⟨f20,f21,f22,f23,-⟩:=hfs9
  obtain ⟨z0,z1,z2,z3,z4,-⟩:=hzs9
  have hs2:=hb2.size
  go_wp2_with fail
  refine (Automorphs_c a b c x y z m0 m1 m2 m3 _ (unhide HA) (unhide HE1)).mono ?_
  rintro en w3 ⟨aT,cT,rfl,hMT,hb3⟩
  rw[(unhide HA).eqB hpa,unhide HT] at hMT ⊢
  have hcs9:=cells_calls hb3 [⟨w.heap.size,0,none⟩,⟨w.heap.size,1,none⟩,⟨w.heap.size,2,none⟩,⟨w.heap.size+1,0,none⟩,⟨w.heap.size+1,1,none⟩,⟨w.heap.size+1,2,none⟩,⟨w.heap.size+1+1,0,none⟩,⟨w.heap.size+1+1,1,none⟩,⟨w.heap.size+1+1,2,none⟩,⟨w.heap.size+1+1,3,none⟩,⟨w1.heap.size,0,none⟩,⟨w1.heap.size,1,none⟩,⟨w1.heap.size,2,none⟩,⟨w1.heap.size+1,0,none⟩,⟨w1.heap.size+1,1,none⟩,⟨w1.heap.size+1,2,none⟩,⟨w1.heap.size+1,3,none⟩,⟨w2.heap.size,0,none⟩,⟨w2.heap.size,1,none⟩,⟨w2.heap.size,2,none⟩,⟨w2.heap.size+1,0,none⟩,⟨w2.heap.size+1,1,none⟩,⟨w2.heap.size+1,2,none⟩,⟨w2.heap.size+1,3,none⟩] [.int .i64 a,.int .i64 b,.int .i64 c,.int .i64 p,.int .i64 q,.int .i64 r,.int .i64 0,.int .i64 0,.int .i64 0,.int .i64 0,.int .i64 x,.int .i64 y,.int .i64 z,.int .i64 m0,.int .i64 m1,.int .i64 m2,.int .i64 m3,.int .i64 x,.int .i64 y,.int .i64 z,.int .i64 k0,.int .i64 k1,.int .i64 k2,.int .i64 k3] (by refine ⟨?_,?_,?_,?_,?_,?_,?_,?_,?_,?_,?_,?_,?_,?_,?_,?_,?_,?_,?_,?_,?_,?_,?_,?_,trivial⟩<;>exact byCT)
  have hfs9:=frees_calls hb3 [⟨w.heap.size+1+1,0,none⟩,⟨w.heap.size+1+1,1,none⟩,⟨w.heap.size+1+1,2,none⟩,⟨w.heap.size+1+1,3,none⟩] (by refine ⟨?_,?_,?_,?_,trivial⟩<;>first|with_reducible assumption|omega|(simp;omega)|(simp;done)) (by refine ⟨?_,?_,?_,?_,trivial⟩<;>exact byFT)
  have hzs9:=blocks_calls hb3 [w.heap.size,w.heap.size+1,w.heap.size+1+1,w1.heap.size,w1.heap.size+1,w2.heap.size,w2.heap.size+1] (by refine ⟨?_,?_,?_,?_,?_,?_,?_,trivial⟩<;>first|with_reducible assumption|omega|(simp;omega)|(simp;done))
  try clear c00 c01 c02
  try clear c10 c11 c12
  try clear c20 c21 c22 c23 f20 f21 f22 f23
  try clear c30 c31 c32
  try clear c40 c41 c42 c43
  try clear c50 c51 c52
  try clear c60 c61 c62 c63
  obtain ⟨c00,c01,c02,c10,c11,c12,c20,c21,c22,c23,c30,c31,c32,c40,c41,c42,c43,c50,c51,c52,c60,c61,c62,c63,-⟩:=hcs9
  obtain ⟨f20,f21,f22,f23,-⟩:=hfs9
  obtain ⟨z0,z1,z2,z3,z4,z5,z6,-⟩:=hzs9
  have hs3:=hb3.size

  obtain ⟨gT,rfl,hgT0,hgT1,hcT⟩:=hMT.ptr hT0
  go_wp2
  have HKT:=hide (KAt.of hMT (Nat.le_refl _) (fun _ _=>rfl))
  have HB0:Below w.heap.size w w3:=byGG
  have HBo:=hide HB0
  have HLX:Hid (lmX a b c x y z m0 m1 m2 m3 x y z k0 k1 k2 k3 n=lmF n (m0,m1,m2,m3) (iM (k0,k1,k2,k3)) T):=hide (by unfold lmX;rw [if_pos ⟨rfl,rfl,rfl⟩,unhide HT])
  clear HB0 hMT
  go_loopw [38] (fun is wr=> ∃i:Nat,i≤T.length∧is= .int .i64 (i:Int)∧Hid (lmF n (m0,m1,m2,m3) (iM (k0,k1,k2,k3)) T=lmF n (m0,m1,m2,m3) (iM (k0,k1,k2,k3)) (T.drop i))∧KAt wr gT T∧gT<wr.heap.size∧Below w.heap.size w wr∧wr.cell? ⟨w.heap.size+1+1,0,none⟩=some (.int .i64 0)∧wr.frozen? ⟨w.heap.size+1+1,0,none⟩=false∧wr.cell? ⟨w.heap.size+1+1,1,none⟩=some (.int .i64 0)∧wr.frozen? ⟨w.heap.size+1+1,1,none⟩=false∧wr.cell? ⟨w.heap.size+1+1,2,none⟩=some (.int .i64 0)∧wr.frozen? ⟨w.heap.size+1+1,2,none⟩=false∧wr.cell? ⟨w.heap.size+1+1,3,none⟩=some (.int .i64 0)∧wr.frozen? ⟨w.heap.size+1+1,3,none⟩=false∧wr.cell? ⟨w1.heap.size+1,0,none⟩=some (.int .i64 m0)∧wr.cell? ⟨w1.heap.size+1,1,none⟩=some (.int .i64 m1)∧wr.cell? ⟨w1.heap.size+1,2,none⟩=some (.int .i64 m2)∧wr.cell? ⟨w1.heap.size+1,3,none⟩=some (.int .i64 m3)∧wr.cell? ⟨w2.heap.size+1,0,none⟩=some (.int .i64 k0)∧wr.cell? ⟨w2.heap.size+1,1,none⟩=some (.int .i64 k1)∧wr.cell? ⟨w2.heap.size+1,2,none⟩=some (.int .i64 k2)∧wr.cell? ⟨w2.heap.size+1,3,none⟩=some (.int .i64 k3)) (fun is _=>T.length-(intOf is).toNat)
  case atStart=>exact ⟨0,by omega,rfl,hide rfl,unhide HKT,hgT1,unhide HBo,byCT,byFT,byCT,byFT,byCT,byFT,byCT,byFT,byCT,byCT,byCT,byCT,byCT,byCT,byCT,byCT⟩
  case round=>
   clear HKT HBo
   obtain ⟨i,hi,rfl,hrl,hk,hB,hb,r0,r1,r2,r3,r4,r5,r6,r7,r8,r9,r10,r11,r12,r13,r14,r15⟩:=hrel
   obtain ⟨wl,rfl⟩: ∃wl:World,wl=wr:=⟨_,rfl⟩
   have hzl:=hb.size
   have zq:=World.block_lt_of_cell? _ _ r0
   change w.heap.size+1+1<wl.heap.size at zq
   by_cases hiT:i<T.length
   ·have hit:(i:Int)<(T.length:Int):=by omega
    obtain ⟨d0,d1,d2,d3⟩:=hk i hiT
    obtain ⟨t,ht⟩: ∃t,T.getD i m40=t:=⟨_,rfl⟩
    rw[ht] at d0 d1 d2 d3
    obtain ⟨t0,t1,t2,t3⟩:=t
    obtain ⟨u0,u1,u2,u3,hu⟩: ∃u0 u1 u2 u3,mmP t0 t1 t2 t3 m0 m1 m2 m3=u0∧mmQ t0 t1 t2 t3 m0 m1 m2 m3=u1∧mmR t0 t1 t2 t3 m0 m1 m2 m3=u2∧mmS t0 t1 t2 t3 m0 m1 m2 m3=u3:=⟨_,_,_,_,rfl,rfl,rfl,rfl⟩
    obtain ⟨v0,v1,v2,v3,hv⟩: ∃v0 v1 v2 v3,mmP u0 u1 u2 u3 k3 (-k1) (-k2) k0=v0∧mmQ u0 u1 u2 u3 k3 (-k1) (-k2) k0=v1∧mmR u0 u1 u2 u3 k3 (-k1) (-k2) k0=v2∧mmS u0 u1 u2 u3 k3 (-k1) (-k2) k0=v3:=⟨_,_,_,_,rfl,rfl,rfl,rfl⟩
    have hv2: -9223372036854775808≤v2∧v2≤9223372036854775807:=by rw[←hv.2.2.1];exact i64_mmR _ _ _ _ _ _ _ _
    have HDR:Hid (lmF n (m0,m1,m2,m3) (iM (k0,k1,k2,k3)) (T.drop i)=if v2.tmod n=0 then ((v0,v1,v2,v3),true) else lmF n (m0,m1,m2,m3) (iM (k0,k1,k2,k3)) (T.drop (i+1))):=hide (by
     rw[lmF_drop hiT,ht]
     have e1:mm4 (t0,t1,t2,t3) (m0,m1,m2,m3)=(u0,u1,u2,u3):=by unfold mm4;rw [hu.1,hu.2.1,hu.2.2.1,hu.2.2.2]
     have e2:mm4 (u0,u1,u2,u3) (iM (k0,k1,k2,k3))=(v0,v1,v2,v3):=by unfold mm4 iM;rw [hv.1,hv.2.1,hv.2.2.1,hv.2.2.2]
     rw[e1,e2])
    have hq1: -30≤v2.tmod n∧v2.tmod n≤30:=tmod_bd9 hn1 hn2
    have HU:=hide hu
    have HV:=hide hv
    have HK:=hide hk
    clear ht hu hv hk
    go_upto_region 9 with fail
    go_cut [16] (fun s16 wx=> ∃g9:Nat,s16= .pointer (some ⟨g9,0,none⟩)∧wx.cell? ⟨w.heap.size+1+1,0,none⟩=some (.int .i64 0)∧wx.frozen? ⟨w.heap.size+1+1,0,none⟩=false∧wx.cell? ⟨w.heap.size+1+1,1,none⟩=some (.int .i64 0)∧wx.frozen? ⟨w.heap.size+1+1,1,none⟩=false∧wx.cell? ⟨w.heap.size+1+1,2,none⟩=some (.int .i64 0)∧wx.frozen? ⟨w.heap.size+1+1,2,none⟩=false∧wx.cell? ⟨w.heap.size+1+1,3,none⟩=some (.int .i64 0)∧wx.frozen? ⟨w.heap.size+1+1,3,none⟩=false∧wx.cell? ⟨w1.heap.size+1,0,none⟩=some (.int .i64 m0)∧wx.cell? ⟨w1.heap.size+1,1,none⟩=some (.int .i64 m1)∧wx.cell? ⟨w1.heap.size+1,2,none⟩=some (.int .i64 m2)∧wx.cell? ⟨w1.heap.size+1,3,none⟩=some (.int .i64 m3)∧wx.cell? ⟨w2.heap.size+1,0,none⟩=some (.int .i64 k0)∧wx.cell? ⟨w2.heap.size+1,1,none⟩=some (.int .i64 k1)∧wx.cell? ⟨w2.heap.size+1,2,none⟩=some (.int .i64 k2)∧wx.cell? ⟨w2.heap.size+1,3,none⟩=some (.int .i64 k3)∧wx.cell? ⟨wl.heap.size,0,none⟩=some (.int .i64 t0)∧wx.cell? ⟨wl.heap.size,1,none⟩=some (.int .i64 t1)∧wx.cell? ⟨wl.heap.size,2,none⟩=some (.int .i64 t2)∧wx.cell? ⟨wl.heap.size,3,none⟩=some (.int .i64 t3)∧wx.cell? ⟨g9,0,none⟩=some (.int .i64 v0)∧wx.frozen? ⟨g9,0,none⟩=false∧wx.cell? ⟨g9,1,none⟩=some (.int .i64 v1)∧wx.frozen? ⟨g9,1,none⟩=false∧wx.cell? ⟨g9,2,none⟩=some (.int .i64 v2)∧wx.frozen? ⟨g9,2,none⟩=false∧wx.cell? ⟨g9,3,none⟩=some (.int .i64 v3)∧wx.frozen? ⟨g9,3,none⟩=false∧Below wl.heap.size wl wx∧wl.heap.size+1≤g9)
    case first=>
     have h1:=trivial
     rename_i K2 h2 h3
     refine region_n0 (by kernel_rfl) (fun j=> #[42,43,44,45,46,47,16,16].getD j 0) (fun j=>Kd.ok ((fun j=>match j with|0=>Kd.val (.agg #[.int .i64 t0,.int .i64 t1,.int .i64 t2,.int .i64 t3])|1=>Kd.val (.agg #[.int .i64 m0,.int .i64 m1,.int .i64 m2,.int .i64 m3])|2=>Kd.val (.agg #[.int .i64 u0,.int .i64 u1,.int .i64 u2,.int .i64 u3])|3=>Kd.val (.agg #[.int .i64 k0,.int .i64 k1,.int .i64 k2,.int .i64 k3])|4=>Kd.val (.agg #[.int .i64 k3,.int .i64 (-k1),.int .i64 (-k2),.int .i64 k0])|5=>Kd.val (.agg #[.int .i64 v0,.int .i64 v1,.int .i64 v2,.int .i64 v3])|6=>Kd.own (wl.heap.size+1) 4|7=>Kd.held (wl.heap.size+1) [.int .i64 v0,.int .i64 v1,.int .i64 v2,.int .i64 v3]|_=>Kd.any:Nat→Kd) j)) (Sy wl (wl.heap.size+1) [(⟨w.heap.size+1+1,0,none⟩,.int .i64 0),(⟨w.heap.size+1+1,1,none⟩,.int .i64 0),(⟨w.heap.size+1+1,2,none⟩,.int .i64 0),(⟨w.heap.size+1+1,3,none⟩,.int .i64 0),(⟨w1.heap.size+1,0,none⟩,.int .i64 m0),(⟨w1.heap.size+1,1,none⟩,.int .i64 m1),(⟨w1.heap.size+1,2,none⟩,.int .i64 m2),(⟨w1.heap.size+1,3,none⟩,.int .i64 m3),(⟨w2.heap.size+1,0,none⟩,.int .i64 k0),(⟨w2.heap.size+1,1,none⟩,.int .i64 k1),(⟨w2.heap.size+1,2,none⟩,.int .i64 k2),(⟨w2.heap.size+1,3,none⟩,.int .i64 k3),(⟨wl.heap.size,0,none⟩,.int .i64 t0),(⟨wl.heap.size,1,none⟩,.int .i64 t1),(⟨wl.heap.size,2,none⟩,.int .i64 t2),(⟨wl.heap.size,3,none⟩,.int .i64 t3)] [⟨w.heap.size+1+1,0,none⟩,⟨w.heap.size+1+1,1,none⟩,⟨w.heap.size+1+1,2,none⟩,⟨w.heap.size+1+1,3,none⟩]) (by kernel_rfl) (by kernel_rfl) ?_ ?_ ?_ ?_
     ·intro j hj
      have hj2:j<8:=hj
      have: ∀j,j<8→(#[42,43,44,45,46,47,16,16]:Array Nat).getD j 0<56:=by decide
      exact this j hj2
     ·refine Sy.drew (Sy.mk_of ?_ ?_ ?_ ?_)
      ·first|rfl|(simp;done)|(simp;omega)
      ·intro c hc
       simp only[List.mem_cons,List.not_mem_nil,or_false] at hc
       rcases hc with rfl|rfl|rfl|rfl|rfl|rfl|rfl|rfl|rfl|rfl|rfl|rfl|rfl|rfl|rfl|rfl<;>exact byCT
      ·intro p hp
       simp only[List.mem_cons,List.not_mem_nil,or_false] at hp
       rcases hp with rfl|rfl|rfl|rfl<;>exact ⟨by first|((repeat' with_reducible (first|refine ex_set _ ?_|refine ex_al _ ?_|exact ⟨_,by assumption⟩));done)|first|exact ⟨_,by assumption⟩|assumption|(go_simp;done)|(go_simp;exact ⟨_,rfl⟩),by first|((repeat' first|with_reducible (first|assumption|refine frz_al _ ?_ ?_|refine frz_set _ ?_)|omega|(simp;omega));done)|assumption|(go_simp;done)⟩
      ·(repeat' first|with_reducible (first|exact Below.refl _ _|assumption|refine gr_alloc ?_ _|refine below_drewN ?_ _|refine below_drew ?_|refine gr_call ?_ (by assumption)|refine Below.setCell ?_ ?_ _)|go_size|omega|(simp;omega))
     ·clear h1 h2 h3
      refine ⟨?r14x0,?r14x1,?r14x2,?r14x3,?r14x4,?r14x5,?r14x6,?r14x7,trivial⟩
      all_goals intro _ aq wx Kq hf hS hdep ev1 ev2 hK
      case' r14x0=>
       have F15:aq.eval (.tmp 15)= .pointer (some ⟨wl.heap.size,0,none⟩):=hf 15
       have c0:=hS.cells (⟨wl.heap.size,0,none⟩,.int .i64 t0) (by simp)
       have c1:=hS.cells (⟨wl.heap.size,1,none⟩,.int .i64 t1) (by simp)
       have c2:=hS.cells (⟨wl.heap.size,2,none⟩,.int .i64 t2) (by simp)
       have c3:=hS.cells (⟨wl.heap.size,3,none⟩,.int .i64 t3) (by simp)
      case' r14x1=>
       have F9:aq.eval (.tmp 9)= .pointer (some ⟨w1.heap.size+1,0,none⟩):=hf 9
       have c0:=hS.cells (⟨w1.heap.size+1,0,none⟩,.int .i64 m0) (by simp)
       have c1:=hS.cells (⟨w1.heap.size+1,1,none⟩,.int .i64 m1) (by simp)
       have c2:=hS.cells (⟨w1.heap.size+1,2,none⟩,.int .i64 m2) (by simp)
       have c3:=hS.cells (⟨w1.heap.size+1,3,none⟩,.int .i64 m3) (by simp)
      case' r14x2=>
       have D0:aq.eval (.tmp 42)=_:=hdep 0
       have D1:aq.eval (.tmp 43)=_:=hdep 1
      case' r14x3=>
       have F11:aq.eval (.tmp 11)= .pointer (some ⟨w2.heap.size+1,0,none⟩):=hf 11
       have c0:=hS.cells (⟨w2.heap.size+1,0,none⟩,.int .i64 k0) (by simp)
       have c1:=hS.cells (⟨w2.heap.size+1,1,none⟩,.int .i64 k1) (by simp)
       have c2:=hS.cells (⟨w2.heap.size+1,2,none⟩,.int .i64 k2) (by simp)
       have c3:=hS.cells (⟨w2.heap.size+1,3,none⟩,.int .i64 k3) (by simp)
      case' r14x4=>
       have D3:aq.eval (.tmp 45)=_:=hdep 3
      case' r14x5=>
       have D2:aq.eval (.tmp 44)=_:=hdep 2
       have D4:aq.eval (.tmp 46)=_:=hdep 4
      case' r14x7=>
       have D5:aq.eval (.tmp 47)=_:=hdep 5
       obtain ⟨gn,D6,r1,r2,r3⟩:=hdep 6
       change aq.eval (.tmp 16)=_ at D6
       obtain ⟨⟨vx0,cx0⟩,cf0⟩:=r3 0 (by decide)
       obtain ⟨⟨vx1,cx1⟩,cf1⟩:=r3 1 (by decide)
       obtain ⟨⟨vx2,cx2⟩,cf2⟩:=r3 2 (by decide)
       obtain ⟨⟨vx3,cx3⟩,cf3⟩:=r3 3 (by decide)
       have D6':tau aq 16=_:=D6
      all_goals (clear hf hdep;unfold Oper.wp;generalize Act.eval _=ev at *;go_simp)
      case r14x2=>
       refine ((times_e t0 t1 t2 t3 m0 m1 m2 m3 u0 u1 u2 u3 _ (unhide HU))).mono ?_
       rintro e w2 ⟨rfl,hb⟩
       refine hK _ _ (hS.call hb) ?_ (fun j u _ h=>Kd.ok_below hb h)
       rw[if_pos (by rfl)]
       show (_:Value)=_
       first|rfl|(refine congrArg (Value.int .i64) ?_;first|rfl|exact int_in (by omega)|exact quo_in (by omega) (by omega) (by omega)|exact rem_in (by omega) (by omega)|omega)|(simp;done)|(simp [*];done)
      case r14x4=>
       refine ((inverse_a k0 k1 k2 k3 _ (unhide HOK))).mono ?_
       rintro e w2 ⟨rfl,hb⟩
       refine hK _ _ (hS.call hb) ?_ (fun j u _ h=>Kd.ok_below hb h)
       rw[if_pos (by rfl)]
       show (_:Value)=_
       first|rfl|(refine congrArg (Value.int .i64) ?_;first|rfl|exact int_in (by omega)|exact quo_in (by omega) (by omega) (by omega)|exact rem_in (by omega) (by omega)|omega)|(simp;done)|(simp [*];done)
      case r14x5=>
       refine ((times_e u0 u1 u2 u3 k3 (-k1) (-k2) k0 v0 v1 v2 v3 _ (unhide HV))).mono ?_
       rintro e w2 ⟨rfl,hb⟩
       refine hK _ _ (hS.call hb) ?_ (fun j u _ h=>Kd.ok_below hb h)
       rw[if_pos (by rfl)]
       show (_:Value)=_
       first|rfl|(refine congrArg (Value.int .i64) ?_;first|rfl|exact int_in (by omega)|exact quo_in (by omega) (by omega) (by omega)|exact rem_in (by omega) (by omega)|omega)|(simp;done)|(simp [*];done)
      case r14x6=>
       refine hK _ _ (hS.call (below_alloc_self _ _)) ?_ (fun j u _ h=>Kd.ok_below (below_alloc_self _ _) h)
       rw[if_pos (by rfl)]
       exact kd_new hS.size rfl
      case r14x7=>
       refine hK undef (setAll gn 0 [.int .i64 v0,.int .i64 v1,.int .i64 v2,.int .i64 v3] wx) (Sy.setAll_new r1 hS) ?_ (fun j u hj h=> ?_)
       ·rw [if_neg (by decide)]
        exact kd_held r1 r2 D6' r3
       ·match j,hj with
        |0,hj=>exact (show (u:Value)=_ from h)
        |1,hj=>exact (show (u:Value)=_ from h)
        |2,hj=>exact (show (u:Value)=_ from h)
        |3,hj=>exact (show (u:Value)=_ from h)
        |4,hj=>exact (show (u:Value)=_ from h)
        |5,hj=>exact (show (u:Value)=_ from h)
        |6,hj=>exact Kd.ok_setAll_new (k:=Kd.own (wl.heap.size+1) 4) rfl (fun B' cs e=>by cases e) h
        |7,hj=>exact absurd rfl hj
        |j+8,_=>trivial
      all_goals (refine hK _ _ hS ?_ (fun j u _ h=>h);rw [if_pos (by rfl)];show (_:Value)=_;(first|rfl|(refine congrArg (Value.int .i64) ?_;first|rfl|exact int_in (by omega)|exact quo_in (by omega) (by omega) (by omega)|exact rem_in (by omega) (by omega)|omega)|(simp;done)|(simp [*];done)))
     ·intro aq wx hd hw hf hS hg
      obtain ⟨g9,G16,r1g9,r2g9,r3g9⟩:=hg 7 (by decide)
      change tau aq 16=_ at G16
      have haq:aq=⟨#[tau aq 0,tau aq 1,tau aq 2,tau aq 3,tau aq 4,tau aq 5,tau aq 6,tau aq 7,tau aq 8,tau aq 9,tau aq 10,tau aq 11,tau aq 12,tau aq 13,tau aq 14,tau aq 15,tau aq 16,tau aq 17,tau aq 18,tau aq 19,tau aq 20,tau aq 21,tau aq 22,tau aq 23,tau aq 24,tau aq 25,tau aq 26,tau aq 27,tau aq 28,tau aq 29,tau aq 30,tau aq 31,tau aq 32,tau aq 33,tau aq 34,tau aq 35,tau aq 36,tau aq 37,tau aq 38,tau aq 39,tau aq 40,tau aq 41,tau aq 42,tau aq 43,tau aq 44,tau aq 45,tau aq 46,tau aq 47,tau aq 48,tau aq 49,tau aq 50,tau aq 51,tau aq 52,tau aq 53,tau aq 54,tau aq 55],[]⟩:=by
       obtain ⟨tq,dq⟩:=aq
       have h5:=arr_eq (show tq.size=56 from hw)
       have h6:dq= []:=hd
       subst h6
       exact congrArg (fun z=>Act.mk z []) h5
      show K2 aq wx
      rw[haq,hf 0,hf 1,hf 2,hf 3,hf 4,hf 5,hf 6,hf 7,hf 8,hf 9,hf 10,hf 11,hf 12,hf 13,hf 14,hf 15,hf 17,hf 18,hf 19,hf 20,hf 21,hf 22,hf 23,hf 24,hf 25,hf 26,hf 27,hf 28,hf 29,hf 30,hf 31,hf 32,hf 33,hf 34,hf 35,hf 36,hf 37,hf 38,hf 39,hf 40,hf 41,hf 48,hf 49,hf 50,hf 51,hf 52,hf 53,hf 54,hf 55,G16]
      clear haq hf hd hw
      try dsimp only
      refine h3 _ _ ?_
      go_meet
      exact ⟨g9,rfl,hS.cells (⟨w.heap.size+1+1,0,none⟩,.int .i64 0) (by simp),(hS.free ⟨w.heap.size+1+1,0,none⟩ (by simp)).2,hS.cells (⟨w.heap.size+1+1,1,none⟩,.int .i64 0) (by simp),(hS.free ⟨w.heap.size+1+1,1,none⟩ (by simp)).2,hS.cells (⟨w.heap.size+1+1,2,none⟩,.int .i64 0) (by simp),(hS.free ⟨w.heap.size+1+1,2,none⟩ (by simp)).2,hS.cells (⟨w.heap.size+1+1,3,none⟩,.int .i64 0) (by simp),(hS.free ⟨w.heap.size+1+1,3,none⟩ (by simp)).2,hS.cells (⟨w1.heap.size+1,0,none⟩,.int .i64 m0) (by simp),hS.cells (⟨w1.heap.size+1,1,none⟩,.int .i64 m1) (by simp),hS.cells (⟨w1.heap.size+1,2,none⟩,.int .i64 m2) (by simp),hS.cells (⟨w1.heap.size+1,3,none⟩,.int .i64 m3) (by simp),hS.cells (⟨w2.heap.size+1,0,none⟩,.int .i64 k0) (by simp),hS.cells (⟨w2.heap.size+1,1,none⟩,.int .i64 k1) (by simp),hS.cells (⟨w2.heap.size+1,2,none⟩,.int .i64 k2) (by simp),hS.cells (⟨w2.heap.size+1,3,none⟩,.int .i64 k3) (by simp),hS.cells (⟨wl.heap.size,0,none⟩,.int .i64 t0) (by simp),hS.cells (⟨wl.heap.size,1,none⟩,.int .i64 t1) (by simp),hS.cells (⟨wl.heap.size,2,none⟩,.int .i64 t2) (by simp),hS.cells (⟨wl.heap.size,3,none⟩,.int .i64 t3) (by simp),(r3g9 0 (by simp)).1,(r3g9 0 (by simp)).2,(r3g9 1 (by simp)).1,(r3g9 1 (by simp)).2,(r3g9 2 (by simp)).1,(r3g9 2 (by simp)).2,(r3g9 3 (by simp)).1,(r3g9 3 (by simp)).2,hS.below,r1g9⟩
    try clear c00
    try clear c01
    try clear c02
    try clear c03
    try clear c10
    try clear c11
    try clear c12
    try clear c13
    try clear c20
    try clear c21
    try clear c22
    try clear c23
    try clear c30
    try clear c31
    try clear c32
    try clear c33
    try clear f00
    try clear f01
    try clear f02
    try clear f03
    obtain ⟨g9,rfl,c00,f00,c01,f01,c02,f02,c03,f03,c10,c11,c12,c13,c20,c21,c22,c23,c30,c31,c32,c33,c40,f40,c41,f41,c42,f42,c43,f43,hb0,ng9⟩:=hcut
    have z0:=World.block_lt_of_cell? _ _ c00
    have z1:=World.block_lt_of_cell? _ _ c10
    have z2:=World.block_lt_of_cell? _ _ c20
    have z3:=World.block_lt_of_cell? _ _ c30
    have z4:=World.block_lt_of_cell? _ _ c40
    change w.heap.size+1+1<wc.heap.size at z0
    change w1.heap.size+1<wc.heap.size at z1
    change w2.heap.size+1<wc.heap.size at z2
    change wl.heap.size<wc.heap.size at z3
    change g9<wc.heap.size at z4
    have hkt:=hide ((unhide HK).keep' hB (show Below wl.heap.size wl wc from hb0))
    have hgTc:gT<wc.heap.size:=Nat.lt_of_lt_of_le hB hb0.size
    have hbw:Below w.heap.size w wc:=byGG
    by_cases q0:v2.tmod n=0
    ·have HR:Hid (lmX a b c x y z m0 m1 m2 m3 x y z k0 k1 k2 k3 n=((v0,v1,v2,v3),true)):=hide (by rw[unhide HLX,unhide hrl,unhide HDR,if_pos q0])
     clear hrl hkt
     go_wp2
     refine bodyPost_ret (v:= .tuple #[.agg #[.int .i64 v0,.int .i64 v1,.int .i64 v2,.int .i64 v3],.bool true]) (by simp [results,Tryz.results21,go_sem, *]) rfl ?_
     exact ⟨by rw[unhide HR];rfl,byGG⟩
    ·have HR:Hid (lmX a b c x y z m0 m1 m2 m3 x y z k0 k1 k2 k3 n=lmF n (m0,m1,m2,m3) (iM (k0,k1,k2,k3)) (T.drop (i+1))):=hide (by rw[unhide HLX,unhide hrl,unhide HDR,if_neg q0])
     have HR2:Hid (lmF n (m0,m1,m2,m3) (iM (k0,k1,k2,k3)) T=lmF n (m0,m1,m2,m3) (iM (k0,k1,k2,k3)) (T.drop (i+1))):=hide (by rw[unhide hrl,unhide HDR,if_neg q0])
     clear hrl
     go_wp2
     go_roundw
     case rel=>exact ⟨i+1,by omega,by first|rfl|go_num,HR2,unhide hkt,hgTc,byGG,byCT,byFT,byCT,byFT,byCT,byFT,byCT,byFT,byCT,byCT,byCT,byCT,byCT,byCT,byCT,byCT⟩
     case measure=>simp [intOf];omega
   ·obtain rfl:i=T.length:=by omega
    have HR:Hid (lmX a b c x y z m0 m1 m2 m3 x y z k0 k1 k2 k3 n=((0,0,0,0),false)):=hide (by rw[unhide HLX,unhide hrl,List.drop_length];rfl)
    clear hrl hk
    go_wp2
    refine bodyPost_ret (v:= .tuple #[.agg #[.int .i64 0,.int .i64 0,.int .i64 0,.int .i64 0],.bool false]) (by simp [results,Tryz.results21,go_sem, *]) rfl ?_
    exact ⟨by rw[unhide HR];rfl,byGG⟩
 ·have HR:Hid (lmX a b c x y z m0 m1 m2 m3 x' y' z' k0 k1 k2 k3 n=((0,0,0,0),false)):=hide (by unfold lmX;rw [if_neg hxy])
  by_cases e0:x=x'
  ·subst e0
   by_cases e1:y=y'
   ·subst e1
    have e2: ¬z=z':=fun e=>hxy ⟨rfl,rfl,e⟩
    clear hxy
    go_enter Tryz.func21,Tryz.ntmps21
    go_wp2_with fail
    refine (reduce_rw a b c x y z m0 m1 m2 m3 _ (unhide HF) (unhide HE1)).mono ?_
    rintro en w1 ⟨rfl,hb1⟩
    have hcs9:=cells_calls hb1 [⟨w.heap.size,0,none⟩,⟨w.heap.size,1,none⟩,⟨w.heap.size,2,none⟩,⟨w.heap.size+1,0,none⟩,⟨w.heap.size+1,1,none⟩,⟨w.heap.size+1,2,none⟩,⟨w.heap.size+1+1,0,none⟩,⟨w.heap.size+1+1,1,none⟩,⟨w.heap.size+1+1,2,none⟩,⟨w.heap.size+1+1,3,none⟩] [.int .i64 a,.int .i64 b,.int .i64 c,.int .i64 p,.int .i64 q,.int .i64 r,.int .i64 0,.int .i64 0,.int .i64 0,.int .i64 0] (by refine ⟨?_,?_,?_,?_,?_,?_,?_,?_,?_,?_,trivial⟩<;>exact byCT)
    have hfs9:=frees_calls hb1 [⟨w.heap.size+1+1,0,none⟩,⟨w.heap.size+1+1,1,none⟩,⟨w.heap.size+1+1,2,none⟩,⟨w.heap.size+1+1,3,none⟩] (by refine ⟨?_,?_,?_,?_,trivial⟩<;>first|with_reducible assumption|omega|(simp;omega)|(simp;done)) (by refine ⟨?_,?_,?_,?_,trivial⟩<;>exact byFT)
    have hzs9:=blocks_calls hb1 [w.heap.size,w.heap.size+1,w.heap.size+1+1] (by refine ⟨?_,?_,?_,trivial⟩<;>first|with_reducible assumption|omega|(simp;omega)|(simp;done))
    try clear c00 c01 c02
    try clear c10 c11 c12
    try clear c20 c21 c22 c23 f20 f21 f22 f23
    obtain ⟨c00,c01,c02,c10,c11,c12,c20,c21,c22,c23,-⟩:=hcs9
    obtain ⟨f20,f21,f22,f23,-⟩:=hfs9
    obtain ⟨z0,z1,z2,-⟩:=hzs9
    have hs1:=hb1.size
    go_wp2_with fail
    refine (reduce_rw p q r x y z' k0 k1 k2 k3 _ (unhide HG) (unhide HE2)).mono ?_
    rintro en w2 ⟨rfl,hb2⟩
    have hcs9:=cells_calls hb2 [⟨w.heap.size,0,none⟩,⟨w.heap.size,1,none⟩,⟨w.heap.size,2,none⟩,⟨w.heap.size+1,0,none⟩,⟨w.heap.size+1,1,none⟩,⟨w.heap.size+1,2,none⟩,⟨w.heap.size+1+1,0,none⟩,⟨w.heap.size+1+1,1,none⟩,⟨w.heap.size+1+1,2,none⟩,⟨w.heap.size+1+1,3,none⟩,⟨w1.heap.size,0,none⟩,⟨w1.heap.size,1,none⟩,⟨w1.heap.size,2,none⟩,⟨w1.heap.size+1,0,none⟩,⟨w1.heap.size+1,1,none⟩,⟨w1.heap.size+1,2,none⟩,⟨w1.heap.size+1,3,none⟩] [.int .i64 a,.int .i64 b,.int .i64 c,.int .i64 p,.int .i64 q,.int .i64 r,.int .i64 0,.int .i64 0,.int .i64 0,.int .i64 0,.int .i64 x,.int .i64 y,.int .i64 z,.int .i64 m0,.int .i64 m1,.int .i64 m2,.int .i64 m3] (by refine ⟨?_,?_,?_,?_,?_,?_,?_,?_,?_,?_,?_,?_,?_,?_,?_,?_,?_,trivial⟩<;>exact byCT)
    have hfs9:=frees_calls hb2 [⟨w.heap.size+1+1,0,none⟩,⟨w.heap.size+1+1,1,none⟩,⟨w.heap.size+1+1,2,none⟩,⟨w.heap.size+1+1,3,none⟩] (by refine ⟨?_,?_,?_,?_,trivial⟩<;>first|with_reducible assumption|omega|(simp;omega)|(simp;done)) (by refine ⟨?_,?_,?_,?_,trivial⟩<;>exact byFT)
    have hzs9:=blocks_calls hb2 [w.heap.size,w.heap.size+1,w.heap.size+1+1,w1.heap.size,w1.heap.size+1] (by refine ⟨?_,?_,?_,?_,?_,trivial⟩<;>first|with_reducible assumption|omega|(simp;omega)|(simp;done))
    try clear c00 c01 c02
    try clear c10 c11 c12
    try clear c20 c21 c22 c23 f20 f21 f22 f23
    try clear c30 c31 c32
    try clear c40 c41 c42 c43
    obtain ⟨c00,c01,c02,c10,c11,c12,c20,c21,c22,c23,c30,c31,c32,c40,c41,c42,c43,-⟩:=hcs9
    obtain ⟨f20,f21,f22,f23,-⟩:=hfs9
    obtain ⟨z0,z1,z2,z3,z4,-⟩:=hzs9
    have hs2:=hb2.size
    go_wp2_with fail
    refine (Automorphs_c a b c x y z m0 m1 m2 m3 _ (unhide HA) (unhide HE1)).mono ?_
    rintro en w3 ⟨aT,cT,rfl,hMT,hb3⟩
    clear hMT
    have hcs9:=cells_calls hb3 [⟨w.heap.size,0,none⟩,⟨w.heap.size,1,none⟩,⟨w.heap.size,2,none⟩,⟨w.heap.size+1,0,none⟩,⟨w.heap.size+1,1,none⟩,⟨w.heap.size+1,2,none⟩,⟨w.heap.size+1+1,0,none⟩,⟨w.heap.size+1+1,1,none⟩,⟨w.heap.size+1+1,2,none⟩,⟨w.heap.size+1+1,3,none⟩,⟨w1.heap.size,0,none⟩,⟨w1.heap.size,1,none⟩,⟨w1.heap.size,2,none⟩,⟨w1.heap.size+1,0,none⟩,⟨w1.heap.size+1,1,none⟩,⟨w1.heap.size+1,2,none⟩,⟨w1.heap.size+1,3,none⟩,⟨w2.heap.size,0,none⟩,⟨w2.heap.size,1,none⟩,⟨w2.heap.size,2,none⟩,⟨w2.heap.size+1,0,none⟩,⟨w2.heap.size+1,1,none⟩,⟨w2.heap.size+1,2,none⟩,⟨w2.heap.size+1,3,none⟩] [.int .i64 a,.int .i64 b,.int .i64 c,.int .i64 p,.int .i64 q,.int .i64 r,.int .i64 0,.int .i64 0,.int .i64 0,.int .i64 0,.int .i64 x,.int .i64 y,.int .i64 z,.int .i64 m0,.int .i64 m1,.int .i64 m2,.int .i64 m3,.int .i64 x,.int .i64 y,.int .i64 z',.int .i64 k0,.int .i64 k1,.int .i64 k2,.int .i64 k3] (by refine ⟨?_,?_,?_,?_,?_,?_,?_,?_,?_,?_,?_,?_,?_,?_,?_,?_,?_,?_,?_,?_,?_,?_,?_,?_,trivial⟩<;>exact byCT)
    have hfs9:=frees_calls hb3 [⟨w.heap.size+1+1,0,none⟩,⟨w.heap.size+1+1,1,none⟩,⟨w.heap.size+1+1,2,none⟩,⟨w.heap.size+1+1,3,none⟩] (by refine ⟨?_,?_,?_,?_,trivial⟩<;>first|with_reducible assumption|omega|(simp;omega)|(simp;done)) (by refine ⟨?_,?_,?_,?_,trivial⟩<;>exact byFT)
    have hzs9:=blocks_calls hb3 [w.heap.size,w.heap.size+1,w.heap.size+1+1,w1.heap.size,w1.heap.size+1,w2.heap.size,w2.heap.size+1] (by refine ⟨?_,?_,?_,?_,?_,?_,?_,trivial⟩<;>first|with_reducible assumption|omega|(simp;omega)|(simp;done))
    try clear c00 c01 c02
    try clear c10 c11 c12
    try clear c20 c21 c22 c23 f20 f21 f22 f23
    try clear c30 c31 c32
    try clear c40 c41 c42 c43
    try clear c50 c51 c52
    try clear c60 c61 c62 c63
    obtain ⟨c00,c01,c02,c10,c11,c12,c20,c21,c22,c23,c30,c31,c32,c40,c41,c42,c43,c50,c51,c52,c60,c61,c62,c63,-⟩:=hcs9
    obtain ⟨f20,f21,f22,f23,-⟩:=hfs9
    obtain ⟨z0,z1,z2,z3,z4,z5,z6,-⟩:=hzs9
    have hs3:=hb3.size
    go_wp2
    refine bodyPost_ret (v:= .tuple #[.agg #[.int .i64 0,.int .i64 0,.int .i64 0,.int .i64 0],.bool false]) (by simp [results,Tryz.results21,go_sem, *]) rfl ?_
    exact ⟨by rw[unhide HR];rfl,byGG⟩
   ·clear hxy
    go_enter Tryz.func21,Tryz.ntmps21
    go_wp2_with fail
    refine (reduce_rw a b c x y z m0 m1 m2 m3 _ (unhide HF) (unhide HE1)).mono ?_
    rintro en w1 ⟨rfl,hb1⟩
    have hcs9:=cells_calls hb1 [⟨w.heap.size,0,none⟩,⟨w.heap.size,1,none⟩,⟨w.heap.size,2,none⟩,⟨w.heap.size+1,0,none⟩,⟨w.heap.size+1,1,none⟩,⟨w.heap.size+1,2,none⟩,⟨w.heap.size+1+1,0,none⟩,⟨w.heap.size+1+1,1,none⟩,⟨w.heap.size+1+1,2,none⟩,⟨w.heap.size+1+1,3,none⟩] [.int .i64 a,.int .i64 b,.int .i64 c,.int .i64 p,.int .i64 q,.int .i64 r,.int .i64 0,.int .i64 0,.int .i64 0,.int .i64 0] (by refine ⟨?_,?_,?_,?_,?_,?_,?_,?_,?_,?_,trivial⟩<;>exact byCT)
    have hfs9:=frees_calls hb1 [⟨w.heap.size+1+1,0,none⟩,⟨w.heap.size+1+1,1,none⟩,⟨w.heap.size+1+1,2,none⟩,⟨w.heap.size+1+1,3,none⟩] (by refine ⟨?_,?_,?_,?_,trivial⟩<;>first|with_reducible assumption|omega|(simp;omega)|(simp;done)) (by refine ⟨?_,?_,?_,?_,trivial⟩<;>exact byFT)
    have hzs9:=blocks_calls hb1 [w.heap.size,w.heap.size+1,w.heap.size+1+1] (by refine ⟨?_,?_,?_,trivial⟩<;>first|with_reducible assumption|omega|(simp;omega)|(simp;done))
    try clear c00 c01 c02
    try clear c10 c11 c12
    try clear c20 c21 c22 c23 f20 f21 f22 f23
    obtain ⟨c00,c01,c02,c10,c11,c12,c20,c21,c22,c23,-⟩:=hcs9
    obtain ⟨f20,f21,f22,f23,-⟩:=hfs9
    obtain ⟨z0,z1,z2,-⟩:=hzs9
    have hs1:=hb1.size
    go_wp2_with fail
    refine (reduce_rw p q r x y' z' k0 k1 k2 k3 _ (unhide HG) (unhide HE2)).mono ?_
    rintro en w2 ⟨rfl,hb2⟩
    have hcs9:=cells_calls hb2 [⟨w.heap.size,0,none⟩,⟨w.heap.size,1,none⟩,⟨w.heap.size,2,none⟩,⟨w.heap.size+1,0,none⟩,⟨w.heap.size+1,1,none⟩,⟨w.heap.size+1,2,none⟩,⟨w.heap.size+1+1,0,none⟩,⟨w.heap.size+1+1,1,none⟩,⟨w.heap.size+1+1,2,none⟩,⟨w.heap.size+1+1,3,none⟩,⟨w1.heap.size,0,none⟩,⟨w1.heap.size,1,none⟩,⟨w1.heap.size,2,none⟩,⟨w1.heap.size+1,0,none⟩,⟨w1.heap.size+1,1,none⟩,⟨w1.heap.size+1,2,none⟩,⟨w1.heap.size+1,3,none⟩] [.int .i64 a,.int .i64 b,.int .i64 c,.int .i64 p,.int .i64 q,.int .i64 r,.int .i64 0,.int .i64 0,.int .i64 0,.int .i64 0,.int .i64 x,.int .i64 y,.int .i64 z,.int .i64 m0,.int .i64 m1,.int .i64 m2,.int .i64 m3] (by refine ⟨?_,?_,?_,?_,?_,?_,?_,?_,?_,?_,?_,?_,?_,?_,?_,?_,?_,trivial⟩<;>exact byCT)
    have hfs9:=frees_calls hb2 [⟨w.heap.size+1+1,0,none⟩,⟨w.heap.size+1+1,1,none⟩,⟨w.heap.size+1+1,2,none⟩,⟨w.heap.size+1+1,3,none⟩] (by refine ⟨?_,?_,?_,?_,trivial⟩<;>first|with_reducible assumption|omega|(simp;omega)|(simp;done)) (by refine ⟨?_,?_,?_,?_,trivial⟩<;>exact byFT)
    have hzs9:=blocks_calls hb2 [w.heap.size,w.heap.size+1,w.heap.size+1+1,w1.heap.size,w1.heap.size+1] (by refine ⟨?_,?_,?_,?_,?_,trivial⟩<;>first|with_reducible assumption|omega|(simp;omega)|(simp;done))
    try clear c00 c01 c02
    try clear c10 c11 c12
    try clear c20 c21 c22 c23 f20 f21 f22 f23
    try clear c30 c31 c32
    try clear c40 c41 c42 c43
    obtain ⟨c00,c01,c02,c10,c11,c12,c20,c21,c22,c23,c30,c31,c32,c40,c41,c42,c43,-⟩:=hcs9
    obtain ⟨f20,f21,f22,f23,-⟩:=hfs9
    obtain ⟨z0,z1,z2,z3,z4,-⟩:=hzs9
    have hs2:=hb2.size
    go_wp2_with fail
    refine (Automorphs_c a b c x y z m0 m1 m2 m3 _ (unhide HA) (unhide HE1)).mono ?_
    rintro en w3 ⟨aT,cT,rfl,hMT,hb3⟩
    clear hMT
    have hcs9:=cells_calls hb3 [⟨w.heap.size,0,none⟩,⟨w.heap.size,1,none⟩,⟨w.heap.size,2,none⟩,⟨w.heap.size+1,0,none⟩,⟨w.heap.size+1,1,none⟩,⟨w.heap.size+1,2,none⟩,⟨w.heap.size+1+1,0,none⟩,⟨w.heap.size+1+1,1,none⟩,⟨w.heap.size+1+1,2,none⟩,⟨w.heap.size+1+1,3,none⟩,⟨w1.heap.size,0,none⟩,⟨w1.heap.size,1,none⟩,⟨w1.heap.size,2,none⟩,⟨w1.heap.size+1,0,none⟩,⟨w1.heap.size+1,1,none⟩,⟨w1.heap.size+1,2,none⟩,⟨w1.heap.size+1,3,none⟩,⟨w2.heap.size,0,none⟩,⟨w2.heap.size,1,none⟩,⟨w2.heap.size,2,none⟩,⟨w2.heap.size+1,0,none⟩,⟨w2.heap.size+1,1,none⟩,⟨w2.heap.size+1,2,none⟩,⟨w2.heap.size+1,3,none⟩] [.int .i64 a,.int .i64 b,.int .i64 c,.int .i64 p,.int .i64 q,.int .i64 r,.int .i64 0,.int .i64 0,.int .i64 0,.int .i64 0,.int .i64 x,.int .i64 y,.int .i64 z,.int .i64 m0,.int .i64 m1,.int .i64 m2,.int .i64 m3,.int .i64 x,.int .i64 y',.int .i64 z',.int .i64 k0,.int .i64 k1,.int .i64 k2,.int .i64 k3] (by refine ⟨?_,?_,?_,?_,?_,?_,?_,?_,?_,?_,?_,?_,?_,?_,?_,?_,?_,?_,?_,?_,?_,?_,?_,?_,trivial⟩<;>exact byCT)
    have hfs9:=frees_calls hb3 [⟨w.heap.size+1+1,0,none⟩,⟨w.heap.size+1+1,1,none⟩,⟨w.heap.size+1+1,2,none⟩,⟨w.heap.size+1+1,3,none⟩] (by refine ⟨?_,?_,?_,?_,trivial⟩<;>first|with_reducible assumption|omega|(simp;omega)|(simp;done)) (by refine ⟨?_,?_,?_,?_,trivial⟩<;>exact byFT)
    have hzs9:=blocks_calls hb3 [w.heap.size,w.heap.size+1,w.heap.size+1+1,w1.heap.size,w1.heap.size+1,w2.heap.size,w2.heap.size+1] (by refine ⟨?_,?_,?_,?_,?_,?_,?_,trivial⟩<;>first|with_reducible assumption|omega|(simp;omega)|(simp;done))
    try clear c00 c01 c02
    try clear c10 c11 c12
    try clear c20 c21 c22 c23 f20 f21 f22 f23
    try clear c30 c31 c32
    try clear c40 c41 c42 c43
    try clear c50 c51 c52
    try clear c60 c61 c62 c63
    obtain ⟨c00,c01,c02,c10,c11,c12,c20,c21,c22,c23,c30,c31,c32,c40,c41,c42,c43,c50,c51,c52,c60,c61,c62,c63,-⟩:=hcs9
    obtain ⟨f20,f21,f22,f23,-⟩:=hfs9
    obtain ⟨z0,z1,z2,z3,z4,z5,z6,-⟩:=hzs9
    have hs3:=hb3.size
    go_wp2
    refine bodyPost_ret (v:= .tuple #[.agg #[.int .i64 0,.int .i64 0,.int .i64 0,.int .i64 0],.bool false]) (by simp [results,Tryz.results21,go_sem, *]) rfl ?_
    exact ⟨by rw[unhide HR];rfl,byGG⟩
  ·clear hxy
   go_enter Tryz.func21,Tryz.ntmps21
   go_wp2_with fail
   refine (reduce_rw a b c x y z m0 m1 m2 m3 _ (unhide HF) (unhide HE1)).mono ?_
   rintro en w1 ⟨rfl,hb1⟩
   have hcs9:=cells_calls hb1 [⟨w.heap.size,0,none⟩,⟨w.heap.size,1,none⟩,⟨w.heap.size,2,none⟩,⟨w.heap.size+1,0,none⟩,⟨w.heap.size+1,1,none⟩,⟨w.heap.size+1,2,none⟩,⟨w.heap.size+1+1,0,none⟩,⟨w.heap.size+1+1,1,none⟩,⟨w.heap.size+1+1,2,none⟩,⟨w.heap.size+1+1,3,none⟩] [.int .i64 a,.int .i64 b,.int .i64 c,.int .i64 p,.int .i64 q,.int .i64 r,.int .i64 0,.int .i64 0,.int .i64 0,.int .i64 0] (by refine ⟨?_,?_,?_,?_,?_,?_,?_,?_,?_,?_,trivial⟩<;>exact byCT)
   have hfs9:=frees_calls hb1 [⟨w.heap.size+1+1,0,none⟩,⟨w.heap.size+1+1,1,none⟩,⟨w.heap.size+1+1,2,none⟩,⟨w.heap.size+1+1,3,none⟩] (by refine ⟨?_,?_,?_,?_,trivial⟩<;>first|with_reducible assumption|omega|(simp;omega)|(simp;done)) (by refine ⟨?_,?_,?_,?_,trivial⟩<;>exact byFT)
   have hzs9:=blocks_calls hb1 [w.heap.size,w.heap.size+1,w.heap.size+1+1] (by refine ⟨?_,?_,?_,trivial⟩<;>first|with_reducible assumption|omega|(simp;omega)|(simp;done))
   try clear c00 c01 c02
   try clear c10 c11 c12
   try clear c20 c21 c22 c23 f20 f21 f22 f23
   obtain ⟨c00,c01,c02,c10,c11,c12,c20,c21,c22,c23,-⟩:=hcs9
   obtain ⟨f20,f21,f22,f23,-⟩:=hfs9
   obtain ⟨z0,z1,z2,-⟩:=hzs9
   have hs1:=hb1.size
   go_wp2_with fail
   refine (reduce_rw p q r x' y' z' k0 k1 k2 k3 _ (unhide HG) (unhide HE2)).mono ?_
   rintro en w2 ⟨rfl,hb2⟩
   have hcs9:=cells_calls hb2 [⟨w.heap.size,0,none⟩,⟨w.heap.size,1,none⟩,⟨w.heap.size,2,none⟩,⟨w.heap.size+1,0,none⟩,⟨w.heap.size+1,1,none⟩,⟨w.heap.size+1,2,none⟩,⟨w.heap.size+1+1,0,none⟩,⟨w.heap.size+1+1,1,none⟩,⟨w.heap.size+1+1,2,none⟩,⟨w.heap.size+1+1,3,none⟩,⟨w1.heap.size,0,none⟩,⟨w1.heap.size,1,none⟩,⟨w1.heap.size,2,none⟩,⟨w1.heap.size+1,0,none⟩,⟨w1.heap.size+1,1,none⟩,⟨w1.heap.size+1,2,none⟩,⟨w1.heap.size+1,3,none⟩] [.int .i64 a,.int .i64 b,.int .i64 c,.int .i64 p,.int .i64 q,.int .i64 r,.int .i64 0,.int .i64 0,.int .i64 0,.int .i64 0,.int .i64 x,.int .i64 y,.int .i64 z,.int .i64 m0,.int .i64 m1,.int .i64 m2,.int .i64 m3] (by refine ⟨?_,?_,?_,?_,?_,?_,?_,?_,?_,?_,?_,?_,?_,?_,?_,?_,?_,trivial⟩<;>exact byCT)
   have hfs9:=frees_calls hb2 [⟨w.heap.size+1+1,0,none⟩,⟨w.heap.size+1+1,1,none⟩,⟨w.heap.size+1+1,2,none⟩,⟨w.heap.size+1+1,3,none⟩] (by refine ⟨?_,?_,?_,?_,trivial⟩<;>first|with_reducible assumption|omega|(simp;omega)|(simp;done)) (by refine ⟨?_,?_,?_,?_,trivial⟩<;>exact byFT)
   have hzs9:=blocks_calls hb2 [w.heap.size,w.heap.size+1,w.heap.size+1+1,w1.heap.size,w1.heap.size+1] (by refine ⟨?_,?_,?_,?_,?_,trivial⟩<;>first|with_reducible assumption|omega|(simp;omega)|(simp;done))
   try clear c00 c01 c02
   try clear c10 c11 c12
   try clear c20 c21 c22 c23 f20 f21 f22 f23
   try clear c30 c31 c32
   try clear c40 c41 c42 c43
   obtain ⟨c00,c01,c02,c10,c11,c12,c20,c21,c22,c23,c30,c31,c32,c40,c41,c42,c43,-⟩:=hcs9
   obtain ⟨f20,f21,f22,f23,-⟩:=hfs9
   obtain ⟨z0,z1,z2,z3,z4,-⟩:=hzs9
   have hs2:=hb2.size
   go_wp2_with fail
   refine (Automorphs_c a b c x y z m0 m1 m2 m3 _ (unhide HA) (unhide HE1)).mono ?_
   rintro en w3 ⟨aT,cT,rfl,hMT,hb3⟩
   clear hMT
   have hcs9:=cells_calls hb3 [⟨w.heap.size,0,none⟩,⟨w.heap.size,1,none⟩,⟨w.heap.size,2,none⟩,⟨w.heap.size+1,0,none⟩,⟨w.heap.size+1,1,none⟩,⟨w.heap.size+1,2,none⟩,⟨w.heap.size+1+1,0,none⟩,⟨w.heap.size+1+1,1,none⟩,⟨w.heap.size+1+1,2,none⟩,⟨w.heap.size+1+1,3,none⟩,⟨w1.heap.size,0,none⟩,⟨w1.heap.size,1,none⟩,⟨w1.heap.size,2,none⟩,⟨w1.heap.size+1,0,none⟩,⟨w1.heap.size+1,1,none⟩,⟨w1.heap.size+1,2,none⟩,⟨w1.heap.size+1,3,none⟩,⟨w2.heap.size,0,none⟩,⟨w2.heap.size,1,none⟩,⟨w2.heap.size,2,none⟩,⟨w2.heap.size+1,0,none⟩,⟨w2.heap.size+1,1,none⟩,⟨w2.heap.size+1,2,none⟩,⟨w2.heap.size+1,3,none⟩] [.int .i64 a,.int .i64 b,.int .i64 c,.int .i64 p,.int .i64 q,.int .i64 r,.int .i64 0,.int .i64 0,.int .i64 0,.int .i64 0,.int .i64 x,.int .i64 y,.int .i64 z,.int .i64 m0,.int .i64 m1,.int .i64 m2,.int .i64 m3,.int .i64 x',.int .i64 y',.int .i64 z',.int .i64 k0,.int .i64 k1,.int .i64 k2,.int .i64 k3] (by refine ⟨?_,?_,?_,?_,?_,?_,?_,?_,?_,?_,?_,?_,?_,?_,?_,?_,?_,?_,?_,?_,?_,?_,?_,?_,trivial⟩<;>exact byCT)
   have hfs9:=frees_calls hb3 [⟨w.heap.size+1+1,0,none⟩,⟨w.heap.size+1+1,1,none⟩,⟨w.heap.size+1+1,2,none⟩,⟨w.heap.size+1+1,3,none⟩] (by refine ⟨?_,?_,?_,?_,trivial⟩<;>first|with_reducible assumption|omega|(simp;omega)|(simp;done)) (by refine ⟨?_,?_,?_,?_,trivial⟩<;>exact byFT)
   have hzs9:=blocks_calls hb3 [w.heap.size,w.heap.size+1,w.heap.size+1+1,w1.heap.size,w1.heap.size+1,w2.heap.size,w2.heap.size+1] (by refine ⟨?_,?_,?_,?_,?_,?_,?_,trivial⟩<;>first|with_reducible assumption|omega|(simp;omega)|(simp;done))
   try clear c00 c01 c02
   try clear c10 c11 c12
   try clear c20 c21 c22 c23 f20 f21 f22 f23
   try clear c30 c31 c32
   try clear c40 c41 c42 c43
   try clear c50 c51 c52
   try clear c60 c61 c62 c63
   obtain ⟨c00,c01,c02,c10,c11,c12,c20,c21,c22,c23,c30,c31,c32,c40,c41,c42,c43,c50,c51,c52,c60,c61,c62,c63,-⟩:=hcs9
   obtain ⟨f20,f21,f22,f23,-⟩:=hfs9
   obtain ⟨z0,z1,z2,z3,z4,z5,z6,-⟩:=hzs9
   have hs3:=hb3.size
   go_wp2
   refine bodyPost_ret (v:= .tuple #[.agg #[.int .i64 0,.int .i64 0,.int .i64 0,.int .i64 0],.bool false]) (by simp [results,Tryz.results21,go_sem, *]) rfl ?_
   exact ⟨by rw[unhide HR];rfl,byGG⟩
end Go.Proofs.YtobkcnmlmmhpoaaGreat
