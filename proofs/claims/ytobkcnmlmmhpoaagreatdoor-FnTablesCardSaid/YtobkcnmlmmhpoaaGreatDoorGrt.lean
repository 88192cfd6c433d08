/- The values of a class: genusValues, chOf. The forms of a genus: genusWith. The class group in memory: groupOf. The class group in memory: times. -/
import Derived.Test.YtobkcnmlmmhpoaaGreatDoorPtg
import Derived.Test.YtobkcnmlmmhpoaaGreatDoorFpg
import Derived.Test.YtobkcnmlmmhpoaaGreatDoorCmpI
import Derived.Test.YtobkcnmlmmhpoaaGreatDoorGp
import Derived.Deep.RegionWith
import Derived.Test.YtobkcnmlmmhpoaaGreatDoorFaw
import Derived.Test.YtobkcnmlmmhpoaaGreatDoorRfl
import Derived.Test.YtobkcnmlmmhpoaaGreatDoorOwn
set_option maxRecDepth 100000
set_option maxHeartbeats 80000000
namespace Go.Proofs.YtobkcnmlmmhpoaaGreatDoor
open Go.RowKit
set_option linter.unusedVariables false
set_option linter.unusedSimpArgs false
attribute [local go_sem] q2 q3 q4 q5 q6 q7 q8 q9 q10 q11 q12

theorem sqn (z:Int):0≤z*z:=by
 rcases Int.le_total 0 z with h|h
 ·exact Int.mul_nonneg h h
 ·have:=Int.mul_nonneg (show 0≤ -z by omega) (show 0≤ -z by omega)
  rw[Int.neg_mul_neg] at this;exact this
theorem first_ex {a b c m:Int} (h1: -4000≤m) (h2:m≤ -2) (hp:Prim a b c): ∃k x y,IsFirst a b c m k x y:=by
 obtain ⟨x',y',hx',hy',hg,hv⟩:=point_ex hp (m:=m.natAbs) Vn
 have h3:hitB a b c m (max x' y') x' y'=true:=by
  have hv2:Int.gcd (valI a b c x' y') m=1:=by
   rw[←hv];unfold valI
   show _=Nat.gcd _ _
   rfl
  simp [hitB,igcd,hv2];omega
 obtain ⟨k,⟨x1,y1,hx1,hy1,hh⟩,hk⟩:=least (P:=fun k=> ∃x y,x≤k∧y≤k∧hitB a b c m k x y=true) ⟨max x' y',x',y',Vn,Vn,h3⟩
 obtain ⟨x,⟨y2,hy2,hh2⟩,hx⟩:=least (P:=fun x=> ∃y,y≤k∧hitB a b c m k x y=true) ⟨x1,y1,hy1,hh⟩
 obtain ⟨y,hh3,hy⟩:=least (P:=fun y=>hitB a b c m k x y=true) ⟨y2,hh2⟩
 have hmx:=(hit_facts hh3).1
 have nf: ∀b:Bool,¬b=true→b=false:=fun b h=>by cases b<;>simp at h ⊢
 exact ⟨k,x,y,hh3,Vn,Vn,fun k' h' x' y' hx' hy'=>nf _ (fun q=>hk k' h' ⟨x',y',hx',hy',q⟩),fun x' h' y' hy'=>nf _ (fun q=>hx x' h' ⟨y',hy',q⟩),fun y' h'=>nf _ (hy y' h')⟩
theorem val_pos {a b c x y:Int} (a0:0<a) (hd:discI a b c<0):0≤valI a b c x y:=by
 have h1:4*a*valI a b c x y=(2*a*x+b*y)*(2*a*x+b*y)+(-discI a b c)*(y*y):=by unfold valI discI;grind
 have h2:0≤(2*a*x+b*y)*(2*a*x+b*y):=sqn _
 have h3:0≤(-discI a b c)*(y*y):=Int.mul_nonneg Vn (sqn _)
 rcases Int.lt_or_le (valI a b c x y) 0 with q|q
 ·have:=Int.mul_neg_of_pos_of_neg (show 0<4*a by omega) q
  omega
 ·exact q
noncomputable def fvI (a b c:Int):Int:=open Classical in if h: ∃v,∃k x y:Nat,IsFirst a b c (2*discI a b c) k x y∧v=valI a b c x y then h.choose else 0
theorem fv_is {a b c:Int} {k x y:Nat} (h:IsFirst a b c (2*discI a b c) k x y):valI a b c x y=fvI a b c:=by
 have hx: ∃v,∃k x y:Nat,IsFirst a b c (2*discI a b c) k x y∧v=valI a b c x y:=⟨_,k,x,y,h,rfl⟩
 have e:fvI a b c=hx.choose:=by unfold fvI;rw [dif_pos hx]
 obtain ⟨k',x',y',h',hv⟩:=hx.choose_spec
 obtain ⟨rfl,rfl,rfl⟩:=h.same h'
 rw[e,hv]
theorem fv_ok {a b c d:Int} {k x y:Nat} (h0:RedC a b c) (hd:discI a b c=d) (d0: -2000≤d) (d1:d≤ -3) (h:IsFirst a b c (2*d) k x y):x≤4000∧y≤4000∧1≤valI a b c x y∧valI a b c x y≤1000000000000∧valI a b c x y%2=1:=by
 have hk:=sz_le_g Vn Vn h0.cls.pr h.sizes
 have h1:=h.xk
 have h2:=h.yk
 obtain ⟨v0,v1⟩:=val_g (x:=x) (y:=y) h0 Vn Vn
 have hp:=val_pos (x:=x) (y:=y) (b:=b) h0.cls.ok.a0 (by rw[hd];omega)
 obtain ⟨f1,f2,f3⟩:=hit_facts h.hit
 have ho:valI a b c x y%2=1:=by
  rcases (show valI a b c x y%2=0∨valI a b c x y%2=1 by omega) with e|e
  ·have q:(2:Int)∣((Int.gcd (valI a b c x y) (2*d):Nat):Int):=Int.dvd_coe_gcd (Int.dvd_of_emod_eq_zero e) (Int.dvd_mul_right _ _)
   rw[f3] at q;omega
  ·exact e
 omega
noncomputable def gvL (F:Int × Int × Int):List Int:=vlL (discI F.1 F.2.1 F.2.2) (fvI F.1 F.2.1 F.2.2)

theorem genusValues_a (a b c d:Int) (w:World) (h0:RedC a b c) (hd:negB d=true) (hdd:discI a b c=d):
  Calls Tryz.prog 76 #[.agg #[.int .i64 a,.int .i64 b,.int .i64 c]] w (RetIL w (gvL (a,b,c))):=by
 obtain ⟨d0,d1⟩:=neg_true hd
 have hf:=red_form h0
 have hS:=h0.same
 have HG:Hid (gvL (a,b,c)=vlL d (fvI a b c)):=hide (by unfold gvL;rw [hdd])
 obtain ⟨G,hG⟩: ∃G,gvL (a,b,c)=G:=⟨_,rfl⟩
 rw[hG]
 have HG:Hid (vlL d (fvI a b c)=G):=hide (by rw[←hG];exact (unhide HG).symm)
 clear hG
 have HR: ∀W,Calls Tryz.prog 98 #[.agg #[.int .i64 a,.int .i64 b,.int .i64 c]] W fun e w'=>e= .returned (.agg #[.int .i64 a,.int .i64 b,.int .i64 c])∧Below W.heap.size W w':=fun W=>reduced_rw a b c a b c h0.cls.ok (by unfold rfA;rw [hS]) (by unfold rfB;rw [hS]) (by unfold rfC;rw [hS]) W
 have HR:=hide HR
 have HF: ∀(W:World) (k x y:Nat),IsFirst a b c (2*d) k x y→Calls Tryz.prog 101 #[.int .i64 d,.int .i64 (valI a b c (x:Int) (y:Int))] W (RetIL W G):=fun W k x y h=>by
  obtain ⟨v1,v2,v3,v4,v5⟩:=fv_ok h0 hdd d0 d1 h
  have:=valuesAt_a d (valI a b c x y) W hd v3 v4 v5
  rw[fv_is (by rw[hdd];exact h),unhide HG] at this
  rw[fv_is (by rw[hdd];exact h)]
  exact this
 have HF:=hide HF
 have HA: ∀(W:World) (k x y:Nat),IsFirst a b c (2*d) k x y→Calls Tryz.prog 102 #[.agg #[.int .i64 a,.int .i64 b,.int .i64 c],.int .i64 (x:Int),.int .i64 (y:Int)] W fun e w'=>e= .returned (.int .i64 (valI a b c (x:Int) (y:Int)))∧Below W.heap.size W w':=fun W k x y h=>by
  obtain ⟨v1,v2,v3,v4,v5⟩:=fv_ok h0 hdd d0 d1 h
  exact at_a a b c x y W (at_g h0 Vn Vn)
 have HA:=hide HA
 have HD: ∀(W:World),Calls Tryz.prog 99 #[.agg #[.int .i64 a,.int .i64 b,.int .i64 c]] W fun e w'=>e= .returned (.int .i64 d)∧Below W.heap.size W w':=fun W=>by
  have:=disc_a a b c W hf;rw [hdd] at this;exact this
 have HD:=hide HD
 have hd2:2*d≤ -2:=by omega
 have hd3: -4000≤2*d:=by omega
 clear hdd hS
 go_enter Tryz.func76,Tryz.ntmps76
 go_wp2_with fail
 refine ((unhide HR) _).mono ?_
 rintro e w2 ⟨rfl,hb2⟩
 have hs2:=hb2.size
 simp only[World.size_alloc] at hs2
 go_wp2_with fail
 refine ((unhide HD) _).mono ?_
 rintro e w3 ⟨rfl,hb3⟩
 have tq0:=Ri3.c hb3 w2.heap.size a b c
 obtain ⟨c00,c01,c02,z0⟩:=tq0
 have hs3:=hb3.size
 simp only[World.size_alloc] at hs3
 go_wp2_with fail
 refine (firstPoint_g a b c (2*d) _ h0 hd3 hd2).mono ?_
 rintro e w4 ⟨k,x,y,rfl,hF,hb4⟩
 have tq0:=Ri3.c hb4 w2.heap.size a b c
 clear c00 c01 c02 z0
 obtain ⟨c00,c01,c02,z0⟩:=tq0
 have hs4:=hb4.size
 go_wp2_with fail
 refine ((unhide HA) _ k x y hF).mono ?_
 rintro e w5 ⟨rfl,hb5⟩
 have hs5:=hb5.size
 go_wp2_with fail
 refine ((unhide HF) _ k x y hF).mono ?_
 rintro e w6 ⟨a6,c6,rfl,hl6,hb6⟩
 have hs6:=hb6.size
 go_wp2
 go_ret
 exact ⟨a6,c6,rfl,hl6.raise Vn,byGG⟩

theorem chOf_a (a b c d:Int) (w:World) (h0:RedC a b c) (hd:negB d=true) (hdd:discI a b c=d):
  Calls Tryz.prog 83 #[.agg #[.int .i64 a,.int .i64 b,.int .i64 c]] w (RetIL w (gvL (a,b,c))):=by
 obtain ⟨d0,d1⟩:=neg_true hd
 have hf:=red_form h0
 have hS:=h0.same
 have HG:Hid (gvL (a,b,c)=vlL d (fvI a b c)):=hide (by unfold gvL;rw [hdd])
 obtain ⟨G,hG⟩: ∃G,gvL (a,b,c)=G:=⟨_,rfl⟩
 rw[hG]
 have HG:Hid (vlL d (fvI a b c)=G):=hide (by rw[←hG];exact (unhide HG).symm)
 clear hG
 have HR: ∀W,Calls Tryz.prog 113 #[.agg #[.int .i64 a,.int .i64 b,.int .i64 c]] W fun e w'=>e= .returned (.agg #[.int .i64 a,.int .i64 b,.int .i64 c])∧Below W.heap.size W w':=fun W=>reClass_rw a b c a b c h0.cls.ok ⟨by unfold rfA;rw [hS],by unfold rfB;rw [hS],by unfold rfC;rw [hS]⟩ W
 have HR:=hide HR
 have HV: ∀(W:World),Calls Tryz.prog 112 #[.agg #[.int .i64 a,.int .i64 b,.int .i64 c]] W fun e w'=>e= .returned (.int .i64 (fvI a b c))∧Below W.heap.size W w':=fun W=>(chValue_g a b c d W h0 hdd d0 d1).mono fun e w' ⟨k,x,y,he,hF,hb⟩=>⟨by rw[←fv_is (by rw[hdd];exact hF)];exact he,hb⟩
 have HV:=hide HV
 have HX: ∃k x y:Nat,IsFirst a b c (2*d) k x y:=by
  exact first_ex Vn Vn h0.cls.pr
 have HF: ∀(W:World),Calls Tryz.prog 111 #[.int .i64 d,.int .i64 (fvI a b c)] W (RetIL W G):=fun W=>by
  obtain ⟨k,x,y,h⟩:=HX
  obtain ⟨v1,v2,v3,v4,v5⟩:=fv_ok h0 hdd d0 d1 h
  have:=chList_a d (valI a b c x y) W hd v3 v4 v5
  rw[fv_is (by rw[hdd];exact h),unhide HG] at this
  exact this
 have HF:=hide HF
 have HD: ∀(W:World),Calls Tryz.prog 108 #[.agg #[.int .i64 a,.int .i64 b,.int .i64 c]] W fun e w'=>e= .returned (.int .i64 d)∧Below W.heap.size W w':=fun W=>by
  have:=foDisc_a a b c W hf;rw [hdd] at this;exact this
 have HD:=hide HD
 clear hdd hS HX
 generalize fvI a b c=v at*
 go_enter Tryz.func83,Tryz.ntmps83
 go_wp2
 go_region_with (first|(go_at_call 113;refine ((unhide HR) _).mono ?_;rintro e w2 ⟨rfl,hb2⟩;have c00:=cell_call hb2 (a:=⟨w.heap.size,0,none⟩) (v:= .int .i64 a) Vq;have c01:=cell_call hb2 (a:=⟨w.heap.size,1,none⟩) (v:= .int .i64 b) Vq;have c02:=cell_call hb2 (a:=⟨w.heap.size,2,none⟩) (v:= .int .i64 c) Vq;have hsz:=hb2.size;(try simp only[World.size_alloc] at hsz))|(go_at_call 108;refine ((unhide HD) _).mono ?_;rintro e w3 ⟨rfl,hb3⟩;have c00:=cell_call hb3 (a:=⟨w.heap.size,0,none⟩) (v:= .int .i64 a) Vq;have c01:=cell_call hb3 (a:=⟨w.heap.size,1,none⟩) (v:= .int .i64 b) Vq;have c02:=cell_call hb3 (a:=⟨w.heap.size,2,none⟩) (v:= .int .i64 c) Vq;have hsz:=hb3.size;(try simp only[World.size_alloc] at hsz))|(go_at_call 112;refine ((unhide HV) _).mono ?_;rintro e w4 ⟨rfl,hb4⟩;have c00:=cell_call hb4 (a:=⟨w.heap.size,0,none⟩) (v:= .int .i64 a) Vq;have c01:=cell_call hb4 (a:=⟨w.heap.size,1,none⟩) (v:= .int .i64 b) Vq;have c02:=cell_call hb4 (a:=⟨w.heap.size,2,none⟩) (v:= .int .i64 c) Vq;have hsz:=hb4.size;(try simp only[World.size_alloc] at hsz))|(go_at_call 111;refine ((unhide HF) _).mono ?_;rintro e w6 ⟨a6,c6,rfl,hl6,hb6⟩))
 all_goals
  go_wp2
  go_ret
  refine ⟨a6,c6,rfl,hl6.raise (Below.size (B:=w.heap.size) ?_),?_⟩<;>exact byGG
end Go.Proofs.YtobkcnmlmmhpoaaGreatDoor
namespace Go.Proofs.YtobkcnmlmmhpoaaGreatDoor
open Go.RowKit
set_option linter.unusedVariables false
set_option linter.unusedSimpArgs false
attribute [local go_sem] q2 q3 q4 q5 q6 q7 q8 q9 q10 q11 q12

noncomputable def gwK (fs:List (Int × Int × Int)) (vs:List Int) (k:Nat):List (Int × Int × Int):=flN (fun i=>decide (gvL (fs.getD i (0,0,0))=vs)) (fun i=>fs.getD i (0,0,0)) k
theorem gw_len (fs:List (Int × Int × Int)) (vs:List Int) (k:Nat):(gwK fs vs k).length≤k:=flN_len _ _ _
theorem gw_head {fs:List (Int × Int × Int)} {vs:List Int} : ∀{k:Nat},(∃i,i<k∧gvL (fs.getD i (0,0,0))=vs)→ ∃j,j<k∧gvL (fs.getD j (0,0,0))=vs∧(∀i,i<j→gvL (fs.getD i (0,0,0))≠vs)∧0<(gwK fs vs k).length∧(gwK fs vs k).getD 0 (0,0,0)=fs.getD j (0,0,0)
 |0,h=>by obtain ⟨i,hi,_⟩:=h;omega
 |k+1,h=>by
  by_cases q: ∃i,i<k∧gvL (fs.getD i (0,0,0))=vs
  ·obtain ⟨j,h1,h2,h3,h4,h5⟩:=gw_head q
   refine ⟨j,Vn,h2,h3,?_,?_⟩<;>unfold gwK at h4 h5 ⊢ <;>rw[flN]<;>split
   ·rw [List.length_append];omega
   ·exact h4
   ·rw [List.getD_eq_getElem?_getD,List.getElem?_append_left h4,←List.getD_eq_getElem?_getD];exact h5
   ·exact h5
  ·obtain ⟨i,hi,he⟩:=h
   obtain rfl:i=k:=by
    by_cases e:i=k
    ·exact e
    ·exact absurd ⟨i,Vn,he⟩ q
   have hnil:flN (fun i=>decide (gvL (fs.getD i (0,0,0))=vs)) (fun i=>fs.getD i (0,0,0)) i= []:=by
    rw[List.eq_nil_iff_forall_not_mem]
    intro x hx
    obtain ⟨j,hj,hp,_⟩:=flN_mem hx
    exact q ⟨j,hj,by simpa using hp⟩
   refine ⟨i,Vn,he,fun j hj hje=>q ⟨j,hj,hje⟩,?_,?_⟩<;>unfold gwK<;>rw[flN,if_pos (by simpa using he),hnil]<;>simp
theorem gw_yes {fs:List (Int × Int × Int)} {vs:List Int} {k:Nat} {x:Int × Int × Int} (hx:fs.getD k (0,0,0)=x) (h:gvL x=vs):gwK fs vs (k+1)=gwK fs vs k++ [x]:=by
 subst hx;exact flN_yes (p:=fun i=>decide (gvL (fs.getD i (0,0,0))=vs)) W6
theorem gw_no {fs:List (Int × Int × Int)} {vs:List Int} {k:Nat} {x:Int × Int × Int} (hx:fs.getD k (0,0,0)=x) (h: ¬gvL x=vs):gwK fs vs (k+1)=gwK fs vs k:=by
 subst hx;exact flN_no (p:=fun i=>decide (gvL (fs.getD i (0,0,0))=vs)) W6
theorem gvL_len {d:Int} {F:Int × Int × Int} (h0: -2000≤d) (h1:d≤ -3) (hd:discI F.1 F.2.1 F.2.2=d):(gvL F).length≤2002:=by
 unfold gvL vlL;rw [List.length_map,hd];exact chL_len h0 h1
theorem rf_at {d:Int} (hd:negB d=true) {k:Nat} (hk:k<(rfL d).length):RedC ((rfL d).getD k (0,0,0)).1 ((rfL d).getD k (0,0,0)).2.1 ((rfL d).getD k (0,0,0)).2.2∧discI ((rfL d).getD k (0,0,0)).1 ((rfL d).getD k (0,0,0)).2.1 ((rfL d).getD k (0,0,0)).2.2=d:=by
 obtain ⟨h1,h2⟩:=rf_in hd (gdm (d:=(0,0,0)) hk)
 exact ⟨h2,h1.d⟩

theorem genusWith_a (d:Int) (vs:List Int) (av:Option Addr) (nv cv lv uv:Nat) (w:World) (hd:negB d=true) (ev:Hid (nv=vs.length)) (hiv:uv≤w.heap.size) (hv:IntsAt w lv uv av nv (fun i=>vs.getD i 0)) (hnv:nv≤1000000000):
  Calls Tryz.prog 75 #[.int .i64 d,.slice av nv cv] w (RetFL w (gwK (rfL d) vs (rfL d).length)):=by
 obtain ⟨d0,d1⟩:=neg_true hd
 have HLen:=rfL_len d0 d1
 have HRF:=fun k hk=>rf_at hd (k:=k) hk
 have HND:=rf_nodup d
 have HC: ∀W,Calls Tryz.prog 42 #[.int .i64 d] W (RetFL W (rfL d)):=fun W=>reducedForms_a d W d0 d1
 have HC:=hide HC
 generalize rfL d=fs at*
 go_enter Tryz.func75,Tryz.ntmps75
 go_wp2_with (go_at_call 42;refine ((unhide HC) _).mono ?_;rintro e wA ⟨a0,c0,rfl,hlA,hbA⟩)
 have hS:FAt wA (w.heap.size+1) wA.heap.size a0 fs:=hlA.at.2.low Vs
 have hK:=forms_kept (LO:=(w.heap.size+1)) (HI:=wA.heap.size) (a:=a0) (fs:=fs)
 have hsd:SF w (w.heap.size+1) wA.heap.size (srcF (w.heap.size+1) wA.heap.size a0 fs) wA (some ⟨w.heap.size,0,none⟩) 0 0 []:=⟨hide rfl,SD.startM hbA hS (Nat.le_refl _)⟩
 obtain ⟨HI,hHI⟩: ∃HI,wA.heap.size=HI:=⟨_,rfl⟩
 rw[hHI] at hsd hK hS
 clear hlA hS
 go_loopw [5,12] (fun ls is wr=> ∃(k n9 c:Nat) (a:Option Addr) (l:List (Int × Int × Int)),is= .int .i64 (k:Int)∧ls= .slice a n9 c∧k≤fs.length∧n9≤k∧Hid (l=gwK fs vs k)∧SF w (w.heap.size+1) HI (srcF (w.heap.size+1) HI a0 fs) wr a n9 c l) (fun _ is _=>fs.length-(intOf is).toNat)
 case atStart=>exact ⟨0,0,0,_,[],rfl,rfl,Vn,Vn,hide rfl,hsd⟩
 case round=>
  clear hsd hbA
  obtain ⟨k,n9,c,a,l,rfl,rfl,hk,hnk,hl,hsd⟩:=hrel
  obtain ⟨w1,rfl⟩: ∃w1:World,w1=wr:=⟨_,rfl⟩
  have hz:=hsd.sd.bel.size
  have hln:=hsd.len
  have hlb:l.length≤3000:=by have:=unhide hln;omega
  by_cases c9:k<fs.length
  ·have hci:(k:Int)<(fs.length:Int):=by omega
   obtain ⟨g0,hg0,hg2,e0,e1,e2⟩:=FAt.cells hsd.sd.src c9
   obtain ⟨hrc,hdi⟩:=HRF k c9
   obtain ⟨X,hX⟩: ∃X,fs.getD k (0,0,0)=X:=⟨_,rfl⟩
   rw[hX] at e0 e1 e2 hrc hdi
   obtain ⟨x,y,z⟩:=X
   simp only at e0 e1 e2 hrc hdi
   have hgl:=gvL_len (F:=(x,y,z)) d0 d1 hdi
   subst hg0
   have HS: ∀(W:World) (a2:Option Addr) (c2:Nat),Below w.heap.size w W→IL W w1.heap.size (.slice a2 (gvL (x,y,z)).length c2) (gvL (x,y,z))→Calls Tryz.prog 67 #[.slice a2 (gvL (x,y,z)).length c2,.slice av nv cv] W fun e w'=>e= .returned (.bool (decide (gvL (x,y,z)=vs)))∧Below W.heap.size W w':=fun W a2 c2 hb hl2=>
    sameValues_a _ _ _ _ _ _ _ _ _ _ _ _ W (hide rfl) ev (Nat.le_refl _) (Nat.le_trans hiv hb.size) hl2.ints.2 (hv.below hb hiv) Vn hnv
   have HS:=hide HS
   by_cases cg:gvL (x,y,z)=vs
   ·have YES:=hide ((congrArg (· ++ [(x,y,z)]) (unhide hl)).trans (gw_yes hX cg).symm)
    have cd:decide (gvL (x,y,z)=vs)=true:=by simpa using cg
    rw[cd] at HS
    clear hX cd cg
    go_wp2_with (first|(go_at_call 76;refine (genusValues_a x y z d _ hrc hd hdi).mono ?_;rintro e w2 ⟨a2,c2,rfl,hl2,hb2⟩;have f00:=cell_call hb2 (a:=⟨w1.heap.size,0,none⟩) (v:= .int .i64 x) Vq;have f01:=cell_call hb2 (a:=⟨w1.heap.size,1,none⟩) (v:= .int .i64 y) Vq;have f02:=cell_call hb2 (a:=⟨w1.heap.size,2,none⟩) (v:= .int .i64 z) Vq;have hs2:=(hsd.alloc hK _).call hK hb2;have hz2:=hs2.sd.bel.size)|(go_at_call 67;refine ((unhide HS) _ _ _ hs2.sd.bel (hl2.raise Vs)).mono ?_;rintro e w3 ⟨rfl,hb3⟩;have f00:=cell_call hb3 (a:=⟨w1.heap.size,0,none⟩) (v:= .int .i64 x) VV;have f01:=cell_call hb3 (a:=⟨w1.heap.size,1,none⟩) (v:= .int .i64 y) VV;have f02:=cell_call hb3 (a:=⟨w1.heap.size,2,none⟩) (v:= .int .i64 z) VV;have hs3:=hs2.call hK hb3;have hz3:=hs3.sd.bel.size)|(at_builtin;refine app_FL _ rfl (.tmp 20) (.tmp 22) rfl w.heap.size (.slice a n9 c) l x y z w3.heap.size rfl rfl (hs3.alloc hK _).fl VB VB VB Vn VW ?_;intro g cap w4 hown hgrow hat hlt))
    go_roundw
    case rel=>
     have hs4:=(hs3.alloc hK _).app hK hown hgrow hat
     exact ⟨k+1,l.length+1,cap,some ⟨g,0,none⟩,_,by go_num,rfl,Vn,by have:=unhide hln;omega,YES,hs4⟩
    case measure=>simp [intOf];omega
   ·have NO:=hide ((unhide hl).trans (gw_no hX cg).symm)
    have cd:decide (gvL (x,y,z)=vs)=false:=by simpa using cg
    rw[cd] at HS
    clear hX cd cg
    go_wp2_with (first|(go_at_call 76;refine (genusValues_a x y z d _ hrc hd hdi).mono ?_;rintro e w2 ⟨a2,c2,rfl,hl2,hb2⟩;have f00:=cell_call hb2 (a:=⟨w1.heap.size,0,none⟩) (v:= .int .i64 x) Vq;have f01:=cell_call hb2 (a:=⟨w1.heap.size,1,none⟩) (v:= .int .i64 y) Vq;have f02:=cell_call hb2 (a:=⟨w1.heap.size,2,none⟩) (v:= .int .i64 z) Vq;have hs2:=(hsd.alloc hK _).call hK hb2;have hz2:=hs2.sd.bel.size)|(go_at_call 67;refine ((unhide HS) _ _ _ hs2.sd.bel (hl2.raise Vs)).mono ?_;rintro e w3 ⟨rfl,hb3⟩;have f00:=cell_call hb3 (a:=⟨w1.heap.size,0,none⟩) (v:= .int .i64 x) VV;have f01:=cell_call hb3 (a:=⟨w1.heap.size,1,none⟩) (v:= .int .i64 y) VV;have f02:=cell_call hb3 (a:=⟨w1.heap.size,2,none⟩) (v:= .int .i64 z) VV;have hs3:=hs2.call hK hb3;have hz3:=hs3.sd.bel.size))
    go_roundw
    case rel=>first|exact ⟨k+1,n9,c,_,l,by first|rfl|go_num,rfl,Vn,Vn,NO,hs3⟩|((repeat apply Exists.intro);exact ⟨⟨k+1,n9,c,_,l,by first|rfl|go_num,rfl,Vn,Vn,NO,hs3⟩,rfl⟩)
    case measure=>simp [intOf];omega
  ·obtain rfl:k=fs.length:=by omega
   go_wp2
   go_ret
   exact hsd.ret (unhide hl) rfl
end Go.Proofs.YtobkcnmlmmhpoaaGreatDoor
namespace Go.Proofs.YtobkcnmlmmhpoaaGreatDoor
open Go.RowKit
set_option linter.unusedVariables false
set_option linter.unusedSimpArgs false
attribute [local go_sem] q2 q3 q4 q5 q6 q7 q8 q9 q10 q11 q12

def grpS (HI gb:Nat) (fs:List (Int × Int × Int)) (W:World):Prop:=gb<HI∧ ∃(a:Option Addr) (c mb lo:Nat),W.cell? ⟨gb,0,none⟩=some (.slice a fs.length c)∧W.cell? ⟨gb,1,none⟩=some (.map (some mb))∧FAt W lo HI a fs∧mb<HI∧mfAt W mb fs fs.length
theorem mf_heap {w w':World} {b k:Nat} {fs:List (Int × Int × Int)} (h:mfAt w b fs k) (hh:w'.heap[b]? =w.heap[b]?):mfAt w' b fs k:=by
 obtain ⟨n,D,⟨es,clock,h1,h2,h3,h4⟩,r⟩:=h
 exact ⟨n,D,⟨es,clock,hh.trans h1,h2,h3,h4⟩,r⟩
theorem grp_kept {HI gb:Nat} {fs:List (Int × Int × Int)} :Kept 0 HI (grpS HI gb fs):=by
 intro w w' hk h
 obtain ⟨h0,a,c,mb,lo,h1,h2,h3,h4,h5⟩:=h
 exact ⟨h0,a,c,mb,lo,(World.cell?_of_block (hk gb (Nat.zero_le _) h0)).trans h1,(World.cell?_of_block (hk gb (Nat.zero_le _) h0)).trans h2,FormsAt.keep h3 (fun k _ h=>hk k (Nat.zero_le _) h),h4,mf_heap h5 (hk mb (Nat.zero_le _) h4)⟩
theorem grp_call {HI gb:Nat} {fs:List (Int × Int × Int)} {w w':World} (h:grpS HI gb fs w) (hb:Below w.heap.size w w') (hH:HI≤w.heap.size):grpS HI gb fs w':=grp_kept w w' (fun k _ hk=>hb.block k (Nat.lt_of_lt_of_le hk hH)) h
theorem grp_up {HI HI2 gb:Nat} {fs:List (Int × Int × Int)} {w:World} (h:grpS HI gb fs w) (hH:HI≤HI2):grpS HI2 gb fs w:=by
 obtain ⟨h0,a,c,mb,lo,h1,h2,h3,h4,h5⟩:=h
 refine ⟨Vn,a,c,mb,lo,h1,h2,?_,Vn,h5⟩
 rcases h3 with h|⟨g,cap,F,ha,g1,g2,r⟩
 ·exact .inl h
 ·exact .inr ⟨g,cap,F,ha,g1,Vn,r⟩
theorem rf_sm {d:Int} (hd:negB d=true) {k:Nat} (hk:k<(rfL d).length):SmF ((rfL d).getD k (0,0,0)):=by
 obtain ⟨h1,_⟩:=rf_at hd hk
 obtain ⟨s1,s2,s3,s4⟩:=red_small h1.cls.ok h1.red
 have a0:=h1.cls.ok.a0
 have c0:=h1.cls.ok.c0
 unfold SmF
 omega
theorem cmp_rwY {D:Int} (F G X:Int × Int × Int) (w:World) (h:InD D F) (h2:InD D G) (hX:cmp F G=X):Calls Tryz.prog 114 #[frm F,frm G] w fun e w'=>e= .returned (frm X)∧Below w.heap.size w w':=by
 subst hX;exact compose_D F G w h h2
theorem groupOf_a (d:Int) (w:World) (hd:negB d=true):
  Calls Tryz.prog 33 #[.int .i64 d] w fun e w'=> ∃gb,e= .returned (.pointer (some ⟨gb,0,none⟩))∧grpS w'.heap.size gb (rfL d) w'∧Below w.heap.size w w':=by
 obtain ⟨d0,d1⟩:=neg_true hd
 have HLen:=rfL_len d0 d1
 have HND:=rf_nodup d
 have HSM:=fun k hk=>rf_sm hd (k:=k) hk
 have HC: ∀W,Calls Tryz.prog 42 #[.int .i64 d] W (RetFL W (rfL d)):=fun W=>reducedForms_a d W d0 d1
 have HC:=hide HC
 generalize rfL d=fs at*
 have hmm:= @run_makeMap Tryz.prog
 go_enter Tryz.func33,Tryz.ntmps33
 go_wp2_with (go_at_call 42;refine ((unhide HC) _).mono ?_;rintro e wA ⟨a0,c0,rfl,hlA,hbA⟩)
 have hS:FAt wA w.heap.size wA.heap.size a0 fs:=hlA.at.2
 have hsz:=hbA.size
 go_loopw [16] (fun is wr=> ∃k:Nat,is= .int .i64 (k:Int)∧k≤fs.length∧mfAt wr wA.heap.size fs k∧wr.cell? ⟨wA.heap.size+1,0,none⟩=some (.slice a0 fs.length c0)∧wr.cell? ⟨wA.heap.size+1,1,none⟩=some (.map (some wA.heap.size))∧FAt wr w.heap.size wA.heap.size a0 fs∧Below w.heap.size w wr) (fun is _=>fs.length-(intOf is).toNat)
 case atStart=>
  refine ⟨0,rfl,Vn,mf_below (mf_made wA fs) byGG,VB,VB,hS.below (B:=wA.heap.size) byGG (Nat.le_refl _),byGG⟩
 case round=>
  clear hbA hlA hS
  obtain ⟨k,rfl,hk,hmf,c00,c01,hFA,hb⟩:=hrel
  obtain ⟨w1,rfl⟩: ∃w1:World,w1=wr:=⟨_,rfl⟩
  have hz:=hb.size
  have hz1:wA.heap.size+1<w1.heap.size:=World.block_lt_of_cell? _ _ c00
  by_cases c9:k<fs.length
  ·have hci:(k:Int)<(fs.length:Int):=by omega
   obtain ⟨g0,hg0,hg2,e0,e1,e2⟩:=FAt.cells hFA c9
   have hsm:=HSM k c9
   obtain ⟨w2,hrun,hmf2,hg⟩:=mf_store (w:=(w1.alloc (.cells #[.int .i64 (fs.getD k (0,0,0)).1,.int .i64 (fs.getD k (0,0,0)).2.1,.int .i64 (fs.getD k (0,0,0)).2.2] 81)).drew) (b:=wA.heap.size) (k:=k) (mf_below hmf byGG) c9 HND hsm Vn
   unfold fV at hrun
   generalize fs.getD k (0,0,0)=X at*
   obtain ⟨x,y,z⟩:=X
   simp only at hrun hg e0 e1 e2 hsm
   have HRES:Hid (mfAt w2 wA.heap.size fs (k+1)∧w2.cell? ⟨wA.heap.size+1,0,none⟩=some (.slice a0 fs.length c0)∧w2.cell? ⟨wA.heap.size+1,1,none⟩=some (.map (some wA.heap.size))∧FAt w2 w.heap.size wA.heap.size a0 fs∧Below w.heap.size w w2):=hide (by
    have hne:(some (wA.heap.size+1):Option Nat)≠some wA.heap.size:=by simp
    have hal: ∀(a:Addr),a.block<w1.heap.size→((w1.alloc (.cells #[.int .i64 x,.int .i64 y,.int .i64 z] 81)).drew).cell? a=w1.cell? a:=fun a ha=>Below.cell (B:=w1.heap.size) byGG ha
    refine ⟨hmf2,?_,?_,?_,?_⟩
    ·exact ((hg.cell_far ⟨wA.heap.size+1,0,none⟩ VX hne).trans (hal _ VX)).trans c00
    ·exact ((hg.cell_far ⟨wA.heap.size+1,1,none⟩ VX hne).trans (hal _ VX)).trans c01
    ·refine FormsAt.keep hFA fun j h1 h2=> ?_
     have q1:=hg.block j VX (fun e=>by simp only[Option.some.injEq] at e;omega)
     have q2:((w1.alloc (.cells #[.int .i64 x,.int .i64 y,.int .i64 z] 81)).drew).heap[j]? =w1.heap[j]? :=Below.block (B:=w1.heap.size) byGG j Vn
     exact q1.trans q2
    ·have hbW:Below w.heap.size w ((w1.alloc (.cells #[.int .i64 x,.int .i64 y,.int .i64 z] 81)).drew):=byGG
     exact hbW.grown hg VX (fun k hk=>by cases hk;exact hsz))
   subst hg0
   clear hmf2 hg HSM
   go_wp2
   go_region
   all_goals
    obtain ⟨r0,r1,r2,r3,r4⟩:=unhide HRES
    go_wp2
    go_roundw
    case rel=>exact ⟨k+1,by first|rfl|go_num,Vn,r0,r1,r2,r3,r4⟩
    case measure=>simp [intOf];omega
  ·obtain rfl:k=fs.length:=by omega
   go_wp2
   go_ret
   have hmb:=mf_lt hmf
   exact ⟨_,rfl,⟨hz1,a0,c0,wA.heap.size,w.heap.size,c00,c01,(by
    rcases hFA with h|⟨g,cap,F,ha,g1,g2,r⟩
    ·exact .inl h
    ·exact .inr ⟨g,cap,F,ha,g1,Vn,r⟩),hmb,hmf⟩,hb⟩
end Go.Proofs.YtobkcnmlmmhpoaaGreatDoor
namespace Go.Proofs.YtobkcnmlmmhpoaaGreatDoor
open Go.RowKit
set_option linter.unusedVariables false
set_option linter.unusedSimpArgs false
attribute [local go_sem] q2 q3 q4 q5 q6 q7 q8 q9 q10 q11 q12

theorem grTimes_a {D:Int} (HI gb:Nat) (fs:List (Int × Int × Int)) (i k r:Nat) (w:World) (hG:grpS HI gb fs w) (hHI:HI≤w.heap.size) (hi:i<fs.length) (hk:k<fs.length) (hr:r<fs.length) (hIn: ∀j,j<fs.length→InD D (fs.getD j (0,0,0)))
  (hs:SmF (fs.getD r (0,0,0))) (he:cmp (fs.getD i (0,0,0)) (fs.getD k (0,0,0))=fs.getD r (0,0,0)) (hn:fs.length≤100000):
  Calls Tryz.prog 85 #[.pointer (some ⟨gb,0,none⟩),.int .i64 (i:Int),.int .i64 (k:Int)] w fun e w'=>e= .returned (.int .i64 (r:Int))∧Below w.heap.size w w':=by
 obtain ⟨h0,a,c,mb,lo,c00,c01,hFA,hmb,hmf⟩:=hG
 obtain ⟨gf,hgf,hgf2,x0,x1,x2⟩:=FAt.cells hFA hi
 obtain ⟨gf',hgf',-,y0,y1,y2⟩:=FAt.cells hFA hk
 subst hgf
 simp only[Option.some.injEq,Addr.mk.injEq] at hgf'
 obtain ⟨rfl,-⟩:=hgf'
 have HLK:Hid (∀W,Below w.heap.size w W→(Instr.lookup 77 (.map (some mb)) (fV (fs.getD r (0,0,0))) false).run Tryz.prog W= .ok (.int .i64 (r:Int)) W):=hide fun W hb=>mf_look (mf_below hmf hb) hr hs
 have hX:=hIn i hi
 have hZ:=hIn k hk
 unfold fV at HLK
 clear hIn hs hFA hmf
 obtain ⟨X,hXX⟩: ∃X,fs.getD i (0,0,0)=X:=⟨_,rfl⟩
 obtain ⟨Z,hZZ⟩: ∃Z,fs.getD k (0,0,0)=Z:=⟨_,rfl⟩
 obtain ⟨Y,hY⟩: ∃Y,fs.getD r (0,0,0)=Y:=⟨_,rfl⟩
 rw[hXX] at x0 x1 x2 hX he
 rw[hZZ] at y0 y1 y2 hZ he
 rw[hY] at HLK he
 clear hXX hZZ hY
 have hY:=he
 clear he
 have hi2:(i:Int)<(fs.length:Int):=by omega
 have hk2:(k:Int)<(fs.length:Int):=by omega
 have hgb:gb<w.heap.size:=by omega
 go_enter Tryz.func85,Tryz.ntmps85
 go_upto_region 1 with fail
 go_cut [6] (fun s6 wx=>s6= .int .i64 ((r:Int))∧Rv2 wx gb (.slice (some ⟨gf,0,none⟩) fs.length c) (.map (some mb))∧wx.cell? ⟨gf,i*3,none⟩=some (.int .i64 (X.1))∧wx.cell? ⟨gf,i*3+1,none⟩=some (.int .i64 (X.2.1))∧wx.cell? ⟨gf,i*3+2,none⟩=some (.int .i64 (X.2.2))∧wx.cell? ⟨gf,k*3,none⟩=some (.int .i64 (Z.1))∧wx.cell? ⟨gf,k*3+1,none⟩=some (.int .i64 (Z.2.1))∧wx.cell? ⟨gf,k*3+2,none⟩=some (.int .i64 (Z.2.2))∧Below w.heap.size w wx)
 case first=>
  have h1:=trivial
  rename_i K2 h2 h3
  refine region_n0 Vw (fun j=> #[7,8,9,10,11,12,13,14,15,16,17,18,19,20,21,22,23,24,25,26,6].getD j 0) (fun j=>Kd.ok ((fun j=>match j with|0=>Kd.val (.pointer (some ⟨gb,0,none⟩))|1=>Kd.val (.pointer (some ⟨gb,0,none⟩))|2=>Kd.val (.pointer (some ⟨gb,1,none⟩))|3=>Kd.val (.map (some mb))|4=>Kd.val (.pointer (some ⟨gb,0,none⟩))|5=>Kd.val (.pointer (some ⟨gb,0,none⟩))|6=>Kd.val (.pointer (some ⟨gb,0,none⟩))|7=>Kd.val (.slice (some ⟨gf,0,none⟩) fs.length c)|8=>Kd.val (.int .i64 ((i:Int)))|9=>Kd.val (.pointer (some ⟨gf,i*3,none⟩))|10=>Kd.val (.agg #[.int .i64 (X.1),.int .i64 (X.2.1),.int .i64 (X.2.2)])|11=>Kd.val (.pointer (some ⟨gb,0,none⟩))|12=>Kd.val (.pointer (some ⟨gb,0,none⟩))|13=>Kd.val (.pointer (some ⟨gb,0,none⟩))|14=>Kd.val (.slice (some ⟨gf,0,none⟩) fs.length c)|15=>Kd.val (.int .i64 ((k:Int)))|16=>Kd.val (.pointer (some ⟨gf,k*3,none⟩))|17=>Kd.val (.agg #[.int .i64 (Z.1),.int .i64 (Z.2.1),.int .i64 (Z.2.2)])|18=>Kd.val (.agg #[.int .i64 (Y.1),.int .i64 (Y.2.1),.int .i64 (Y.2.2)])|19=>Kd.val (.int .i64 ((r:Int)))|20=>Kd.val (.int .i64 ((r:Int)))|_=>Kd.any:Nat→Kd) j)) (Sy w (w.heap.size) [(⟨gb,0,none⟩,.slice (some ⟨gf,0,none⟩) fs.length c),(⟨gb,1,none⟩,.map (some mb)),(⟨gf,i*3,none⟩,.int .i64 (X.1)),(⟨gf,i*3+1,none⟩,.int .i64 (X.2.1)),(⟨gf,i*3+2,none⟩,.int .i64 (X.2.2)),(⟨gf,k*3,none⟩,.int .i64 (Z.1)),(⟨gf,k*3+1,none⟩,.int .i64 (Z.2.1)),(⟨gf,k*3+2,none⟩,.int .i64 (Z.2.2))] []) Vw Vw ?_ ?_ ?_ ?_
  ·intro j hj
   have hj2:j<21:=hj
   have: ∀j,j<21→(#[7,8,9,10,11,12,13,14,15,16,17,18,19,20,21,22,23,24,25,26,6]:Array Nat).getD j 0<27:=by decide
   exact this j hj2
  ·refine Sy.drew (Sy.mk_of ?_ ?_ ?_ ?_)
   ·first|rfl|(simp;done)|(simp;omega)
   ·intro c hc
    simp only[List.mem_cons,List.not_mem_nil,or_false] at hc
    rcases hc with rfl|rfl|rfl|rfl|rfl|rfl|rfl|rfl<;>exact byCT
   ·intro p hp;cases hp
   ·(repeat' first|with_reducible (first|exact Below.refl _ _|assumption|refine gr_alloc ?_ _|refine below_drewN ?_ _|refine below_drew ?_|refine gr_call ?_ VV|refine Below.setCell ?_ ?_ _)|go_size|omega|(simp;omega))
  ·clear h1 h2 h3
   refine ⟨?r1x0,?r1x1,?r1x2,?r1x3,?r1x4,?r1x5,?r1x6,?r1x7,?r1x8,?r1x9,?r1x10,?r1x11,?r1x12,?r1x13,?r1x14,?r1x15,?r1x16,?r1x17,?r1x18,?r1x19,?r1x20,trivial⟩
   all_goals intro _ aq wx Kq hf hS hdep ev1 ev2 hK
   case' r1x0=>
    have F0:aq.eval (.tmp 0)= .pointer (some ⟨gb,0,none⟩):=hf 0
   case' r1x1=>
    have D0:aq.eval (.tmp 7)=_:=hdep 0
   case' r1x2=>
    have D1:aq.eval (.tmp 8)=_:=hdep 1
   case' r1x3=>
    have D2:aq.eval (.tmp 9)=_:=hdep 2
    have c0:=hS.cells (⟨gb,1,none⟩,.map (some mb)) Vs
   case' r1x4=>
    have F0:aq.eval (.tmp 0)= .pointer (some ⟨gb,0,none⟩):=hf 0
   case' r1x5=>
    have D4:aq.eval (.tmp 11)=_:=hdep 4
   case' r1x6=>
    have D5:aq.eval (.tmp 12)=_:=hdep 5
   case' r1x7=>
    have D6:aq.eval (.tmp 13)=_:=hdep 6
    have c0:=hS.cells (⟨gb,0,none⟩,.slice (some ⟨gf,0,none⟩) fs.length c) Vs
   case' r1x8=>
    have F1:aq.eval (.tmp 1)= .int .i64 ((i:Int)):=hf 1
   case' r1x9=>
    have D7:aq.eval (.tmp 14)=_:=hdep 7
    have D8:aq.eval (.tmp 15)=_:=hdep 8
   case' r1x10=>
    have D9:aq.eval (.tmp 16)=_:=hdep 9
    have c0:=hS.cells (⟨gf,i*3,none⟩,.int .i64 (X.1)) Vs
    have c1:=hS.cells (⟨gf,i*3+1,none⟩,.int .i64 (X.2.1)) Vs
    have c2:=hS.cells (⟨gf,i*3+2,none⟩,.int .i64 (X.2.2)) Vs
   case' r1x11=>
    have F0:aq.eval (.tmp 0)= .pointer (some ⟨gb,0,none⟩):=hf 0
   case' r1x12=>
    have D11:aq.eval (.tmp 18)=_:=hdep 11
   case' r1x13=>
    have D12:aq.eval (.tmp 19)=_:=hdep 12
   case' r1x14=>
    have D13:aq.eval (.tmp 20)=_:=hdep 13
    have c0:=hS.cells (⟨gb,0,none⟩,.slice (some ⟨gf,0,none⟩) fs.length c) Vs
   case' r1x15=>
    have F2:aq.eval (.tmp 2)= .int .i64 ((k:Int)):=hf 2
   case' r1x16=>
    have D14:aq.eval (.tmp 21)=_:=hdep 14
    have D15:aq.eval (.tmp 22)=_:=hdep 15
   case' r1x17=>
    have D16:aq.eval (.tmp 23)=_:=hdep 16
    have c0:=hS.cells (⟨gf,k*3,none⟩,.int .i64 (Z.1)) Vs
    have c1:=hS.cells (⟨gf,k*3+1,none⟩,.int .i64 (Z.2.1)) Vs
    have c2:=hS.cells (⟨gf,k*3+2,none⟩,.int .i64 (Z.2.2)) Vs
   case' r1x18=>
    have D10:aq.eval (.tmp 17)=_:=hdep 10
    have D17:aq.eval (.tmp 24)=_:=hdep 17
   case' r1x19=>
    have D3:aq.eval (.tmp 10)=_:=hdep 3
    have D18:aq.eval (.tmp 25)=_:=hdep 18
    have hlk:=unhide HLK _ hS.below
   case' r1x20=>
    have D19:aq.eval (.tmp 26)=_:=hdep 19
   all_goals (clear hf hdep;unfold Oper.wp;generalize Act.eval _=ev at *;go_simp)
   case' r1x9=>
    try rw[if_pos Vn,Oper.upon_value]
   case' r1x16=>
    try rw[if_pos Vn,Oper.upon_value]
   case r1x18=>
    refine ((cmp_rwY X Z Y _ hX hZ hY)).mono ?_
    rintro e w2 ⟨rfl,hb⟩
    refine hK _ _ (hS.call hb) ?_ (fun j u _ h=>Kd.ok_below hb h)
    rw[if_pos VH]
    show (_:Value)=_
    first|rfl|(refine congrArg (Value.int .i64) ?_;first|rfl|exact int_in Vn|exact quo_in Vn Vn Vn|exact rem_in Vn Vn|omega)|(simp;done)|(simp [*];done)
   all_goals (refine hK _ _ hS ?_ (fun j u _ h=>h);rw [if_pos VH];show (_:Value)=_;(first|rfl|(refine congrArg (Value.int .i64) ?_;first|rfl|exact int_in Vn|exact quo_in Vn Vn Vn|exact rem_in Vn Vn|omega)|(simp;done)|(simp [*];done)))
  ·intro aq wx hd hw hf hS hg
   have G6:tau aq 6= .int .i64 ((r:Int)):=hg 20 VA
   have haq:aq=⟨#[tau aq 0,tau aq 1,tau aq 2,tau aq 3,tau aq 4,tau aq 5,tau aq 6,tau aq 7,tau aq 8,tau aq 9,tau aq 10,tau aq 11,tau aq 12,tau aq 13,tau aq 14,tau aq 15,tau aq 16,tau aq 17,tau aq 18,tau aq 19,tau aq 20,tau aq 21,tau aq 22,tau aq 23,tau aq 24,tau aq 25,tau aq 26],[]⟩:=by
    obtain ⟨tq,dq⟩:=aq
    have h5:=arr_eq (show tq.size=27 from hw)
    have h6:dq= []:=hd
    subst h6
    exact congrArg (fun z=>Act.mk z []) h5
   show K2 aq wx
   rw[haq,hf 0,hf 1,hf 2,hf 3,hf 4,hf 5,G6]
   clear haq hf hd hw
   try dsimp only
   refine h3 _ _ ?_
   go_meet
   refine ⟨rfl,Rv2.m ?_ ?_,?_,?_,?_,?_,?_,?_,hS.below⟩
   all_goals first|exact hS.cells (_,_) Vs|exact (hS.free _ Vs).2
 obtain ⟨rfl,⟨c00,c01,z0⟩,c10,c11,c12,c13,c14,c15,hb0⟩:=hcut
 have z1:=World.block_lt_of_cell? _ _ c10
 change gf<wc.heap.size at z1
 skip
 go_wp2
 go_ret
 exact ⟨rfl,hb0⟩
end Go.Proofs.YtobkcnmlmmhpoaaGreatDoor
