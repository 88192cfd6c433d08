/- The values at a number, both sides. A point at which the value of a primitive form is prime to m, with both numbers at most m. Plain. -/
import Derived.Test.YtobkcnmlmmhpoaaGreatDoorChv
import Derived.Test.YtobkcnmlmmhpoaaGreatDoorChs
import Derived.Test.YtobkcnmlmmhpoaaGreatDoorOs
import Derived.Test.YtobkcnmlmmhpoaaGreatDoorCmp
set_option maxRecDepth 100000
set_option maxHeartbeats 80000000
namespace Go.Proofs.YtobkcnmlmmhpoaaGreatDoor
open Go.RowKit
set_option linter.unusedVariables false
set_option linter.unusedSimpArgs false
attribute [local go_sem] q2 q3 q4 q5 q6 q7 q8 q9 q10 q11 q12

def vlK (Z:List (Int × Int)) (n:Int) (k:Nat):List Int:=(Z.take k).map fun z=>chv z.1 z.2 n
theorem vlK_succ {Z:List (Int × Int)} {n:Int} {k:Nat} (h:k<Z.length) {x y:Int} (hx:(Z.getD k (0,0)).1=x) (hy:(Z.getD k (0,0)).2=y):vlK Z n k++ [chv x y n]=vlK Z n (k+1):=by
 subst hx hy
 unfold vlK
 rw[List.take_add_one,List.getElem?_eq_getElem h,List.map_append,List.getD_eq_getElem?_getD,List.getElem?_eq_getElem h];rfl
theorem vlK_all (Z:List (Int × Int)) (n:Int):vlK Z n Z.length=Z.map fun z=>chv z.1 z.2 n:=by unfold vlK;rw [List.take_length]
def vlL (d n:Int):List Int:=(chL d).map fun z=>chv z.1 z.2 n

theorem valuesAt_a (d n:Int) (w:World) (hd:negB d=true) (h0:1≤n) (h1:n≤1000000000000) (ho:n%2=1):
  Calls Tryz.prog 101 #[.int .i64 d,.int .i64 n] w (RetIL w (vlL d n)):=by
 obtain ⟨d0,d1⟩:=neg_true hd
 have HLen:=chL_len d0 d1
 have HOK:=chL_ok d0 d1
 have HC: ∀W,Calls Tryz.prog 129 #[.int .i64 d] W (RetV 138 2 W (chL d).length (chV (chL d))):=fun W=>assigned_a d W hd
 have HR:vlL d n=vlK (chL d) n (chL d).length:=(vlK_all _ _).symm
 rw[HR]
 clear HR
 have HC:=hide HC
 generalize chL d=Z at*
 go_enter Tryz.func101,Tryz.ntmps101
 go_wp2_with (go_at_call 129;refine ((unhide HC) _).mono ?_;rintro e wA ⟨a0,c0,rfl,hlA,hbA⟩)
 have hS:=srcV_of hlA
 have hK:=srcV_kept (LO:=(w.alloc (.cells #[] 3)).heap.size) (HI:=wA.heap.size) (a:=a0) (vs:=chV Z)
 simp only[World.size_alloc] at hS hK
 have hsd:=SI.startM (S:=srcV (w.heap.size+1) wA.heap.size a0 (chV Z)) hbA hS (Nat.le_refl _)
 obtain ⟨HI,hHI⟩: ∃HI,wA.heap.size=HI:=⟨_,rfl⟩
 rw[hHI] at hsd hK hS
 clear hlA hS
 go_loopw [5,12] (fun ls is wr=> ∃(k n9 c:Nat) (a:Option Addr) (l:List Int),is= .int .i64 (k:Int)∧ls= .slice a n9 c∧k≤Z.length∧n9≤k∧Hid (l=vlK Z n k)∧SI w (w.heap.size+1) HI (srcV (w.heap.size+1) HI a0 (chV Z)) wr a n9 c l) (fun _ is _=>Z.length-(intOf is).toNat)
 case atStart=>exact ⟨0,0,0,_,[],rfl,rfl,Vn,Vn,hide rfl,hsd⟩
 case round=>
  clear hsd hbA
  obtain ⟨k,n9,c,a,l,rfl,rfl,hk,hnk,hl,hsd⟩:=hrel
  obtain ⟨w1,rfl⟩: ∃w1:World,w1=wr:=⟨_,rfl⟩
  have hz:=hsd.sd.bel.size
  have hln:=hsd.len
  have hlb:l.length≤3000:=by have:=unhide hln;omega
  by_cases c9:k<Z.length
  ·have hci:(k:Int)<(Z.length:Int):=by omega
   obtain ⟨g0,hg0,hg1,hg2,hd0⟩:=srcV_at hsd.sd.src (by rw[chV_len];omega)
   have e0:=hd0 (k*2) (by rw[chV_len];omega)
   have e1:=hd0 (k*2+1) (by rw[chV_len];omega)
   rw[(chV_at Z k c9).1] at e0
   rw[(chV_at Z k c9).2] at e1
   have hck:=HOK _ (gdm (d:=(0,0)) c9)
   obtain ⟨x,hx⟩: ∃x,(Z.getD k (0,0)).1=x:=⟨_,rfl⟩
   obtain ⟨y,hy⟩: ∃y,(Z.getD k (0,0)).2=y:=⟨_,rfl⟩
   rw[hx] at e0
   rw[hy] at e1
   rw[hx,hy] at hck
   have YES:=hide ((congrArg (· ++ [chv x y n]) (unhide hl)).trans (vlK_succ c9 hx hy))
   subst hg0
   clear hx hy hd0
   go_wp2_with (first|(go_at_call 130;refine (value_a x y n _ hck h0 h1 ho).mono ?_;rintro e w2 ⟨rfl,hb2⟩;have hs2:=(hsd.alloc hK _).call hK hb2;have hz2:=hs2.sd.bel.size)|(at_builtin;refine app_int _ rfl (.tmp 16) (.tmp 20) rfl w.heap.size (.slice a n9 c) l (chv x y n) w2.heap.size rfl rfl (hs2.alloc hK _).il VB Vn VW ?_;intro g cap w3 hown hgrow hat hlt))
   go_roundw
   case rel=>
    have hs3:=(hs2.alloc hK _).app hK hown hgrow hat
    exact ⟨k+1,l.length+1,cap,some ⟨g,0,none⟩,_,by go_num,rfl,Vn,by have:=unhide hln;omega,YES,hs3⟩
   case measure=>simp [intOf];omega
  ·obtain rfl:k=Z.length:=by omega
   go_wp2
   go_ret
   exact hsd.ret (unhide hl) rfl

theorem chList_a (d n:Int) (w:World) (hd:negB d=true) (h0:1≤n) (h1:n≤1000000000000) (ho:n%2=1):
  Calls Tryz.prog 111 #[.int .i64 d,.int .i64 n] w (RetIL w (vlL d n)):=by
 obtain ⟨d0,d1⟩:=neg_true hd
 have HLen:=chL_len d0 d1
 have HOK:=chL_ok d0 d1
 have HC: ∀W,Calls Tryz.prog 136 #[.int .i64 d] W (RetV 138 2 W (chL d).length (chV (chL d))):=fun W=>chAll_a d W hd
 have HR:vlL d n=vlK (chL d) n (chL d).length:=(vlK_all _ _).symm
 rw[HR]
 clear HR
 have HC:=hide HC
 generalize chL d=Z at*
 go_enter Tryz.func111,Tryz.ntmps111
 go_wp2_with (go_at_call 136;refine ((unhide HC) _).mono ?_;rintro e wA ⟨a0,c0,rfl,hlA,hbA⟩)
 have hS:=srcV_of hlA
 have hK:=srcV_kept (LO:=w.heap.size) (HI:=wA.heap.size) (a:=a0) (vs:=chV Z)
 skip
 have hsd:=SI.startN (LO:=w.heap.size) (S:=srcV w.heap.size wA.heap.size a0 (chV Z)) hbA hS (Nat.le_refl _)
 obtain ⟨HI,hHI⟩: ∃HI,wA.heap.size=HI:=⟨_,rfl⟩
 rw[hHI] at hsd hK hS
 clear hlA hS
 go_loopw [5,11] (fun ls is wr=> ∃(k n9 c:Nat) (a:Option Addr) (l:List Int),is= .int .i64 (k:Int)∧ls= .slice a n9 c∧k≤Z.length∧n9≤k∧Hid (l=vlK Z n k)∧SI w w.heap.size HI (srcV w.heap.size HI a0 (chV Z)) wr a n9 c l) (fun _ is _=>Z.length-(intOf is).toNat)
 case atStart=>exact ⟨0,0,0,_,[],rfl,rfl,Vn,Vn,hide rfl,hsd⟩
 case round=>
  clear hsd hbA
  obtain ⟨k,n9,c,a,l,rfl,rfl,hk,hnk,hl,hsd⟩:=hrel
  obtain ⟨w1,rfl⟩: ∃w1:World,w1=wr:=⟨_,rfl⟩
  have hz:=hsd.sd.bel.size
  have hln:=hsd.len
  have hlb:l.length≤3000:=by have:=unhide hln;omega
  by_cases c9:k<Z.length
  ·have hci:(k:Int)<(Z.length:Int):=by omega
   obtain ⟨g0,hg0,hg1,hg2,hd0⟩:=srcV_at hsd.sd.src (by rw[chV_len];omega)
   have e0:=hd0 (k*2) (by rw[chV_len];omega)
   have e1:=hd0 (k*2+1) (by rw[chV_len];omega)
   rw[(chV_at Z k c9).1] at e0
   rw[(chV_at Z k c9).2] at e1
   have hck:=HOK _ (gdm (d:=(0,0)) c9)
   obtain ⟨x,hx⟩: ∃x,(Z.getD k (0,0)).1=x:=⟨_,rfl⟩
   obtain ⟨y,hy⟩: ∃y,(Z.getD k (0,0)).2=y:=⟨_,rfl⟩
   rw[hx] at e0
   rw[hy] at e1
   rw[hx,hy] at hck
   have YES:=hide ((congrArg (· ++ [chv x y n]) (unhide hl)).trans (vlK_succ c9 hx hy))
   subst hg0
   clear hx hy hd0
   go_wp2_with (first|(go_at_call 137;refine (chAt_a x y n _ hck h0 h1 ho).mono ?_;rintro e w2 ⟨rfl,hb2⟩;have hs2:=(hsd.alloc hK _).call hK hb2;have hz2:=hs2.sd.bel.size)|(at_builtin;refine app_int _ rfl (.tmp 15) (.tmp 19) rfl w.heap.size (.slice a n9 c) l (chv x y n) w2.heap.size rfl rfl (hs2.alloc hK _).il VB Vn VW ?_;intro g cap w3 hown hgrow hat hlt))
   go_roundw
   case rel=>
    have hs3:=(hs2.alloc hK _).app hK hown hgrow hat
    exact ⟨k+1,l.length+1,cap,some ⟨g,0,none⟩,_,by go_num,rfl,Vn,by have:=unhide hln;omega,YES,hs3⟩
   case measure=>simp [intOf];omega
  ·obtain rfl:k=Z.length:=by omega
   go_wp2
   go_ret
   exact hsd.ret (unhide hl) rfl
end Go.Proofs.YtobkcnmlmmhpoaaGreatDoor
namespace Go.Proofs.YtobkcnmlmmhpoaaGreatDoor
open Go.RowKit
set_option linter.unusedVariables false
set_option linter.unusedSimpArgs false

theorem Pr.ge {p:Nat} (h:Pr p):2≤p:=h.1
theorem Pr.not1 {p:Nat} (h:Pr p) (h1:p∣1):False:=by have:=Nat.le_of_dvd Vn h1;have:=h.1;omega
theorem prd_mem {q:Nat} (hq:Pr q): ∀{l:List Nat},(∀p ∈ l,Pr p)→ ∀{r:Nat→Nat},q∣Fab.prd (fun p=>p ^ r p) l→q ∈ l∧1≤r q
 | [],_,r,h=>absurd h (fun h=>hq.not1 h)
 |p :: l,hp,r,h=>by
  rw[Fab.prd] at h
  rcases hq.mul h with h|h
  ·have e:q=p:=by
    rcases (hp p Vs).2 q (hq.pow h) with e|e
    ·have:=hq.1;omega
    ·exact e
   subst e
   refine ⟨Vs,?_⟩
   by_cases k:r q=0
   ·rw [k] at h;exact absurd h (fun h=>hq.not1 h)
   ·omega
  ·obtain ⟨h1,h2⟩:=prd_mem hq (fun x hx=>hp x W5) h
   exact ⟨by simp [h1],h2⟩
theorem mem_prd {q:Nat} : ∀{l:List Nat} {r:Nat→Nat},q ∈ l→1≤r q→q∣Fab.prd (fun p=>p ^ r p) l
 |p :: l,r,hq,h1=>by
  rw[Fab.prd]
  by_cases e:q=p
  ·subst e
   exact Nat.dvd_trans (by obtain ⟨k,hk⟩: ∃k,r q=k+1:=⟨r q-1,Vn⟩;rw [hk,Nat.pow_succ];exact Nat.dvd_mul_left _ _) (Nat.dvd_mul_right _ _)
  ·exact Nat.dvd_trans (mem_prd (by simpa [e] using hq) h1) (Nat.dvd_mul_left _ _)
theorem prI {q:Nat} (hq:Pr q) {a b:Int} (h:(q:Int)∣a*b):(q:Int)∣a∨(q:Int)∣b:=by
 rw[Int.ofNat_dvd_left] at h
 rw[Int.natAbs_mul] at h
 rcases hq.mul h with h|h
 ·exact .inl (Int.ofNat_dvd_left.2 h)
 ·exact .inr (Int.ofNat_dvd_left.2 h)
theorem point_ex {a b c:Int} (hp:Prim a b c) {m:Nat} (hm:1≤m): ∃x y:Nat,x≤m∧y≤m∧Nat.gcd x y=1∧Int.gcd (a*(x:Int)*(x:Int)+b*(x:Int)*(y:Int)+c*(y:Int)*(y:Int)) (m:Int)=1:=by
 classical
 have ps:=ps_ok hm
 obtain ⟨l,hl⟩: ∃l,psL m=l:=⟨_,rfl⟩
 rw[hl] at ps
 obtain ⟨rv,hrv⟩: ∃r:Nat→Nat,∀p,r p=(if (p:Int)∣a∧ ¬(p:Int)∣c then 1 else 0):=⟨fun p=>if (p:Int)∣a∧ ¬(p:Int)∣c then 1 else 0,fun _=>rfl⟩
 obtain ⟨ru,hru⟩: ∃r:Nat→Nat,∀p,r p=(if (p:Int)∣a then 0 else 1):=⟨fun p=>if (p:Int)∣a then 0 else 1,fun _=>rfl⟩
 have hv: ∀q,1≤rv q↔(q:Int)∣a∧ ¬(q:Int)∣c:=fun q=>by rw[hrv];split<;>simp_all
 have hu: ∀q,1≤ru q↔ ¬(q:Int)∣a:=fun q=>by rw[hru];split<;>simp_all
 have dv: ∀(r:Nat→Nat),(∀q,r q≤1)→Fab.prd (fun p=>p ^ r p) l∣m:=fun r h1=>Fab.prd_dvd ps.nd ps.pr r (fun p hpl=>by
  have h2:=h1 p
  rcases (show r p=0∨r p=1 by omega) with h|h
  ·rw [h];exact Nat.one_dvd _
  ·rw [h,Nat.pow_one];exact ps.dv p hpl)
 have d1:=dv rv (fun q=>by rw[hrv];split<;>omega)
 have d2:=dv ru (fun q=>by rw[hru];split<;>omega)
 obtain ⟨x,hx⟩: ∃x,Fab.prd (fun p=>p ^ rv p) l=x:=⟨_,rfl⟩
 obtain ⟨y,hy⟩: ∃y,Fab.prd (fun p=>p ^ ru p) l=y:=⟨_,rfl⟩
 have qx: ∀q,Pr q→q∣x→(q:Int)∣a∧ ¬(q:Int)∣c:=fun q hq h=>(hv q).1 (prd_mem hq ps.pr (by rw[hx];exact h)).2
 have qy: ∀q,Pr q→q∣y→ ¬(q:Int)∣a:=fun q hq h=>(hu q).1 (prd_mem hq ps.pr (by rw[hy];exact h)).2
 have xq: ∀q,q ∈ l→(q:Int)∣a→ ¬(q:Int)∣c→q∣x:=fun q h h1 h2=>by rw[←hx];exact mem_prd h ((hv q).2 ⟨h1,h2⟩)
 have yq: ∀q,q ∈ l→ ¬(q:Int)∣a→q∣y:=fun q h h1=>by rw[←hy];exact mem_prd h ((hu q).2 h1)
 rw[hx] at d1
 rw[hy] at d2
 refine ⟨x,y,Nat.le_of_dvd hm d1,Nat.le_of_dvd hm d2,?_,?_⟩
 ·have hx0:0<x:=Nat.pos_of_dvd_of_pos d1 hm
  by_cases g:Nat.gcd x y=1
  ·exact g
  ·have g0:0<Nat.gcd x y:=Nat.gcd_pos_of_pos_left _ hx0
   obtain ⟨q,hq,hqd⟩:=Pr.ex (n:=Nat.gcd x y) Vn
   exact absurd (qx q hq (Nat.dvd_trans hqd (Nat.gcd_dvd_left _ _))).1 (qy q hq (Nat.dvd_trans hqd (Nat.gcd_dvd_right _ _)))
 ·obtain ⟨f,hf⟩: ∃f,a*(x:Int)*(x:Int)+b*(x:Int)*(y:Int)+c*(y:Int)*(y:Int)=f:=⟨_,rfl⟩
  rw[hf]
  by_cases g:Int.gcd f (m:Int)=1
  ·exact g
  ·exfalso
   have g0:0<Int.gcd f (m:Int):=Int.gcd_pos_of_ne_zero_right _ Vn
   obtain ⟨q,hq,hqd⟩:=Pr.ex (n:=Int.gcd f (m:Int)) Vn
   have qf:(q:Int)∣f:=Int.dvd_trans (Int.natCast_dvd_natCast.2 hqd) (Int.gcd_dvd_left ..)
   have qm:q∣m:=Int.natCast_dvd_natCast.1 (Int.dvd_trans (Int.natCast_dvd_natCast.2 hqd) (Int.gcd_dvd_right ..))
   have ql:=ps.all q hq qm
   have cast: ∀{z:Nat},q∣z→(q:Int)∣(z:Int):=fun h=>Int.natCast_dvd_natCast.2 h
   have back: ∀{z:Nat},(q:Int)∣(z:Int)→q∣z:=fun h=>Int.natCast_dvd_natCast.1 h
   by_cases ha:(q:Int)∣a
   ·by_cases hc:(q:Int)∣c
    ·have h1:(q:Int)∣b*(x:Int)*(y:Int):=by
      have e:b*(x:Int)*(y:Int)=f-a*((x:Int)*(x:Int))-c*((y:Int)*(y:Int)):=by rw[←hf,Int.mul_assoc a,Int.mul_assoc c];omega
      rw[e]
      exact Int.dvd_sub (Int.dvd_sub qf (Int.dvd_trans ha (Int.dvd_mul_right _ _))) (Int.dvd_trans hc (Int.dvd_mul_right _ _))
     rcases prI hq h1 with h1|h1
     ·rcases prI hq h1 with h1|h1
      ·have:=hp _ ha h1 hc
       have h3:q∣1:=Int.natCast_dvd_natCast.1 this
       exact hq.not1 h3
      ·exact (qx q hq (back h1)).2 hc
     ·exact qy q hq (back h1) ha
    ·have hqx:=xq q ql ha hc
     have h1:(q:Int)∣c*(y:Int)*(y:Int):=by
      have e:c*(y:Int)*(y:Int)=f-(x:Int)*(a*(x:Int))-(x:Int)*(b*(y:Int)):=by rw[←hf,Int.mul_comm (x:Int) (a*x),←Int.mul_assoc (x:Int),Int.mul_comm (x:Int) b];omega
      rw[e]
      exact Int.dvd_sub (Int.dvd_sub qf (Int.dvd_trans (cast hqx) (Int.dvd_mul_right _ _))) (Int.dvd_trans (cast hqx) (Int.dvd_mul_right _ _))
     rcases prI hq h1 with h1|h1
     ·rcases prI hq h1 with h1|h1
      ·exact hc h1
      ·exact qy q hq (back h1) ha
     ·exact qy q hq (back h1) ha
   ·have hqy:=yq q ql ha
    have h1:(q:Int)∣a*(x:Int)*(x:Int):=by
     have e:a*(x:Int)*(x:Int)=f-(y:Int)*(b*(x:Int))-(y:Int)*(c*(y:Int)):=by rw[←hf,Int.mul_comm (y:Int) (b*x),Int.mul_comm (y:Int) (c*y)];omega
     rw[e]
     exact Int.dvd_sub (Int.dvd_sub qf (Int.dvd_trans (cast hqy) (Int.dvd_mul_right _ _))) (Int.dvd_trans (cast hqy) (Int.dvd_mul_right _ _))
    rcases prI hq h1 with h1|h1
    ·rcases prI hq h1 with h1|h1
     ·exact ha h1
     ·exact ha (qx q hq (back h1)).1
    ·exact ha (qx q hq (back h1)).1
end Go.Proofs.YtobkcnmlmmhpoaaGreatDoor
