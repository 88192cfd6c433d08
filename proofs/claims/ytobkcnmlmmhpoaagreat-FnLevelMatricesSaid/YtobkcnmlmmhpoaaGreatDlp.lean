/- Delays and forms near a form drawn. What the draws of level forms lean on. -/
import Derived.Test.YtobkcnmlmmhpoaaGreatDrr
import Derived.Test.YtobkcnmlmmhpoaaGreatDla
import Derived.Test.YtobkcnmlmmhpoaaGreatLv
namespace Go.Proofs.YtobkcnmlmmhpoaaGreat
open Go.RowKit
set_option linter.unusedVariables false
set_option linter.unusedSimpArgs false
attribute [local go_sem] q2 q3 q4 q5 q6 q7 q8 q9 q10 q11 q12

variable {B:Nat}

theorem coGood_e (a b c:Int) (t:Bool) (w:World) (h:classB a b c=t):Calls Tryz.prog 73 #[.agg #[.int .i64 a,.int .i64 b,.int .i64 c]] w fun e w'=>e= .returned (.bool t)∧Below w.heap.size w w':=by
 subst h;exact coGood_a a b c w
theorem foDisc_e (a b c d:Int) (w:World) (h:formB a b c=true) (hd:discI a b c=d):Calls Tryz.prog 45 #[.agg #[.int .i64 a,.int .i64 b,.int .i64 c]] w fun e w'=>e= .returned (.int .i64 d)∧Below w.heap.size w w':=by
 subst hd;exact foDisc_a a b c w h
theorem neg_of_class {a b c d:Int} (h:classB a b c=true) (hd:discI a b c=d):negB d=true:=by
 have hk:=class_disc h
 rw[hd] at hk
 have hm:d%4=0∨d%4=1:=by
  rw[←hd]
  have e:4*a*c=4*(a*c):=Int.mul_assoc _ _ _
  unfold discI
  rw[e]
  obtain ⟨k,hk⟩: ∃k,b=2*k∨b=2*k+1:=⟨b / 2,by omega⟩
  rcases hk with hk|hk
  ·have:b*b=4*(k*k):=by rw[hk];grind
   omega
  ·have:b*b=4*(k*k+k)+1:=by rw[hk];grind
   omega
 unfold negB inB
 simp
 omega

end Go.Proofs.YtobkcnmlmmhpoaaGreat
namespace Go.Proofs.YtobkcnmlmmhpoaaGreat
open Go.RowKit
set_option linter.unusedVariables false
set_option linter.unusedSimpArgs false
attribute [local go_sem] q2 q3 q4 q5 q6 q7 q8 q9 q10 q11 q12

variable {B:Nat}
theorem ex_call {W w':World} {a:Addr} (hb:Below W.heap.size W w') (h: ∃v,W.cell? a=some v): ∃v,w'.cell? a=some v:=by
 obtain ⟨v,h⟩:=h;exact ⟨v,cell_call hb h⟩
theorem ex_far {w W:World} {b g i:Nat} (hg:w.grownBy W (some b)) (h: ∃v,w.cell? ⟨g,i,none⟩=some v) (hne:g≠b): ∃v,W.cell? ⟨g,i,none⟩=some v:=by
 obtain ⟨v,h⟩:=h;exact ⟨v,far_cell hg h hne⟩
def DrewFN (B:Nat) (w:World) (b:Nat) (K:Int) (e:Ending) (w':World):Prop:= ∃x y z n:Int,e= .returned (.tuple #[.agg #[.int .i64 x,.int .i64 y,.int .i64 z],.int .i64 n])∧(R64 x∧R64 y∧R64 z∧R64 n)∧Cur B w' b K∧w.grownBy w' (some b)
theorem rt_memD {d n r:Int} (hn:1≤n) (h:r ∈ flN (rtP d n) (fun k=>(k:Int)) (2*n).toNat):0≤r∧r<2*n∧(r*r-d)%(4*n)=0:=by
 obtain ⟨j,h1,h2,h3⟩:=flN_mem h
 have h4:((j:Int)*(j:Int)-d)%(4*n)=0:=by
  have:rtP d n j=true:=h2
  unfold rtP at this
  simpa using this
 have h5:r=(j:Int):=h3
 rw[h5]
 exact ⟨by omega,by omega,h4⟩
theorem cls_of {x y z:Int} (h:classB x y z=true):Cls x y z:=by
 refine ⟨okF_dr h,?_⟩
 have hc:contI x y z=1:=by unfold classB at h;simp at h;exact h.2
 rw[←cont_alt] at hc
 unfold igcd at hc
 exact prim_gcd (by omega)
theorem lvMake_q (x y z n r:Int) (w:World) (hc:classB x y z=true) (h1:1≤n) (h2:n≤30) (h3:0≤r) (h4:r<2*n) (h5:(r*r-discI x y z)%(4*n)=0):
  Calls Tryz.prog 46 #[.agg #[.int .i64 x,.int .i64 y,.int .i64 z],.int .i64 n,.int .i64 r] w fun e w'=> ∃X Y Z:Int,e= .returned (.agg #[.int .i64 X,.int .i64 Y,.int .i64 Z])∧((0≤X∧X≤1000000000000)∧(-600000≤Y∧Y≤600000)∧(1≤Z∧Z≤20000))∧Below w.heap.size w w':=by
 have hC:=cls_of hc
 have hr:=hC.redC
 have hd:=(redF_red (okF_dr hc)).2.2
 refine (lvMake_v x y z (redF x y z).1 (redF x y z).2.1 (redF x y z).2.2 n r w (okF_dr hc) ⟨rfl,rfl,rfl⟩ hr h1 h2 h3 h4 (by rw[hd];exact h5)).mono ?_
 rintro e w' ⟨rfl,hb⟩
 obtain ⟨k,hf⟩:=fp_ex h1 h2 hr.cls.pr
 obtain ⟨-,hL⟩:=lv_facts hr rfl h1 h2 h3 h4 (by rw[hd];exact h5) hf
 exact ⟨_,_,_,rfl,⟨hL.a0,by have:=hL.b0;unfold lvX lvF;simp only;omega,hL.e0,hL.e1⟩,hb⟩
theorem atR {a b c R:Int} (ha: -1000000000000≤a∧a≤1000000000000) (hb: -1000000000000≤b∧b≤1000000000000) (hc: -1000000000000≤c∧c≤1000000000000) (hR: -100≤R∧R≤100) {x:Int} (hx: -100≤x∧x≤100):AtOk a b c x R:=by
 have a1:=mul_bd (A:=1000000000000) (B:=100) (by omega) ha hx
 have b1:=mul_bd (A:=1000000000000) (B:=100) (by omega) hb hx
 have c1:=mul_bd (A:=1000000000000) (B:=100) (by omega) hc hR
 have a2:=mul_bd (A:=1000000000000*100) (B:=100) (by omega) a1 hx
 have b2:=mul_bd (A:=1000000000000*100) (B:=100) (by omega) b1 hR
 have c2:=mul_bd (A:=1000000000000*100) (B:=100) (by omega) c1 hR
 constructor<;>omega
theorem poR {a b c x y u v:Int} (ha: -1000000000000≤a∧a≤1000000000000) (hb: -1000000000000≤b∧b≤1000000000000) (hc: -1000000000000≤c∧c≤1000000000000) (hx: -100≤x∧x≤100) (hy: -100≤y∧y≤100) (hu: -100≤u∧u≤100) (hv: -100≤v∧v≤100):PoOk a b c x y u v:=by
 have a1:=mul_bd (A:=2000000000000) (B:=100) (by omega) (show -2000000000000≤2*a∧2*a≤2000000000000 by omega) hx
 have a2:=mul_bd (A:=2000000000000*100) (B:=100) (by omega) a1 hu
 have x1:=mul_bd (A:=100) (B:=100) (by omega) hx hv
 have y1:=mul_bd (A:=100) (B:=100) (by omega) hy hu
 have b1:=mul_bd (A:=1000000000000) (B:=20000) (by omega) hb (show -20000≤x*v+y*u∧x*v+y*u≤20000 by omega)
 have c1:=mul_bd (A:=2000000000000) (B:=100) (by omega) (show -2000000000000≤2*c∧2*c≤2000000000000 by omega) hy
 have c2:=mul_bd (A:=2000000000000*100) (B:=100) (by omega) c1 hv
 constructor<;>omega
theorem wr_in {x:Int} (h: -9223372036854775808≤x∧x≤9223372036854775807):IntKind.i64.wrap x=x:=by
 simp only[IntKind.wrap_i64];omega
def LvB (x y z:Int):Prop:=(-1000000000000≤x∧x≤1000000000000)∧(-1000000000000≤y∧y≤1000000000000)∧(-1000000000000≤z∧z≤1000000000000)
theorem foAct_R (a b c p q r s:Int) (w:World) (h:LvB a b c) (hp: -100≤p∧p≤100) (hq: -100≤q∧q≤100) (hr: -100≤r∧r≤100) (hs: -100≤s∧s≤100):
  Calls Tryz.prog 50 #[.agg #[.int .i64 a,.int .i64 b,.int .i64 c],.agg #[.int .i64 p,.int .i64 q,.int .i64 r,.int .i64 s]] w fun e w'=> ∃X Y Z:Int,e= .returned (.agg #[.int .i64 X,.int .i64 Y,.int .i64 Z])∧(R64 X∧R64 Y∧R64 Z)∧Below w.heap.size w w':=by
 obtain ⟨ha,hb,hc⟩:=h
 have h1:=atR ha hb hc hr hp
 have h2:=poR ha hb hc hp hr hq hs
 have h3:=atR ha hb hc hs hq
 refine (foAct_a a b c p q r s w h1 h2 h3).mono ?_
 rintro e w' ⟨rfl,hb⟩
 refine ⟨_,_,_,rfl,⟨?_,?_,?_⟩,hb⟩
 ·obtain ⟨_,k1,_,k2,_,k3⟩:=h1
  unfold R64 valI;omega
 ·obtain ⟨_,_,k1,_,_,k2,_,_,k3⟩:=h2
  unfold R64 polI;omega
 ·obtain ⟨_,k1,_,k2,_,k3⟩:=h3
  unfold R64 valI;omega

theorem lvForm_e (a b c n:Int) (t:Bool) (w:World) (h:hasB a b c n=t):Calls Tryz.prog 53 #[.agg #[.int .i64 a,.int .i64 b,.int .i64 c],.int .i64 n] w fun e w'=>e= .returned (.bool t)∧Below w.heap.size w w':=by
 subst h;exact lvForm_a a b c n w
theorem lvIs_e (a b c n:Int) (t:Bool) (w:World) (h:lvB a b c n=t):Calls Tryz.prog 23 #[.agg #[.int .i64 a,.int .i64 b,.int .i64 c],.int .i64 n] w fun e w'=>e= .returned (.bool t)∧Below w.heap.size w w':=by
 subst h;exact lvIs_a a b c n w
theorem foGood_e (a b c:Int) (t:Bool) (w:World) (h:formB a b c=t):Calls Tryz.prog 75 #[.agg #[.int .i64 a,.int .i64 b,.int .i64 c]] w fun e w'=>e= .returned (.bool t)∧Below w.heap.size w w':=by
 subst h;exact foGood_a a b c w
theorem getD_memD {l:List Int} {i:Nat} {d:Int} (h:i<l.length):l.getD i d ∈ l:=by
 rw[List.getD_eq_getElem?_getD,List.getElem?_eq_getElem h]
 exact List.getElem_mem h
theorem IntsAt.cellY {w:World} {lo hi n:Nat} {a:Option Addr} {f:Nat→Int} (h:IntsAt w lo hi a n f) {i:Nat} (hi':i<n): ∃g,a=some ⟨g,0,none⟩∧g<w.heap.size∧w.cell? ⟨g,i,none⟩=some (.int .i64 (f i)):=by
 rcases h with h|⟨g,cap,F,ha,h1,h2,h3,r,e⟩
 ·omega
 ·exact ⟨g,ha,r.lt,by rw[r.cell (i:=i) (by omega),e i hi']⟩
end Go.Proofs.YtobkcnmlmmhpoaaGreat
