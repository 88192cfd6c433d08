/- Slices of Matrixs in blocks of the call's own, and the laws' helpers over them. Which forms are reduced, on both sides. Plain: reduction of definite forms, as both sides do it, one step after the other. -/
import Derived.Test.YtobkcnmlmmhpoaaGreatNum
import Derived.Deep.RegionHeld3
import Derived.Deep.DeepCutAuto
import Derived.Deep.AppendLies
import Derived.Test.YtobkcnmlmmhpoaaGreatForm
namespace Go.Proofs.YtobkcnmlmmhpoaaGreat
open Go.RowKit
set_option linter.unusedVariables false
set_option linter.unusedSimpArgs false

def MatrixsAt (w:World) (lo hi:Nat) (a:Option Addr) (n:Nat) (f:Nat→Int):Prop:=
 n=0∨ ∃g cap F,a=some ⟨g,0,none⟩∧lo≤g∧g<hi∧n≤cap∧w.rowIs g 29 (cap*4) F∧ ∀i,i<n*4→F i= .int .i64 (f i)
theorem MatrixsAt.keep {w w':World} {lo hi:Nat} {a:Option Addr} {n:Nat} {f:Nat→Int} (h:MatrixsAt w lo hi a n f) (hk: ∀k,lo≤k→k<hi→w'.heap[k]? =w.heap[k]?):MatrixsAt w' lo hi a n f:=by
 rcases h with h|⟨g,cap,F,ha,h1,h2,h3,h4,h5⟩
 ·exact .inl h
 ·exact .inr ⟨g,cap,F,ha,h1,h2,h3,h4.of_block (hk g h1 h2),h5⟩
theorem MatrixsAt.below {w w':World} {lo hi B:Nat} {a:Option Addr} {n:Nat} {f:Nat→Int} (h:MatrixsAt w lo hi a n f) (hb:Below B w w') (hB:hi≤B):MatrixsAt w' lo hi a n f:=
 h.keep fun k _ h2=>hb.block k (by omega)

theorem Tryz.infoMatrix:(Tryz.prog.info? 29).map (fun i=>(i.zero,i.size,i.bytes))=some (some (.agg #[.int .i64 0,.int .i64 0,.int .i64 0,.int .i64 0]),4,32):=by kernel_rfl
def MatrixL (w:World) (lo:Nat) (v:Value) (n:Nat) (zs:List Int):Prop:=w.ownsRow lo 29 4 v n (zs.map (Value.int .i64))
theorem MatrixL.nil (w:World) (lo:Nat):MatrixL w lo (.slice none 0 0) 0 []:=World.ownsRow_nil _ _ _ _
theorem MatrixL.made (w:World) (lo:Nat) (h:lo≤w.heap.size):MatrixL (w.alloc (.cells #[] 29)) lo (.slice (some ⟨w.heap.size,0,none⟩) 0 0) 0 []:=
 World.ownsRow_made w #[] 0 h (by decide) rfl
theorem MatrixL.alloc {w:World} {lo:Nat} {v:Value} {n:Nat} {zs:List Int} (h:MatrixL w lo v n zs) (o:Obj):MatrixL (w.alloc o) lo v n zs:=World.ownsRow.alloc h o
theorem MatrixL.kept {w w':World} {lo:Nat} {v:Value} {n:Nat} {zs:List Int} {row:Option Nat} (h:MatrixL w lo v n zs) (hg:w.grownBy w' row) (hne:v.ownBlock=none∨v.ownBlock≠row):MatrixL w' lo v n zs:=World.ownsRow.kept h hg hne
theorem MatrixL.lt {w:World} {lo:Nat} {v:Value} {n:Nat} {zs:List Int} (h:MatrixL w lo v n zs): ∀k,v.ownBlock=some k→lo≤k∧k<w.heap.size:=World.ownsRow.lt h
theorem MatrixL.below {w w':World} {lo:Nat} {v:Value} {n:Nat} {zs:List Int} (h:MatrixL w lo v n zs) (hb:Below w.heap.size w w'):MatrixL w' lo v n zs:=
 h.kept (row:=none) ⟨hb.os,hb.tape,hb.output,hb.size,fun k hk _=>hb.block k hk⟩ (by cases v.ownBlock<;>simp)
theorem MatrixL.len {w:World} {lo:Nat} {v:Value} {n:Nat} {zs:List Int} (h:MatrixL w lo v n zs):zs.length=n*4:=by
 have:=h.1
 simpa using this
theorem MatrixL.at {w:World} {lo:Nat} {a:Option Addr} {n m c:Nat} {zs:List Int} (h:MatrixL w lo (.slice a m c) n zs):m=n∧MatrixsAt w lo w.heap.size a n (fun i=>zs.getD i 0):=by
 have hl:=h.len
 rcases h.2 with ⟨h1,h2⟩|⟨g,cap,cur,h1,h2,h3,h4,h5,h6,h7⟩
 ·simp only[Value.slice.injEq] at h1
  exact ⟨by omega,.inl h2⟩
 ·simp only[Value.slice.injEq] at h1
  obtain ⟨rfl,rfl,rfl⟩:=h1
  refine ⟨rfl,.inr ⟨g,c,fun i=>cur.getD i undef,rfl,h2,(Array.getElem?_eq_some_iff.1 h3).1,h4,⟨cur,h3,by omega,fun i hi=> ?_⟩,fun i hi=> ?_⟩⟩
  ·rw [Array.getElem?_eq_getElem (by omega)];simp [Array.getD,show i<cur.size from by omega]
  ·have hi0:i<zs.length:=by omega
   have e:cur.toList[i]? =(zs.map (Value.int .i64))[i]? :=by
    rw[←h7,List.getElem?_take,if_pos (by omega)]
   rw[List.getElem?_map,List.getElem?_eq_getElem hi0] at e
   simp only[Option.map_some] at e
   have hi2:i<cur.size:=by omega
   rw[Array.getElem?_toList,Array.getElem?_eq_getElem hi2] at e
   have e2:cur[i]=Value.int .i64 zs[i]:=by simpa using e
   have e3:zs.getD i 0=zs[i]:=by rw[List.getD_eq_getElem?_getD,List.getElem?_eq_getElem hi0];rfl
   show cur.getD i undef= .int .i64 (zs.getD i 0)
   rw[e3,←e2]
   simp [Array.getD,hi2]
end Go.Proofs.YtobkcnmlmmhpoaaGreat
namespace Go.Proofs.YtobkcnmlmmhpoaaGreat
open Go.RowKit
set_option linter.unusedVariables false
set_option linter.unusedSimpArgs false
attribute [local go_sem] q2 q3 q4 q5 q6 q7 q8 q9 q10 q11 q12

def normB (a b:Int):Bool:=decide (-a<b)&&decide (b≤a)
def redB (a b c:Int):Bool:=normB a b&&(decide (a<c) || (decide (a=c)&&decide (0≤b)))
set_option maxRecDepth 100000 in
set_option maxHeartbeats 1000000 in
theorem isNormal_x (a b c:Int) (w:World) (h0: -1000000000000000000≤a∧a≤1000000000000000000):
  Calls Tryz.prog 109 #[.agg #[.int .i64 a,.int .i64 b,.int .i64 c]] w fun e w'=>e= .returned (.bool (normB a b))∧w'=w.alloc (.cells #[.int .i64 a,.int .i64 b,.int .i64 c] 25):=by
 by_cases k0: -a<b
 ·by_cases k1:b≤a
  ·go_enter Tryz.func109,Tryz.ntmps109
   go_wp2
   go_returns
   refine ⟨ret_bool (by simp [normB,k0,k1]<;>(try (intros;omega))),?_⟩
   rfl
  ·go_enter Tryz.func109,Tryz.ntmps109
   go_wp2
   go_returns
   refine ⟨ret_bool (by simp [normB,k0,k1]<;>(try (intros;omega))),?_⟩
   rfl
 ·go_enter Tryz.func109,Tryz.ntmps109
  go_wp2
  go_returns
  refine ⟨ret_bool (by simp [normB,k0]<;>(try (intros;omega))),?_⟩
  rfl

set_option maxRecDepth 100000 in
set_option maxHeartbeats 2000000 in
theorem isReduced_x (a b c:Int) (w:World) (h0: -1000000000000000000≤a∧a≤1000000000000000000):
  Calls Tryz.prog 85 #[.agg #[.int .i64 a,.int .i64 b,.int .i64 c]] w fun e w'=>e= .returned (.bool (redB a b c))∧w'=(w.alloc (.cells #[.int .i64 a,.int .i64 b,.int .i64 c] 25)).alloc (.cells #[.int .i64 a,.int .i64 b,.int .i64 c] 25):=by
 cases k0:normB a b
 ·go_enter Tryz.func85,Tryz.ntmps85
  go_wp2_with (go_at_call 109;refine (isNormal_x _ _ _ _ (by first|assumption|omega)).mono ?_;rintro e w' ⟨rfl,rfl⟩)
  go_returns
  refine ⟨ret_bool (by simp [redB,k0]<;>(try (intros;omega))),?_⟩
  rfl
 ·by_cases k1:a<c
  ·go_enter Tryz.func85,Tryz.ntmps85
   go_wp2_with (go_at_call 109;refine (isNormal_x _ _ _ _ (by first|assumption|omega)).mono ?_;rintro e w' ⟨rfl,rfl⟩)
   go_returns
   refine ⟨ret_bool (by simp [redB,k0,k1]<;>(try (intros;omega))),?_⟩
   rfl
  ·by_cases k2:a=c
   ·subst k2
    by_cases k3:0≤b
    ·go_enter Tryz.func85,Tryz.ntmps85
     go_wp2_with (go_at_call 109;refine (isNormal_x _ _ _ _ (by first|assumption|omega)).mono ?_;rintro e w' ⟨rfl,rfl⟩)
     go_returns
     refine ⟨ret_bool (by simp [redB,k0,k3]<;>(try (intros;omega))),?_⟩
     rfl
    ·go_enter Tryz.func85,Tryz.ntmps85
     go_wp2_with (go_at_call 109;refine (isNormal_x _ _ _ _ (by first|assumption|omega)).mono ?_;rintro e w' ⟨rfl,rfl⟩)
     go_returns
     refine ⟨ret_bool (by simp [redB,k0,k3]<;>(try (intros;omega))),?_⟩
     rfl
   ·go_enter Tryz.func85,Tryz.ntmps85
    go_wp2_with (go_at_call 109;refine (isNormal_x _ _ _ _ (by first|assumption|omega)).mono ?_;rintro e w' ⟨rfl,rfl⟩)
    go_returns
    refine ⟨ret_bool (by simp [redB,k0,k1,k2]<;>(try (intros;omega))),?_⟩
    rfl

set_option maxRecDepth 100000 in
set_option maxHeartbeats 2000000 in
theorem reIs_x (a b c:Int) (w:World) (h0: -1000000000000000000≤a∧a≤1000000000000000000):
  Calls Tryz.prog 91 #[.agg #[.int .i64 a,.int .i64 b,.int .i64 c]] w fun e w'=>e= .returned (.bool (redB a b c))∧w'=w.alloc (.cells #[.int .i64 a,.int .i64 b,.int .i64 c] 25):=by
 by_cases n0: -a<b
 ·by_cases n1:b≤a
  ·by_cases k1:a<c
   ·go_enter Tryz.func91,Tryz.ntmps91
    go_wp2
    go_returns
    refine ⟨ret_bool (by simp [redB,normB,n0,n1,k1]<;>(try (intros;omega))),?_⟩
    rfl
   ·by_cases k2:a=c
    ·subst k2
     by_cases k3:0≤b
     ·go_enter Tryz.func91,Tryz.ntmps91
      go_wp2
      go_returns
      refine ⟨ret_bool (by simp [redB,normB,n0,n1,k3]<;>(try (intros;omega))),?_⟩
      rfl
     ·go_enter Tryz.func91,Tryz.ntmps91
      go_wp2
      go_returns
      refine ⟨ret_bool (by simp [redB,normB,n0,n1,k3]<;>(try (intros;omega))),?_⟩
      rfl
    ·go_enter Tryz.func91,Tryz.ntmps91
     go_wp2
     go_returns
     refine ⟨ret_bool (by simp [redB,normB,n0,n1,k1,k2]<;>(try (intros;omega))),?_⟩
     rfl
  ·go_enter Tryz.func91,Tryz.ntmps91
   go_wp2
   go_returns
   refine ⟨ret_bool (by simp [redB,normB,n0,n1]<;>(try (intros;omega))),?_⟩
   rfl
 ·go_enter Tryz.func91,Tryz.ntmps91
  go_wp2
  go_returns
  refine ⟨ret_bool (by simp [redB,normB,n0]<;>(try (intros;omega))),?_⟩
  rfl

end Go.Proofs.YtobkcnmlmmhpoaaGreat
namespace Go.Proofs.YtobkcnmlmmhpoaaGreat
set_option linter.unusedVariables false
set_option linter.unusedSimpArgs false

def valI (a b c x y:Int):Int:=a*x*x+b*x*y+c*y*y
def trT (a b:Int):Int:=(a-b) / (2*a)
def stepA (a b c:Int):Int:=if normB a b then c else a
def stepB (a b c:Int):Int:=if normB a b then -b else 2*a*trT a b+b
def stepC (a b c:Int):Int:=if normB a b then a else a*trT a b*trT a b+b*trT a b+c
structure OkF (a b c:Int):Prop where
 a0:0<a
 a1:a≤100000000
 b0: -100000000≤b
 b1:b≤100000000
 c0:0<c
 c1:c≤100000000
 d0: -2000≤discI a b c
 d1:discI a b c<0
theorem trT_bd {a b:Int} (h:0<a): -a<2*a*trT a b+b∧2*a*trT a b+b≤a:=by
 unfold trT
 have h1:=Int.emod_add_mul_ediv (a-b) (2*a)
 have h2:=Int.emod_nonneg (a-b) (show 2*a≠0 by omega)
 have h3:=Int.emod_lt_of_pos (a-b) (show 0<2*a by omega)
 omega
theorem norm_true {a b:Int} (h:normB a b=true): -a<b∧b≤a:=by unfold normB at h;simpa using h
theorem norm_false {a b:Int} (h:normB a b=false): ¬(-a<b∧b≤a):=by unfold normB at h;simpa using h
theorem disc_tr (a b c t:Int):discI a (2*a*t+b) (a*t*t+b*t+c)=discI a b c:=by
 unfold discI;grind
theorem disc_sw (a b c:Int):discI c (-b) a=discI a b c:=by
 unfold discI;grind
theorem sq_le_of {x A:Int} (h: -A≤x∧x≤A):0≤x*x∧x*x≤A*A:=by
 have h1:=mul_bd (a:=x) (b:=x) (A:=A) (B:=A) (by omega) h h
 refine ⟨?_,h1.2⟩
 by_cases q:0≤x
 ·exact Int.mul_nonneg q q
 ·exact Int.mul_nonneg_of_nonpos_of_nonpos (by omega) (by omega)
theorem c_bd {a b c:Int} (ha:0<a) (ha2:a≤100000000) (hb: -a≤b∧b≤a) (h0: -2000≤discI a b c) (h1:discI a b c<0):0<c∧c≤a+500:=by
 obtain ⟨q0,q1⟩:=sq_le_of hb
 unfold discI at h0 h1
 have e:4*a*c=4*(a*c):=Int.mul_assoc _ _ _
 refine ⟨?_,?_⟩
 ·by_cases q:0<c
  ·exact q
  ·have:=Int.mul_nonneg_of_nonpos_of_nonpos (a:= -a) (b:=c) (by omega) (by omega)
   rw[Int.neg_mul] at this;omega
 ·by_cases q:c≤a+500
  ·exact q
  ·exfalso
   have h3:=Int.mul_le_mul_of_nonneg_left (show a+501≤c by omega) (show 0≤a by omega)
   rw[Int.mul_add] at h3
   omega
theorem step_ok {a b c:Int} (h:OkF a b c):OkF (stepA a b c) (stepB a b c) (stepC a b c):=by
 unfold stepA stepB stepC
 cases hn:normB a b
 ·simp only[Bool.false_eq_true,if_false]
  obtain ⟨t0,t1⟩:=trT_bd (b:=b) h.a0
  have hd:=disc_tr a b c (trT a b)
  generalize hx:2*a*trT a b+b=x at*
  generalize hy:a*trT a b*trT a b+b*trT a b+c=y at*
  have d0: -2000≤discI a x y:=by rw[hd];exact h.d0
  have d1:discI a x y<0:=by rw[hd];exact h.d1
  obtain ⟨y0,y1⟩:=c_bd h.a0 h.a1 ⟨by omega,t1⟩ d0 d1
  have:=h.a1
  by_cases q:a≤1000
  ·exact ⟨h.a0,by omega,by omega,by omega,y0,by omega,d0,d1⟩
  ·refine ⟨h.a0,by omega,by omega,by omega,y0,?_,d0,d1⟩
   -- a great one: the last coefficient is less than the first
   obtain ⟨q0,q1⟩:=sq_le_of (x:=x) (A:=a) ⟨by omega,t1⟩
   unfold discI at d0 d1
   have e:4*a*y=4*(a*y):=Int.mul_assoc _ _ _
   by_cases qq:y≤a
   ·omega
   ·exfalso
    have h3:=Int.mul_le_mul_of_nonneg_left (show a+1≤y by omega) (show 0≤a by omega)
    rw[Int.mul_add] at h3
    omega
 ·simp only[if_true]
  exact ⟨h.c0,h.c1,by have:=h.b1;omega,by have:=h.b0;omega,h.a0,h.a1,by rw[disc_sw];exact h.d0,by rw[disc_sw];exact h.d1⟩

def redN:Nat→Int→Int→Int→Int × Int × Int
 |0,a,b,c=>(a,b,c)
 |n+1,a,b,c=>if redB a b c then (a,b,c) else redN n (stepA a b c) (stepB a b c) (stepC a b c)
def muF (a b c:Int):Nat:=3*a.toNat+(if normB a b then (if redB a b c then 0 else 1) else 2)
theorem red_norm {a b c:Int} (h:redB a b c=true):normB a b=true:=by unfold redB at h;simp at h;exact h.1
theorem mu_step {a b c:Int} (h:OkF a b c) (hr:redB a b c=false):muF (stepA a b c) (stepB a b c) (stepC a b c)<muF a b c:=by
 have ha:=h.a0
 unfold muF stepA stepB stepC
 cases hn:normB a b
 ·obtain ⟨t0,t1⟩:=trT_bd (b:=b) h.a0
  have hn2:normB a (2*a*trT a b+b)=true:=by unfold normB;simp;omega
  simp only[Bool.false_eq_true,if_false,hn2,if_true]
  split<;>omega
 ·obtain ⟨n0,n1⟩:=norm_true hn
  simp only[if_true,hr,Bool.false_eq_true,if_false]
  have hac:c<a∨(a=c∧b<0):=by
   unfold redB at hr;rw [hn] at hr;simp at hr;omega
  rcases hac with hac|⟨hac,hb⟩
  ·have:=h.c0
   split
   ·split<;>omega
   ·omega
  ·subst hac
   have hn2:normB a (-b)=true:=by unfold normB;simp;omega
   have hr2:redB a (-b) a=true:=by unfold redB;rw [hn2];simp;omega
   simp only[hn2,hr2,if_true]
   omega
theorem redN_more: ∀n a b c,OkF a b c→muF a b c≤n→redN (n+1) a b c=redN n a b c:=by
 intro n
 induction n with
 |zero=>
  intro a b c h hm
  cases hr:redB a b c
  ·have:=mu_step h hr;omega
  ·simp [redN,hr]
 |succ n ih=>
  intro a b c h hm
  cases hr:redB a b c
  ·have h1:=mu_step h hr
   have h2:=ih _ _ _ (step_ok h) (by omega)
   have e1:redN (n+1+1) a b c=redN (n+1) (stepA a b c) (stepB a b c) (stepC a b c):=by rw[redN,if_neg (by rw[hr];simp)]
   have e2:redN (n+1) a b c=redN n (stepA a b c) (stepB a b c) (stepC a b c):=by rw[redN,if_neg (by rw[hr];simp)]
   rw[e1,e2]
   exact h2
  ·have e1:redN (n+1+1) a b c=(a,b,c):=by rw[redN,if_pos hr]
   have e2:redN (n+1) a b c=(a,b,c):=by rw[redN,if_pos hr]
   rw[e1,e2]
theorem redN_all {a b c:Int} (h:OkF a b c) {n:Nat} (hn:muF a b c≤n):redN n a b c=redN (muF a b c) a b c:=by
 obtain ⟨k,rfl⟩:=Nat.exists_eq_add_of_le hn
 induction k with
 |zero=>rfl
 |succ k ih=>
  have h1:=ih (Nat.le_add_right _ _)
  rw[←h1]
  exact redN_more (muF a b c+k) a b c h (Nat.le_add_right _ _)
def redF (a b c:Int):Int × Int × Int:=redN (muF a b c) a b c
theorem redF_yes {a b c:Int} (hr:redB a b c=true):redF a b c=(a,b,c):=by
 unfold redF
 cases muF a b c with
 |zero=>rfl
 |succ n=>rw[redN,if_pos hr]
theorem redF_no {a b c:Int} (h:OkF a b c) (hr:redB a b c=false):redF a b c=redF (stepA a b c) (stepB a b c) (stepC a b c):=by
 have h1:=mu_step h hr
 unfold redF
 obtain ⟨n,hn⟩:=Nat.exists_eq_succ_of_ne_zero (show muF a b c≠0 by omega)
 rw[hn,redN,if_neg (by rw[hr];simp)]
 exact redN_all (step_ok h) (by omega)
theorem redN_red: ∀n a b c,OkF a b c→muF a b c≤n→redB (redN n a b c).1 (redN n a b c).2.1 (redN n a b c).2.2=true∧OkF (redN n a b c).1 (redN n a b c).2.1 (redN n a b c).2.2∧discI (redN n a b c).1 (redN n a b c).2.1 (redN n a b c).2.2=discI a b c:=by
 intro n
 induction n with
 |zero=>
  intro a b c h hm
  cases hr:redB a b c
  ·have:=mu_step h hr;omega
  ·exact ⟨hr,h,rfl⟩
 |succ n ih=>
  intro a b c h hm
  cases hr:redB a b c
  ·have h1:=mu_step h hr
   obtain ⟨i1,i2,i3⟩:=ih _ _ _ (step_ok h) (by omega)
   rw[redN]
   simp only[hr,Bool.false_eq_true,if_false]
   refine ⟨i1,i2,i3.trans ?_⟩
   unfold stepA stepB stepC
   split
   ·exact disc_sw a b c
   ·exact disc_tr a b c _
  ·rw [redN]
   simp only[hr,if_true]
   exact ⟨trivial,h,trivial⟩
theorem redF_red {a b c:Int} (h:OkF a b c):redB (redF a b c).1 (redF a b c).2.1 (redF a b c).2.2=true∧OkF (redF a b c).1 (redF a b c).2.1 (redF a b c).2.2∧discI (redF a b c).1 (redF a b c).2.1 (redF a b c).2.2=discI a b c:=redN_red _ a b c h (Nat.le_refl _)
theorem red_small {a b c:Int} (h:OkF a b c) (hr:redB a b c=true):a≤26∧ -26≤b∧b≤26∧c≤600:=by
 obtain ⟨n0,n1⟩:=norm_true (red_norm hr)
 have hac:a≤c:=by unfold redB at hr;simp at hr;omega
 have ha:=h.a0
 obtain ⟨q0,q1⟩:=sq_le_of (x:=b) (A:=a) ⟨by omega,n1⟩
 have h2:=h.d0
 unfold discI at h2
 have e:4*a*c=4*(a*c):=Int.mul_assoc _ _ _
 have h3:=Int.mul_le_mul_of_nonneg_left hac (show 0≤a by omega)
 have h26:a≤26:=by
  by_cases q:a≤26
  ·exact q
  ·have:=sq_mono (show 0≤27 by omega) (show (27:Int)≤a by omega);omega
 refine ⟨h26,by omega,by omega,?_⟩
 obtain ⟨c0,c1⟩:=c_bd h.a0 (by omega) ⟨by omega,n1⟩ h.d0 h.d1
 omega
end Go.Proofs.YtobkcnmlmmhpoaaGreat
