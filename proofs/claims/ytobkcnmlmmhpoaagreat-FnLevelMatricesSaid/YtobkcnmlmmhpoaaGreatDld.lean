/- What the law of level matrices draws: two level forms and a level. -/
import Derived.Test.YtobkcnmlmmhpoaaGreatDlb
import Derived.Test.YtobkcnmlmmhpoaaGreatDlc
namespace Go.Proofs.YtobkcnmlmmhpoaaGreat
open Go.RowKit
set_option linter.unusedVariables false
set_option linter.unusedSimpArgs false
attribute [local go_sem] q2 q3 q4 q5 q6 q7 q8 q9 q10 q11 q12

def DrawnFFI (w:World) (e:Ending) (w':World):Prop:= ∃x y z x' y' z' n:Int,e= .returned (.tuple #[.agg #[.int .i64 x,.int .i64 y,.int .i64 z],.agg #[.int .i64 x',.int .i64 y',.int .i64 z'],.int .i64 n])∧(R64 x∧R64 y∧R64 z)∧(R64 x'∧R64 y'∧R64 z')∧R64 n∧Below w.heap.size w w'
theorem rt_pos {x y z n:Int} (h:lvB x y z n=true):0<(flN (rtP (discI x y z) n) (fun k=>(k:Int)) (2*n).toNat).length:=by
 have hf:=has_facts (lv_has h)
 have h1:1≤n:=hf.2.1
 have hm:x%n=0:=by unfold lvB at h;simp at h;exact h.2
 obtain ⟨k,hk⟩:=Int.dvd_of_emod_eq_zero hm
 have r0:=Int.emod_nonneg y (show 2*n≠0 by omega)
 have r1:=Int.emod_lt_of_pos y (show 0<2*n by omega)
 have hq:=Int.emod_add_mul_ediv y (2*n)
 generalize y / (2*n)=q at*
 generalize y%(2*n)=r at*
 obtain ⟨j,rfl⟩:=Int.eq_ofNat_of_zero_le r0
 have hp:rtP (discI x y z) n j=true:=by
  unfold rtP
  have e:(j:Int)*j-discI x y z=(4*n)*(k*z-q*(j+n*q)):=by
   unfold discI
   rw[←hq,hk]
   grind
  rw[e,Int.mul_emod_right];rfl
 exact List.length_pos_of_mem (flN_in (p:=rtP (discI x y z) n) (e:=fun k=>(k:Int)) hp (k:=(2*n).toNat) (by omega))
theorem mm_small {n v t:Int} (hn:1≤n∧n≤30) (hv:0≤v∧v≤2) (ht:0≤t∧t≤4):
  (-100≤mmP 1 0 (n*(v-1)) 1 1 (t-2) 0 1∧mmP 1 0 (n*(v-1)) 1 1 (t-2) 0 1≤100)∧(-100≤mmQ 1 0 (n*(v-1)) 1 1 (t-2) 0 1∧mmQ 1 0 (n*(v-1)) 1 1 (t-2) 0 1≤100)∧(-100≤mmR 1 0 (n*(v-1)) 1 1 (t-2) 0 1∧mmR 1 0 (n*(v-1)) 1 1 (t-2) 0 1≤100)∧(-100≤mmS 1 0 (n*(v-1)) 1 1 (t-2) 0 1∧mmS 1 0 (n*(v-1)) 1 1 (t-2) 0 1≤100):=by
 unfold mmP mmQ mmR mmS wrap64
 rcases (show v=0∨v=1∨v=2 by omega) with rfl|rfl|rfl<;>rcases (show t=0∨t=1∨t=2∨t=3∨t=4 by omega) with rfl|rfl|rfl|rfl|rfl<;>omega

set_option maxRecDepth 100000 in
set_option maxHeartbeats 8000000 in
theorem drawLE_a (v:Value) (n:Nat) (w:World) (h:ArgB w v n):Calls Tryz.prog 19 #[v] w (DrawnFFI w):=by
 obtain ⟨a,c,rfl⟩:=h.len
 have h0:=cur_new h ((w.alloc (.cells #[.int .i64 0,.int .i64 0,.int .i64 0] 25)).alloc (.cells #[.int .i64 0,.int .i64 0,.int .i64 0] 25)) byGG
 have hsz:(((w.alloc (.cells #[.int .i64 0,.int .i64 0,.int .i64 0] 25)).alloc (.cells #[.int .i64 0,.int .i64 0,.int .i64 0] 25))).heap.size=w.heap.size+1+1:=by simp
 rw[hsz] at h0
 clear hsz
 have nb0:w.heap.size≠(w.heap.size+1+1):=by omega
 have nb1:w.heap.size+1≠(w.heap.size+1+1):=by omega
 go_enter Tryz.func19,Tryz.ntmps19
 go_wp2_with fail
 refine (leveled_d (B:=w.heap.size) (w.heap.size+1+1) 0  _ (by repeat' with_reducible first|assumption|refine Cur.alc ?_ _|refine Cur.drw ?_|refine Cur.setN ?_ (by first|with_reducible assumption|omega)) (by omega)).mono ?_
 rintro e1 w1 ⟨x,y,z,n,rfl,p1,h1,g1⟩
 have hs1:=h1.lt
 have hz1:w.heap.size≤w1.heap.size:=Nat.le_trans (by first|exact Nat.le_refl _|with_reducible assumption|(simp;done)|(simp;omega)) g1.size
 have tq0:=Wi3.d g1 w.heap.size 0 0 0 nb0
 have tq1:=Wi3.d g1 (w.heap.size+1) 0 0 0 nb1
 (try clear c00 c01 c02 f00 f01 f02 z0)
 (try clear c10 c11 c12 f10 f11 f12 z1)
 obtain ⟨c00,c01,c02,f00,f01,f02,z0⟩:=tq0
 obtain ⟨c10,c11,c12,f10,f11,f12,z1⟩:=tq1
 have gw1:Below w.heap.size w w1:=Below.trans byGG (g1.to_below (by omega) (by first|omega|(simp;done)|(simp;omega)))
 clear g1
 have nb2:w1.heap.size≠(w.heap.size+1+1):=by omega
 have n10: ¬w1.heap.size=w.heap.size:=by omega
 have n01: ¬w.heap.size=w1.heap.size:=by omega
 have n11: ¬w1.heap.size=w.heap.size+1:=by omega
 have n12: ¬w.heap.size+1=w1.heap.size:=by omega
 have n13: ¬w.heap.size+1=w.heap.size:=by omega
 have n14: ¬w.heap.size=w.heap.size+1:=by omega
 have hbb0: ¬w.heap.size=(w.heap.size+1+1):=nb0
 have hbb1: ¬w.heap.size+1=(w.heap.size+1+1):=nb1
 have hbb2: ¬w1.heap.size=(w.heap.size+1+1):=nb2
 cases k1:lvB x y z n
 ·go_wp2_with fail
  refine (lvIs_e x y z n false _ k1).mono ?_
  rintro e2 w2 ⟨rfl,b2⟩
  have tq0:=Wi3.c b2 w.heap.size 0 0 0
  have tq1:=Wi3.c b2 (w.heap.size+1) 0 0 0
  have tq2:=Ri3.c b2 w1.heap.size x y z
  try clear c00 c01 c02 f00 f01 f02
  try clear c10 c11 c12 f10 f11 f12
  try clear c20 c21 c22
  obtain ⟨c00,c01,c02,f00,f01,f02,z0⟩:=tq0
  obtain ⟨c10,c11,c12,f10,f11,f12,z1⟩:=tq1
  obtain ⟨c20,c21,c22,z2⟩:=tq2
  have h2:=Cur.below (B:=w.heap.size) (b:=(w.heap.size+1+1)) (K:=(0+70)) (by repeat' with_reducible first|assumption|refine Cur.alc ?_ _|refine Cur.drw ?_|refine Cur.setN ?_ (by first|with_reducible assumption|omega)) b2
  have hs2:=h2.lt
  have hz2:w.heap.size≤w2.heap.size:=Nat.le_trans (by first|exact Nat.le_refl _|omega|(simp;done)|(simp;omega)) b2.size
  have gw2:Below w.heap.size w w2:=byGG
  go_wp2_with fail
  refine (leveled_d (B:=w.heap.size) (w.heap.size+1+1) (0+70)  _ (by repeat' with_reducible first|assumption|refine Cur.alc ?_ _|refine Cur.drw ?_|refine Cur.setN ?_ (by first|with_reducible assumption|omega)) (by omega)).mono ?_
  rintro e3 w3 ⟨x',y',z',n',rfl,p3,h3,g3⟩
  have hs3:=h3.lt
  have hz3:w.heap.size≤w3.heap.size:=Nat.le_trans (by first|exact Nat.le_refl _|with_reducible assumption|(simp;done)|(simp;omega)) g3.size
  have tq0:=Wi3.d g3 w.heap.size 0 0 0 nb0
  have tq1:=Wi3.d g3 (w.heap.size+1) 0 0 0 nb1
  have tq2:=Ri3.d g3 w1.heap.size x y z nb2
  (try clear c00 c01 c02 f00 f01 f02 z0)
  (try clear c10 c11 c12 f10 f11 f12 z1)
  (try clear c20 c21 c22 z2)
  obtain ⟨c00,c01,c02,f00,f01,f02,z0⟩:=tq0
  obtain ⟨c10,c11,c12,f10,f11,f12,z1⟩:=tq1
  obtain ⟨c20,c21,c22,z2⟩:=tq2
  have gw3:Below w.heap.size w w3:=Below.trans byGG (g3.to_below (by omega) (by first|omega|(simp;done)|(simp;omega)))
  clear g3
  have m30: ¬w3.heap.size=w.heap.size:=by omega
  have o30: ¬w.heap.size=w3.heap.size:=by omega
  have m31: ¬w3.heap.size=w.heap.size+1:=by omega
  have o31: ¬w.heap.size+1=w3.heap.size:=by omega
  have m32: ¬w3.heap.size=w1.heap.size:=by omega
  have o32: ¬w1.heap.size=w3.heap.size:=by omega
  go_upto_region 5 with fail
  go_cut [4] (fun s4 wx=> ∃X' Y' Z':Int,s4= .int .i64 n∧(R64 X'∧R64 Y'∧R64 Z')∧wx.cell? ⟨w.heap.size,0,none⟩=some (.int .i64 x)∧wx.cell? ⟨w.heap.size,1,none⟩=some (.int .i64 y)∧wx.cell? ⟨w.heap.size,2,none⟩=some (.int .i64 z)∧wx.cell? ⟨w.heap.size+1,0,none⟩=some (.int .i64 X')∧wx.cell? ⟨w.heap.size+1,1,none⟩=some (.int .i64 Y')∧wx.cell? ⟨w.heap.size+1,2,none⟩=some (.int .i64 Z')∧Hid (Below w.heap.size w wx))
  case first=>
   go_region
   all_goals
    go_wp2_with fail
    go_meet
    exact ⟨x',y',z',rfl,⟨p3.1,p3.2.1,p3.2.2.1⟩,(by (first|with_reducible assumption|((repeat' first|with_reducible (first|assumption|refine cell_al _ ?_|refine cell_eq _ ?_|refine cell_ne _ ?_ ?_|refine ex_set _ ?_|refine ex_al _ ?_|exact ⟨_,by assumption⟩|refine cell_call (by assumption) ?_|refine far_cell (by assumption) ?_ ?_|refine ex_call (by assumption) ?_|refine ex_far (by assumption) ?_ ?_)|(intro hh;injection hh with hh1 hh2;omega)|omega|(simp;done)|(simp;omega));done)|go_simp)),(by (first|with_reducible assumption|((repeat' first|with_reducible (first|assumption|refine cell_al _ ?_|refine cell_eq _ ?_|refine cell_ne _ ?_ ?_|refine ex_set _ ?_|refine ex_al _ ?_|exact ⟨_,by assumption⟩|refine cell_call (by assumption) ?_|refine far_cell (by assumption) ?_ ?_|refine ex_call (by assumption) ?_|refine ex_far (by assumption) ?_ ?_)|(intro hh;injection hh with hh1 hh2;omega)|omega|(simp;done)|(simp;omega));done)|go_simp)),(by (first|with_reducible assumption|((repeat' first|with_reducible (first|assumption|refine cell_al _ ?_|refine cell_eq _ ?_|refine cell_ne _ ?_ ?_|refine ex_set _ ?_|refine ex_al _ ?_|exact ⟨_,by assumption⟩|refine cell_call (by assumption) ?_|refine far_cell (by assumption) ?_ ?_|refine ex_call (by assumption) ?_|refine ex_far (by assumption) ?_ ?_)|(intro hh;injection hh with hh1 hh2;omega)|omega|(simp;done)|(simp;omega));done)|go_simp)),(by (first|with_reducible assumption|((repeat' first|with_reducible (first|assumption|refine cell_al _ ?_|refine cell_eq _ ?_|refine cell_ne _ ?_ ?_|refine ex_set _ ?_|refine ex_al _ ?_|exact ⟨_,by assumption⟩|refine cell_call (by assumption) ?_|refine far_cell (by assumption) ?_ ?_|refine ex_call (by assumption) ?_|refine ex_far (by assumption) ?_ ?_)|(intro hh;injection hh with hh1 hh2;omega)|omega|(simp;done)|(simp;omega));done)|go_simp)),(by (first|with_reducible assumption|((repeat' first|with_reducible (first|assumption|refine cell_al _ ?_|refine cell_eq _ ?_|refine cell_ne _ ?_ ?_|refine ex_set _ ?_|refine ex_al _ ?_|exact ⟨_,by assumption⟩|refine cell_call (by assumption) ?_|refine far_cell (by assumption) ?_ ?_|refine ex_call (by assumption) ?_|refine ex_far (by assumption) ?_ ?_)|(intro hh;injection hh with hh1 hh2;omega)|omega|(simp;done)|(simp;omega));done)|go_simp)),(by (first|with_reducible assumption|((repeat' first|with_reducible (first|assumption|refine cell_al _ ?_|refine cell_eq _ ?_|refine cell_ne _ ?_ ?_|refine ex_set _ ?_|refine ex_al _ ?_|exact ⟨_,by assumption⟩|refine cell_call (by assumption) ?_|refine far_cell (by assumption) ?_ ?_|refine ex_call (by assumption) ?_|refine ex_far (by assumption) ?_ ?_)|(intro hh;injection hh with hh1 hh2;omega)|omega|(simp;done)|(simp;omega));done)|go_simp)),hide byGG⟩
  obtain ⟨X,Y,Z,rfl,hXYZ,r00,r01,r02,r10,r11,r12,hgb⟩:=hcut
  have gwE:=unhide hgb
  clear hgb
  go_wp2
  refine bodyPost_ret (v:= .tuple #[.agg #[.int .i64 x,.int .i64 y,.int .i64 z],.agg #[.int .i64 X,.int .i64 Y,.int .i64 Z],.int .i64 n]) (by simp [results,Tryz.results19,go_sem, *]) rfl ?_
  exact ⟨_,_,_,_,_,_,_,rfl,⟨p1.1,p1.2.1,p1.2.2.1⟩,hXYZ,p1.2.2.2,byGG⟩
 ·go_wp2_with fail
  refine (lvIs_e x y z n true _ k1).mono ?_
  rintro e2 w2 ⟨rfl,b2⟩
  have tq0:=Wi3.c b2 w.heap.size 0 0 0
  have tq1:=Wi3.c b2 (w.heap.size+1) 0 0 0
  have tq2:=Ri3.c b2 w1.heap.size x y z
  try clear c00 c01 c02 f00 f01 f02
  try clear c10 c11 c12 f10 f11 f12
  try clear c20 c21 c22
  obtain ⟨c00,c01,c02,f00,f01,f02,z0⟩:=tq0
  obtain ⟨c10,c11,c12,f10,f11,f12,z1⟩:=tq1
  obtain ⟨c20,c21,c22,z2⟩:=tq2
  have h2:=Cur.below (B:=w.heap.size) (b:=(w.heap.size+1+1)) (K:=(0+70)) (by repeat' with_reducible first|assumption|refine Cur.alc ?_ _|refine Cur.drw ?_|refine Cur.setN ?_ (by first|with_reducible assumption|omega)) b2
  have hs2:=h2.lt
  have hz2:w.heap.size≤w2.heap.size:=Nat.le_trans (by first|exact Nat.le_refl _|omega|(simp;done)|(simp;omega)) b2.size
  have gw2:Below w.heap.size w w2:=byGG
  obtain ⟨d,hd⟩: ∃d,discI x y z=d:=⟨_,rfl⟩
  have hhf:=has_facts (lv_has k1)
  have hcl:=hhf.1
  have hfo:=class_form hcl
  have hn1:1≤n∧n≤30:=⟨hhf.2.1,hhf.2.2.1⟩
  have HND:negB d=true:=neg_of_class hcl hd
  have hdd: -2000≤d∧d≤ -3:=neg_true HND
  have hLB:LvB x y z:=by unfold LvB;omega
  obtain ⟨Ls,hLs⟩: ∃Ls,(flN (rtP d n) (fun k=>(k:Int)) (2*n).toNat)=Ls:=⟨_,rfl⟩
  have hpos:0<Ls.length:=by rw[←hLs,←hd];exact rt_pos k1
  have hlen:Ls.length≤60:=by rw[←hLs];exact Nat.le_trans (flN_len _ _ _) (by omega)
  clear hhf k1
  go_wp2_with fail
  refine (one_a (B:=w.heap.size) (w.heap.size+1+1) (0+70) 10 _ (by repeat' with_reducible first|assumption|refine Cur.alc ?_ _|refine Cur.drw ?_|refine Cur.setN ?_ (by first|with_reducible assumption|omega)) (by omega) (by omega)).mono ?_
  rintro e3 w3 ⟨t3,rfl,h3,g3⟩
  have hs3:=h3.lt
  have hz3:w.heap.size≤w3.heap.size:=Nat.le_trans (by first|exact Nat.le_refl _|with_reducible assumption|(simp;done)|(simp;omega)) g3.size
  have tq0:=Wi3.d g3 w.heap.size 0 0 0 nb0
  have tq1:=Wi3.d g3 (w.heap.size+1) 0 0 0 nb1
  have tq2:=Ri3.d g3 w1.heap.size x y z nb2
  (try clear c00 c01 c02 f00 f01 f02 z0)
  (try clear c10 c11 c12 f10 f11 f12 z1)
  (try clear c20 c21 c22 z2)
  obtain ⟨c00,c01,c02,f00,f01,f02,z0⟩:=tq0
  obtain ⟨c10,c11,c12,f10,f11,f12,z1⟩:=tq1
  obtain ⟨c20,c21,c22,z2⟩:=tq2
  have gw3:Below w.heap.size w w3:=Below.trans byGG (g3.to_below (by omega) (by first|omega|(simp;done)|(simp;omega)))
  clear g3
  cases t3
  ·go_wp2_with fail
   refine (pick_a (B:=w.heap.size) (w.heap.size+1+1) ((0+70)+2) 3 _ (by repeat' with_reducible first|assumption|refine Cur.alc ?_ _|refine Cur.drw ?_|refine Cur.setN ?_ (by first|with_reducible assumption|omega)) (by omega) (by omega)).mono ?_
   rintro e4 w4 ⟨v4,rfl,p4,h4,g4⟩
   have hs4:=h4.lt
   have hz4:w.heap.size≤w4.heap.size:=Nat.le_trans (by first|exact Nat.le_refl _|with_reducible assumption|(simp;done)|(simp;omega)) g4.size
   have tq0:=Wi3.d g4 w.heap.size 0 0 0 nb0
   have tq1:=Wi3.d g4 (w.heap.size+1) 0 0 0 nb1
   have tq2:=Ri3.d g4 w1.heap.size x y z nb2
   (try clear c00 c01 c02 f00 f01 f02 z0)
   (try clear c10 c11 c12 f10 f11 f12 z1)
   (try clear c20 c21 c22 z2)
   obtain ⟨c00,c01,c02,f00,f01,f02,z0⟩:=tq0
   obtain ⟨c10,c11,c12,f10,f11,f12,z1⟩:=tq1
   obtain ⟨c20,c21,c22,z2⟩:=tq2
   have gw4:Below w.heap.size w w4:=Below.trans byGG (g4.to_below (by omega) (by first|omega|(simp;done)|(simp;omega)))
   clear g4
   by_cases s0:v4=0
   ·subst s0
    go_wp2_with fail
    refine (foDisc_e x y z d _ hfo hd).mono ?_
    rintro e5 w5 ⟨rfl,b5⟩
    have tq0:=Wi3.c b5 w.heap.size 0 0 0
    have tq1:=Wi3.c b5 (w.heap.size+1) 0 0 0
    have tq2:=Ri3.c b5 w1.heap.size x y z
    try clear c00 c01 c02 f00 f01 f02
    try clear c10 c11 c12 f10 f11 f12
    try clear c20 c21 c22
    obtain ⟨c00,c01,c02,f00,f01,f02,z0⟩:=tq0
    obtain ⟨c10,c11,c12,f10,f11,f12,z1⟩:=tq1
    obtain ⟨c20,c21,c22,z2⟩:=tq2
    have h5:=Cur.below (B:=w.heap.size) (b:=(w.heap.size+1+1)) (K:=(((0+70)+2)+2)) (by repeat' with_reducible first|assumption|refine Cur.alc ?_ _|refine Cur.drw ?_|refine Cur.setN ?_ (by first|with_reducible assumption|omega)) b5
    have hs5:=h5.lt
    have hz5:w.heap.size≤w5.heap.size:=Nat.le_trans (by first|exact Nat.le_refl _|omega|(simp;done)|(simp;omega)) b5.size
    have gw5:Below w.heap.size w w5:=byGG
    go_wp2_with fail
    refine (lvRoots_a d n _ (by omega) (by omega) (by omega) (by omega)).mono ?_
    rintro e8 w8 ⟨a8,c8,rfl,hl8,b8⟩
    have tq0:=Wi3.c b8 w.heap.size 0 0 0
    have tq1:=Wi3.c b8 (w.heap.size+1) 0 0 0
    have tq2:=Ri3.c b8 w1.heap.size x y z
    try clear c00 c01 c02 f00 f01 f02
    try clear c10 c11 c12 f10 f11 f12
    try clear c20 c21 c22
    obtain ⟨c00,c01,c02,f00,f01,f02,z0⟩:=tq0
    obtain ⟨c10,c11,c12,f10,f11,f12,z1⟩:=tq1
    obtain ⟨c20,c21,c22,z2⟩:=tq2
    have h8:=Cur.below (B:=w.heap.size) (b:=(w.heap.size+1+1)) (K:=(((0+70)+2)+2)) (by repeat' with_reducible first|assumption|refine Cur.alc ?_ _|refine Cur.drw ?_|refine Cur.setN ?_ (by first|with_reducible assumption|omega)) b8
    have hs8:=h8.lt
    have gw8:Below w.heap.size w w8:=byGG
    have hlo:=hl8.lt
    have hmm: ∀r,r ∈ Ls→0≤r∧r<2*n∧(r*r-d)%(4*n)=0:=fun r hr=>rt_memD (by omega) (by rw[hLs];exact hr)
    rw[hLs] at hl8 hlo ⊢
    have hat:=hl8.ints.2
    have HMM:=hide hmm
    clear hmm hl8 hLs
    obtain ⟨gl,hgl,-,-⟩:=IntsAt.cellY hat hpos
    subst hgl
    have hgl2:w1.heap.size≤gl:=by
     have:=hlo gl rfl
     try simp at this
     omega
    have hgb:gl≠(w.heap.size+1+1):=by omega
    have hgb2: ¬gl=(w.heap.size+1+1):=hgb
    have HLC:Hid (∀k,k<Ls.length→w8.cell? ⟨gl,k,none⟩=some (.int .i64 (Ls.getD k 0))):=hide fun k hk=>by
     obtain ⟨g',e',-,h'⟩:=IntsAt.cellY hat hk
     cases e'
     exact h'
    have hglt:gl<w8.heap.size:=World.block_lt_of_cell? _ _ ((unhide HLC) 0 hpos)
    have ngl: ¬w.heap.size=gl:=by omega
    have ngm: ¬w.heap.size+1=gl:=by omega
    clear hat hlo
    go_upto_region 9 with fail
    go_cut [4] (fun s4 wx=> ∃X' Y' Z':Int,s4= .int .i64 n∧(R64 X'∧R64 Y'∧R64 Z')∧wx.cell? ⟨w.heap.size,0,none⟩=some (.int .i64 x)∧wx.cell? ⟨w.heap.size,1,none⟩=some (.int .i64 y)∧wx.cell? ⟨w.heap.size,2,none⟩=some (.int .i64 z)∧wx.cell? ⟨w.heap.size+1,0,none⟩=some (.int .i64 X')∧wx.cell? ⟨w.heap.size+1,1,none⟩=some (.int .i64 Y')∧wx.cell? ⟨w.heap.size+1,2,none⟩=some (.int .i64 Z')∧Hid (Below w.heap.size w wx))
    case first=>
     go_region_with (first|(go_at_call 47;refine (reduced_d (B:=w.heap.size) (w.heap.size+1+1) (((0+70)+2)+2) d _ (by repeat' with_reducible first|assumption|refine Cur.alc ?_ _|refine Cur.drw ?_|refine Cur.setN ?_ (by first|with_reducible assumption|omega)|refine Cur.below ?_ (by assumption)) (by omega) HND).mono ?_;rintro e12 w12 ⟨x',y',z',rfl,p12,h12,g12⟩;obtain ⟨dc,df,dl⟩:=dcell g12;have hs12:=h12.lt;have hz12:=g12.size;have mc120:=fun o=>dc (w.heap.size) o (by first|with_reducible assumption|(simp;done)|(simp;omega)) hbb0;have mf120:=fun o=>df (w.heap.size) o (by first|with_reducible assumption|(simp;done)|(simp;omega)) hbb0;have ml120:=dl (w.heap.size) (by first|with_reducible assumption|(simp;done)|(simp;omega));have mc121:=fun o=>dc (w.heap.size+1) o (by first|with_reducible assumption|(simp;done)|(simp;omega)) hbb1;have mf121:=fun o=>df (w.heap.size+1) o (by first|with_reducible assumption|(simp;done)|(simp;omega)) hbb1;have ml121:=dl (w.heap.size+1) (by first|with_reducible assumption|(simp;done)|(simp;omega));have mc122:=fun o=>dc (w1.heap.size) o (by first|with_reducible assumption|(simp;done)|(simp;omega)) hbb2;have mf122:=fun o=>df (w1.heap.size) o (by first|with_reducible assumption|(simp;done)|(simp;omega)) hbb2;have ml122:=dl (w1.heap.size) (by first|with_reducible assumption|(simp;done)|(simp;omega));clear dc df dl)|(go_at_call 43;refine (pick_a (B:=w.heap.size) (w.heap.size+1+1) ((((0+70)+2)+2)+2) (Ls.length:Int) _ (by repeat' with_reducible first|assumption|refine Cur.alc ?_ _|refine Cur.drw ?_|refine Cur.setN ?_ (by first|with_reducible assumption|omega)|refine Cur.below ?_ (by assumption)) (by omega) (by omega)).mono ?_;rintro e9 w9 ⟨v9,rfl,p9,h9,g9⟩;obtain ⟨dc,df,dl⟩:=dcell g9;have hs9:=h9.lt;have hz9:=g9.size;have mc90:=fun o=>dc (w.heap.size) o (by first|with_reducible assumption|(simp;done)|(simp;omega)) hbb0;have mf90:=fun o=>df (w.heap.size) o (by first|with_reducible assumption|(simp;done)|(simp;omega)) hbb0;have ml90:=dl (w.heap.size) (by first|with_reducible assumption|(simp;done)|(simp;omega));have mc91:=fun o=>dc (w.heap.size+1) o (by first|with_reducible assumption|(simp;done)|(simp;omega)) hbb1;have mf91:=fun o=>df (w.heap.size+1) o (by first|with_reducible assumption|(simp;done)|(simp;omega)) hbb1;have ml91:=dl (w.heap.size+1) (by first|with_reducible assumption|(simp;done)|(simp;omega));have mc92:=fun o=>dc (w1.heap.size) o (by first|with_reducible assumption|(simp;done)|(simp;omega)) hbb2;have mf92:=fun o=>df (w1.heap.size) o (by first|with_reducible assumption|(simp;done)|(simp;omega)) hbb2;have ml92:=dl (w1.heap.size) (by first|with_reducible assumption|(simp;done)|(simp;omega));clear dc df dl;obtain ⟨k,rfl⟩:=Int.eq_ofNat_of_zero_le p9.1;have hkl:k<Ls.length:=(by omega);have hki:(k:Int)<(Ls.length:Int):=(by omega);have lc:w9.cell? ⟨gl,k,none⟩=some (.int .i64 (Ls.getD k 0)):=(by (repeat' first|with_reducible (first|exact (unhide HLC) k hkl|refine cell_al _ ?_|refine cell_ne _ ?_ ?_|refine cell_call (by assumption) ?_|refine far_cell (by assumption) ?_ ?_)|exact (unhide HLC) k hkl|(intro hh;injection hh with hh1 hh2;omega)|omega));have hkk:=(unhide HMM) _ (getD_memD (d:=0) hkl);obtain ⟨r,hr⟩: ∃r,Ls.getD k 0=r:=⟨_,rfl⟩;rw [hr] at lc hkk;clear hr;have glt:gl<w9.heap.size:=World.block_lt_of_cell? _ _ lc)|(go_loud (go_at_call 45;refine (foDisc_e x y z d _ hfo hd).mono ?_;rintro e11 w11 ⟨rfl,b11⟩;obtain ⟨dc,df⟩:=bcell b11;have dl:=lt_keep b11;have hz11:=b11.size;have mc110:=fun o=>dc (w.heap.size) o (by first|with_reducible assumption|(simp;done)|(simp;omega));have mf110:=fun o=>df (w.heap.size) o (by first|with_reducible assumption|(simp;done)|(simp;omega));have ml110:=dl (w.heap.size) (by first|with_reducible assumption|(simp;done)|(simp;omega));have mc111:=fun o=>dc (w.heap.size+1) o (by first|with_reducible assumption|(simp;done)|(simp;omega));have mf111:=fun o=>df (w.heap.size+1) o (by first|with_reducible assumption|(simp;done)|(simp;omega));have ml111:=dl (w.heap.size+1) (by first|with_reducible assumption|(simp;done)|(simp;omega));have mc112:=fun o=>dc (w1.heap.size) o (by first|with_reducible assumption|(simp;done)|(simp;omega));have mf112:=fun o=>df (w1.heap.size) o (by first|with_reducible assumption|(simp;done)|(simp;omega));have ml112:=dl (w1.heap.size) (by first|with_reducible assumption|(simp;done)|(simp;omega));clear dc df dl))|(go_loud (go_at_call 46;refine (lvMake_q x' y' z' n r _ p12.cls (by omega) (by omega) hkk.1 hkk.2.1 (by rw[p12.disc];exact hkk.2.2)).mono ?_;rintro e10 w10 ⟨X,Y,Z,rfl,hXYZ,b10⟩;obtain ⟨dc,df⟩:=bcell b10;have dl:=lt_keep b10;have hz10:=b10.size;have mc100:=fun o=>dc (w.heap.size) o (by first|with_reducible assumption|(simp;done)|(simp;omega));have mf100:=fun o=>df (w.heap.size) o (by first|with_reducible assumption|(simp;done)|(simp;omega));have ml100:=dl (w.heap.size) (by first|with_reducible assumption|(simp;done)|(simp;omega));have mc101:=fun o=>dc (w.heap.size+1) o (by first|with_reducible assumption|(simp;done)|(simp;omega));have mf101:=fun o=>df (w.heap.size+1) o (by first|with_reducible assumption|(simp;done)|(simp;omega));have ml101:=dl (w.heap.size+1) (by first|with_reducible assumption|(simp;done)|(simp;omega));have mc102:=fun o=>dc (w1.heap.size) o (by first|with_reducible assumption|(simp;done)|(simp;omega));have mf102:=fun o=>df (w1.heap.size) o (by first|with_reducible assumption|(simp;done)|(simp;omega));have ml102:=dl (w1.heap.size) (by first|with_reducible assumption|(simp;done)|(simp;omega));clear dc df dl)))
     all_goals
      have gw11:Below w.heap.size w w11:=byGG
      have gw12:Below w.heap.size w w12:=Below.trans byGG (g12.to_below (by omega) (by first|omega|(simp;done)|(simp;omega)))
      have gw9:Below w.heap.size w w9:=Below.trans byGG (g9.to_below (by omega) (by first|omega|(simp;done)|(simp;omega)))
      have gw10:Below w.heap.size w w10:=byGG
      go_wp2_with fail
      go_meet
      exact ⟨X,Y,Z,rfl,by unfold R64;omega,(by (first|with_reducible assumption|((repeat' first|with_reducible (first|assumption|refine cell_al _ ?_|refine cell_eq _ ?_|refine cell_ne _ ?_ ?_|refine ex_set _ ?_|refine ex_al _ ?_|exact ⟨_,by assumption⟩|refine cell_call (by assumption) ?_|refine far_cell (by assumption) ?_ ?_|refine ex_call (by assumption) ?_|refine ex_far (by assumption) ?_ ?_)|(intro hh;injection hh with hh1 hh2;omega)|omega|(simp;done)|(simp;omega));done)|go_simp)),(by (first|with_reducible assumption|((repeat' first|with_reducible (first|assumption|refine cell_al _ ?_|refine cell_eq _ ?_|refine cell_ne _ ?_ ?_|refine ex_set _ ?_|refine ex_al _ ?_|exact ⟨_,by assumption⟩|refine cell_call (by assumption) ?_|refine far_cell (by assumption) ?_ ?_|refine ex_call (by assumption) ?_|refine ex_far (by assumption) ?_ ?_)|(intro hh;injection hh with hh1 hh2;omega)|omega|(simp;done)|(simp;omega));done)|go_simp)),(by (first|with_reducible assumption|((repeat' first|with_reducible (first|assumption|refine cell_al _ ?_|refine cell_eq _ ?_|refine cell_ne _ ?_ ?_|refine ex_set _ ?_|refine ex_al _ ?_|exact ⟨_,by assumption⟩|refine cell_call (by assumption) ?_|refine far_cell (by assumption) ?_ ?_|refine ex_call (by assumption) ?_|refine ex_far (by assumption) ?_ ?_)|(intro hh;injection hh with hh1 hh2;omega)|omega|(simp;done)|(simp;omega));done)|go_simp)),(by (first|with_reducible assumption|((repeat' first|with_reducible (first|assumption|refine cell_al _ ?_|refine cell_eq _ ?_|refine cell_ne _ ?_ ?_|refine ex_set _ ?_|refine ex_al _ ?_|exact ⟨_,by assumption⟩|refine cell_call (by assumption) ?_|refine far_cell (by assumption) ?_ ?_|refine ex_call (by assumption) ?_|refine ex_far (by assumption) ?_ ?_)|(intro hh;injection hh with hh1 hh2;omega)|omega|(simp;done)|(simp;omega));done)|go_simp)),(by (first|with_reducible assumption|((repeat' first|with_reducible (first|assumption|refine cell_al _ ?_|refine cell_eq _ ?_|refine cell_ne _ ?_ ?_|refine ex_set _ ?_|refine ex_al _ ?_|exact ⟨_,by assumption⟩|refine cell_call (by assumption) ?_|refine far_cell (by assumption) ?_ ?_|refine ex_call (by assumption) ?_|refine ex_far (by assumption) ?_ ?_)|(intro hh;injection hh with hh1 hh2;omega)|omega|(simp;done)|(simp;omega));done)|go_simp)),(by (first|with_reducible assumption|((repeat' first|with_reducible (first|assumption|refine cell_al _ ?_|refine cell_eq _ ?_|refine cell_ne _ ?_ ?_|refine ex_set _ ?_|refine ex_al _ ?_|exact ⟨_,by assumption⟩|refine cell_call (by assumption) ?_|refine far_cell (by assumption) ?_ ?_|refine ex_call (by assumption) ?_|refine ex_far (by assumption) ?_ ?_)|(intro hh;injection hh with hh1 hh2;omega)|omega|(simp;done)|(simp;omega));done)|go_simp)),hide byGG⟩
    obtain ⟨X,Y,Z,rfl,hXYZ,r00,r01,r02,r10,r11,r12,hgb⟩:=hcut
    have gwE:=unhide hgb
    clear hgb
    go_wp2
    refine bodyPost_ret (v:= .tuple #[.agg #[.int .i64 x,.int .i64 y,.int .i64 z],.agg #[.int .i64 X,.int .i64 Y,.int .i64 Z],.int .i64 n]) (by simp [results,Tryz.results19,go_sem, *]) rfl ?_
    exact ⟨_,_,_,_,_,_,_,rfl,⟨p1.1,p1.2.1,p1.2.2.1⟩,hXYZ,p1.2.2.2,byGG⟩
   ·have s1:(v4==0)=false:=by simpa using s0
    by_cases s2:v4=1
    ·subst s2
     go_wp2_with fail
     refine (foDisc_e x y z d _ hfo hd).mono ?_
     rintro e5 w5 ⟨rfl,b5⟩
     have tq0:=Wi3.c b5 w.heap.size 0 0 0
     have tq1:=Wi3.c b5 (w.heap.size+1) 0 0 0
     have tq2:=Ri3.c b5 w1.heap.size x y z
     try clear c00 c01 c02 f00 f01 f02
     try clear c10 c11 c12 f10 f11 f12
     try clear c20 c21 c22
     obtain ⟨c00,c01,c02,f00,f01,f02,z0⟩:=tq0
     obtain ⟨c10,c11,c12,f10,f11,f12,z1⟩:=tq1
     obtain ⟨c20,c21,c22,z2⟩:=tq2
     have h5:=Cur.below (B:=w.heap.size) (b:=(w.heap.size+1+1)) (K:=(((0+70)+2)+2)) (by repeat' with_reducible first|assumption|refine Cur.alc ?_ _|refine Cur.drw ?_|refine Cur.setN ?_ (by first|with_reducible assumption|omega)) b5
     have hs5:=h5.lt
     have hz5:w.heap.size≤w5.heap.size:=Nat.le_trans (by first|exact Nat.le_refl _|omega|(simp;done)|(simp;omega)) b5.size
     have gw5:Below w.heap.size w w5:=byGG
     go_wp2_with fail
     refine (lvRoots_a d n _ (by omega) (by omega) (by omega) (by omega)).mono ?_
     rintro e8 w8 ⟨a8,c8,rfl,hl8,b8⟩
     have tq0:=Wi3.c b8 w.heap.size 0 0 0
     have tq1:=Wi3.c b8 (w.heap.size+1) 0 0 0
     have tq2:=Ri3.c b8 w1.heap.size x y z
     try clear c00 c01 c02 f00 f01 f02
     try clear c10 c11 c12 f10 f11 f12
     try clear c20 c21 c22
     obtain ⟨c00,c01,c02,f00,f01,f02,z0⟩:=tq0
     obtain ⟨c10,c11,c12,f10,f11,f12,z1⟩:=tq1
     obtain ⟨c20,c21,c22,z2⟩:=tq2
     have h8:=Cur.below (B:=w.heap.size) (b:=(w.heap.size+1+1)) (K:=(((0+70)+2)+2)) (by repeat' with_reducible first|assumption|refine Cur.alc ?_ _|refine Cur.drw ?_|refine Cur.setN ?_ (by first|with_reducible assumption|omega)) b8
     have hs8:=h8.lt
     have gw8:Below w.heap.size w w8:=byGG
     have hlo:=hl8.lt
     have hmm: ∀r,r ∈ Ls→0≤r∧r<2*n∧(r*r-d)%(4*n)=0:=fun r hr=>rt_memD (by omega) (by rw[hLs];exact hr)
     rw[hLs] at hl8 hlo ⊢
     have hat:=hl8.ints.2
     have HMM:=hide hmm
     clear hmm hl8 hLs
     obtain ⟨gl,hgl,-,-⟩:=IntsAt.cellY hat hpos
     subst hgl
     have hgl2:w1.heap.size≤gl:=by
      have:=hlo gl rfl
      try simp at this
      omega
     have hgb:gl≠(w.heap.size+1+1):=by omega
     have hgb2: ¬gl=(w.heap.size+1+1):=hgb
     have HLC:Hid (∀k,k<Ls.length→w8.cell? ⟨gl,k,none⟩=some (.int .i64 (Ls.getD k 0))):=hide fun k hk=>by
      obtain ⟨g',e',-,h'⟩:=IntsAt.cellY hat hk
      cases e'
      exact h'
     have hglt:gl<w8.heap.size:=World.block_lt_of_cell? _ _ ((unhide HLC) 0 hpos)
     have ngl: ¬w.heap.size=gl:=by omega
     have ngm: ¬w.heap.size+1=gl:=by omega
     clear hat hlo
     go_upto_region 12 with fail
     go_cut [4] (fun s4 wx=> ∃X' Y' Z':Int,s4= .int .i64 n∧(R64 X'∧R64 Y'∧R64 Z')∧wx.cell? ⟨w.heap.size,0,none⟩=some (.int .i64 x)∧wx.cell? ⟨w.heap.size,1,none⟩=some (.int .i64 y)∧wx.cell? ⟨w.heap.size,2,none⟩=some (.int .i64 z)∧wx.cell? ⟨w.heap.size+1,0,none⟩=some (.int .i64 X')∧wx.cell? ⟨w.heap.size+1,1,none⟩=some (.int .i64 Y')∧wx.cell? ⟨w.heap.size+1,2,none⟩=some (.int .i64 Z')∧Hid (Below w.heap.size w wx))
     case first=>
      go_region_with (first|(go_at_call 43;refine (pick_a (B:=w.heap.size) (w.heap.size+1+1) (((0+70)+2)+2) (Ls.length:Int) _ (by repeat' with_reducible first|assumption|refine Cur.alc ?_ _|refine Cur.drw ?_|refine Cur.setN ?_ (by first|with_reducible assumption|omega)|refine Cur.below ?_ (by assumption)) (by omega) (by omega)).mono ?_;rintro e9 w9 ⟨v9,rfl,p9,h9,g9⟩;obtain ⟨dc,df,dl⟩:=dcell g9;have hs9:=h9.lt;have hz9:=g9.size;have mc90:=fun o=>dc (w.heap.size) o (by first|with_reducible assumption|(simp;done)|(simp;omega)) hbb0;have mf90:=fun o=>df (w.heap.size) o (by first|with_reducible assumption|(simp;done)|(simp;omega)) hbb0;have ml90:=dl (w.heap.size) (by first|with_reducible assumption|(simp;done)|(simp;omega));have mc91:=fun o=>dc (w.heap.size+1) o (by first|with_reducible assumption|(simp;done)|(simp;omega)) hbb1;have mf91:=fun o=>df (w.heap.size+1) o (by first|with_reducible assumption|(simp;done)|(simp;omega)) hbb1;have ml91:=dl (w.heap.size+1) (by first|with_reducible assumption|(simp;done)|(simp;omega));have mc92:=fun o=>dc (w1.heap.size) o (by first|with_reducible assumption|(simp;done)|(simp;omega)) hbb2;have mf92:=fun o=>df (w1.heap.size) o (by first|with_reducible assumption|(simp;done)|(simp;omega)) hbb2;have ml92:=dl (w1.heap.size) (by first|with_reducible assumption|(simp;done)|(simp;omega));clear dc df dl;obtain ⟨k,rfl⟩:=Int.eq_ofNat_of_zero_le p9.1;have hkl:k<Ls.length:=(by omega);have hki:(k:Int)<(Ls.length:Int):=(by omega);have lc:w9.cell? ⟨gl,k,none⟩=some (.int .i64 (Ls.getD k 0)):=(by (repeat' first|with_reducible (first|exact (unhide HLC) k hkl|refine cell_al _ ?_|refine cell_ne _ ?_ ?_|refine cell_call (by assumption) ?_|refine far_cell (by assumption) ?_ ?_)|exact (unhide HLC) k hkl|(intro hh;injection hh with hh1 hh2;omega)|omega));have hkk:=(unhide HMM) _ (getD_memD (d:=0) hkl);obtain ⟨r,hr⟩: ∃r,Ls.getD k 0=r:=⟨_,rfl⟩;rw [hr] at lc hkk;clear hr;have glt:gl<w9.heap.size:=World.block_lt_of_cell? _ _ lc)|(go_loud (go_at_call 46;refine (lvMake_q x y z n r _ hcl (by omega) (by omega) hkk.1 hkk.2.1 (by rw[hd];exact hkk.2.2)).mono ?_;rintro e10 w10 ⟨X,Y,Z,rfl,hXYZ,b10⟩;obtain ⟨dc,df⟩:=bcell b10;have dl:=lt_keep b10;have hz10:=b10.size;have mc100:=fun o=>dc (w.heap.size) o (by first|with_reducible assumption|(simp;done)|(simp;omega));have mf100:=fun o=>df (w.heap.size) o (by first|with_reducible assumption|(simp;done)|(simp;omega));have ml100:=dl (w.heap.size) (by first|with_reducible assumption|(simp;done)|(simp;omega));have mc101:=fun o=>dc (w.heap.size+1) o (by first|with_reducible assumption|(simp;done)|(simp;omega));have mf101:=fun o=>df (w.heap.size+1) o (by first|with_reducible assumption|(simp;done)|(simp;omega));have ml101:=dl (w.heap.size+1) (by first|with_reducible assumption|(simp;done)|(simp;omega));have mc102:=fun o=>dc (w1.heap.size) o (by first|with_reducible assumption|(simp;done)|(simp;omega));have mf102:=fun o=>df (w1.heap.size) o (by first|with_reducible assumption|(simp;done)|(simp;omega));have ml102:=dl (w1.heap.size) (by first|with_reducible assumption|(simp;done)|(simp;omega));clear dc df dl)))
      all_goals
       have gw9:Below w.heap.size w w9:=Below.trans byGG (g9.to_below (by omega) (by first|omega|(simp;done)|(simp;omega)))
       have gw10:Below w.heap.size w w10:=byGG
       go_wp2_with fail
       go_meet
       exact ⟨X,Y,Z,rfl,by unfold R64;omega,(by (first|with_reducible assumption|((repeat' first|with_reducible (first|assumption|refine cell_al _ ?_|refine cell_eq _ ?_|refine cell_ne _ ?_ ?_|refine ex_set _ ?_|refine ex_al _ ?_|exact ⟨_,by assumption⟩|refine cell_call (by assumption) ?_|refine far_cell (by assumption) ?_ ?_|refine ex_call (by assumption) ?_|refine ex_far (by assumption) ?_ ?_)|(intro hh;injection hh with hh1 hh2;omega)|omega|(simp;done)|(simp;omega));done)|go_simp)),(by (first|with_reducible assumption|((repeat' first|with_reducible (first|assumption|refine cell_al _ ?_|refine cell_eq _ ?_|refine cell_ne _ ?_ ?_|refine ex_set _ ?_|refine ex_al _ ?_|exact ⟨_,by assumption⟩|refine cell_call (by assumption) ?_|refine far_cell (by assumption) ?_ ?_|refine ex_call (by assumption) ?_|refine ex_far (by assumption) ?_ ?_)|(intro hh;injection hh with hh1 hh2;omega)|omega|(simp;done)|(simp;omega));done)|go_simp)),(by (first|with_reducible assumption|((repeat' first|with_reducible (first|assumption|refine cell_al _ ?_|refine cell_eq _ ?_|refine cell_ne _ ?_ ?_|refine ex_set _ ?_|refine ex_al _ ?_|exact ⟨_,by assumption⟩|refine cell_call (by assumption) ?_|refine far_cell (by assumption) ?_ ?_|refine ex_call (by assumption) ?_|refine ex_far (by assumption) ?_ ?_)|(intro hh;injection hh with hh1 hh2;omega)|omega|(simp;done)|(simp;omega));done)|go_simp)),(by (first|with_reducible assumption|((repeat' first|with_reducible (first|assumption|refine cell_al _ ?_|refine cell_eq _ ?_|refine cell_ne _ ?_ ?_|refine ex_set _ ?_|refine ex_al _ ?_|exact ⟨_,by assumption⟩|refine cell_call (by assumption) ?_|refine far_cell (by assumption) ?_ ?_|refine ex_call (by assumption) ?_|refine ex_far (by assumption) ?_ ?_)|(intro hh;injection hh with hh1 hh2;omega)|omega|(simp;done)|(simp;omega));done)|go_simp)),(by (first|with_reducible assumption|((repeat' first|with_reducible (first|assumption|refine cell_al _ ?_|refine cell_eq _ ?_|refine cell_ne _ ?_ ?_|refine ex_set _ ?_|refine ex_al _ ?_|exact ⟨_,by assumption⟩|refine cell_call (by assumption) ?_|refine far_cell (by assumption) ?_ ?_|refine ex_call (by assumption) ?_|refine ex_far (by assumption) ?_ ?_)|(intro hh;injection hh with hh1 hh2;omega)|omega|(simp;done)|(simp;omega));done)|go_simp)),(by (first|with_reducible assumption|((repeat' first|with_reducible (first|assumption|refine cell_al _ ?_|refine cell_eq _ ?_|refine cell_ne _ ?_ ?_|refine ex_set _ ?_|refine ex_al _ ?_|exact ⟨_,by assumption⟩|refine cell_call (by assumption) ?_|refine far_cell (by assumption) ?_ ?_|refine ex_call (by assumption) ?_|refine ex_far (by assumption) ?_ ?_)|(intro hh;injection hh with hh1 hh2;omega)|omega|(simp;done)|(simp;omega));done)|go_simp)),hide byGG⟩
     obtain ⟨X,Y,Z,rfl,hXYZ,r00,r01,r02,r10,r11,r12,hgb⟩:=hcut
     have gwE:=unhide hgb
     clear hgb
     go_wp2
     refine bodyPost_ret (v:= .tuple #[.agg #[.int .i64 x,.int .i64 y,.int .i64 z],.agg #[.int .i64 X,.int .i64 Y,.int .i64 Z],.int .i64 n]) (by simp [results,Tryz.results19,go_sem, *]) rfl ?_
     exact ⟨_,_,_,_,_,_,_,rfl,⟨p1.1,p1.2.1,p1.2.2.1⟩,hXYZ,p1.2.2.2,byGG⟩
    ·have s3:(v4==1)=false:=by simpa using s2
     go_wp2_with fail
     refine (pick_a (B:=w.heap.size) (w.heap.size+1+1) (((0+70)+2)+2) 3 _ (by repeat' with_reducible first|assumption|refine Cur.alc ?_ _|refine Cur.drw ?_|refine Cur.setN ?_ (by first|with_reducible assumption|omega)) (by omega) (by omega)).mono ?_
     rintro e5 w5 ⟨v5,rfl,p5,h5,g5⟩
     have hs5:=h5.lt
     have hz5:w.heap.size≤w5.heap.size:=Nat.le_trans (by first|exact Nat.le_refl _|with_reducible assumption|(simp;done)|(simp;omega)) g5.size
     have tq0:=Wi3.d g5 w.heap.size 0 0 0 nb0
     have tq1:=Wi3.d g5 (w.heap.size+1) 0 0 0 nb1
     have tq2:=Ri3.d g5 w1.heap.size x y z nb2
     (try clear c00 c01 c02 f00 f01 f02 z0)
     (try clear c10 c11 c12 f10 f11 f12 z1)
     (try clear c20 c21 c22 z2)
     obtain ⟨c00,c01,c02,f00,f01,f02,z0⟩:=tq0
     obtain ⟨c10,c11,c12,f10,f11,f12,z1⟩:=tq1
     obtain ⟨c20,c21,c22,z2⟩:=tq2
     have gw5:Below w.heap.size w w5:=Below.trans byGG (g5.to_below (by omega) (by first|omega|(simp;done)|(simp;omega)))
     clear g5
     have hmn:=mul_bd (A:=30) (B:=2) (a:=n) (b:=v5-1) (by omega) (by omega) (by omega)
     go_wp2_with fail
     refine (pick_a (B:=w.heap.size) (w.heap.size+1+1) ((((0+70)+2)+2)+2) 5 _ (by repeat' with_reducible first|assumption|refine Cur.alc ?_ _|refine Cur.drw ?_|refine Cur.setN ?_ (by first|with_reducible assumption|omega)) (by omega) (by omega)).mono ?_
     rintro e6 w6 ⟨v6,rfl,p6,h6,g6⟩
     have hs6:=h6.lt
     have hz6:w.heap.size≤w6.heap.size:=Nat.le_trans (by first|exact Nat.le_refl _|with_reducible assumption|(simp;done)|(simp;omega)) g6.size
     have tq0:=Wi3.d g6 w.heap.size 0 0 0 nb0
     have tq1:=Wi3.d g6 (w.heap.size+1) 0 0 0 nb1
     have tq2:=Ri3.d g6 w1.heap.size x y z nb2
     (try clear c00 c01 c02 f00 f01 f02 z0)
     (try clear c10 c11 c12 f10 f11 f12 z1)
     (try clear c20 c21 c22 z2)
     obtain ⟨c00,c01,c02,f00,f01,f02,z0⟩:=tq0
     obtain ⟨c10,c11,c12,f10,f11,f12,z1⟩:=tq1
     obtain ⟨c20,c21,c22,z2⟩:=tq2
     have gw6:Below w.heap.size w w6:=Below.trans byGG (g6.to_below (by omega) (by first|omega|(simp;done)|(simp;omega)))
     clear g6
     go_wp2_with fail
     refine (coShift_e (v6-2) _).mono ?_
     rintro e7 w7 ⟨rfl,b7⟩
     have tq0:=Wi3.c b7 w.heap.size 0 0 0
     have tq1:=Wi3.c b7 (w.heap.size+1) 0 0 0
     have tq2:=Ri3.c b7 w1.heap.size x y z
     try clear c00 c01 c02 f00 f01 f02
     try clear c10 c11 c12 f10 f11 f12
     try clear c20 c21 c22
     obtain ⟨c00,c01,c02,f00,f01,f02,z0⟩:=tq0
     obtain ⟨c10,c11,c12,f10,f11,f12,z1⟩:=tq1
     obtain ⟨c20,c21,c22,z2⟩:=tq2
     have h7:=Cur.below (B:=w.heap.size) (b:=(w.heap.size+1+1)) (K:=(((((0+70)+2)+2)+2)+2)) (by repeat' with_reducible first|assumption|refine Cur.alc ?_ _|refine Cur.drw ?_|refine Cur.setN ?_ (by first|with_reducible assumption|omega)) b7
     have hs7:=h7.lt
     have hz7:w.heap.size≤w7.heap.size:=Nat.le_trans (by first|exact Nat.le_refl _|omega|(simp;done)|(simp;omega)) b7.size
     have gw7:Below w.heap.size w w7:=byGG
     go_wp2_with fail
     refine (foMul_a 1 0 (n*(v5-1)) 1 1 (v6-2) 0 1 _).mono ?_
     rintro e8 w8 ⟨rfl,b8⟩
     have tq0:=Wi3.c b8 w.heap.size 0 0 0
     have tq1:=Wi3.c b8 (w.heap.size+1) 0 0 0
     have tq2:=Ri3.c b8 w1.heap.size x y z
     try clear c00 c01 c02 f00 f01 f02
     try clear c10 c11 c12 f10 f11 f12
     try clear c20 c21 c22
     obtain ⟨c00,c01,c02,f00,f01,f02,z0⟩:=tq0
     obtain ⟨c10,c11,c12,f10,f11,f12,z1⟩:=tq1
     obtain ⟨c20,c21,c22,z2⟩:=tq2
     have h8:=Cur.below (B:=w.heap.size) (b:=(w.heap.size+1+1)) (K:=(((((0+70)+2)+2)+2)+2)) (by repeat' with_reducible first|assumption|refine Cur.alc ?_ _|refine Cur.drw ?_|refine Cur.setN ?_ (by first|with_reducible assumption|omega)) b8
     have hs8:=h8.lt
     have hz8:w.heap.size≤w8.heap.size:=Nat.le_trans (by first|exact Nat.le_refl _|omega|(simp;done)|(simp;omega)) b8.size
     have gw8:Below w.heap.size w w8:=byGG
     have h100:=mm_small (n:=n) (v:=v5) (t:=v6) (by omega) (by omega) (by omega)
     obtain ⟨P,hP⟩: ∃u,mmP 1 0 (n*(v5-1)) 1 1 (v6-2) 0 1=u:=⟨_,rfl⟩
     obtain ⟨Q,hQ⟩: ∃u,mmQ 1 0 (n*(v5-1)) 1 1 (v6-2) 0 1=u:=⟨_,rfl⟩
     obtain ⟨R,hR⟩: ∃u,mmR 1 0 (n*(v5-1)) 1 1 (v6-2) 0 1=u:=⟨_,rfl⟩
     obtain ⟨S,hS⟩: ∃u,mmS 1 0 (n*(v5-1)) 1 1 (v6-2) 0 1=u:=⟨_,rfl⟩
     rw[hP,hQ,hR,hS] at h100 ⊢
     clear hP hQ hR hS
     have na0: ¬w8.heap.size=w.heap.size:=by omega
     have na1: ¬w8.heap.size=w.heap.size+1:=by omega
     have na2: ¬w.heap.size=w8.heap.size:=by omega
     have na3: ¬w.heap.size+1=w8.heap.size:=by omega
     go_upto_region 14 with fail
     go_cut [4] (fun s4 wx=> ∃X' Y' Z':Int,s4= .int .i64 n∧(R64 X'∧R64 Y'∧R64 Z')∧wx.cell? ⟨w.heap.size,0,none⟩=some (.int .i64 x)∧wx.cell? ⟨w.heap.size,1,none⟩=some (.int .i64 y)∧wx.cell? ⟨w.heap.size,2,none⟩=some (.int .i64 z)∧wx.cell? ⟨w.heap.size+1,0,none⟩=some (.int .i64 X')∧wx.cell? ⟨w.heap.size+1,1,none⟩=some (.int .i64 Y')∧wx.cell? ⟨w.heap.size+1,2,none⟩=some (.int .i64 Z')∧Hid (Below w.heap.size w wx))
     case first=>
      go_region_with (go_at_call 50;refine (foAct_R x y z P Q R S _ hLB h100.1 h100.2.1 h100.2.2.1 h100.2.2.2).mono ?_;rintro e20 w20 ⟨X,Y,Z,rfl,hXYZ,b20⟩;obtain ⟨dc,df⟩:=bcell b20;have dl:=lt_keep b20;have hz20:=b20.size;have mc200:=fun o=>dc (w.heap.size) o (by first|with_reducible assumption|(simp;done)|(simp;omega));have mf200:=fun o=>df (w.heap.size) o (by first|with_reducible assumption|(simp;done)|(simp;omega));have ml200:=dl (w.heap.size) (by first|with_reducible assumption|(simp;done)|(simp;omega));have mc201:=fun o=>dc (w.heap.size+1) o (by first|with_reducible assumption|(simp;done)|(simp;omega));have mf201:=fun o=>df (w.heap.size+1) o (by first|with_reducible assumption|(simp;done)|(simp;omega));have ml201:=dl (w.heap.size+1) (by first|with_reducible assumption|(simp;done)|(simp;omega));have mc202:=fun o=>dc (w1.heap.size) o (by first|with_reducible assumption|(simp;done)|(simp;omega));have mf202:=fun o=>df (w1.heap.size) o (by first|with_reducible assumption|(simp;done)|(simp;omega));have ml202:=dl (w1.heap.size) (by first|with_reducible assumption|(simp;done)|(simp;omega));clear dc df dl)
      all_goals
       have gw20:Below w.heap.size w w20:=byGG
       go_wp2_with fail
       go_meet
       exact ⟨X,Y,Z,rfl,hXYZ,(by (first|with_reducible assumption|((repeat' first|with_reducible (first|assumption|refine cell_al _ ?_|refine cell_eq _ ?_|refine cell_ne _ ?_ ?_|refine ex_set _ ?_|refine ex_al _ ?_|exact ⟨_,by assumption⟩|refine cell_call (by assumption) ?_|refine far_cell (by assumption) ?_ ?_|refine ex_call (by assumption) ?_|refine ex_far (by assumption) ?_ ?_)|(intro hh;injection hh with hh1 hh2;omega)|omega|(simp;done)|(simp;omega));done)|go_simp)),(by (first|with_reducible assumption|((repeat' first|with_reducible (first|assumption|refine cell_al _ ?_|refine cell_eq _ ?_|refine cell_ne _ ?_ ?_|refine ex_set _ ?_|refine ex_al _ ?_|exact ⟨_,by assumption⟩|refine cell_call (by assumption) ?_|refine far_cell (by assumption) ?_ ?_|refine ex_call (by assumption) ?_|refine ex_far (by assumption) ?_ ?_)|(intro hh;injection hh with hh1 hh2;omega)|omega|(simp;done)|(simp;omega));done)|go_simp)),(by (first|with_reducible assumption|((repeat' first|with_reducible (first|assumption|refine cell_al _ ?_|refine cell_eq _ ?_|refine cell_ne _ ?_ ?_|refine ex_set _ ?_|refine ex_al _ ?_|exact ⟨_,by assumption⟩|refine cell_call (by assumption) ?_|refine far_cell (by assumption) ?_ ?_|refine ex_call (by assumption) ?_|refine ex_far (by assumption) ?_ ?_)|(intro hh;injection hh with hh1 hh2;omega)|omega|(simp;done)|(simp;omega));done)|go_simp)),(by (first|with_reducible assumption|((repeat' first|with_reducible (first|assumption|refine cell_al _ ?_|refine cell_eq _ ?_|refine cell_ne _ ?_ ?_|refine ex_set _ ?_|refine ex_al _ ?_|exact ⟨_,by assumption⟩|refine cell_call (by assumption) ?_|refine far_cell (by assumption) ?_ ?_|refine ex_call (by assumption) ?_|refine ex_far (by assumption) ?_ ?_)|(intro hh;injection hh with hh1 hh2;omega)|omega|(simp;done)|(simp;omega));done)|go_simp)),(by (first|with_reducible assumption|((repeat' first|with_reducible (first|assumption|refine cell_al _ ?_|refine cell_eq _ ?_|refine cell_ne _ ?_ ?_|refine ex_set _ ?_|refine ex_al _ ?_|exact ⟨_,by assumption⟩|refine cell_call (by assumption) ?_|refine far_cell (by assumption) ?_ ?_|refine ex_call (by assumption) ?_|refine ex_far (by assumption) ?_ ?_)|(intro hh;injection hh with hh1 hh2;omega)|omega|(simp;done)|(simp;omega));done)|go_simp)),(by (first|with_reducible assumption|((repeat' first|with_reducible (first|assumption|refine cell_al _ ?_|refine cell_eq _ ?_|refine cell_ne _ ?_ ?_|refine ex_set _ ?_|refine ex_al _ ?_|exact ⟨_,by assumption⟩|refine cell_call (by assumption) ?_|refine far_cell (by assumption) ?_ ?_|refine ex_call (by assumption) ?_|refine ex_far (by assumption) ?_ ?_)|(intro hh;injection hh with hh1 hh2;omega)|omega|(simp;done)|(simp;omega));done)|go_simp)),hide byGG⟩
     obtain ⟨X,Y,Z,rfl,hXYZ,r00,r01,r02,r10,r11,r12,hgb⟩:=hcut
     have gwE:=unhide hgb
     clear hgb
     go_wp2
     refine bodyPost_ret (v:= .tuple #[.agg #[.int .i64 x,.int .i64 y,.int .i64 z],.agg #[.int .i64 X,.int .i64 Y,.int .i64 Z],.int .i64 n]) (by simp [results,Tryz.results19,go_sem, *]) rfl ?_
     exact ⟨_,_,_,_,_,_,_,rfl,⟨p1.1,p1.2.1,p1.2.2.1⟩,hXYZ,p1.2.2.2,byGG⟩
  ·go_wp2_with fail
   refine (leveled_d (B:=w.heap.size) (w.heap.size+1+1) ((0+70)+2)  _ (by repeat' with_reducible first|assumption|refine Cur.alc ?_ _|refine Cur.drw ?_|refine Cur.setN ?_ (by first|with_reducible assumption|omega)) (by omega)).mono ?_
   rintro e4 w4 ⟨x',y',z',n',rfl,p4,h4,g4⟩
   have hs4:=h4.lt
   have hz4:w.heap.size≤w4.heap.size:=Nat.le_trans (by first|exact Nat.le_refl _|with_reducible assumption|(simp;done)|(simp;omega)) g4.size
   have tq0:=Wi3.d g4 w.heap.size 0 0 0 nb0
   have tq1:=Wi3.d g4 (w.heap.size+1) 0 0 0 nb1
   have tq2:=Ri3.d g4 w1.heap.size x y z nb2
   (try clear c00 c01 c02 f00 f01 f02 z0)
   (try clear c10 c11 c12 f10 f11 f12 z1)
   (try clear c20 c21 c22 z2)
   obtain ⟨c00,c01,c02,f00,f01,f02,z0⟩:=tq0
   obtain ⟨c10,c11,c12,f10,f11,f12,z1⟩:=tq1
   obtain ⟨c20,c21,c22,z2⟩:=tq2
   have gw4:Below w.heap.size w w4:=Below.trans byGG (g4.to_below (by omega) (by first|omega|(simp;done)|(simp;omega)))
   clear g4
   have m40: ¬w4.heap.size=w.heap.size:=by omega
   have o40: ¬w.heap.size=w4.heap.size:=by omega
   have m41: ¬w4.heap.size=w.heap.size+1:=by omega
   have o41: ¬w.heap.size+1=w4.heap.size:=by omega
   have m42: ¬w4.heap.size=w1.heap.size:=by omega
   have o42: ¬w1.heap.size=w4.heap.size:=by omega
   go_upto_region 5 with fail
   go_cut [4] (fun s4 wx=> ∃X' Y' Z':Int,s4= .int .i64 n∧(R64 X'∧R64 Y'∧R64 Z')∧wx.cell? ⟨w.heap.size,0,none⟩=some (.int .i64 x)∧wx.cell? ⟨w.heap.size,1,none⟩=some (.int .i64 y)∧wx.cell? ⟨w.heap.size,2,none⟩=some (.int .i64 z)∧wx.cell? ⟨w.heap.size+1,0,none⟩=some (.int .i64 X')∧wx.cell? ⟨w.heap.size+1,1,none⟩=some (.int .i64 Y')∧wx.cell? ⟨w.heap.size+1,2,none⟩=some (.int .i64 Z')∧Hid (Below w.heap.size w wx))
   case first=>
    go_region
    all_goals
     go_wp2_with fail
     go_meet
     exact ⟨x',y',z',rfl,⟨p4.1,p4.2.1,p4.2.2.1⟩,(by (first|with_reducible assumption|((repeat' first|with_reducible (first|assumption|refine cell_al _ ?_|refine cell_eq _ ?_|refine cell_ne _ ?_ ?_|refine ex_set _ ?_|refine ex_al _ ?_|exact ⟨_,by assumption⟩|refine cell_call (by assumption) ?_|refine far_cell (by assumption) ?_ ?_|refine ex_call (by assumption) ?_|refine ex_far (by assumption) ?_ ?_)|(intro hh;injection hh with hh1 hh2;omega)|omega|(simp;done)|(simp;omega));done)|go_simp)),(by (first|with_reducible assumption|((repeat' first|with_reducible (first|assumption|refine cell_al _ ?_|refine cell_eq _ ?_|refine cell_ne _ ?_ ?_|refine ex_set _ ?_|refine ex_al _ ?_|exact ⟨_,by assumption⟩|refine cell_call (by assumption) ?_|refine far_cell (by assumption) ?_ ?_|refine ex_call (by assumption) ?_|refine ex_far (by assumption) ?_ ?_)|(intro hh;injection hh with hh1 hh2;omega)|omega|(simp;done)|(simp;omega));done)|go_simp)),(by (first|with_reducible assumption|((repeat' first|with_reducible (first|assumption|refine cell_al _ ?_|refine cell_eq _ ?_|refine cell_ne _ ?_ ?_|refine ex_set _ ?_|refine ex_al _ ?_|exact ⟨_,by assumption⟩|refine cell_call (by assumption) ?_|refine far_cell (by assumption) ?_ ?_|refine ex_call (by assumption) ?_|refine ex_far (by assumption) ?_ ?_)|(intro hh;injection hh with hh1 hh2;omega)|omega|(simp;done)|(simp;omega));done)|go_simp)),(by (first|with_reducible assumption|((repeat' first|with_reducible (first|assumption|refine cell_al _ ?_|refine cell_eq _ ?_|refine cell_ne _ ?_ ?_|refine ex_set _ ?_|refine ex_al _ ?_|exact ⟨_,by assumption⟩|refine cell_call (by assumption) ?_|refine far_cell (by assumption) ?_ ?_|refine ex_call (by assumption) ?_|refine ex_far (by assumption) ?_ ?_)|(intro hh;injection hh with hh1 hh2;omega)|omega|(simp;done)|(simp;omega));done)|go_simp)),(by (first|with_reducible assumption|((repeat' first|with_reducible (first|assumption|refine cell_al _ ?_|refine cell_eq _ ?_|refine cell_ne _ ?_ ?_|refine ex_set _ ?_|refine ex_al _ ?_|exact ⟨_,by assumption⟩|refine cell_call (by assumption) ?_|refine far_cell (by assumption) ?_ ?_|refine ex_call (by assumption) ?_|refine ex_far (by assumption) ?_ ?_)|(intro hh;injection hh with hh1 hh2;omega)|omega|(simp;done)|(simp;omega));done)|go_simp)),(by (first|with_reducible assumption|((repeat' first|with_reducible (first|assumption|refine cell_al _ ?_|refine cell_eq _ ?_|refine cell_ne _ ?_ ?_|refine ex_set _ ?_|refine ex_al _ ?_|exact ⟨_,by assumption⟩|refine cell_call (by assumption) ?_|refine far_cell (by assumption) ?_ ?_|refine ex_call (by assumption) ?_|refine ex_far (by assumption) ?_ ?_)|(intro hh;injection hh with hh1 hh2;omega)|omega|(simp;done)|(simp;omega));done)|go_simp)),hide byGG⟩
   obtain ⟨X,Y,Z,rfl,hXYZ,r00,r01,r02,r10,r11,r12,hgb⟩:=hcut
   have gwE:=unhide hgb
   clear hgb
   go_wp2
   refine bodyPost_ret (v:= .tuple #[.agg #[.int .i64 x,.int .i64 y,.int .i64 z],.agg #[.int .i64 X,.int .i64 Y,.int .i64 Z],.int .i64 n]) (by simp [results,Tryz.results19,go_sem, *]) rfl ?_
   exact ⟨_,_,_,_,_,_,_,rfl,⟨p1.1,p1.2.1,p1.2.2.1⟩,hXYZ,p1.2.2.2,byGG⟩


set_option maxRecDepth 100000 in
set_option maxHeartbeats 4000000 in
theorem drawLX_a (v:Value) (n:Nat) (w:World) (h:ArgB w v n):Calls Tryz.prog 5 #[v] w (DrawnFFI w):=by
 go_enter Tryz.func5,Tryz.ntmps5
 go_wp2_with fail
 refine (drawLE_a v n _ (h.below byGG)).mono ?_
 rintro e1 w1 ⟨x,y,z,x',y',z',m,rfl,p1,p2,p3,hb1⟩
 have tq0:=Wi3.c hb1 w.heap.size 0 0 0
 have tq1:=Wi3.c hb1 (w.heap.size+1) 0 0 0
 try clear c00 c01 c02 f00 f01 f02
 try clear c10 c11 c12 f10 f11 f12
 obtain ⟨c00,c01,c02,f00,f01,f02,z0⟩:=tq0
 obtain ⟨c10,c11,c12,f10,f11,f12,z1⟩:=tq1
 go_wp2
 refine bodyPost_ret (v:= .tuple #[.agg #[.int .i64 x,.int .i64 y,.int .i64 z],.agg #[.int .i64 x',.int .i64 y',.int .i64 z'],.int .i64 m]) (by simp [results,Tryz.results5,go_sem, *]) rfl ?_
 exact ⟨_,_,_,_,_,_,_,rfl,p1,p2,p3,byGG⟩
end Go.Proofs.YtobkcnmlmmhpoaaGreat
