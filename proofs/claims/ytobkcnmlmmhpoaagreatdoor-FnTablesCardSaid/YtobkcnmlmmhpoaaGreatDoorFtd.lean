/- Rows drawn. -/
import Derived.Test.YtobkcnmlmmhpoaaGreatDoorWrs
import Derived.Test.YtobkcnmlmmhpoaaGreatDoorDsq
import Derived.Test.YtobkcnmlmmhpoaaGreatDoorFtc
import Derived.Deep.CutBlock
set_option maxRecDepth 100000
set_option maxHeartbeats 80000000
namespace Go.Proofs.YtobkcnmlmmhpoaaGreatDoor
open Go.RowKit
set_option linter.unusedVariables false
set_option linter.unusedSimpArgs false
attribute [local go_sem] q2 q3 q4 q5 q6 q7 q8 q9 q10 q11 q12

variable {B:Nat}
structure WR (W:World) (b:Nat) (r:RowV) (v:Value):Prop where
 c0:W.cell? ⟨b,0,none⟩=some (.int .i64 r.d)
 c1:W.cell? ⟨b,1,none⟩=some (.int .i64 r.num)
 c2:W.cell? ⟨b,2,none⟩=some (v)
 c3:W.cell? ⟨b,3,none⟩=some (.int .i64 r.ge)
 c4:W.cell? ⟨b,4,none⟩=some (.int .i64 r.ex)
 f0:W.frozen? ⟨b,0,none⟩=false
 f1:W.frozen? ⟨b,1,none⟩=false
 f2:W.frozen? ⟨b,2,none⟩=false
 f3:W.frozen? ⟨b,3,none⟩=false
 f4:W.frozen? ⟨b,4,none⟩=false
 z:b<W.heap.size
theorem WR.d {w W:World} {b:Nat} {r:RowV} {v:Value} {b':Nat} (h:WR w b r v) (hg:w.grownBy W (some b')) (nb:b≠b'):WR W b r v:=⟨far_cell hg h.c0 nb,far_cell hg h.c1 nb,far_cell hg h.c2 nb,far_cell hg h.c3 nb,far_cell hg h.c4 nb,far_frz hg h.z h.f0 nb,far_frz hg h.z h.f1 nb,far_frz hg h.z h.f2 nb,far_frz hg h.z h.f3 nb,far_frz hg h.z h.f4 nb,Nat.lt_of_lt_of_le h.z hg.size⟩
theorem WR.g {w W:World} {b:Nat} {r:RowV} {v:Value} {o:Option Nat} (h:WR w b r v) (hg:w.grownBy W o) (ne:o≠some b):WR W b r v:=⟨(hg.cell_far ⟨b,0,none⟩ h.z (fun e=>ne e.symm)).trans h.c0,(hg.cell_far ⟨b,1,none⟩ h.z (fun e=>ne e.symm)).trans h.c1,(hg.cell_far ⟨b,2,none⟩ h.z (fun e=>ne e.symm)).trans h.c2,(hg.cell_far ⟨b,3,none⟩ h.z (fun e=>ne e.symm)).trans h.c3,(hg.cell_far ⟨b,4,none⟩ h.z (fun e=>ne e.symm)).trans h.c4,(hg.frozen_far ⟨b,0,none⟩ h.z (fun e=>ne e.symm)).trans h.f0,(hg.frozen_far ⟨b,1,none⟩ h.z (fun e=>ne e.symm)).trans h.f1,(hg.frozen_far ⟨b,2,none⟩ h.z (fun e=>ne e.symm)).trans h.f2,(hg.frozen_far ⟨b,3,none⟩ h.z (fun e=>ne e.symm)).trans h.f3,(hg.frozen_far ⟨b,4,none⟩ h.z (fun e=>ne e.symm)).trans h.f4,Nat.lt_of_lt_of_le h.z hg.size⟩
theorem WR.c {w W:World} {b:Nat} {r:RowV} {v:Value} (h:WR w b r v) (hb:Below w.heap.size w W):WR W b r v:=⟨cell_call hb h.c0,cell_call hb h.c1,cell_call hb h.c2,cell_call hb h.c3,cell_call hb h.c4,frz_call hb h.z h.f0,frz_call hb h.z h.f1,frz_call hb h.z h.f2,frz_call hb h.z h.f3,frz_call hb h.z h.f4,Nat.lt_of_lt_of_le h.z hb.size⟩
theorem WR.al {w:World} {b:Nat} {r:RowV} {v:Value} (h:WR w b r v) (o:Obj):WR (w.alloc o) b r v:=h.c (below_alloc_self _ _)
theorem WR.far {w:World} {b k j:Nat} {r:RowV} {v x:Value} (h:WR w b r v) (hne:k≠b):WR (w.setCell ⟨k,j,none⟩ x) b r v:=
 have nb: ∀o,(⟨k,j,none⟩:Addr)≠⟨b,o,none⟩:=fun o e=>hne (by injection e)
 ⟨cell_ne _ (nb 0) h.c0,cell_ne _ (nb 1) h.c1,cell_ne _ (nb 2) h.c2,cell_ne _ (nb 3) h.c3,cell_ne _ (nb 4) h.c4,frz_set _ h.f0,frz_set _ h.f1,frz_set _ h.f2,frz_set _ h.f3,frz_set _ h.f4,by simpa [World.setCell] using h.z⟩
theorem WR.s0 {w:World} {b:Nat} {r:RowV} {v:Value} (h:WR w b r v) (x:Int):WR (w.setCell ⟨b,0,none⟩ (.int .i64 x)) b {r with d:=x} v:=
 have nb: ∀o,o≠0→(⟨b,0,none⟩:Addr)≠⟨b,o,none⟩:=fun o e e2=>e VP
 ⟨cell_eq _ ⟨_,h.c0⟩,cell_ne _ (nb 1 VA) h.c1,cell_ne _ (nb 2 VA) h.c2,cell_ne _ (nb 3 VA) h.c3,cell_ne _ (nb 4 VA) h.c4,frz_set _ h.f0,frz_set _ h.f1,frz_set _ h.f2,frz_set _ h.f3,frz_set _ h.f4,by simpa [World.setCell] using h.z⟩
theorem WR.s1 {w:World} {b:Nat} {r:RowV} {v:Value} (h:WR w b r v) (x:Int):WR (w.setCell ⟨b,1,none⟩ (.int .i64 x)) b {r with num:=x} v:=
 have nb: ∀o,o≠1→(⟨b,1,none⟩:Addr)≠⟨b,o,none⟩:=fun o e e2=>e VP
 ⟨cell_ne _ (nb 0 VA) h.c0,cell_eq _ ⟨_,h.c1⟩,cell_ne _ (nb 2 VA) h.c2,cell_ne _ (nb 3 VA) h.c3,cell_ne _ (nb 4 VA) h.c4,frz_set _ h.f0,frz_set _ h.f1,frz_set _ h.f2,frz_set _ h.f3,frz_set _ h.f4,by simpa [World.setCell] using h.z⟩
theorem WR.s2 {w:World} {b:Nat} {r:RowV} {v:Value} (h:WR w b r v) (x:Value):WR (w.setCell ⟨b,2,none⟩ x) b r x:=
 have nb: ∀o,o≠2→(⟨b,2,none⟩:Addr)≠⟨b,o,none⟩:=fun o e e2=>e VP
 ⟨cell_ne _ (nb 0 VA) h.c0,cell_ne _ (nb 1 VA) h.c1,cell_eq _ ⟨_,h.c2⟩,cell_ne _ (nb 3 VA) h.c3,cell_ne _ (nb 4 VA) h.c4,frz_set _ h.f0,frz_set _ h.f1,frz_set _ h.f2,frz_set _ h.f3,frz_set _ h.f4,by simpa [World.setCell] using h.z⟩
theorem WR.s3 {w:World} {b:Nat} {r:RowV} {v:Value} (h:WR w b r v) (x:Int):WR (w.setCell ⟨b,3,none⟩ (.int .i64 x)) b {r with ge:=x} v:=
 have nb: ∀o,o≠3→(⟨b,3,none⟩:Addr)≠⟨b,o,none⟩:=fun o e e2=>e VP
 ⟨cell_ne _ (nb 0 VA) h.c0,cell_ne _ (nb 1 VA) h.c1,cell_ne _ (nb 2 VA) h.c2,cell_eq _ ⟨_,h.c3⟩,cell_ne _ (nb 4 VA) h.c4,frz_set _ h.f0,frz_set _ h.f1,frz_set _ h.f2,frz_set _ h.f3,frz_set _ h.f4,by simpa [World.setCell] using h.z⟩
theorem WR.s4 {w:World} {b:Nat} {r:RowV} {v:Value} (h:WR w b r v) (x:Int):WR (w.setCell ⟨b,4,none⟩ (.int .i64 x)) b {r with ex:=x} v:=
 have nb: ∀o,o≠4→(⟨b,4,none⟩:Addr)≠⟨b,o,none⟩:=fun o e e2=>e VP
 ⟨cell_ne _ (nb 0 VA) h.c0,cell_ne _ (nb 1 VA) h.c1,cell_ne _ (nb 2 VA) h.c2,cell_ne _ (nb 3 VA) h.c3,cell_eq _ ⟨_,h.c4⟩,frz_set _ h.f0,frz_set _ h.f1,frz_set _ h.f2,frz_set _ h.f3,frz_set _ h.f4,by simpa [World.setCell] using h.z⟩
theorem WR.new (w:World) (r:RowV) (v:Value):WR (w.alloc (.cells #[.int .i64 r.d,.int .i64 r.num,v,.int .i64 r.ge,.int .i64 r.ex] 31)) w.heap.size r v:=by
 constructor<;>first|(go_simp;done)|(simp;done)
structure RowD (B:Nat) (w:World) (b p:Nat) (K:Int) (W:World) (t:TR):Prop where
 ok:RowOk t.r
 len:t.zs.length≤1000
 ints:IntsAt W (w.heap.size+1) W.heap.size t.a t.zs.length (fun i=>t.zs.getD i 0)
 own:WR W p t.r (.slice t.a t.zs.length t.c)
 res:WR W w.heap.size ⟨0,0,0,0⟩ (.slice none 0 0)
 cur:Cur B W b K
 gr:w.grownBy W (some b)
theorem heq7 {w:World} {p:Addr} {v:Value} {o:Obj} {k:Nat} (h:k=w.heap.size):((w.setCell p v).alloc o).heap[k]? =(w.alloc o).heap[k]? :=by
 subst h
 have h2:=heap_alloc_new (w.setCell p v) o
 rw[show (w.setCell p v).heap.size=w.heap.size by simp [World.setCell]] at h2
 rw[h2,heap_alloc_new]
theorem W1 (w:World) (x:Int):IntsAt (w.alloc (.cells #[.int .i64 x] 3)) w.heap.size (w.heap.size+1) (some ⟨w.heap.size,0,none⟩) 1 (fun i=> [x].getD i 0):=by
 have h:IL (w.alloc (.cells #[.int .i64 x] 3)) w.heap.size (.slice (some ⟨w.heap.size,0,none⟩) 1 1) [x]:=World.ownsRow_lit w #[.int .i64 x] 1 (Nat.le_refl _) VA rfl
 have:=h.ints.2
 simpa using this
def DrewR (B:Nat) (w:World) (b:Nat) (K:Int) (e:Ending) (w':World):Prop:=
 ∃t:TR,e= .returned (rwv t.r (.slice t.a t.zs.length t.c))∧RowOk t.r∧t.zs.length≤1000∧t.ints w'∧t.lo=w.heap.size∧t.hi=w'.heap.size∧Cur B w' b K∧w.grownBy w' (some b)

theorem row_d (b:Nat) (K:Int) (w:World) (h0:Cur B w b K) (hK:K≤1000000000):Calls Tryz.prog 44 #[.pointer (some ⟨b,0,none⟩)] w (DrewR B w b (K+20)):=by
 have hs0:=h0.lt
 have nb0:w.heap.size≠b:=by omega
 have R0:=WR.new w ⟨0,0,0,0⟩ (.slice none 0 0)
 go_enter Tryz.func44,Tryz.ntmps44
 go_wp2_with fail
 refine (goodDisc_d (B:=B) b K _ Vo Vn).mono ?_
 rintro e1 w1 ⟨v1,rfl,p1,h1,g1⟩
 have hs1:=h1.lt
 have R1:=hide (R0.d g1 nb0)
 have G1:=hide (((World.grownBy.refl' w (some b)).alloc' _).trans' g1)
 clear g1 R0
 go_wp2_with fail
 refine (one_a (B:=B) b (K+4) 2 _ Vo Vn Vn).mono ?_
 rintro e2 w2 ⟨t2,rfl,h2,g2⟩
 have hs2:=h2.lt
 have R2:=hide ((unhide R1).d g2 nb0)
 have G2:=hide ((unhide G1).trans' g2)
 clear g2
 go_upto_if 8 with fail
 go_cut [3] (fun s3 wx=> ∃d,s3= .int .i64 d∧negB d=true∧Cur B wx b (K+8)∧Hid (w.grownBy wx (some b))∧Hid (WR wx w.heap.size ⟨0,0,0,0⟩ (.slice none 0 0)))
 case first=>
  cases t2
  ·go_wp2
   go_meet
   exact ⟨v1,rfl,p1,Cur.le h2 Vn,G2,R2⟩
  ·go_wp2_with fail
   refine (pick_a (B:=B) b (K+4+2) 200 _ Vo Vn Vn).mono ?_
   rintro e3 w3 ⟨v3,rfl,p3,h3,g3⟩
   have hs3:=h3.lt
   have R3:=hide ((unhide R2).d g3 nb0)
   have G3:=hide ((unhide G2).trans' g3)
   clear g3
   go_wp2_with fail
   refine (reDisc_a (-3-v3) _).mono ?_
   rintro e4 w4 ⟨rfl,rfl⟩
   cases q:negB (-3-v3)
   ·go_wp2
    go_meet
    exact ⟨-84,rfl,VA,Cur.le h3 Vn,G3,R3⟩
   ·go_wp2
    go_meet
    exact ⟨-3-v3,rfl,q,Cur.le h3 Vn,G3,R3⟩
 obtain ⟨d,rfl,hd,h5,G5,R5⟩:=hcut
 obtain ⟨w5,rfl⟩: ∃w5:World,w5=wc:=⟨_,rfl⟩
 clear h1 h2 G1 G2 R1 R2
 have hs5:=h5.lt
 have hw5:=(unhide G5).size
 have hw5':=(unhide R5).z
 go_wp2_with fail
 refine (tbRow_l d _ hd).mono ?_
 rintro e6 w6 ⟨a6,c6,rfl,hl6,hi6,hb6⟩
 have hs6:=hb6.size
 have h6:=h5.below hb6
 have R6:=(unhide R5).c hb6
 have G6:=(unhide G5).below' hb6
 obtain ⟨⟨m0,m1⟩,⟨m2,m3⟩,⟨m4,m5⟩⟩:=rw_all9 (row_good hd)
 have hrok:=rowOk hd
 have hlen:=rowFL_len hd
 generalize rowV d=r at*
 generalize rowFL d=F at*
 have P6:=WR.new w6 r (.slice a6 F.length c6)
 have nb6:w6.heap.size≠b:=by omega
 have n67:w.heap.size≠w6.heap.size:=by have:=(unhide R5).z;omega
 go_wp2_with fail
 refine (pick_a (B:=B) b (K+8) 12 _ Vo Vn Vn).mono ?_
 rintro e7 w7 ⟨v7,rfl,p7,h7,g7⟩
 have hs7:=h7.lt
 have P7:=P6.d g7 nb6
 have R7:=(R6.al _).d g7 nb0
 have G7:=(G6.alloc' _).trans' g7
 have hl7:=hide (IL.kept (hl6.alloc _) g7 (.inr fun e=>by have:=(hl6.lt _ e).1;omega))
 have z7:=P7.z
 have hw7:w.heap.size≤w7.heap.size:=G7.size
 have hI:IntsAt w7 w5.heap.size w6.heap.size a6 F.length (fun i=>F.getD i 0):=IntsAt.keep (hi6.below (below_alloc_self _ _) (Nat.le_refl _)) (fun k k1 k2=>g7.block k VO (fun e=>by have:=Option.some.inj e;omega))
 have q6:=hide (fun k e=>hl6.lt k e)
 clear g7 P6 R6 G6 h6 hl6 hi6 hb6 R5 G5 h5
 go_upto_block 0 with fail
 go_cut [] (fun wx=> ∃t,RowD B w b w6.heap.size (K+20) wx t)
 case first=>
  have P7':=hide P7
  obtain ⟨c0,c1,c2,c3,c4,f0,f1,f2,f3,f4,-⟩:=P7
  have hP:=unhide P7'
  by_cases q0:v7=0
  ·subst q0
   go_wp2
   go_meet
   exact ⟨⟨{r with num:=(r.num+1)},a6,c6,0,0,F⟩,⟨hrok.d,⟨by show _≤(r.num+1);omega,by show (r.num+1)≤_;omega⟩,hrok.ge,hrok.ex⟩,by show F.length≤1000;omega,IntsAt.weak (lo:=w5.heap.size) (hi:=w6.heap.size) (IntsAt.keep hI fun k k1 k2=>Below.heap_setCell _ _ _ _ (show k≠w6.heap.size by omega)) Vn W0,hP.s1 _,R7.far n67.symm,Cur.le (Cur.setN h7 Vn) Vn,World.grownBy.setNew G7 Vn _ _⟩
  ·skip
   by_cases q1:v7=1
   ·subst q1
    go_wp2_with fail
    refine (among_a (B:=B) b (K+8+2) _ 0 5 5 (fun x=>0≤x∧x≤1001) _ (h7.alc _) Vn Vn ⟨Vn,fun i hi=>by rcases (show i=0∨i=1∨i=2∨i=3∨i=4 by omega) with rfl|rfl|rfl|rfl|rfl<;>exact ⟨_,by go_simp;rfl,by first|trivial|(constructor<;>omega)⟩⟩).mono ?_
    rintro e8 w8 ⟨v8,rfl,p8,h8,g8⟩
    have hs8:=h8.lt
    have hz8:=g8.size
    simp only[World.size_alloc] at hz8
    have P8:=(hP.al _).d g8 nb6
    have I8:=IntsAt.keep (hI.below (below_alloc_self w7 (.cells #[.int .i64 0,.int .i64 1,.int .i64 1000,.int .i64 1001,.int .i64 (r.ge+1)] 3)) Vn) (fun k k1 k2=>g8.block k VO (fun e=>by have:=Option.some.inj e;omega))
    obtain ⟨c0,c1,c2,c3,c4,f0,f1,f2,f3,f4,-⟩:=P8
    have P8:=(hP.al (.cells #[.int .i64 0,.int .i64 1,.int .i64 1000,.int .i64 1001,.int .i64 (r.ge+1)] 3)).d g8 nb6
    go_wp2
    go_meet
    exact ⟨⟨{r with ge:=v8},a6,c6,0,0,F⟩,⟨hrok.d,hrok.num,⟨by show _≤v8;omega,by show v8≤_;omega⟩,hrok.ex⟩,by show F.length≤1000;omega,IntsAt.weak (lo:=w5.heap.size) (hi:=w6.heap.size) (IntsAt.keep I8 fun k k1 k2=>Below.heap_setCell _ _ _ _ (show k≠w6.heap.size by omega)) Vn W0,P8.s3 _,((R7.al _).d g8 nb0).far n67.symm,Cur.le (Cur.setN h8 Vn) Vn,World.grownBy.setNew ((G7.alloc' _).trans' g8) Vn _ _⟩
   ·skip
    by_cases q2:v7=2
    ·subst q2
     go_wp2_with fail
     refine (among_a (B:=B) b (K+8+2) _ 0 5 5 (fun x=>0≤x∧x≤1001) _ (h7.alc _) Vn Vn ⟨Vn,fun i hi=>by rcases (show i=0∨i=1∨i=2∨i=3∨i=4 by omega) with rfl|rfl|rfl|rfl|rfl<;>exact ⟨_,by go_simp;rfl,by first|trivial|(constructor<;>omega)⟩⟩).mono ?_
     rintro e8 w8 ⟨v8,rfl,p8,h8,g8⟩
     have hs8:=h8.lt
     have hz8:=g8.size
     simp only[World.size_alloc] at hz8
     have P8:=(hP.al _).d g8 nb6
     have I8:=IntsAt.keep (hI.below (below_alloc_self w7 (.cells #[.int .i64 0,.int .i64 1,.int .i64 1000,.int .i64 1001,.int .i64 (r.ex+1)] 3)) Vn) (fun k k1 k2=>g8.block k VO (fun e=>by have:=Option.some.inj e;omega))
     obtain ⟨c0,c1,c2,c3,c4,f0,f1,f2,f3,f4,-⟩:=P8
     have P8:=(hP.al (.cells #[.int .i64 0,.int .i64 1,.int .i64 1000,.int .i64 1001,.int .i64 (r.ex+1)] 3)).d g8 nb6
     go_wp2
     go_meet
     exact ⟨⟨{r with ex:=v8},a6,c6,0,0,F⟩,⟨hrok.d,hrok.num,hrok.ge,⟨by show _≤v8;omega,by show v8≤_;omega⟩⟩,by show F.length≤1000;omega,IntsAt.weak (lo:=w5.heap.size) (hi:=w6.heap.size) (IntsAt.keep I8 fun k k1 k2=>Below.heap_setCell _ _ _ _ (show k≠w6.heap.size by omega)) Vn W0,P8.s4 _,((R7.al _).d g8 nb0).far n67.symm,Cur.le (Cur.setN h8 Vn) Vn,World.grownBy.setNew ((G7.alloc' _).trans' g8) Vn _ _⟩
    ·skip
     by_cases q3:v7=3
     ·subst q3
      go_wp2_with fail
      refine (disc_d (B:=B) b (K+8+2) _ h7 Vn).mono ?_
      rintro e8 w8 ⟨v8,rfl,p8,h8,g8⟩
      have hs8:=h8.lt
      have hz8:=g8.size
      unfold R64 at p8
      have P8:=hP.d g8 nb6
      have P8':=hide P8
      have I8:=IntsAt.keep hI (fun k k1 k2=>g8.block k Vn (fun e=>by have:=Option.some.inj e;omega))
      obtain ⟨c0,c1,c2,c3,c4,f0,f1,f2,f3,f4,-⟩:=P8
      have P8:=unhide P8'
      go_wp2
      go_meet
      exact ⟨⟨{r with d:=v8},a6,c6,0,0,F⟩,⟨⟨by show _≤v8;omega,by show v8≤_;omega⟩,hrok.num,hrok.ge,hrok.ex⟩,by show F.length≤1000;omega,IntsAt.weak (lo:=w5.heap.size) (hi:=w6.heap.size) (IntsAt.keep I8 fun k k1 k2=>Below.heap_setCell _ _ _ _ (show k≠w6.heap.size by omega)) Vn W0,P8.s0 _,(R7.d g8 nb0).far n67.symm,Cur.le (Cur.setN h8 Vn) Vn,World.grownBy.setNew (G7.trans' g8) Vn _ _⟩
     ·skip
      by_cases q4:v7=4
      ·subst q4
       go_wp2
       go_meet
       exact ⟨⟨r,some ⟨w7.heap.size,0,none⟩,1,0,0,[r.num]⟩,hrok,by show 1≤1000;omega,IntsAt.weak (lo:=w7.heap.size) (hi:=w7.heap.size+1) (IntsAt.keep (W1 w7 r.num) fun k k1 k2=>heq7 Vn) Vn W7,(hP.s2 _).al _,(R7.far n67.symm).al _,Cur.le (Cur.alc (Cur.setN h7 Vn) _) Vn,(World.grownBy.setNew G7 Vn _ _).alloc' _⟩
      ·skip
       by_cases q5:v7=5
       ·subst q5
        have ne8:(Value.slice a6 F.length c6).ownBlock≠some w6.heap.size:=fun e=>by have:=(unhide q6 _ e).2;omega
        have hl8:=(unhide hl7).alloc (.cells #[.int .i64 1] 3)
        go_wp2_with (at_builtin;refine app_int _ rfl (.tmp 57) (.tmp 58) rfl w5.heap.size (.slice a6 F.length c6) F 1 w7.heap.size rfl rfl hl8 VB Vn VW ?_;intro g cap w8 hl9 hgr hat hlt9;obtain ⟨c0,c1,c2,c3,c4,f0,f1,f2,f3,f4,-⟩:=(hP.al _).g hgr ne8)
        have P8:=(hP.al _).g hgr ne8
        have R8:=(R7.al _).g hgr (fun e=>by have:=(unhide q6 _ e).1;omega)
        have gne:g≠w6.heap.size:=fun e=>by
         rcases hat with q|q
         ·exact ne8 (by rw[q,e])
         ·rw [World.size_alloc] at q;omega
        have h8:Cur B w8 b (K+8+2):=(h7.alc _).blocks (fun k hk=>hgr.block k VO (fun e=>by have:=(unhide q6 _ e.symm).1;omega))
        have hz8:=hgr.size
        rw[World.size_alloc] at hz8
        have G8:w.grownBy w8 (some b):=⟨hgr.os.trans (G7.alloc' _).os,hgr.tape.trans (G7.alloc' _).tape,hgr.output.trans (G7.alloc' _).output,Vn,fun k hk hne=>(hgr.block k VO (fun e=>by have:=(unhide q6 _ e.symm).1;omega)).trans ((G7.alloc' _).block k hk hne)⟩
        have HI9:=(IL.kept hl9 (row:=some w6.heap.size) (World.grownBy.setB (World.grownBy.refl' w8 _) 2 (.slice (some ⟨g,0,none⟩) (F.length+1) cap)) (.inr (fun e=>gne (by simpa [Value.ownBlock] using e)))).ints.2
        have e9:(F++ [(1:Int)]).length=F.length+1:=by simp
        go_meet
        exact ⟨⟨r,some ⟨g,0,none⟩,cap,0,0,F++ [1]⟩,hrok,by show (F++ [(1:Int)]).length≤1000;omega,HI9.weak Vn (Nat.le_refl _),by show WR _ _ r (.slice (some ⟨g,0,none⟩) (F++ [(1:Int)]).length cap);rw [e9];exact P8.s2 _,R8.far n67.symm,Cur.le (Cur.setN h8 Vn) Vn,World.grownBy.setNew G8 Vn _ _⟩
       ·skip
        go_wp2
        go_meet
        exact ⟨⟨r,a6,c6,0,0,F⟩,hrok,by show F.length≤1000;omega,IntsAt.weak hI Vn Vn,hP,R7,Cur.le h7 Vn,G7⟩
 obtain ⟨t,hR⟩:=hcut
 obtain ⟨w9,rfl⟩: ∃w9:World,w9=wc:=⟨_,rfl⟩
 obtain ⟨hok,htl,hti,hto,htr,h9,G9⟩:=hR
 have T:=hide htr
 obtain ⟨c0,c1,c2,c3,c4,f0,f1,f2,f3,f4,z9⟩:=hto
 obtain ⟨k0,k1,k2,k3,k4,j0,j1,j2,j3,j4,-⟩:=htr
 clear hI hl7 P7 R7 G7 h7
 go_wp2
 have RF:=(((((unhide T).s0 t.r.d).s1 t.r.num).s2 (.slice t.a t.zs.length t.c)).s3 t.r.ge).s4 t.r.ex
 refine bodyPost_ret (v:=rwv t.r (.slice t.a t.zs.length t.c)) (by simp [results,Tryz.results44,go_sem,RF.c0,RF.c1,RF.c2,RF.c3,RF.c4]) rfl ?_
 refine ⟨⟨t.r,t.a,t.c,w.heap.size,_,t.zs⟩,rfl,hok,htl,IntsAt.weak (lo:=w.heap.size+1) (hi:=w9.heap.size) (IntsAt.keep hti fun k k1 k2=> ?_) (Nat.le_succ _) W7,rfl,rfl,?_,?_⟩
 ·have hne:k≠w.heap.size:=by omega
  exact (Below.heap_setCell _ _ _ _ hne).trans ((Below.heap_setCell _ _ _ _ hne).trans ((Below.heap_setCell _ _ _ _ hne).trans ((Below.heap_setCell _ _ _ _ hne).trans (Below.heap_setCell _ _ _ _ hne))))
 ·repeat' with_reducible first|exact h9|refine Cur.setN ?_ Vn
 ·repeat' with_reducible first|exact G9|refine World.grownBy.setNew ?_ (Nat.le_refl _) _ _
end Go.Proofs.YtobkcnmlmmhpoaaGreatDoor
