/- Rows on both sides. The row of a discriminant: rowOf, tbRow, RowOf. -/
import Derived.Test.YtobkcnmlmmhpoaaGreatDoorCha
import Derived.Test.YtobkcnmlmmhpoaaGreatDoorConv
import Derived.Test.YtobkcnmlmmhpoaaGreatDoorIvi
import Derived.Test.YtobkcnmlmmhpoaaGreatDoorIvs
import Derived.Test.YtobkcnmlmmhpoaaGreatDoorGng
set_option maxRecDepth 100000
set_option maxHeartbeats 80000000
namespace Go.Proofs.YtobkcnmlmmhpoaaGreatDoor
open Go.RowKit
set_option linter.unusedVariables false
set_option linter.unusedSimpArgs false
attribute [local go_sem] q2 q3 q4 q5 q6 q7 q8 q9 q10 q11 q12

structure RowV where
 d:Int
 num:Int
 ge:Int
 ex:Int
structure RowOk (r:RowV):Prop where
 d:I64 r.d
 num:I64 r.num
 ge:I64 r.ge
 ex:I64 r.ex
abbrev rwv (r:RowV) (v:Value):Value:= .agg #[.int .i64 r.d,.int .i64 r.num,v,.int .i64 r.ge,.int .i64 r.ex]
def rwB (r:RowV) (n:Nat) (z:Nat→Int):Bool:=chB z n&&(negB r.d&&(decide (cprV z n=r.num)&&(inB r.ge 1 1000&&inB r.ex 1 1000)))

theorem within_a (x:Int) (w:World):Calls Tryz.prog 60 #[.int .i64 x] w fun e w'=>e= .returned (.bool (inB x 1 1000))∧w=w':=by
 by_cases q1:1≤x
 ·by_cases q2:x≤1000
  ·have HV:Hid (inB x 1 1000=true):=hide (by unfold inB;simp;omega)
   go_enter Tryz.func60,Tryz.ntmps60
   go_wp2
   go_ret
   exact ⟨by rw[unhide HV];rfl,rfl⟩
  ·have HV:Hid (inB x 1 1000=false):=hide (by unfold inB;simp;omega)
   go_enter Tryz.func60,Tryz.ntmps60
   go_wp2
   go_ret
   exact ⟨by rw[unhide HV];rfl,rfl⟩
 ·have HV:Hid (inB x 1 1000=false):=hide (by unfold inB;simp;omega)
  go_enter Tryz.func60,Tryz.ntmps60
  go_wp2
  go_ret
  exact ⟨by rw[unhide HV];rfl,rfl⟩

theorem isRow_a (r:RowV) (v:Value) (n:Nat) (z:Nat→Int) (w:World) (h:ArgI w v n z) (hn:n≤2000000) (hr:RowOk r):
  Calls Tryz.prog 37 #[rwv r v] w fun e w'=>e= .returned (.bool (rwB r n z))∧Below w.heap.size w w':=by
 obtain ⟨d,num,ge,ex⟩:=r
 obtain ⟨i0,i1,i2,i3⟩:=hr
 have HA:Hid (ArgI (w.alloc (.cells #[.int .i64 d,.int .i64 num,v,.int .i64 ge,.int .i64 ex] 31)) v n z):=hide (h.below (below_alloc_self _ _))
 clear h
 cases kb:chB z n
 ·have HV:Hid (rwB ⟨d,num,ge,ex⟩ n z=false):=hide (by unfold rwB;rw [kb];rfl)
  go_enter Tryz.func37,Tryz.ntmps37
  go_wp2_with (first|(go_at_call 59;refine (isChain_a v n z _ (unhide HA) hn).mono ?_;rintro e w' ⟨rfl,rfl⟩)|(go_at_call 31;refine (isNegativeDisc_a _ _).mono ?_;rintro e w' ⟨rfl,rfl⟩)|(go_at_call 60;refine (within_a _ _).mono ?_;rintro e w' ⟨rfl,rfl⟩))
  all_goals (go_ret;exact ⟨by rw[unhide HV];first|done|rfl|(simp [*];done),byGG⟩)
 ·cases kd:negB d
  ·have HV:Hid (rwB ⟨d,num,ge,ex⟩ n z=false):=hide (by simp [rwB,kd])
   go_enter Tryz.func37,Tryz.ntmps37
   go_wp2_with (first|(go_at_call 59;refine (isChain_a v n z _ (unhide HA) hn).mono ?_;rintro e w' ⟨rfl,rfl⟩)|(go_at_call 31;refine (isNegativeDisc_a _ _).mono ?_;rintro e w' ⟨rfl,rfl⟩)|(go_at_call 60;refine (within_a _ _).mono ?_;rintro e w' ⟨rfl,rfl⟩))
   all_goals (go_ret;exact ⟨by rw[unhide HV];first|done|rfl|(simp [*];done),byGG⟩)
  ·by_cases ke:cprV z n=num
   ·have ke':num=cprV z n:=ke.symm
    have HV0:Hid (rwB ⟨d,num,ge,ex⟩ n z=(inB ge 1 1000&&inB ex 1 1000)):=hide (by simp [rwB,kb,kd,ke])
    subst ke
    clear ke'
    cases kg:inB ge 1 1000
    ·have HV:Hid (rwB ⟨d,cprV z n,ge,ex⟩ n z=false):=hide (by rw[unhide HV0,kg];rfl)
     go_enter Tryz.func37,Tryz.ntmps37
     go_wp2_with (first|(go_at_call 59;refine (isChain_a v n z _ (unhide HA) hn).mono ?_;rintro e w' ⟨rfl,rfl⟩)|(go_at_call 31;refine (isNegativeDisc_a _ _).mono ?_;rintro e w' ⟨rfl,rfl⟩)|(go_at_call 60;refine (within_a _ _).mono ?_;rintro e w' ⟨rfl,rfl⟩))
     all_goals (go_ret;exact ⟨by rw[unhide HV];first|done|rfl|(simp [*];done),byGG⟩)
    ·cases kx:inB ex 1 1000
     ·have HV:Hid (rwB ⟨d,cprV z n,ge,ex⟩ n z=false):=hide (by rw[unhide HV0,kx];simp)
      go_enter Tryz.func37,Tryz.ntmps37
      go_wp2_with (first|(go_at_call 59;refine (isChain_a v n z _ (unhide HA) hn).mono ?_;rintro e w' ⟨rfl,rfl⟩)|(go_at_call 31;refine (isNegativeDisc_a _ _).mono ?_;rintro e w' ⟨rfl,rfl⟩)|(go_at_call 60;refine (within_a _ _).mono ?_;rintro e w' ⟨rfl,rfl⟩))
      all_goals (go_ret;exact ⟨by rw[unhide HV];first|done|rfl|(simp [*];done),byGG⟩)
     ·have HV:Hid (rwB ⟨d,cprV z n,ge,ex⟩ n z=true):=hide (by rw[unhide HV0,kg,kx];rfl)
      go_enter Tryz.func37,Tryz.ntmps37
      go_wp2_with (first|(go_at_call 59;refine (isChain_a v n z _ (unhide HA) hn).mono ?_;rintro e w' ⟨rfl,rfl⟩)|(go_at_call 31;refine (isNegativeDisc_a _ _).mono ?_;rintro e w' ⟨rfl,rfl⟩)|(go_at_call 60;refine (within_a _ _).mono ?_;rintro e w' ⟨rfl,rfl⟩))
      all_goals (go_ret;exact ⟨by rw[unhide HV];first|done|rfl|(simp [*];done),byGG⟩)
   ·have ke': ¬num=cprV z n:=fun e=>ke e.symm
    have HV:Hid (rwB ⟨d,num,ge,ex⟩ n z=false):=hide (by simp [rwB,ke])
    go_enter Tryz.func37,Tryz.ntmps37
    go_wp2_with (first|(go_at_call 59;refine (isChain_a v n z _ (unhide HA) hn).mono ?_;rintro e w' ⟨rfl,rfl⟩)|(go_at_call 31;refine (isNegativeDisc_a _ _).mono ?_;rintro e w' ⟨rfl,rfl⟩)|(go_at_call 60;refine (within_a _ _).mono ?_;rintro e w' ⟨rfl,rfl⟩))
    all_goals (go_ret;exact ⟨by rw[unhide HV];first|done|rfl|(simp [*];done),byGG⟩)

theorem tbGood_a (r:RowV) (v:Value) (n:Nat) (z:Nat→Int) (w:World) (h:ArgI w v n z) (hn:n≤2000000) (hr:RowOk r):
  Calls Tryz.prog 45 #[rwv r v] w fun e w'=>e= .returned (.bool (rwB r n z))∧Below w.heap.size w w':=by
 obtain ⟨d,num,ge,ex⟩:=r
 obtain ⟨i0,i1,i2,i3⟩:=hr
 have HA:Hid (ArgI (w.alloc (.cells #[.int .i64 d,.int .i64 num,v,.int .i64 ge,.int .i64 ex] 31)) v n z):=hide (h.below (below_alloc_self _ _))
 clear h
 cases kb:chB z n
 ·have HV:Hid (rwB ⟨d,num,ge,ex⟩ n z=false):=hide (by unfold rwB;rw [kb];rfl)
  go_enter Tryz.func45,Tryz.ntmps45
  go_wp2_with (first|(go_at_call 73;refine (tbFactors_a v n z _ (unhide HA) hn).mono ?_;rintro e w' ⟨rfl,rfl⟩)|(go_at_call 49;refine (reDisc_a _ _).mono ?_;rintro e w' ⟨rfl,rfl⟩)|(go_at_call 48;refine (l1In_any _ _ _ _).mono ?_;rintro e w' ⟨rfl,rfl⟩))
  all_goals (go_ret;exact ⟨by rw[unhide HV];first|done|rfl|(simp [*];done),byGG⟩)
 ·cases kd:negB d
  ·have HV:Hid (rwB ⟨d,num,ge,ex⟩ n z=false):=hide (by simp [rwB,kd])
   go_enter Tryz.func45,Tryz.ntmps45
   go_wp2_with (first|(go_at_call 73;refine (tbFactors_a v n z _ (unhide HA) hn).mono ?_;rintro e w' ⟨rfl,rfl⟩)|(go_at_call 49;refine (reDisc_a _ _).mono ?_;rintro e w' ⟨rfl,rfl⟩)|(go_at_call 48;refine (l1In_any _ _ _ _).mono ?_;rintro e w' ⟨rfl,rfl⟩))
   all_goals (go_ret;exact ⟨by rw[unhide HV];first|done|rfl|(simp [*];done),byGG⟩)
  ·by_cases ke:cprV z n=num
   ·have ke':num=cprV z n:=ke.symm
    have HV0:Hid (rwB ⟨d,num,ge,ex⟩ n z=(inB ge 1 1000&&inB ex 1 1000)):=hide (by simp [rwB,kb,kd,ke])
    subst ke
    clear ke'
    cases kg:inB ge 1 1000
    ·have HV:Hid (rwB ⟨d,cprV z n,ge,ex⟩ n z=false):=hide (by rw[unhide HV0,kg];rfl)
     go_enter Tryz.func45,Tryz.ntmps45
     go_wp2_with (first|(go_at_call 73;refine (tbFactors_a v n z _ (unhide HA) hn).mono ?_;rintro e w' ⟨rfl,rfl⟩)|(go_at_call 49;refine (reDisc_a _ _).mono ?_;rintro e w' ⟨rfl,rfl⟩)|(go_at_call 48;refine (l1In_any _ _ _ _).mono ?_;rintro e w' ⟨rfl,rfl⟩))
     all_goals (go_ret;exact ⟨by rw[unhide HV];first|done|rfl|(simp [*];done),byGG⟩)
    ·cases kx:inB ex 1 1000
     ·have HV:Hid (rwB ⟨d,cprV z n,ge,ex⟩ n z=false):=hide (by rw[unhide HV0,kx];simp)
      go_enter Tryz.func45,Tryz.ntmps45
      go_wp2_with (first|(go_at_call 73;refine (tbFactors_a v n z _ (unhide HA) hn).mono ?_;rintro e w' ⟨rfl,rfl⟩)|(go_at_call 49;refine (reDisc_a _ _).mono ?_;rintro e w' ⟨rfl,rfl⟩)|(go_at_call 48;refine (l1In_any _ _ _ _).mono ?_;rintro e w' ⟨rfl,rfl⟩))
      all_goals (go_ret;exact ⟨by rw[unhide HV];first|done|rfl|(simp [*];done),byGG⟩)
     ·have HV:Hid (rwB ⟨d,cprV z n,ge,ex⟩ n z=true):=hide (by rw[unhide HV0,kg,kx];rfl)
      go_enter Tryz.func45,Tryz.ntmps45
      go_wp2_with (first|(go_at_call 73;refine (tbFactors_a v n z _ (unhide HA) hn).mono ?_;rintro e w' ⟨rfl,rfl⟩)|(go_at_call 49;refine (reDisc_a _ _).mono ?_;rintro e w' ⟨rfl,rfl⟩)|(go_at_call 48;refine (l1In_any _ _ _ _).mono ?_;rintro e w' ⟨rfl,rfl⟩))
      all_goals (go_ret;exact ⟨by rw[unhide HV];first|done|rfl|(simp [*];done),byGG⟩)
   ·have ke': ¬num=cprV z n:=fun e=>ke e.symm
    have HV:Hid (rwB ⟨d,num,ge,ex⟩ n z=false):=hide (by simp [rwB,ke])
    go_enter Tryz.func45,Tryz.ntmps45
    go_wp2_with (first|(go_at_call 73;refine (tbFactors_a v n z _ (unhide HA) hn).mono ?_;rintro e w' ⟨rfl,rfl⟩)|(go_at_call 49;refine (reDisc_a _ _).mono ?_;rintro e w' ⟨rfl,rfl⟩)|(go_at_call 48;refine (l1In_any _ _ _ _).mono ?_;rintro e w' ⟨rfl,rfl⟩))
    all_goals (go_ret;exact ⟨by rw[unhide HV];first|done|rfl|(simp [*];done),byGG⟩)

end Go.Proofs.YtobkcnmlmmhpoaaGreatDoor
namespace Go.Proofs.YtobkcnmlmmhpoaaGreatDoor
open Go.RowKit
set_option linter.unusedVariables false
set_option linter.unusedSimpArgs false
attribute [local go_sem] q2 q3 q4 q5 q6 q7 q8 q9 q10 q11 q12

noncomputable def rowFL (d:Int):List Int:=nI (fsL (orL d)).reverse
noncomputable def rowV (d:Int):RowV:=⟨d,((rfL d).length:Int),(gsN d:Int),(((fsL (orL d)).getD 0 1:Nat):Int)⟩
def RetRowV (w:World) (r:RowV) (zs:List Int) (e:Ending) (w':World):Prop:= ∃a c,e= .returned (rwv r (.slice a zs.length c))∧IntsAt w' w.heap.size w'.heap.size a zs.length (fun i=>zs.getD i 0)∧Below w.heap.size w w'
theorem orL_len {d:Int} :(orL d).length=(rfL d).length:=by unfold orL;rw [List.length_map]
theorem rowFL_len {d:Int} (hd:negB d=true):(rowFL d).length≤700:=by
 unfold rowFL
 rw[nI_len,List.length_reverse]
 have hq:=os_q hd
 unfold fsL fsK
 rw[List.take_length]
 have key: ∀(ps:List Nat),(∀p ∈ ps,p ∈ psL (orL d).length)→ ∀l:List Nat,l.length≤676→(fsP (orL d) ps l).length≤676:=by
  intro ps
  induction ps with
  |nil=>intro _ l hl;exact hl
  |cons p ps ih=>
   intro hp l hl
   refine ih (fun q hq=>hp q (by simp [hq])) _ ?_
   have hpm:=hp p Vs
   have hr: ∀k,k≤exN (orL d).length p→(rnd (orL d) p l k).length≤676:=by
    intro k
    induction k with
    |zero=>intro _;exact hl
    |succ k ik=>
     intro hk
     rw[rnd,mulF_len]
     have h1:=hq.ck1 p hpm (k+1) hk
     have h2:=hq.dv1 p hpm k
     have h3:=ex_le (p:=p) (hq.le p hpm).1 h2
     have h4:cK (orL d) p (k+1) / cK (orL d) p k≤cK (orL d) p (k+1):=Nat.div_le_self _ _
     have h5:=hq.n2
     have h6:=ik Vn
     omega
   exact hr _ (Nat.le_refl _)
 have:=key _ (fun p hp=>hp) [] Vs
 omega
theorem lcK_b {d:Int} (hd:negB d=true) {k:Nat} (hk:k≤(orL d).length):1≤lcK (orL d) k∧lcK (orL d) k≤700:=by
 have h1:=lc_bd hd hk
 have hq:=os_q hd
 have h2:=fs_bd hd
 have h3:(fsL (orL d)).getD 0 1≤676:=by
  by_cases q:0<(fsL (orL d)).length
  ·have:=h2 _ (gdm (d:=1) q)
   have:=hq.n2
   omega
  ·rw [List.getD_eq_getElem?_getD,List.getElem?_eq_none Vn];simp
 omega
theorem rowOf_a (d:Int) (w:World) (hd:negB d=true):Calls Tryz.prog 26 #[.int .i64 d] w (RetRowV w (rowV d) (rowFL d)):=by
 have hq:=os_q hd
 have HG:Hid (∀W,Calls Tryz.prog 33 #[.int .i64 d] W fun e w'=> ∃gb,e= .returned (.pointer (some ⟨gb,0,none⟩))∧grpS w'.heap.size gb (rfL d) w'∧Below W.heap.size W w'):=hide fun W=>groupOf_a d W hd
 have HO:Hid (∀W gb,grpS W.heap.size gb (rfL d) W→Calls Tryz.prog 34 #[.pointer (some ⟨gb,0,none⟩)] W (RetIL W (orL d))):=hide fun W gb h=>orders_a d W.heap.size gb W hd h (Nat.le_refl _)
 have HI:Hid (∀(W:World) (a:Option Addr) (c lo hi:Nat),hi≤W.heap.size→IntsAt W lo hi a (orL d).length (fun i=>(orL d).getD i 0)→Calls Tryz.prog 32 #[.slice a (orL d).length c] W (RetIL W (rowFL d))):=hide fun W a c lo hi h1 h2=>invariants_a (orL d) a _ c lo hi W hq (hide rfl) h1 h2
 have HN:Hid (∀W,Calls Tryz.prog 47 #[.int .i64 d] W (RetLen W (gsN d))):=hide fun W=>genera_a d W hd
 have hlc:=fun k hk=>lcK_b hd (k:=k) hk
 have hpos:=hq.pos
 have hn2:=hq.n2
 have HTOP:Hid (lcK (orL d) (orL d).length=(rowV d).ex):=hide (lc_top hd)
 have HLN:Hid ((((orL d).length:Nat):Int)=(rowV d).num):=hide (by rw[orL_len];rfl)
 have HGE:Hid (((gsN d:Nat):Int)=(rowV d).ge):=hide rfl
 have HDD:Hid (d=(rowV d).d):=hide rfl
 have hgs:gsN d≤676:=by have:=gsK_le (rfL d) (rfL d).length;rw [orL_len] at hn2;unfold gsN;omega
 generalize rowV d=r at*
 generalize rowFL d=FL9 at*
 generalize gsN d=gn at*
 generalize hos:orL d=os at*
 clear hos hq
 go_enter Tryz.func26,Tryz.ntmps26
 go_wp2_with fail
 refine ((unhide HG) _).mono ?_
 rintro e w1 ⟨gb,rfl,hgrp,hb1⟩
 have hs1:=hb1.size
 simp only[World.size_alloc] at hs1
 have z0:w.heap.size<w1.heap.size:=by omega
 have y0:=cell_call hb1 (a:=⟨w.heap.size,0,none⟩) (v:= .int .i64 0) VB
 have x0:=frz_call hb1 (a:=⟨w.heap.size,0,none⟩) Vs VB
 have y1:=cell_call hb1 (a:=⟨w.heap.size,1,none⟩) (v:= .int .i64 0) VB
 have x1:=frz_call hb1 (a:=⟨w.heap.size,1,none⟩) Vs VB
 have y2:=cell_call hb1 (a:=⟨w.heap.size,2,none⟩) (v:= .slice none 0 0) VB
 have x2:=frz_call hb1 (a:=⟨w.heap.size,2,none⟩) Vs VB
 have y3:=cell_call hb1 (a:=⟨w.heap.size,3,none⟩) (v:= .int .i64 0) VB
 have x3:=frz_call hb1 (a:=⟨w.heap.size,3,none⟩) Vs VB
 have y4:=cell_call hb1 (a:=⟨w.heap.size,4,none⟩) (v:= .int .i64 0) VB
 have x4:=frz_call hb1 (a:=⟨w.heap.size,4,none⟩) Vs VB
 go_wp2_with fail
 refine ((unhide HO) _ gb hgrp).mono ?_
 rintro e w2 ⟨a2,c2,rfl,hl2,hb2⟩
 have hs2:=hb2.size
 have hO2:=hl2.ints.2
 have hbw2:Below w.heap.size w w2:=byGG
 have z2:w.heap.size<w2.heap.size:=by omega
 have Y2:Hid (∀(W:World),Below w2.heap.size w2 W→(W.cell? ⟨w.heap.size,0,none⟩=some (.int .i64 0)∧W.frozen? ⟨w.heap.size,0,none⟩=false)∧(W.cell? ⟨w.heap.size,1,none⟩=some (.int .i64 0)∧W.frozen? ⟨w.heap.size,1,none⟩=false)∧(W.cell? ⟨w.heap.size,2,none⟩=some (.slice none 0 0)∧W.frozen? ⟨w.heap.size,2,none⟩=false)∧(W.cell? ⟨w.heap.size,3,none⟩=some (.int .i64 0)∧W.frozen? ⟨w.heap.size,3,none⟩=false)∧(W.cell? ⟨w.heap.size,4,none⟩=some (.int .i64 0)∧W.frozen? ⟨w.heap.size,4,none⟩=false)):=hide fun W hb=>⟨⟨cell_call hb (cell_call hb2 y0),frz_call hb z2 (frz_call hb2 z0 x0)⟩,⟨cell_call hb (cell_call hb2 y1),frz_call hb z2 (frz_call hb2 z0 x1)⟩,⟨cell_call hb (cell_call hb2 y2),frz_call hb z2 (frz_call hb2 z0 x2)⟩,⟨cell_call hb (cell_call hb2 y3),frz_call hb z2 (frz_call hb2 z0 x3)⟩,⟨cell_call hb (cell_call hb2 y4),frz_call hb z2 (frz_call hb2 z0 x4)⟩⟩
 clear y0 x0 y1 x1 y2 x2 y3 x3 y4 x4
 clear hl2
 go_wp2
 go_loopw [4,12] (fun es is wr=> ∃k:Nat,is= .int .i64 (k:Int)∧es= .int .i64 (lcK os k)∧k≤os.length∧Below w2.heap.size w2 wr) (fun _ is _=>os.length-(intOf is).toNat)
 case atStart=>exact ⟨0,rfl,rfl,Vn,Below.refl _ _⟩
 case round=>
  obtain ⟨k,rfl,rfl,hk,hbk⟩:=hrel
  obtain ⟨w3,rfl⟩: ∃w3:World,w3=wr:=⟨_,rfl⟩
  by_cases c9:k<os.length
  ·have hci:(k:Int)<(os.length:Int):=by omega
   obtain ⟨g0,hg0,hg2,d0⟩:=IntsAt.cell (hO2.below hbk (Nat.le_refl _)) c9
   obtain ⟨o1,o2⟩:=hpos _ (gdm (d:=0) c9)
   obtain ⟨b1,b2⟩:=hlc k Vn
   obtain ⟨b3,b4⟩:=hlc (k+1) Vn
   have hnx:lcK os (k+1)=lcK os k / igcd (lcK os k) (os.getD k 0)*os.getD k 0:=rfl
   obtain ⟨x,hx⟩: ∃x,os.getD k 0=x:=⟨_,rfl⟩
   rw[hx] at d0 o1 o2 hnx
   obtain ⟨L,hL⟩: ∃L,lcK os k=L:=⟨_,rfl⟩
   rw[hL] at b1 b2 hnx
   have HL:=hide hL
   obtain ⟨gg,hgg⟩: ∃gg,igcd L x=gg:=⟨_,rfl⟩
   have hg1:1≤gg:=by
    rw[←hgg]
    have:Int.gcd L x≠0:=fun e=>by have:=(Int.gcd_eq_zero_iff.1 e).1;omega
    unfold igcd;omega
   obtain ⟨q,hqq⟩: ∃q,L / gg=q:=⟨_,rfl⟩
   have tq:Int.tdiv L gg=q:=by rw[Int.tdiv_eq_ediv_of_nonneg Vn];exact hqq
   rw[hgg,hqq] at hnx
   have hgc: ∀W,Calls Tryz.prog 36 #[.int .i64 L,.int .i64 x] W fun e w'=>e= .returned (.int .i64 gg)∧ ∃n,w'=W.drewN n:=fun W=>by rw[←hgg];exact gcd_a L x W Vn Vn
   have HGC:=hide hgc
   have HNX:=hide hnx
   have hq0:0≤q:=by rw[←hqq];exact Int.ediv_nonneg Vn Vn
   have hq1:q≤L:=by rw[←hqq];exact Int.ediv_le_self _ Vn
   have hgne: ¬gg=0:=by omega
   have hqx0:0≤q*x:=Int.mul_nonneg hq0 Vn
   have hqx1:q*x≤700:=by rw[←hnx];exact b4
   clear hx hgg hqq hgc hnx hL
   rw[unhide HL]
   subst hg0
   go_wp2_with (go_at_call 36;refine ((unhide HGC) _).mono ?_;rintro e w' ⟨rfl,nq,rfl⟩)
   go_roundw
   case rel=>first|exact ⟨k+1,by first|rfl|go_num,by rw[unhide HNX],Vn,hbk.trans byGG⟩|((repeat apply Exists.intro);exact ⟨⟨k+1,by first|rfl|go_num,by rw[unhide HNX],Vn,hbk.trans byGG⟩,rfl⟩)
   case measure=>simp [intOf];omega
  ·obtain rfl:k=os.length:=by omega
   have hs3:=hbk.size
   rw[unhide HTOP]
   go_wp2_with fail
   refine ((unhide HI) _ _ c2 _ _ VW (hO2.below hbk (Nat.le_refl _))).mono ?_
   rintro e w4 ⟨a4,c4,rfl,hl4,hb4⟩
   have hs4:=hb4.size
   go_wp2_with fail
   refine ((unhide HN) _).mono ?_
   rintro e w5 ⟨a5,c5,rfl,hb5⟩
   have hs5:=hb5.size
   obtain ⟨⟨f0,g0⟩,⟨f1,g1⟩,⟨f2,g2⟩,⟨f3,g3⟩,⟨f4,g4⟩⟩:=unhide Y2 w5 ((hbk.trans (hb4.mono hs3)).trans (hb5.mono Vn))
   have hI5:IntsAt w5 w3.heap.size w4.heap.size a4 FL9.length (fun i=>FL9.getD i 0):=hl4.ints.2.below hb5 (Nat.le_refl _)
   have hbw5:Below w.heap.size w w5:=by
    have q1:=hbw2.trans (hbk.mono hbw2.size)
    have q2:=q1.trans (hb4.mono q1.size)
    exact q2.trans (hb5.mono q2.size)
   go_wp2
   have k0:(((((w5.setCell ⟨w.heap.size,0,none⟩ (.int .i64 d)).setCell ⟨w.heap.size,1,none⟩ (.int .i64 ((os.length:Nat):Int))).setCell ⟨w.heap.size,2,none⟩ (.slice a4 FL9.length c4)).setCell ⟨w.heap.size,3,none⟩ (.int .i64 (gn:Int))).setCell ⟨w.heap.size,4,none⟩ (.int .i64 r.ex)).cell? ⟨w.heap.size,0,none⟩=some (.int .i64 d):=byCT
   have k1:(((((w5.setCell ⟨w.heap.size,0,none⟩ (.int .i64 d)).setCell ⟨w.heap.size,1,none⟩ (.int .i64 ((os.length:Nat):Int))).setCell ⟨w.heap.size,2,none⟩ (.slice a4 FL9.length c4)).setCell ⟨w.heap.size,3,none⟩ (.int .i64 (gn:Int))).setCell ⟨w.heap.size,4,none⟩ (.int .i64 r.ex)).cell? ⟨w.heap.size,1,none⟩=some (.int .i64 ((os.length:Nat):Int)):=byCT
   have k2:(((((w5.setCell ⟨w.heap.size,0,none⟩ (.int .i64 d)).setCell ⟨w.heap.size,1,none⟩ (.int .i64 ((os.length:Nat):Int))).setCell ⟨w.heap.size,2,none⟩ (.slice a4 FL9.length c4)).setCell ⟨w.heap.size,3,none⟩ (.int .i64 (gn:Int))).setCell ⟨w.heap.size,4,none⟩ (.int .i64 r.ex)).cell? ⟨w.heap.size,2,none⟩=some (.slice a4 FL9.length c4):=byCT
   have k3:(((((w5.setCell ⟨w.heap.size,0,none⟩ (.int .i64 d)).setCell ⟨w.heap.size,1,none⟩ (.int .i64 ((os.length:Nat):Int))).setCell ⟨w.heap.size,2,none⟩ (.slice a4 FL9.length c4)).setCell ⟨w.heap.size,3,none⟩ (.int .i64 (gn:Int))).setCell ⟨w.heap.size,4,none⟩ (.int .i64 r.ex)).cell? ⟨w.heap.size,3,none⟩=some (.int .i64 (gn:Int)):=byCT
   have k4:(((((w5.setCell ⟨w.heap.size,0,none⟩ (.int .i64 d)).setCell ⟨w.heap.size,1,none⟩ (.int .i64 ((os.length:Nat):Int))).setCell ⟨w.heap.size,2,none⟩ (.slice a4 FL9.length c4)).setCell ⟨w.heap.size,3,none⟩ (.int .i64 (gn:Int))).setCell ⟨w.heap.size,4,none⟩ (.int .i64 r.ex)).cell? ⟨w.heap.size,4,none⟩=some (.int .i64 r.ex):=byCT
   refine bodyPost_ret (v:=rwv r (.slice a4 FL9.length c4)) ?_ rfl ?_
   ·have e1:=unhide HLN
    have e2:=unhide HGE
    have e3:=unhide HDD
    simp [results,Tryz.results26,go_sem,f0,f1,f2,f3,f4,k0,k1,k2,k3,k4,e1,e2,←e3]
   ·refine ⟨a4,c4,rfl,?_,byGG⟩
    refine IntsAt.weak (IntsAt.keep hI5 fun k k1 k2=> ?_) Vn W0
    have hne:k≠w.heap.size:=by omega
    exact (Below.heap_setCell _ _ _ _ hne).trans ((Below.heap_setCell _ _ _ _ hne).trans ((Below.heap_setCell _ _ _ _ hne).trans ((Below.heap_setCell _ _ _ _ hne).trans (Below.heap_setCell _ _ _ _ hne))))
end Go.Proofs.YtobkcnmlmmhpoaaGreatDoor
