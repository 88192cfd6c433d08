/- AreLevelEquivalent and LevelMatrix on both sides. -/
import Derived.Test.YtobkcnmlmmhpoaaGreatLn
namespace Go.Proofs.YtobkcnmlmmhpoaaGreat
open Go.RowKit
set_option linter.unusedVariables false
set_option linter.unusedSimpArgs false
attribute [local go_sem] q2 q3 q4 q5 q6 q7 q8 q9 q10 q11 q12

noncomputable def lmG (a b c p q r n:Int):M4 × Bool:=lmX a b c (rfA a b c) (rfB a b c) (rfC a b c) (rmP a b c) (rmQ a b c) (rmR a b c) (rmS a b c) (rfA p q r) (rfB p q r) (rfC p q r) (rmP p q r) (rmQ p q r) (rmR p q r) (rmS p q r) n
theorem level_of {a b c n:Int} (h:lvB a b c n=true):classB a b c=true∧1≤n∧n≤30:=by
 unfold lvB hasB at h
 simp at h
 obtain ⟨⟨h1,h2⟩,h3⟩:=h
 unfold levB at h2
 simp at h2
 have:=inB_true h2.1
 exact ⟨h1,this.1,this.2⟩
theorem lmG_i (a b c p q r n v0 v1 v2 v3:Int) (t:Bool) (w:World) (h1:lvB a b c n=true) (h2:lvB p q r n=true) (hR:lmG a b c p q r n=((v0,v1,v2,v3),t)):
  Calls Tryz.prog 21 #[.agg #[.int .i64 a,.int .i64 b,.int .i64 c],.agg #[.int .i64 p,.int .i64 q,.int .i64 r],.int .i64 n] w fun e w'=>e= .returned (.tuple #[.agg #[.int .i64 v0,.int .i64 v1,.int .i64 v2,.int .i64 v3],.bool (t)])∧Below w.heap.size w w':=by
 obtain ⟨c1,n1,n2⟩:=level_of h1
 obtain ⟨c2,-,-⟩:=level_of h2
 have:=levelMatrix_c a b c p q r n _ _ _ _ _ _ _ _ _ _ _ _ _ _ w (autOk_of c1) ⟨rfl,rfl,rfl,rfl,rfl,rfl,rfl⟩ (autOk_of c2) ⟨rfl,rfl,rfl,rfl,rfl,rfl,rfl⟩ n1 n2
 change Calls _ _ _ _ (fun e w'=>e= .returned (lmV (lmG a b c p q r n))∧_) at this
 rw[hR] at this
 exact this
theorem lmG_s (a b c p q r n v0 v1 v2 v3:Int) (t:Bool) (w:World) (h1:lvB a b c n=true) (h2:lvB p q r n=true) (hR:lmG a b c p q r n=((v0,v1,v2,v3),t)):
  Calls Tryz.prog 24 #[.agg #[.int .i64 a,.int .i64 b,.int .i64 c],.agg #[.int .i64 p,.int .i64 q,.int .i64 r],.int .i64 n] w fun e w'=>e= .returned (.tuple #[.agg #[.int .i64 v0,.int .i64 v1,.int .i64 v2,.int .i64 v3],.bool (t)])∧Below w.heap.size w w':=by
 obtain ⟨c1,n1,n2⟩:=level_of h1
 obtain ⟨c2,-,-⟩:=level_of h2
 have:=lvMatrix_c a b c p q r n _ _ _ _ _ _ _ _ _ _ _ _ _ _ w (autOk_of c1) ⟨rfl,rfl,rfl,rfl,rfl,rfl,rfl⟩ (autOk_of c2) ⟨rfl,rfl,rfl,rfl,rfl,rfl,rfl⟩ n1 n2
 change Calls _ _ _ _ (fun e w'=>e= .returned (lmV (lmG a b c p q r n))∧_) at this
 rw[hR] at this
 exact this
theorem lvI_e (a b c n:Int) (t:Bool) (w:World) (h0:I64 a) (h1:I64 b) (h2:I64 c) (h:lvB a b c n=t):
  Calls Tryz.prog 20 #[.agg #[.int .i64 a,.int .i64 b,.int .i64 c],.int .i64 n] w fun e w'=>e= .returned (.bool (t))∧Below w.heap.size w w':=by
 subst h;exact isLevelForm_a a b c n w h0 h1 h2
theorem lvS_e (a b c n:Int) (t:Bool) (w:World) (h:lvB a b c n=t):
  Calls Tryz.prog 23 #[.agg #[.int .i64 a,.int .i64 b,.int .i64 c],.int .i64 n] w fun e w'=>e= .returned (.bool (t))∧Below w.heap.size w w':=by
 subst h;exact lvIs_a a b c n w
theorem isMat_e (p q r s:Int) (t:Bool) (w:World) (h0:I64 p) (h1:I64 q) (h2:I64 r) (h3:I64 s) (h:matB p q r s=t):
  Calls Tryz.prog 27 #[.agg #[.int .i64 p,.int .i64 q,.int .i64 r,.int .i64 s]] w fun e w'=>e= .returned (.bool (t))∧Below w.heap.size w w':=by
 subst h;exact IsMatrix_a p q r s w h0 h1 h2 h3
theorem foMat_e (p q r s:Int) (t:Bool) (w:World) (h:matB p q r s=t):
  Calls Tryz.prog 25 #[.agg #[.int .i64 p,.int .i64 q,.int .i64 r,.int .i64 s]] w fun e w'=>e= .returned (.bool (t))∧Below w.heap.size w w':=by
 subst h;exact foMatrix_a p q r s w
theorem lmF_i64 (n:Int) (m k:M4): ∀L,I64 (lmF n m k L).1.1∧I64 (lmF n m k L).1.2.1∧I64 (lmF n m k L).1.2.2.1∧I64 (lmF n m k L).1.2.2.2
 | []=>by unfold lmF I64;simp
 |t :: L=>by
  unfold lmF
  split
  ·unfold mm4 mmP mmQ mmR mmS wrap64 I64;simp only;omega
  ·exact lmF_i64 n m k L
theorem lmG_i64 (a b c p q r n:Int):I64 (lmG a b c p q r n).1.1∧I64 (lmG a b c p q r n).1.2.1∧I64 (lmG a b c p q r n).1.2.2.1∧I64 (lmG a b c p q r n).1.2.2.2:=by
 unfold lmG lmX
 split
 ·exact lmF_i64 _ _ _ _
 ·unfold I64;simp
noncomputable def leA (a b c p q r n:Int):Bool:=lvB a b c n&&(lvB p q r n&&(lmG a b c p q r n).2)
noncomputable def leOk (a b c p q r n:Int):Bool:=lvB a b c n&&lvB p q r n
noncomputable def leM (a b c p q r n:Int):M4 × Bool:=if leA a b c p q r n&&matB (lmG a b c p q r n).1.1 (lmG a b c p q r n).1.2.1 (lmG a b c p q r n).1.2.2.1 (lmG a b c p q r n).1.2.2.2 then ((lmG a b c p q r n).1,true) else ((0,0,0,0),false)

set_option maxRecDepth 100000 in
set_option maxHeartbeats 2000000 in
theorem checked_y (p q r s:Int) (w:World) (h0:I64 p) (h1:I64 q) (h2:I64 r) (h3:I64 s) (h:matB p q r s=true):
  Calls Tryz.prog 22 #[.agg #[.int .i64 p,.int .i64 q,.int .i64 r,.int .i64 s]] w fun e w'=>e= .returned (.tuple #[.agg #[.int .i64 p,.int .i64 q,.int .i64 r,.int .i64 s],.bool true])∧Below w.heap.size w w':=by
 go_enter Tryz.func22,Tryz.ntmps22
 go_wp2_with fail
 refine (isMat_e p q r s _ _ h0 h1 h2 h3 h).mono ?_
 rintro en w1 ⟨rfl,hb1⟩
 have hcs9:=cells_calls hb1 [⟨w.heap.size,0,none⟩,⟨w.heap.size,1,none⟩,⟨w.heap.size,2,none⟩,⟨w.heap.size,3,none⟩,⟨w.heap.size+1,0,none⟩,⟨w.heap.size+1,1,none⟩,⟨w.heap.size+1,2,none⟩,⟨w.heap.size+1,3,none⟩] [.int .i64 p,.int .i64 q,.int .i64 r,.int .i64 s,.int .i64 0,.int .i64 0,.int .i64 0,.int .i64 0] (by refine ⟨?_,?_,?_,?_,?_,?_,?_,?_,trivial⟩<;>exact byCT)
 have hfs9:=frees_calls hb1 [⟨w.heap.size+1,0,none⟩,⟨w.heap.size+1,1,none⟩,⟨w.heap.size+1,2,none⟩,⟨w.heap.size+1,3,none⟩] (by refine ⟨?_,?_,?_,?_,trivial⟩<;>first|with_reducible assumption|omega|(simp;omega)|(simp;done)) (by refine ⟨?_,?_,?_,?_,trivial⟩<;>exact byFT)
 have hzs9:=blocks_calls hb1 [w.heap.size,w.heap.size+1] (by refine ⟨?_,?_,trivial⟩<;>first|with_reducible assumption|omega|(simp;omega)|(simp;done))
 try clear c00 c01 c02 c03
 try clear c10 c11 c12 c13 f10 f11 f12 f13
 obtain ⟨c00,c01,c02,c03,c10,c11,c12,c13,-⟩:=hcs9
 obtain ⟨f10,f11,f12,f13,-⟩:=hfs9
 obtain ⟨z0,z1,-⟩:=hzs9
 have hs1:=hb1.size
 go_wp2
 refine bodyPost_ret (v:= .tuple #[.agg #[.int .i64 p,.int .i64 q,.int .i64 r,.int .i64 s],.bool true]) (by simp [results,Tryz.results22,go_sem, *]) rfl ?_
 exact ⟨rfl,byGG⟩

set_option maxRecDepth 100000 in
set_option maxHeartbeats 2000000 in
theorem checked_n (p q r s:Int) (w:World) (h0:I64 p) (h1:I64 q) (h2:I64 r) (h3:I64 s) (h:matB p q r s=false):
  Calls Tryz.prog 22 #[.agg #[.int .i64 p,.int .i64 q,.int .i64 r,.int .i64 s]] w fun e w'=>e= .returned (.tuple #[.agg #[.int .i64 0,.int .i64 0,.int .i64 0,.int .i64 0],.bool false])∧Below w.heap.size w w':=by
 go_enter Tryz.func22,Tryz.ntmps22
 go_wp2_with fail
 refine (isMat_e p q r s _ _ h0 h1 h2 h3 h).mono ?_
 rintro en w1 ⟨rfl,hb1⟩
 have hcs9:=cells_calls hb1 [⟨w.heap.size,0,none⟩,⟨w.heap.size,1,none⟩,⟨w.heap.size,2,none⟩,⟨w.heap.size,3,none⟩,⟨w.heap.size+1,0,none⟩,⟨w.heap.size+1,1,none⟩,⟨w.heap.size+1,2,none⟩,⟨w.heap.size+1,3,none⟩] [.int .i64 p,.int .i64 q,.int .i64 r,.int .i64 s,.int .i64 0,.int .i64 0,.int .i64 0,.int .i64 0] (by refine ⟨?_,?_,?_,?_,?_,?_,?_,?_,trivial⟩<;>exact byCT)
 have hfs9:=frees_calls hb1 [⟨w.heap.size+1,0,none⟩,⟨w.heap.size+1,1,none⟩,⟨w.heap.size+1,2,none⟩,⟨w.heap.size+1,3,none⟩] (by refine ⟨?_,?_,?_,?_,trivial⟩<;>first|with_reducible assumption|omega|(simp;omega)|(simp;done)) (by refine ⟨?_,?_,?_,?_,trivial⟩<;>exact byFT)
 have hzs9:=blocks_calls hb1 [w.heap.size,w.heap.size+1] (by refine ⟨?_,?_,trivial⟩<;>first|with_reducible assumption|omega|(simp;omega)|(simp;done))
 try clear c00 c01 c02 c03
 try clear c10 c11 c12 c13 f10 f11 f12 f13
 obtain ⟨c00,c01,c02,c03,c10,c11,c12,c13,-⟩:=hcs9
 obtain ⟨f10,f11,f12,f13,-⟩:=hfs9
 obtain ⟨z0,z1,-⟩:=hzs9
 have hs1:=hb1.size
 go_wp2
 refine bodyPost_ret (v:= .tuple #[.agg #[.int .i64 0,.int .i64 0,.int .i64 0,.int .i64 0],.bool false]) (by simp [results,Tryz.results22,go_sem, *]) rfl ?_
 exact ⟨rfl,byGG⟩

set_option maxRecDepth 100000 in
set_option maxHeartbeats 4000000 in
theorem iAreLevelEquivalent_c (a b c p q r n:Int) (w:World) (i0:I64 a) (i1:I64 b) (i2:I64 c) (i3:I64 p) (i4:I64 q) (i5:I64 r):Calls Tryz.prog 8 #[.agg #[.int .i64 a,.int .i64 b,.int .i64 c],.agg #[.int .i64 p,.int .i64 q,.int .i64 r],.int .i64 n] w fun e w'=>e= .returned (.tuple #[.bool (leA a b c p q r n),.bool (leOk a b c p q r n)])∧Below w.heap.size w w':=by
 cases k0:lvB a b c n
 ·have HV:Hid ((.tuple #[.bool (leA a b c p q r n),.bool (leOk a b c p q r n)]:Value)= .tuple #[.bool false,.bool false]):=hide (by unfold leA leOk;rw [k0];rfl)
  go_enter Tryz.func8,Tryz.ntmps8
  go_wp2_with fail
  refine (lvI_e a b c n false _ i0 i1 i2 k0).mono ?_
  rintro en w1 ⟨rfl,hb1⟩
  have hcs9:=cells_calls hb1 [⟨w.heap.size,0,none⟩,⟨w.heap.size,1,none⟩,⟨w.heap.size,2,none⟩,⟨w.heap.size+1,0,none⟩,⟨w.heap.size+1,1,none⟩,⟨w.heap.size+1,2,none⟩] [.int .i64 a,.int .i64 b,.int .i64 c,.int .i64 p,.int .i64 q,.int .i64 r] (by refine ⟨?_,?_,?_,?_,?_,?_,trivial⟩<;>exact byCT)
  have hzs9:=blocks_calls hb1 [w.heap.size,w.heap.size+1] (by refine ⟨?_,?_,trivial⟩<;>first|with_reducible assumption|omega|(simp;omega)|(simp;done))
  try clear c00 c01 c02
  try clear c10 c11 c12
  obtain ⟨c00,c01,c02,c10,c11,c12,-⟩:=hcs9
  obtain ⟨z0,z1,-⟩:=hzs9
  have hs1:=hb1.size
  clear k0
  go_wp2
  go_ret2
  exact ⟨by first|(rw [unhide HV];done)|(rw [unhide HV];rfl),byGG⟩
 ·cases k1:lvB p q r n
  ·have HV:Hid ((.tuple #[.bool (leA a b c p q r n),.bool (leOk a b c p q r n)]:Value)= .tuple #[.bool false,.bool false]):=hide (by unfold leA leOk;rw [k0,k1];rfl)
   go_enter Tryz.func8,Tryz.ntmps8
   go_wp2_with fail
   refine (lvI_e a b c n true _ i0 i1 i2 k0).mono ?_
   rintro en w1 ⟨rfl,hb1⟩
   have hcs9:=cells_calls hb1 [⟨w.heap.size,0,none⟩,⟨w.heap.size,1,none⟩,⟨w.heap.size,2,none⟩,⟨w.heap.size+1,0,none⟩,⟨w.heap.size+1,1,none⟩,⟨w.heap.size+1,2,none⟩] [.int .i64 a,.int .i64 b,.int .i64 c,.int .i64 p,.int .i64 q,.int .i64 r] (by refine ⟨?_,?_,?_,?_,?_,?_,trivial⟩<;>exact byCT)
   have hzs9:=blocks_calls hb1 [w.heap.size,w.heap.size+1] (by refine ⟨?_,?_,trivial⟩<;>first|with_reducible assumption|omega|(simp;omega)|(simp;done))
   try clear c00 c01 c02
   try clear c10 c11 c12
   obtain ⟨c00,c01,c02,c10,c11,c12,-⟩:=hcs9
   obtain ⟨z0,z1,-⟩:=hzs9
   have hs1:=hb1.size
   go_wp2_with fail
   refine (lvI_e p q r n false _ i3 i4 i5 k1).mono ?_
   rintro en w2 ⟨rfl,hb2⟩
   have hcs9:=cells_calls hb2 [⟨w.heap.size,0,none⟩,⟨w.heap.size,1,none⟩,⟨w.heap.size,2,none⟩,⟨w.heap.size+1,0,none⟩,⟨w.heap.size+1,1,none⟩,⟨w.heap.size+1,2,none⟩] [.int .i64 a,.int .i64 b,.int .i64 c,.int .i64 p,.int .i64 q,.int .i64 r] (by refine ⟨?_,?_,?_,?_,?_,?_,trivial⟩<;>exact byCT)
   have hzs9:=blocks_calls hb2 [w.heap.size,w.heap.size+1] (by refine ⟨?_,?_,trivial⟩<;>first|with_reducible assumption|omega|(simp;omega)|(simp;done))
   try clear c00 c01 c02
   try clear c10 c11 c12
   obtain ⟨c00,c01,c02,c10,c11,c12,-⟩:=hcs9
   obtain ⟨z0,z1,-⟩:=hzs9
   have hs2:=hb2.size
   clear k0 k1
   go_wp2
   go_ret2
   exact ⟨by first|(rw [unhide HV];done)|(rw [unhide HV];rfl),byGG⟩
  ·obtain ⟨v0,v1,v2,v3,t,hR⟩: ∃v0 v1 v2 v3 t,lmG a b c p q r n=((v0,v1,v2,v3),t):=⟨_,_,_,_,_,rfl⟩
   have hj:=lmG_i64 a b c p q r n
   rw[hR] at hj
   obtain ⟨j0,j1,j2,j3⟩:=hj
   cases t
   ·have HV:Hid ((.tuple #[.bool (leA a b c p q r n),.bool (leOk a b c p q r n)]:Value)= .tuple #[.bool false,.bool true]):=hide (by unfold leA leOk;rw [k0,k1,hR];rfl)
    go_enter Tryz.func8,Tryz.ntmps8
    go_wp2_with fail
    refine (lvI_e a b c n true _ i0 i1 i2 k0).mono ?_
    rintro en w1 ⟨rfl,hb1⟩
    have hcs9:=cells_calls hb1 [⟨w.heap.size,0,none⟩,⟨w.heap.size,1,none⟩,⟨w.heap.size,2,none⟩,⟨w.heap.size+1,0,none⟩,⟨w.heap.size+1,1,none⟩,⟨w.heap.size+1,2,none⟩] [.int .i64 a,.int .i64 b,.int .i64 c,.int .i64 p,.int .i64 q,.int .i64 r] (by refine ⟨?_,?_,?_,?_,?_,?_,trivial⟩<;>exact byCT)
    have hzs9:=blocks_calls hb1 [w.heap.size,w.heap.size+1] (by refine ⟨?_,?_,trivial⟩<;>first|with_reducible assumption|omega|(simp;omega)|(simp;done))
    try clear c00 c01 c02
    try clear c10 c11 c12
    obtain ⟨c00,c01,c02,c10,c11,c12,-⟩:=hcs9
    obtain ⟨z0,z1,-⟩:=hzs9
    have hs1:=hb1.size
    go_wp2_with fail
    refine (lvI_e p q r n true _ i3 i4 i5 k1).mono ?_
    rintro en w2 ⟨rfl,hb2⟩
    have hcs9:=cells_calls hb2 [⟨w.heap.size,0,none⟩,⟨w.heap.size,1,none⟩,⟨w.heap.size,2,none⟩,⟨w.heap.size+1,0,none⟩,⟨w.heap.size+1,1,none⟩,⟨w.heap.size+1,2,none⟩] [.int .i64 a,.int .i64 b,.int .i64 c,.int .i64 p,.int .i64 q,.int .i64 r] (by refine ⟨?_,?_,?_,?_,?_,?_,trivial⟩<;>exact byCT)
    have hzs9:=blocks_calls hb2 [w.heap.size,w.heap.size+1] (by refine ⟨?_,?_,trivial⟩<;>first|with_reducible assumption|omega|(simp;omega)|(simp;done))
    try clear c00 c01 c02
    try clear c10 c11 c12
    obtain ⟨c00,c01,c02,c10,c11,c12,-⟩:=hcs9
    obtain ⟨z0,z1,-⟩:=hzs9
    have hs2:=hb2.size
    go_wp2_with fail
    refine (lmG_i a b c p q r n v0 v1 v2 v3 false _ k0 k1 hR).mono ?_
    rintro en w3 ⟨rfl,hb3⟩
    have hcs9:=cells_calls hb3 [⟨w.heap.size,0,none⟩,⟨w.heap.size,1,none⟩,⟨w.heap.size,2,none⟩,⟨w.heap.size+1,0,none⟩,⟨w.heap.size+1,1,none⟩,⟨w.heap.size+1,2,none⟩] [.int .i64 a,.int .i64 b,.int .i64 c,.int .i64 p,.int .i64 q,.int .i64 r] (by refine ⟨?_,?_,?_,?_,?_,?_,trivial⟩<;>exact byCT)
    have hzs9:=blocks_calls hb3 [w.heap.size,w.heap.size+1] (by refine ⟨?_,?_,trivial⟩<;>first|with_reducible assumption|omega|(simp;omega)|(simp;done))
    try clear c00 c01 c02
    try clear c10 c11 c12
    obtain ⟨c00,c01,c02,c10,c11,c12,-⟩:=hcs9
    obtain ⟨z0,z1,-⟩:=hzs9
    have hs3:=hb3.size
    clear hR k0 k1
    go_wp2
    go_ret2
    exact ⟨by first|(rw [unhide HV];done)|(rw [unhide HV];rfl),byGG⟩
   ·have HV:Hid ((.tuple #[.bool (leA a b c p q r n),.bool (leOk a b c p q r n)]:Value)= .tuple #[.bool true,.bool true]):=hide (by unfold leA leOk;rw [k0,k1,hR];rfl)
    go_enter Tryz.func8,Tryz.ntmps8
    go_wp2_with fail
    refine (lvI_e a b c n true _ i0 i1 i2 k0).mono ?_
    rintro en w1 ⟨rfl,hb1⟩
    have hcs9:=cells_calls hb1 [⟨w.heap.size,0,none⟩,⟨w.heap.size,1,none⟩,⟨w.heap.size,2,none⟩,⟨w.heap.size+1,0,none⟩,⟨w.heap.size+1,1,none⟩,⟨w.heap.size+1,2,none⟩] [.int .i64 a,.int .i64 b,.int .i64 c,.int .i64 p,.int .i64 q,.int .i64 r] (by refine ⟨?_,?_,?_,?_,?_,?_,trivial⟩<;>exact byCT)
    have hzs9:=blocks_calls hb1 [w.heap.size,w.heap.size+1] (by refine ⟨?_,?_,trivial⟩<;>first|with_reducible assumption|omega|(simp;omega)|(simp;done))
    try clear c00 c01 c02
    try clear c10 c11 c12
    obtain ⟨c00,c01,c02,c10,c11,c12,-⟩:=hcs9
    obtain ⟨z0,z1,-⟩:=hzs9
    have hs1:=hb1.size
    go_wp2_with fail
    refine (lvI_e p q r n true _ i3 i4 i5 k1).mono ?_
    rintro en w2 ⟨rfl,hb2⟩
    have hcs9:=cells_calls hb2 [⟨w.heap.size,0,none⟩,⟨w.heap.size,1,none⟩,⟨w.heap.size,2,none⟩,⟨w.heap.size+1,0,none⟩,⟨w.heap.size+1,1,none⟩,⟨w.heap.size+1,2,none⟩] [.int .i64 a,.int .i64 b,.int .i64 c,.int .i64 p,.int .i64 q,.int .i64 r] (by refine ⟨?_,?_,?_,?_,?_,?_,trivial⟩<;>exact byCT)
    have hzs9:=blocks_calls hb2 [w.heap.size,w.heap.size+1] (by refine ⟨?_,?_,trivial⟩<;>first|with_reducible assumption|omega|(simp;omega)|(simp;done))
    try clear c00 c01 c02
    try clear c10 c11 c12
    obtain ⟨c00,c01,c02,c10,c11,c12,-⟩:=hcs9
    obtain ⟨z0,z1,-⟩:=hzs9
    have hs2:=hb2.size
    go_wp2_with fail
    refine (lmG_i a b c p q r n v0 v1 v2 v3 true _ k0 k1 hR).mono ?_
    rintro en w3 ⟨rfl,hb3⟩
    have hcs9:=cells_calls hb3 [⟨w.heap.size,0,none⟩,⟨w.heap.size,1,none⟩,⟨w.heap.size,2,none⟩,⟨w.heap.size+1,0,none⟩,⟨w.heap.size+1,1,none⟩,⟨w.heap.size+1,2,none⟩] [.int .i64 a,.int .i64 b,.int .i64 c,.int .i64 p,.int .i64 q,.int .i64 r] (by refine ⟨?_,?_,?_,?_,?_,?_,trivial⟩<;>exact byCT)
    have hzs9:=blocks_calls hb3 [w.heap.size,w.heap.size+1] (by refine ⟨?_,?_,trivial⟩<;>first|with_reducible assumption|omega|(simp;omega)|(simp;done))
    try clear c00 c01 c02
    try clear c10 c11 c12
    obtain ⟨c00,c01,c02,c10,c11,c12,-⟩:=hcs9
    obtain ⟨z0,z1,-⟩:=hzs9
    have hs3:=hb3.size
    clear hR k0 k1
    go_wp2
    go_ret2
    exact ⟨by first|(rw [unhide HV];done)|(rw [unhide HV];rfl),byGG⟩

set_option maxRecDepth 100000 in
set_option maxHeartbeats 4000000 in
theorem iLevelMatrix_c (a b c p q r n:Int) (w:World) (i0:I64 a) (i1:I64 b) (i2:I64 c) (i3:I64 p) (i4:I64 q) (i5:I64 r):Calls Tryz.prog 6 #[.agg #[.int .i64 a,.int .i64 b,.int .i64 c],.agg #[.int .i64 p,.int .i64 q,.int .i64 r],.int .i64 n] w fun e w'=>e= .returned (lmV (leM a b c p q r n))∧Below w.heap.size w w':=by
 cases k0:lvB a b c n
 ·have HV:Hid ((lmV (leM a b c p q r n):Value)= .tuple #[.agg #[.int .i64 0,.int .i64 0,.int .i64 0,.int .i64 0],.bool false]):=hide (by unfold leM leA;rw [k0];simp [lmV])
  go_enter Tryz.func6,Tryz.ntmps6
  go_wp2_with fail
  refine (lvI_e a b c n false _ i0 i1 i2 k0).mono ?_
  rintro en w1 ⟨rfl,hb1⟩
  have hcs9:=cells_calls hb1 [⟨w.heap.size,0,none⟩,⟨w.heap.size,1,none⟩,⟨w.heap.size,2,none⟩,⟨w.heap.size+1,0,none⟩,⟨w.heap.size+1,1,none⟩,⟨w.heap.size+1,2,none⟩,⟨w.heap.size+1+1,0,none⟩,⟨w.heap.size+1+1,1,none⟩,⟨w.heap.size+1+1,2,none⟩,⟨w.heap.size+1+1,3,none⟩] [.int .i64 a,.int .i64 b,.int .i64 c,.int .i64 p,.int .i64 q,.int .i64 r,.int .i64 0,.int .i64 0,.int .i64 0,.int .i64 0] (by refine ⟨?_,?_,?_,?_,?_,?_,?_,?_,?_,?_,trivial⟩<;>exact byCT)
  have hfs9:=frees_calls hb1 [⟨w.heap.size+1+1,0,none⟩,⟨w.heap.size+1+1,1,none⟩,⟨w.heap.size+1+1,2,none⟩,⟨w.heap.size+1+1,3,none⟩] (by refine ⟨?_,?_,?_,?_,trivial⟩<;>first|with_reducible assumption|omega|(simp;omega)|(simp;done)) (by refine ⟨?_,?_,?_,?_,trivial⟩<;>exact byFT)
  have hzs9:=blocks_calls hb1 [w.heap.size,w.heap.size+1,w.heap.size+1+1] (by refine ⟨?_,?_,?_,trivial⟩<;>first|with_reducible assumption|omega|(simp;omega)|(simp;done))
  try clear c00 c01 c02
  try clear c10 c11 c12
  try clear c20 c21 c22 c23 f20 f21 f22 f23
  obtain ⟨c00,c01,c02,c10,c11,c12,c20,c21,c22,c23,-⟩:=hcs9
  obtain ⟨f20,f21,f22,f23,-⟩:=hfs9
  obtain ⟨z0,z1,z2,-⟩:=hzs9
  have hs1:=hb1.size
  clear k0
  go_wp2
  refine bodyPost_ret (v:= .tuple #[.agg #[.int .i64 0,.int .i64 0,.int .i64 0,.int .i64 0],.bool false]) (by simp [results,Tryz.results6,go_sem, *]) rfl ?_
  exact ⟨by first|(rw [unhide HV];done)|(rw [unhide HV];rfl),byGG⟩
 ·cases k1:lvB p q r n
  ·have HV:Hid ((lmV (leM a b c p q r n):Value)= .tuple #[.agg #[.int .i64 0,.int .i64 0,.int .i64 0,.int .i64 0],.bool false]):=hide (by unfold leM leA;rw [k0,k1];simp [lmV])
   go_enter Tryz.func6,Tryz.ntmps6
   go_wp2_with fail
   refine (lvI_e a b c n true _ i0 i1 i2 k0).mono ?_
   rintro en w1 ⟨rfl,hb1⟩
   have hcs9:=cells_calls hb1 [⟨w.heap.size,0,none⟩,⟨w.heap.size,1,none⟩,⟨w.heap.size,2,none⟩,⟨w.heap.size+1,0,none⟩,⟨w.heap.size+1,1,none⟩,⟨w.heap.size+1,2,none⟩,⟨w.heap.size+1+1,0,none⟩,⟨w.heap.size+1+1,1,none⟩,⟨w.heap.size+1+1,2,none⟩,⟨w.heap.size+1+1,3,none⟩] [.int .i64 a,.int .i64 b,.int .i64 c,.int .i64 p,.int .i64 q,.int .i64 r,.int .i64 0,.int .i64 0,.int .i64 0,.int .i64 0] (by refine ⟨?_,?_,?_,?_,?_,?_,?_,?_,?_,?_,trivial⟩<;>exact byCT)
   have hfs9:=frees_calls hb1 [⟨w.heap.size+1+1,0,none⟩,⟨w.heap.size+1+1,1,none⟩,⟨w.heap.size+1+1,2,none⟩,⟨w.heap.size+1+1,3,none⟩] (by refine ⟨?_,?_,?_,?_,trivial⟩<;>first|with_reducible assumption|omega|(simp;omega)|(simp;done)) (by refine ⟨?_,?_,?_,?_,trivial⟩<;>exact byFT)
   have hzs9:=blocks_calls hb1 [w.heap.size,w.heap.size+1,w.heap.size+1+1] (by refine ⟨?_,?_,?_,trivial⟩<;>first|with_reducible assumption|omega|(simp;omega)|(simp;done))
   try clear c00 c01 c02
   try clear c10 c11 c12
   try clear c20 c21 c22 c23 f20 f21 f22 f23
   obtain ⟨c00,c01,c02,c10,c11,c12,c20,c21,c22,c23,-⟩:=hcs9
   obtain ⟨f20,f21,f22,f23,-⟩:=hfs9
   obtain ⟨z0,z1,z2,-⟩:=hzs9
   have hs1:=hb1.size
   go_wp2_with fail
   refine (lvI_e p q r n false _ i3 i4 i5 k1).mono ?_
   rintro en w2 ⟨rfl,hb2⟩
   have hcs9:=cells_calls hb2 [⟨w.heap.size,0,none⟩,⟨w.heap.size,1,none⟩,⟨w.heap.size,2,none⟩,⟨w.heap.size+1,0,none⟩,⟨w.heap.size+1,1,none⟩,⟨w.heap.size+1,2,none⟩,⟨w.heap.size+1+1,0,none⟩,⟨w.heap.size+1+1,1,none⟩,⟨w.heap.size+1+1,2,none⟩,⟨w.heap.size+1+1,3,none⟩] [.int .i64 a,.int .i64 b,.int .i64 c,.int .i64 p,.int .i64 q,.int .i64 r,.int .i64 0,.int .i64 0,.int .i64 0,.int .i64 0] (by refine ⟨?_,?_,?_,?_,?_,?_,?_,?_,?_,?_,trivial⟩<;>exact byCT)
   have hfs9:=frees_calls hb2 [⟨w.heap.size+1+1,0,none⟩,⟨w.heap.size+1+1,1,none⟩,⟨w.heap.size+1+1,2,none⟩,⟨w.heap.size+1+1,3,none⟩] (by refine ⟨?_,?_,?_,?_,trivial⟩<;>first|with_reducible assumption|omega|(simp;omega)|(simp;done)) (by refine ⟨?_,?_,?_,?_,trivial⟩<;>exact byFT)
   have hzs9:=blocks_calls hb2 [w.heap.size,w.heap.size+1,w.heap.size+1+1] (by refine ⟨?_,?_,?_,trivial⟩<;>first|with_reducible assumption|omega|(simp;omega)|(simp;done))
   try clear c00 c01 c02
   try clear c10 c11 c12
   try clear c20 c21 c22 c23 f20 f21 f22 f23
   obtain ⟨c00,c01,c02,c10,c11,c12,c20,c21,c22,c23,-⟩:=hcs9
   obtain ⟨f20,f21,f22,f23,-⟩:=hfs9
   obtain ⟨z0,z1,z2,-⟩:=hzs9
   have hs2:=hb2.size
   clear k0 k1
   go_wp2
   refine bodyPost_ret (v:= .tuple #[.agg #[.int .i64 0,.int .i64 0,.int .i64 0,.int .i64 0],.bool false]) (by simp [results,Tryz.results6,go_sem, *]) rfl ?_
   exact ⟨by first|(rw [unhide HV];done)|(rw [unhide HV];rfl),byGG⟩
  ·obtain ⟨v0,v1,v2,v3,t,hR⟩: ∃v0 v1 v2 v3 t,lmG a b c p q r n=((v0,v1,v2,v3),t):=⟨_,_,_,_,_,rfl⟩
   have hj:=lmG_i64 a b c p q r n
   rw[hR] at hj
   obtain ⟨j0,j1,j2,j3⟩:=hj
   cases t
   ·have HV:Hid ((lmV (leM a b c p q r n):Value)= .tuple #[.agg #[.int .i64 0,.int .i64 0,.int .i64 0,.int .i64 0],.bool false]):=hide (by unfold leM leA;rw [k0,k1,hR];simp [lmV])
    go_enter Tryz.func6,Tryz.ntmps6
    go_wp2_with fail
    refine (lvI_e a b c n true _ i0 i1 i2 k0).mono ?_
    rintro en w1 ⟨rfl,hb1⟩
    have hcs9:=cells_calls hb1 [⟨w.heap.size,0,none⟩,⟨w.heap.size,1,none⟩,⟨w.heap.size,2,none⟩,⟨w.heap.size+1,0,none⟩,⟨w.heap.size+1,1,none⟩,⟨w.heap.size+1,2,none⟩,⟨w.heap.size+1+1,0,none⟩,⟨w.heap.size+1+1,1,none⟩,⟨w.heap.size+1+1,2,none⟩,⟨w.heap.size+1+1,3,none⟩] [.int .i64 a,.int .i64 b,.int .i64 c,.int .i64 p,.int .i64 q,.int .i64 r,.int .i64 0,.int .i64 0,.int .i64 0,.int .i64 0] (by refine ⟨?_,?_,?_,?_,?_,?_,?_,?_,?_,?_,trivial⟩<;>exact byCT)
    have hfs9:=frees_calls hb1 [⟨w.heap.size+1+1,0,none⟩,⟨w.heap.size+1+1,1,none⟩,⟨w.heap.size+1+1,2,none⟩,⟨w.heap.size+1+1,3,none⟩] (by refine ⟨?_,?_,?_,?_,trivial⟩<;>first|with_reducible assumption|omega|(simp;omega)|(simp;done)) (by refine ⟨?_,?_,?_,?_,trivial⟩<;>exact byFT)
    have hzs9:=blocks_calls hb1 [w.heap.size,w.heap.size+1,w.heap.size+1+1] (by refine ⟨?_,?_,?_,trivial⟩<;>first|with_reducible assumption|omega|(simp;omega)|(simp;done))
    try clear c00 c01 c02
    try clear c10 c11 c12
    try clear c20 c21 c22 c23 f20 f21 f22 f23
    obtain ⟨c00,c01,c02,c10,c11,c12,c20,c21,c22,c23,-⟩:=hcs9
    obtain ⟨f20,f21,f22,f23,-⟩:=hfs9
    obtain ⟨z0,z1,z2,-⟩:=hzs9
    have hs1:=hb1.size
    go_wp2_with fail
    refine (lvI_e p q r n true _ i3 i4 i5 k1).mono ?_
    rintro en w2 ⟨rfl,hb2⟩
    have hcs9:=cells_calls hb2 [⟨w.heap.size,0,none⟩,⟨w.heap.size,1,none⟩,⟨w.heap.size,2,none⟩,⟨w.heap.size+1,0,none⟩,⟨w.heap.size+1,1,none⟩,⟨w.heap.size+1,2,none⟩,⟨w.heap.size+1+1,0,none⟩,⟨w.heap.size+1+1,1,none⟩,⟨w.heap.size+1+1,2,none⟩,⟨w.heap.size+1+1,3,none⟩] [.int .i64 a,.int .i64 b,.int .i64 c,.int .i64 p,.int .i64 q,.int .i64 r,.int .i64 0,.int .i64 0,.int .i64 0,.int .i64 0] (by refine ⟨?_,?_,?_,?_,?_,?_,?_,?_,?_,?_,trivial⟩<;>exact byCT)
    have hfs9:=frees_calls hb2 [⟨w.heap.size+1+1,0,none⟩,⟨w.heap.size+1+1,1,none⟩,⟨w.heap.size+1+1,2,none⟩,⟨w.heap.size+1+1,3,none⟩] (by refine ⟨?_,?_,?_,?_,trivial⟩<;>first|with_reducible assumption|omega|(simp;omega)|(simp;done)) (by refine ⟨?_,?_,?_,?_,trivial⟩<;>exact byFT)
    have hzs9:=blocks_calls hb2 [w.heap.size,w.heap.size+1,w.heap.size+1+1] (by refine ⟨?_,?_,?_,trivial⟩<;>first|with_reducible assumption|omega|(simp;omega)|(simp;done))
    try clear c00 c01 c02
    try clear c10 c11 c12
    try clear c20 c21 c22 c23 f20 f21 f22 f23
    obtain ⟨c00,c01,c02,c10,c11,c12,c20,c21,c22,c23,-⟩:=hcs9
    obtain ⟨f20,f21,f22,f23,-⟩:=hfs9
    obtain ⟨z0,z1,z2,-⟩:=hzs9
    have hs2:=hb2.size
    go_wp2_with fail
    refine (lmG_i a b c p q r n v0 v1 v2 v3 false _ k0 k1 hR).mono ?_
    rintro en w3 ⟨rfl,hb3⟩
    have hcs9:=cells_calls hb3 [⟨w.heap.size,0,none⟩,⟨w.heap.size,1,none⟩,⟨w.heap.size,2,none⟩,⟨w.heap.size+1,0,none⟩,⟨w.heap.size+1,1,none⟩,⟨w.heap.size+1,2,none⟩,⟨w.heap.size+1+1,0,none⟩,⟨w.heap.size+1+1,1,none⟩,⟨w.heap.size+1+1,2,none⟩,⟨w.heap.size+1+1,3,none⟩] [.int .i64 a,.int .i64 b,.int .i64 c,.int .i64 p,.int .i64 q,.int .i64 r,.int .i64 0,.int .i64 0,.int .i64 0,.int .i64 0] (by refine ⟨?_,?_,?_,?_,?_,?_,?_,?_,?_,?_,trivial⟩<;>exact byCT)
    have hfs9:=frees_calls hb3 [⟨w.heap.size+1+1,0,none⟩,⟨w.heap.size+1+1,1,none⟩,⟨w.heap.size+1+1,2,none⟩,⟨w.heap.size+1+1,3,none⟩] (by refine ⟨?_,?_,?_,?_,trivial⟩<;>first|with_reducible assumption|omega|(simp;omega)|(simp;done)) (by refine ⟨?_,?_,?_,?_,trivial⟩<;>exact byFT)
    have hzs9:=blocks_calls hb3 [w.heap.size,w.heap.size+1,w.heap.size+1+1] (by refine ⟨?_,?_,?_,trivial⟩<;>first|with_reducible assumption|omega|(simp;omega)|(simp;done))
    try clear c00 c01 c02
    try clear c10 c11 c12
    try clear c20 c21 c22 c23 f20 f21 f22 f23
    obtain ⟨c00,c01,c02,c10,c11,c12,c20,c21,c22,c23,-⟩:=hcs9
    obtain ⟨f20,f21,f22,f23,-⟩:=hfs9
    obtain ⟨z0,z1,z2,-⟩:=hzs9
    have hs3:=hb3.size
    clear hR k0 k1
    go_wp2
    refine bodyPost_ret (v:= .tuple #[.agg #[.int .i64 0,.int .i64 0,.int .i64 0,.int .i64 0],.bool false]) (by simp [results,Tryz.results6,go_sem, *]) rfl ?_
    exact ⟨by first|(rw [unhide HV];done)|(rw [unhide HV];rfl),byGG⟩
   ·cases k3:matB v0 v1 v2 v3
    ·have HV:Hid ((lmV (leM a b c p q r n):Value)= .tuple #[.agg #[.int .i64 0,.int .i64 0,.int .i64 0,.int .i64 0],.bool false]):=hide (by unfold leM leA;rw [k0,k1,hR];simp [lmV,k3])
     go_enter Tryz.func6,Tryz.ntmps6
     go_wp2_with fail
     refine (lvI_e a b c n true _ i0 i1 i2 k0).mono ?_
     rintro en w1 ⟨rfl,hb1⟩
     have hcs9:=cells_calls hb1 [⟨w.heap.size,0,none⟩,⟨w.heap.size,1,none⟩,⟨w.heap.size,2,none⟩,⟨w.heap.size+1,0,none⟩,⟨w.heap.size+1,1,none⟩,⟨w.heap.size+1,2,none⟩,⟨w.heap.size+1+1,0,none⟩,⟨w.heap.size+1+1,1,none⟩,⟨w.heap.size+1+1,2,none⟩,⟨w.heap.size+1+1,3,none⟩] [.int .i64 a,.int .i64 b,.int .i64 c,.int .i64 p,.int .i64 q,.int .i64 r,.int .i64 0,.int .i64 0,.int .i64 0,.int .i64 0] (by refine ⟨?_,?_,?_,?_,?_,?_,?_,?_,?_,?_,trivial⟩<;>exact byCT)
     have hfs9:=frees_calls hb1 [⟨w.heap.size+1+1,0,none⟩,⟨w.heap.size+1+1,1,none⟩,⟨w.heap.size+1+1,2,none⟩,⟨w.heap.size+1+1,3,none⟩] (by refine ⟨?_,?_,?_,?_,trivial⟩<;>first|with_reducible assumption|omega|(simp;omega)|(simp;done)) (by refine ⟨?_,?_,?_,?_,trivial⟩<;>exact byFT)
     have hzs9:=blocks_calls hb1 [w.heap.size,w.heap.size+1,w.heap.size+1+1] (by refine ⟨?_,?_,?_,trivial⟩<;>first|with_reducible assumption|omega|(simp;omega)|(simp;done))
     try clear c00 c01 c02
     try clear c10 c11 c12
     try clear c20 c21 c22 c23 f20 f21 f22 f23
     obtain ⟨c00,c01,c02,c10,c11,c12,c20,c21,c22,c23,-⟩:=hcs9
     obtain ⟨f20,f21,f22,f23,-⟩:=hfs9
     obtain ⟨z0,z1,z2,-⟩:=hzs9
     have hs1:=hb1.size
     go_wp2_with fail
     refine (lvI_e p q r n true _ i3 i4 i5 k1).mono ?_
     rintro en w2 ⟨rfl,hb2⟩
     have hcs9:=cells_calls hb2 [⟨w.heap.size,0,none⟩,⟨w.heap.size,1,none⟩,⟨w.heap.size,2,none⟩,⟨w.heap.size+1,0,none⟩,⟨w.heap.size+1,1,none⟩,⟨w.heap.size+1,2,none⟩,⟨w.heap.size+1+1,0,none⟩,⟨w.heap.size+1+1,1,none⟩,⟨w.heap.size+1+1,2,none⟩,⟨w.heap.size+1+1,3,none⟩] [.int .i64 a,.int .i64 b,.int .i64 c,.int .i64 p,.int .i64 q,.int .i64 r,.int .i64 0,.int .i64 0,.int .i64 0,.int .i64 0] (by refine ⟨?_,?_,?_,?_,?_,?_,?_,?_,?_,?_,trivial⟩<;>exact byCT)
     have hfs9:=frees_calls hb2 [⟨w.heap.size+1+1,0,none⟩,⟨w.heap.size+1+1,1,none⟩,⟨w.heap.size+1+1,2,none⟩,⟨w.heap.size+1+1,3,none⟩] (by refine ⟨?_,?_,?_,?_,trivial⟩<;>first|with_reducible assumption|omega|(simp;omega)|(simp;done)) (by refine ⟨?_,?_,?_,?_,trivial⟩<;>exact byFT)
     have hzs9:=blocks_calls hb2 [w.heap.size,w.heap.size+1,w.heap.size+1+1] (by refine ⟨?_,?_,?_,trivial⟩<;>first|with_reducible assumption|omega|(simp;omega)|(simp;done))
     try clear c00 c01 c02
     try clear c10 c11 c12
     try clear c20 c21 c22 c23 f20 f21 f22 f23
     obtain ⟨c00,c01,c02,c10,c11,c12,c20,c21,c22,c23,-⟩:=hcs9
     obtain ⟨f20,f21,f22,f23,-⟩:=hfs9
     obtain ⟨z0,z1,z2,-⟩:=hzs9
     have hs2:=hb2.size
     go_wp2_with fail
     refine (lmG_i a b c p q r n v0 v1 v2 v3 true _ k0 k1 hR).mono ?_
     rintro en w3 ⟨rfl,hb3⟩
     have hcs9:=cells_calls hb3 [⟨w.heap.size,0,none⟩,⟨w.heap.size,1,none⟩,⟨w.heap.size,2,none⟩,⟨w.heap.size+1,0,none⟩,⟨w.heap.size+1,1,none⟩,⟨w.heap.size+1,2,none⟩,⟨w.heap.size+1+1,0,none⟩,⟨w.heap.size+1+1,1,none⟩,⟨w.heap.size+1+1,2,none⟩,⟨w.heap.size+1+1,3,none⟩] [.int .i64 a,.int .i64 b,.int .i64 c,.int .i64 p,.int .i64 q,.int .i64 r,.int .i64 0,.int .i64 0,.int .i64 0,.int .i64 0] (by refine ⟨?_,?_,?_,?_,?_,?_,?_,?_,?_,?_,trivial⟩<;>exact byCT)
     have hfs9:=frees_calls hb3 [⟨w.heap.size+1+1,0,none⟩,⟨w.heap.size+1+1,1,none⟩,⟨w.heap.size+1+1,2,none⟩,⟨w.heap.size+1+1,3,none⟩] (by refine ⟨?_,?_,?_,?_,trivial⟩<;>first|with_reducible assumption|omega|(simp;omega)|(simp;done)) (by refine ⟨?_,?_,?_,?_,trivial⟩<;>exact byFT)
     have hzs9:=blocks_calls hb3 [w.heap.size,w.heap.size+1,w.heap.size+1+1] (by refine ⟨?_,?_,?_,trivial⟩<;>first|with_reducible assumption|omega|(simp;omega)|(simp;done))
     try clear c00 c01 c02
     try clear c10 c11 c12
     try clear c20 c21 c22 c23 f20 f21 f22 f23
     obtain ⟨c00,c01,c02,c10,c11,c12,c20,c21,c22,c23,-⟩:=hcs9
     obtain ⟨f20,f21,f22,f23,-⟩:=hfs9
     obtain ⟨z0,z1,z2,-⟩:=hzs9
     have hs3:=hb3.size
     clear hR
     go_wp2_with fail
     refine (checked_n v0 v1 v2 v3 _ j0 j1 j2 j3 k3).mono ?_
     rintro en w4 ⟨rfl,hb4⟩
     have hcs9:=cells_calls hb4 [⟨w.heap.size,0,none⟩,⟨w.heap.size,1,none⟩,⟨w.heap.size,2,none⟩,⟨w.heap.size+1,0,none⟩,⟨w.heap.size+1,1,none⟩,⟨w.heap.size+1,2,none⟩,⟨w.heap.size+1+1,0,none⟩,⟨w.heap.size+1+1,1,none⟩,⟨w.heap.size+1+1,2,none⟩,⟨w.heap.size+1+1,3,none⟩,⟨w3.heap.size,0,none⟩,⟨w3.heap.size,1,none⟩,⟨w3.heap.size,2,none⟩,⟨w3.heap.size,3,none⟩] [.int .i64 a,.int .i64 b,.int .i64 c,.int .i64 p,.int .i64 q,.int .i64 r,.int .i64 0,.int .i64 0,.int .i64 0,.int .i64 0,.int .i64 v0,.int .i64 v1,.int .i64 v2,.int .i64 v3] (by refine ⟨?_,?_,?_,?_,?_,?_,?_,?_,?_,?_,?_,?_,?_,?_,trivial⟩<;>exact byCT)
     have hfs9:=frees_calls hb4 [⟨w.heap.size+1+1,0,none⟩,⟨w.heap.size+1+1,1,none⟩,⟨w.heap.size+1+1,2,none⟩,⟨w.heap.size+1+1,3,none⟩] (by refine ⟨?_,?_,?_,?_,trivial⟩<;>first|with_reducible assumption|omega|(simp;omega)|(simp;done)) (by refine ⟨?_,?_,?_,?_,trivial⟩<;>exact byFT)
     have hzs9:=blocks_calls hb4 [w.heap.size,w.heap.size+1,w.heap.size+1+1,w3.heap.size] (by refine ⟨?_,?_,?_,?_,trivial⟩<;>first|with_reducible assumption|omega|(simp;omega)|(simp;done))
     try clear c00 c01 c02
     try clear c10 c11 c12
     try clear c20 c21 c22 c23 f20 f21 f22 f23
     try clear c30 c31 c32 c33
     obtain ⟨c00,c01,c02,c10,c11,c12,c20,c21,c22,c23,c30,c31,c32,c33,-⟩:=hcs9
     obtain ⟨f20,f21,f22,f23,-⟩:=hfs9
     obtain ⟨z0,z1,z2,z3,-⟩:=hzs9
     have hs4:=hb4.size
     clear k0 k1 k3
     go_wp2
     refine bodyPost_ret (v:= .tuple #[.agg #[.int .i64 0,.int .i64 0,.int .i64 0,.int .i64 0],.bool false]) (by simp [results,Tryz.results6,go_sem, *]) rfl ?_
     exact ⟨by first|(rw [unhide HV];done)|(rw [unhide HV];rfl),byGG⟩
    ·have HV:Hid ((lmV (leM a b c p q r n):Value)= .tuple #[.agg #[.int .i64 v0,.int .i64 v1,.int .i64 v2,.int .i64 v3],.bool true]):=hide (by unfold leM leA;rw [k0,k1,hR];simp [lmV,k3])
     go_enter Tryz.func6,Tryz.ntmps6
     go_wp2_with fail
     refine (lvI_e a b c n true _ i0 i1 i2 k0).mono ?_
     rintro en w1 ⟨rfl,hb1⟩
     have hcs9:=cells_calls hb1 [⟨w.heap.size,0,none⟩,⟨w.heap.size,1,none⟩,⟨w.heap.size,2,none⟩,⟨w.heap.size+1,0,none⟩,⟨w.heap.size+1,1,none⟩,⟨w.heap.size+1,2,none⟩,⟨w.heap.size+1+1,0,none⟩,⟨w.heap.size+1+1,1,none⟩,⟨w.heap.size+1+1,2,none⟩,⟨w.heap.size+1+1,3,none⟩] [.int .i64 a,.int .i64 b,.int .i64 c,.int .i64 p,.int .i64 q,.int .i64 r,.int .i64 0,.int .i64 0,.int .i64 0,.int .i64 0] (by refine ⟨?_,?_,?_,?_,?_,?_,?_,?_,?_,?_,trivial⟩<;>exact byCT)
     have hfs9:=frees_calls hb1 [⟨w.heap.size+1+1,0,none⟩,⟨w.heap.size+1+1,1,none⟩,⟨w.heap.size+1+1,2,none⟩,⟨w.heap.size+1+1,3,none⟩] (by refine ⟨?_,?_,?_,?_,trivial⟩<;>first|with_reducible assumption|omega|(simp;omega)|(simp;done)) (by refine ⟨?_,?_,?_,?_,trivial⟩<;>exact byFT)
     have hzs9:=blocks_calls hb1 [w.heap.size,w.heap.size+1,w.heap.size+1+1] (by refine ⟨?_,?_,?_,trivial⟩<;>first|with_reducible assumption|omega|(simp;omega)|(simp;done))
     try clear c00 c01 c02
     try clear c10 c11 c12
     try clear c20 c21 c22 c23 f20 f21 f22 f23
     obtain ⟨c00,c01,c02,c10,c11,c12,c20,c21,c22,c23,-⟩:=hcs9
     obtain ⟨f20,f21,f22,f23,-⟩:=hfs9
     obtain ⟨z0,z1,z2,-⟩:=hzs9
     have hs1:=hb1.size
     go_wp2_with fail
     refine (lvI_e p q r n true _ i3 i4 i5 k1).mono ?_
     rintro en w2 ⟨rfl,hb2⟩
     have hcs9:=cells_calls hb2 [⟨w.heap.size,0,none⟩,⟨w.heap.size,1,none⟩,⟨w.heap.size,2,none⟩,⟨w.heap.size+1,0,none⟩,⟨w.heap.size+1,1,none⟩,⟨w.heap.size+1,2,none⟩,⟨w.heap.size+1+1,0,none⟩,⟨w.heap.size+1+1,1,none⟩,⟨w.heap.size+1+1,2,none⟩,⟨w.heap.size+1+1,3,none⟩] [.int .i64 a,.int .i64 b,.int .i64 c,.int .i64 p,.int .i64 q,.int .i64 r,.int .i64 0,.int .i64 0,.int .i64 0,.int .i64 0] (by refine ⟨?_,?_,?_,?_,?_,?_,?_,?_,?_,?_,trivial⟩<;>exact byCT)
     have hfs9:=frees_calls hb2 [⟨w.heap.size+1+1,0,none⟩,⟨w.heap.size+1+1,1,none⟩,⟨w.heap.size+1+1,2,none⟩,⟨w.heap.size+1+1,3,none⟩] (by refine ⟨?_,?_,?_,?_,trivial⟩<;>first|with_reducible assumption|omega|(simp;omega)|(simp;done)) (by refine ⟨?_,?_,?_,?_,trivial⟩<;>exact byFT)
     have hzs9:=blocks_calls hb2 [w.heap.size,w.heap.size+1,w.heap.size+1+1] (by refine ⟨?_,?_,?_,trivial⟩<;>first|with_reducible assumption|omega|(simp;omega)|(simp;done))
     try clear c00 c01 c02
     try clear c10 c11 c12
     try clear c20 c21 c22 c23 f20 f21 f22 f23
     obtain ⟨c00,c01,c02,c10,c11,c12,c20,c21,c22,c23,-⟩:=hcs9
     obtain ⟨f20,f21,f22,f23,-⟩:=hfs9
     obtain ⟨z0,z1,z2,-⟩:=hzs9
     have hs2:=hb2.size
     go_wp2_with fail
     refine (lmG_i a b c p q r n v0 v1 v2 v3 true _ k0 k1 hR).mono ?_
     rintro en w3 ⟨rfl,hb3⟩
     have hcs9:=cells_calls hb3 [⟨w.heap.size,0,none⟩,⟨w.heap.size,1,none⟩,⟨w.heap.size,2,none⟩,⟨w.heap.size+1,0,none⟩,⟨w.heap.size+1,1,none⟩,⟨w.heap.size+1,2,none⟩,⟨w.heap.size+1+1,0,none⟩,⟨w.heap.size+1+1,1,none⟩,⟨w.heap.size+1+1,2,none⟩,⟨w.heap.size+1+1,3,none⟩] [.int .i64 a,.int .i64 b,.int .i64 c,.int .i64 p,.int .i64 q,.int .i64 r,.int .i64 0,.int .i64 0,.int .i64 0,.int .i64 0] (by refine ⟨?_,?_,?_,?_,?_,?_,?_,?_,?_,?_,trivial⟩<;>exact byCT)
     have hfs9:=frees_calls hb3 [⟨w.heap.size+1+1,0,none⟩,⟨w.heap.size+1+1,1,none⟩,⟨w.heap.size+1+1,2,none⟩,⟨w.heap.size+1+1,3,none⟩] (by refine ⟨?_,?_,?_,?_,trivial⟩<;>first|with_reducible assumption|omega|(simp;omega)|(simp;done)) (by refine ⟨?_,?_,?_,?_,trivial⟩<;>exact byFT)
     have hzs9:=blocks_calls hb3 [w.heap.size,w.heap.size+1,w.heap.size+1+1] (by refine ⟨?_,?_,?_,trivial⟩<;>first|with_reducible assumption|omega|(simp;omega)|(simp;done))
     try clear c00 c01 c02
     try clear c10 c11 c12
     try clear c20 c21 c22 c23 f20 f21 f22 f23
     obtain ⟨c00,c01,c02,c10,c11,c12,c20,c21,c22,c23,-⟩:=hcs9
     obtain ⟨f20,f21,f22,f23,-⟩:=hfs9
     obtain ⟨z0,z1,z2,-⟩:=hzs9
     have hs3:=hb3.size
     clear hR
     go_wp2_with fail
     refine (checked_y v0 v1 v2 v3 _ j0 j1 j2 j3 k3).mono ?_
     rintro en w4 ⟨rfl,hb4⟩
     have hcs9:=cells_calls hb4 [⟨w.heap.size,0,none⟩,⟨w.heap.size,1,none⟩,⟨w.heap.size,2,none⟩,⟨w.heap.size+1,0,none⟩,⟨w.heap.size+1,1,none⟩,⟨w.heap.size+1,2,none⟩,⟨w.heap.size+1+1,0,none⟩,⟨w.heap.size+1+1,1,none⟩,⟨w.heap.size+1+1,2,none⟩,⟨w.heap.size+1+1,3,none⟩,⟨w3.heap.size,0,none⟩,⟨w3.heap.size,1,none⟩,⟨w3.heap.size,2,none⟩,⟨w3.heap.size,3,none⟩] [.int .i64 a,.int .i64 b,.int .i64 c,.int .i64 p,.int .i64 q,.int .i64 r,.int .i64 0,.int .i64 0,.int .i64 0,.int .i64 0,.int .i64 v0,.int .i64 v1,.int .i64 v2,.int .i64 v3] (by refine ⟨?_,?_,?_,?_,?_,?_,?_,?_,?_,?_,?_,?_,?_,?_,trivial⟩<;>exact byCT)
     have hfs9:=frees_calls hb4 [⟨w.heap.size+1+1,0,none⟩,⟨w.heap.size+1+1,1,none⟩,⟨w.heap.size+1+1,2,none⟩,⟨w.heap.size+1+1,3,none⟩] (by refine ⟨?_,?_,?_,?_,trivial⟩<;>first|with_reducible assumption|omega|(simp;omega)|(simp;done)) (by refine ⟨?_,?_,?_,?_,trivial⟩<;>exact byFT)
     have hzs9:=blocks_calls hb4 [w.heap.size,w.heap.size+1,w.heap.size+1+1,w3.heap.size] (by refine ⟨?_,?_,?_,?_,trivial⟩<;>first|with_reducible assumption|omega|(simp;omega)|(simp;done))
     try clear c00 c01 c02
     try clear c10 c11 c12
     try clear c20 c21 c22 c23 f20 f21 f22 f23
     try clear c30 c31 c32 c33
     obtain ⟨c00,c01,c02,c10,c11,c12,c20,c21,c22,c23,c30,c31,c32,c33,-⟩:=hcs9
     obtain ⟨f20,f21,f22,f23,-⟩:=hfs9
     obtain ⟨z0,z1,z2,z3,-⟩:=hzs9
     have hs4:=hb4.size
     clear k0 k1 k3
     go_wp2
     refine bodyPost_ret (v:= .tuple #[.agg #[.int .i64 v0,.int .i64 v1,.int .i64 v2,.int .i64 v3],.bool true]) (by simp [results,Tryz.results6,go_sem, *]) rfl ?_
     exact ⟨by first|(rw [unhide HV];done)|(rw [unhide HV];rfl),byGG⟩

set_option maxRecDepth 100000 in
set_option maxHeartbeats 4000000 in
theorem sLevelMatrix_c (a b c p q r n:Int) (w:World):Calls Tryz.prog 7 #[.agg #[.int .i64 a,.int .i64 b,.int .i64 c],.agg #[.int .i64 p,.int .i64 q,.int .i64 r],.int .i64 n] w fun e w'=>e= .returned (lmV (leM a b c p q r n))∧Below w.heap.size w w':=by
 cases k0:lvB a b c n
 ·have HV:Hid ((lmV (leM a b c p q r n):Value)= .tuple #[.agg #[.int .i64 0,.int .i64 0,.int .i64 0,.int .i64 0],.bool false]):=hide (by unfold leM leA;rw [k0];simp [lmV])
  go_enter Tryz.func7,Tryz.ntmps7
  go_wp2_with fail
  refine (lvS_e a b c n false _ k0).mono ?_
  rintro en w1 ⟨rfl,hb1⟩
  have hcs9:=cells_calls hb1 [⟨w.heap.size,0,none⟩,⟨w.heap.size,1,none⟩,⟨w.heap.size,2,none⟩,⟨w.heap.size+1,0,none⟩,⟨w.heap.size+1,1,none⟩,⟨w.heap.size+1,2,none⟩,⟨w.heap.size+1+1,0,none⟩,⟨w.heap.size+1+1,1,none⟩,⟨w.heap.size+1+1,2,none⟩,⟨w.heap.size+1+1,3,none⟩] [.int .i64 a,.int .i64 b,.int .i64 c,.int .i64 p,.int .i64 q,.int .i64 r,.int .i64 0,.int .i64 0,.int .i64 0,.int .i64 0] (by refine ⟨?_,?_,?_,?_,?_,?_,?_,?_,?_,?_,trivial⟩<;>exact byCT)
  have hfs9:=frees_calls hb1 [⟨w.heap.size+1+1,0,none⟩,⟨w.heap.size+1+1,1,none⟩,⟨w.heap.size+1+1,2,none⟩,⟨w.heap.size+1+1,3,none⟩] (by refine ⟨?_,?_,?_,?_,trivial⟩<;>first|with_reducible assumption|omega|(simp;omega)|(simp;done)) (by refine ⟨?_,?_,?_,?_,trivial⟩<;>exact byFT)
  have hzs9:=blocks_calls hb1 [w.heap.size,w.heap.size+1,w.heap.size+1+1] (by refine ⟨?_,?_,?_,trivial⟩<;>first|with_reducible assumption|omega|(simp;omega)|(simp;done))
  try clear c00 c01 c02
  try clear c10 c11 c12
  try clear c20 c21 c22 c23 f20 f21 f22 f23
  obtain ⟨c00,c01,c02,c10,c11,c12,c20,c21,c22,c23,-⟩:=hcs9
  obtain ⟨f20,f21,f22,f23,-⟩:=hfs9
  obtain ⟨z0,z1,z2,-⟩:=hzs9
  have hs1:=hb1.size
  clear k0
  go_wp2
  refine bodyPost_ret (v:= .tuple #[.agg #[.int .i64 0,.int .i64 0,.int .i64 0,.int .i64 0],.bool false]) (by simp [results,Tryz.results7,go_sem, *]) rfl ?_
  exact ⟨by first|(rw [unhide HV];done)|(rw [unhide HV];rfl),byGG⟩
 ·cases k1:lvB p q r n
  ·have HV:Hid ((lmV (leM a b c p q r n):Value)= .tuple #[.agg #[.int .i64 0,.int .i64 0,.int .i64 0,.int .i64 0],.bool false]):=hide (by unfold leM leA;rw [k0,k1];simp [lmV])
   go_enter Tryz.func7,Tryz.ntmps7
   go_wp2_with fail
   refine (lvS_e a b c n true _ k0).mono ?_
   rintro en w1 ⟨rfl,hb1⟩
   have hcs9:=cells_calls hb1 [⟨w.heap.size,0,none⟩,⟨w.heap.size,1,none⟩,⟨w.heap.size,2,none⟩,⟨w.heap.size+1,0,none⟩,⟨w.heap.size+1,1,none⟩,⟨w.heap.size+1,2,none⟩,⟨w.heap.size+1+1,0,none⟩,⟨w.heap.size+1+1,1,none⟩,⟨w.heap.size+1+1,2,none⟩,⟨w.heap.size+1+1,3,none⟩] [.int .i64 a,.int .i64 b,.int .i64 c,.int .i64 p,.int .i64 q,.int .i64 r,.int .i64 0,.int .i64 0,.int .i64 0,.int .i64 0] (by refine ⟨?_,?_,?_,?_,?_,?_,?_,?_,?_,?_,trivial⟩<;>exact byCT)
   have hfs9:=frees_calls hb1 [⟨w.heap.size+1+1,0,none⟩,⟨w.heap.size+1+1,1,none⟩,⟨w.heap.size+1+1,2,none⟩,⟨w.heap.size+1+1,3,none⟩] (by refine ⟨?_,?_,?_,?_,trivial⟩<;>first|with_reducible assumption|omega|(simp;omega)|(simp;done)) (by refine ⟨?_,?_,?_,?_,trivial⟩<;>exact byFT)
   have hzs9:=blocks_calls hb1 [w.heap.size,w.heap.size+1,w.heap.size+1+1] (by refine ⟨?_,?_,?_,trivial⟩<;>first|with_reducible assumption|omega|(simp;omega)|(simp;done))
   try clear c00 c01 c02
   try clear c10 c11 c12
   try clear c20 c21 c22 c23 f20 f21 f22 f23
   obtain ⟨c00,c01,c02,c10,c11,c12,c20,c21,c22,c23,-⟩:=hcs9
   obtain ⟨f20,f21,f22,f23,-⟩:=hfs9
   obtain ⟨z0,z1,z2,-⟩:=hzs9
   have hs1:=hb1.size
   go_wp2_with fail
   refine (lvS_e p q r n false _ k1).mono ?_
   rintro en w2 ⟨rfl,hb2⟩
   have hcs9:=cells_calls hb2 [⟨w.heap.size,0,none⟩,⟨w.heap.size,1,none⟩,⟨w.heap.size,2,none⟩,⟨w.heap.size+1,0,none⟩,⟨w.heap.size+1,1,none⟩,⟨w.heap.size+1,2,none⟩,⟨w.heap.size+1+1,0,none⟩,⟨w.heap.size+1+1,1,none⟩,⟨w.heap.size+1+1,2,none⟩,⟨w.heap.size+1+1,3,none⟩] [.int .i64 a,.int .i64 b,.int .i64 c,.int .i64 p,.int .i64 q,.int .i64 r,.int .i64 0,.int .i64 0,.int .i64 0,.int .i64 0] (by refine ⟨?_,?_,?_,?_,?_,?_,?_,?_,?_,?_,trivial⟩<;>exact byCT)
   have hfs9:=frees_calls hb2 [⟨w.heap.size+1+1,0,none⟩,⟨w.heap.size+1+1,1,none⟩,⟨w.heap.size+1+1,2,none⟩,⟨w.heap.size+1+1,3,none⟩] (by refine ⟨?_,?_,?_,?_,trivial⟩<;>first|with_reducible assumption|omega|(simp;omega)|(simp;done)) (by refine ⟨?_,?_,?_,?_,trivial⟩<;>exact byFT)
   have hzs9:=blocks_calls hb2 [w.heap.size,w.heap.size+1,w.heap.size+1+1] (by refine ⟨?_,?_,?_,trivial⟩<;>first|with_reducible assumption|omega|(simp;omega)|(simp;done))
   try clear c00 c01 c02
   try clear c10 c11 c12
   try clear c20 c21 c22 c23 f20 f21 f22 f23
   obtain ⟨c00,c01,c02,c10,c11,c12,c20,c21,c22,c23,-⟩:=hcs9
   obtain ⟨f20,f21,f22,f23,-⟩:=hfs9
   obtain ⟨z0,z1,z2,-⟩:=hzs9
   have hs2:=hb2.size
   clear k0 k1
   go_wp2
   refine bodyPost_ret (v:= .tuple #[.agg #[.int .i64 0,.int .i64 0,.int .i64 0,.int .i64 0],.bool false]) (by simp [results,Tryz.results7,go_sem, *]) rfl ?_
   exact ⟨by first|(rw [unhide HV];done)|(rw [unhide HV];rfl),byGG⟩
  ·obtain ⟨v0,v1,v2,v3,t,hR⟩: ∃v0 v1 v2 v3 t,lmG a b c p q r n=((v0,v1,v2,v3),t):=⟨_,_,_,_,_,rfl⟩
   have hj:=lmG_i64 a b c p q r n
   rw[hR] at hj
   obtain ⟨j0,j1,j2,j3⟩:=hj
   cases t
   ·have HV:Hid ((lmV (leM a b c p q r n):Value)= .tuple #[.agg #[.int .i64 0,.int .i64 0,.int .i64 0,.int .i64 0],.bool false]):=hide (by unfold leM leA;rw [k0,k1,hR];simp [lmV])
    go_enter Tryz.func7,Tryz.ntmps7
    go_wp2_with fail
    refine (lvS_e a b c n true _ k0).mono ?_
    rintro en w1 ⟨rfl,hb1⟩
    have hcs9:=cells_calls hb1 [⟨w.heap.size,0,none⟩,⟨w.heap.size,1,none⟩,⟨w.heap.size,2,none⟩,⟨w.heap.size+1,0,none⟩,⟨w.heap.size+1,1,none⟩,⟨w.heap.size+1,2,none⟩,⟨w.heap.size+1+1,0,none⟩,⟨w.heap.size+1+1,1,none⟩,⟨w.heap.size+1+1,2,none⟩,⟨w.heap.size+1+1,3,none⟩] [.int .i64 a,.int .i64 b,.int .i64 c,.int .i64 p,.int .i64 q,.int .i64 r,.int .i64 0,.int .i64 0,.int .i64 0,.int .i64 0] (by refine ⟨?_,?_,?_,?_,?_,?_,?_,?_,?_,?_,trivial⟩<;>exact byCT)
    have hfs9:=frees_calls hb1 [⟨w.heap.size+1+1,0,none⟩,⟨w.heap.size+1+1,1,none⟩,⟨w.heap.size+1+1,2,none⟩,⟨w.heap.size+1+1,3,none⟩] (by refine ⟨?_,?_,?_,?_,trivial⟩<;>first|with_reducible assumption|omega|(simp;omega)|(simp;done)) (by refine ⟨?_,?_,?_,?_,trivial⟩<;>exact byFT)
    have hzs9:=blocks_calls hb1 [w.heap.size,w.heap.size+1,w.heap.size+1+1] (by refine ⟨?_,?_,?_,trivial⟩<;>first|with_reducible assumption|omega|(simp;omega)|(simp;done))
    try clear c00 c01 c02
    try clear c10 c11 c12
    try clear c20 c21 c22 c23 f20 f21 f22 f23
    obtain ⟨c00,c01,c02,c10,c11,c12,c20,c21,c22,c23,-⟩:=hcs9
    obtain ⟨f20,f21,f22,f23,-⟩:=hfs9
    obtain ⟨z0,z1,z2,-⟩:=hzs9
    have hs1:=hb1.size
    go_wp2_with fail
    refine (lvS_e p q r n true _ k1).mono ?_
    rintro en w2 ⟨rfl,hb2⟩
    have hcs9:=cells_calls hb2 [⟨w.heap.size,0,none⟩,⟨w.heap.size,1,none⟩,⟨w.heap.size,2,none⟩,⟨w.heap.size+1,0,none⟩,⟨w.heap.size+1,1,none⟩,⟨w.heap.size+1,2,none⟩,⟨w.heap.size+1+1,0,none⟩,⟨w.heap.size+1+1,1,none⟩,⟨w.heap.size+1+1,2,none⟩,⟨w.heap.size+1+1,3,none⟩] [.int .i64 a,.int .i64 b,.int .i64 c,.int .i64 p,.int .i64 q,.int .i64 r,.int .i64 0,.int .i64 0,.int .i64 0,.int .i64 0] (by refine ⟨?_,?_,?_,?_,?_,?_,?_,?_,?_,?_,trivial⟩<;>exact byCT)
    have hfs9:=frees_calls hb2 [⟨w.heap.size+1+1,0,none⟩,⟨w.heap.size+1+1,1,none⟩,⟨w.heap.size+1+1,2,none⟩,⟨w.heap.size+1+1,3,none⟩] (by refine ⟨?_,?_,?_,?_,trivial⟩<;>first|with_reducible assumption|omega|(simp;omega)|(simp;done)) (by refine ⟨?_,?_,?_,?_,trivial⟩<;>exact byFT)
    have hzs9:=blocks_calls hb2 [w.heap.size,w.heap.size+1,w.heap.size+1+1] (by refine ⟨?_,?_,?_,trivial⟩<;>first|with_reducible assumption|omega|(simp;omega)|(simp;done))
    try clear c00 c01 c02
    try clear c10 c11 c12
    try clear c20 c21 c22 c23 f20 f21 f22 f23
    obtain ⟨c00,c01,c02,c10,c11,c12,c20,c21,c22,c23,-⟩:=hcs9
    obtain ⟨f20,f21,f22,f23,-⟩:=hfs9
    obtain ⟨z0,z1,z2,-⟩:=hzs9
    have hs2:=hb2.size
    go_wp2_with fail
    refine (lmG_s a b c p q r n v0 v1 v2 v3 false _ k0 k1 hR).mono ?_
    rintro en w3 ⟨rfl,hb3⟩
    have hcs9:=cells_calls hb3 [⟨w.heap.size,0,none⟩,⟨w.heap.size,1,none⟩,⟨w.heap.size,2,none⟩,⟨w.heap.size+1,0,none⟩,⟨w.heap.size+1,1,none⟩,⟨w.heap.size+1,2,none⟩,⟨w.heap.size+1+1,0,none⟩,⟨w.heap.size+1+1,1,none⟩,⟨w.heap.size+1+1,2,none⟩,⟨w.heap.size+1+1,3,none⟩] [.int .i64 a,.int .i64 b,.int .i64 c,.int .i64 p,.int .i64 q,.int .i64 r,.int .i64 0,.int .i64 0,.int .i64 0,.int .i64 0] (by refine ⟨?_,?_,?_,?_,?_,?_,?_,?_,?_,?_,trivial⟩<;>exact byCT)
    have hfs9:=frees_calls hb3 [⟨w.heap.size+1+1,0,none⟩,⟨w.heap.size+1+1,1,none⟩,⟨w.heap.size+1+1,2,none⟩,⟨w.heap.size+1+1,3,none⟩] (by refine ⟨?_,?_,?_,?_,trivial⟩<;>first|with_reducible assumption|omega|(simp;omega)|(simp;done)) (by refine ⟨?_,?_,?_,?_,trivial⟩<;>exact byFT)
    have hzs9:=blocks_calls hb3 [w.heap.size,w.heap.size+1,w.heap.size+1+1] (by refine ⟨?_,?_,?_,trivial⟩<;>first|with_reducible assumption|omega|(simp;omega)|(simp;done))
    try clear c00 c01 c02
    try clear c10 c11 c12
    try clear c20 c21 c22 c23 f20 f21 f22 f23
    obtain ⟨c00,c01,c02,c10,c11,c12,c20,c21,c22,c23,-⟩:=hcs9
    obtain ⟨f20,f21,f22,f23,-⟩:=hfs9
    obtain ⟨z0,z1,z2,-⟩:=hzs9
    have hs3:=hb3.size
    clear hR k0 k1
    go_wp2
    refine bodyPost_ret (v:= .tuple #[.agg #[.int .i64 0,.int .i64 0,.int .i64 0,.int .i64 0],.bool false]) (by simp [results,Tryz.results7,go_sem, *]) rfl ?_
    exact ⟨by first|(rw [unhide HV];done)|(rw [unhide HV];rfl),byGG⟩
   ·cases k3:matB v0 v1 v2 v3
    ·have HV:Hid ((lmV (leM a b c p q r n):Value)= .tuple #[.agg #[.int .i64 0,.int .i64 0,.int .i64 0,.int .i64 0],.bool false]):=hide (by unfold leM leA;rw [k0,k1,hR];simp [lmV,k3])
     go_enter Tryz.func7,Tryz.ntmps7
     go_wp2_with fail
     refine (lvS_e a b c n true _ k0).mono ?_
     rintro en w1 ⟨rfl,hb1⟩
     have hcs9:=cells_calls hb1 [⟨w.heap.size,0,none⟩,⟨w.heap.size,1,none⟩,⟨w.heap.size,2,none⟩,⟨w.heap.size+1,0,none⟩,⟨w.heap.size+1,1,none⟩,⟨w.heap.size+1,2,none⟩,⟨w.heap.size+1+1,0,none⟩,⟨w.heap.size+1+1,1,none⟩,⟨w.heap.size+1+1,2,none⟩,⟨w.heap.size+1+1,3,none⟩] [.int .i64 a,.int .i64 b,.int .i64 c,.int .i64 p,.int .i64 q,.int .i64 r,.int .i64 0,.int .i64 0,.int .i64 0,.int .i64 0] (by refine ⟨?_,?_,?_,?_,?_,?_,?_,?_,?_,?_,trivial⟩<;>exact byCT)
     have hfs9:=frees_calls hb1 [⟨w.heap.size+1+1,0,none⟩,⟨w.heap.size+1+1,1,none⟩,⟨w.heap.size+1+1,2,none⟩,⟨w.heap.size+1+1,3,none⟩] (by refine ⟨?_,?_,?_,?_,trivial⟩<;>first|with_reducible assumption|omega|(simp;omega)|(simp;done)) (by refine ⟨?_,?_,?_,?_,trivial⟩<;>exact byFT)
     have hzs9:=blocks_calls hb1 [w.heap.size,w.heap.size+1,w.heap.size+1+1] (by refine ⟨?_,?_,?_,trivial⟩<;>first|with_reducible assumption|omega|(simp;omega)|(simp;done))
     try clear c00 c01 c02
     try clear c10 c11 c12
     try clear c20 c21 c22 c23 f20 f21 f22 f23
     obtain ⟨c00,c01,c02,c10,c11,c12,c20,c21,c22,c23,-⟩:=hcs9
     obtain ⟨f20,f21,f22,f23,-⟩:=hfs9
     obtain ⟨z0,z1,z2,-⟩:=hzs9
     have hs1:=hb1.size
     go_wp2_with fail
     refine (lvS_e p q r n true _ k1).mono ?_
     rintro en w2 ⟨rfl,hb2⟩
     have hcs9:=cells_calls hb2 [⟨w.heap.size,0,none⟩,⟨w.heap.size,1,none⟩,⟨w.heap.size,2,none⟩,⟨w.heap.size+1,0,none⟩,⟨w.heap.size+1,1,none⟩,⟨w.heap.size+1,2,none⟩,⟨w.heap.size+1+1,0,none⟩,⟨w.heap.size+1+1,1,none⟩,⟨w.heap.size+1+1,2,none⟩,⟨w.heap.size+1+1,3,none⟩] [.int .i64 a,.int .i64 b,.int .i64 c,.int .i64 p,.int .i64 q,.int .i64 r,.int .i64 0,.int .i64 0,.int .i64 0,.int .i64 0] (by refine ⟨?_,?_,?_,?_,?_,?_,?_,?_,?_,?_,trivial⟩<;>exact byCT)
     have hfs9:=frees_calls hb2 [⟨w.heap.size+1+1,0,none⟩,⟨w.heap.size+1+1,1,none⟩,⟨w.heap.size+1+1,2,none⟩,⟨w.heap.size+1+1,3,none⟩] (by refine ⟨?_,?_,?_,?_,trivial⟩<;>first|with_reducible assumption|omega|(simp;omega)|(simp;done)) (by refine ⟨?_,?_,?_,?_,trivial⟩<;>exact byFT)
     have hzs9:=blocks_calls hb2 [w.heap.size,w.heap.size+1,w.heap.size+1+1] (by refine ⟨?_,?_,?_,trivial⟩<;>first|with_reducible assumption|omega|(simp;omega)|(simp;done))
     try clear c00 c01 c02
     try clear c10 c11 c12
     try clear c20 c21 c22 c23 f20 f21 f22 f23
     obtain ⟨c00,c01,c02,c10,c11,c12,c20,c21,c22,c23,-⟩:=hcs9
     obtain ⟨f20,f21,f22,f23,-⟩:=hfs9
     obtain ⟨z0,z1,z2,-⟩:=hzs9
     have hs2:=hb2.size
     go_wp2_with fail
     refine (lmG_s a b c p q r n v0 v1 v2 v3 true _ k0 k1 hR).mono ?_
     rintro en w3 ⟨rfl,hb3⟩
     have hcs9:=cells_calls hb3 [⟨w.heap.size,0,none⟩,⟨w.heap.size,1,none⟩,⟨w.heap.size,2,none⟩,⟨w.heap.size+1,0,none⟩,⟨w.heap.size+1,1,none⟩,⟨w.heap.size+1,2,none⟩,⟨w.heap.size+1+1,0,none⟩,⟨w.heap.size+1+1,1,none⟩,⟨w.heap.size+1+1,2,none⟩,⟨w.heap.size+1+1,3,none⟩] [.int .i64 a,.int .i64 b,.int .i64 c,.int .i64 p,.int .i64 q,.int .i64 r,.int .i64 0,.int .i64 0,.int .i64 0,.int .i64 0] (by refine ⟨?_,?_,?_,?_,?_,?_,?_,?_,?_,?_,trivial⟩<;>exact byCT)
     have hfs9:=frees_calls hb3 [⟨w.heap.size+1+1,0,none⟩,⟨w.heap.size+1+1,1,none⟩,⟨w.heap.size+1+1,2,none⟩,⟨w.heap.size+1+1,3,none⟩] (by refine ⟨?_,?_,?_,?_,trivial⟩<;>first|with_reducible assumption|omega|(simp;omega)|(simp;done)) (by refine ⟨?_,?_,?_,?_,trivial⟩<;>exact byFT)
     have hzs9:=blocks_calls hb3 [w.heap.size,w.heap.size+1,w.heap.size+1+1] (by refine ⟨?_,?_,?_,trivial⟩<;>first|with_reducible assumption|omega|(simp;omega)|(simp;done))
     try clear c00 c01 c02
     try clear c10 c11 c12
     try clear c20 c21 c22 c23 f20 f21 f22 f23
     obtain ⟨c00,c01,c02,c10,c11,c12,c20,c21,c22,c23,-⟩:=hcs9
     obtain ⟨f20,f21,f22,f23,-⟩:=hfs9
     obtain ⟨z0,z1,z2,-⟩:=hzs9
     have hs3:=hb3.size
     clear hR
     go_wp2_with fail
     refine (foMat_e v0 v1 v2 v3 false _ k3).mono ?_
     rintro en w4 ⟨rfl,hb4⟩
     have hcs9:=cells_calls hb4 [⟨w.heap.size,0,none⟩,⟨w.heap.size,1,none⟩,⟨w.heap.size,2,none⟩,⟨w.heap.size+1,0,none⟩,⟨w.heap.size+1,1,none⟩,⟨w.heap.size+1,2,none⟩,⟨w.heap.size+1+1,0,none⟩,⟨w.heap.size+1+1,1,none⟩,⟨w.heap.size+1+1,2,none⟩,⟨w.heap.size+1+1,3,none⟩,⟨w3.heap.size,0,none⟩,⟨w3.heap.size,1,none⟩,⟨w3.heap.size,2,none⟩,⟨w3.heap.size,3,none⟩] [.int .i64 a,.int .i64 b,.int .i64 c,.int .i64 p,.int .i64 q,.int .i64 r,.int .i64 0,.int .i64 0,.int .i64 0,.int .i64 0,.int .i64 v0,.int .i64 v1,.int .i64 v2,.int .i64 v3] (by refine ⟨?_,?_,?_,?_,?_,?_,?_,?_,?_,?_,?_,?_,?_,?_,trivial⟩<;>exact byCT)
     have hfs9:=frees_calls hb4 [⟨w.heap.size+1+1,0,none⟩,⟨w.heap.size+1+1,1,none⟩,⟨w.heap.size+1+1,2,none⟩,⟨w.heap.size+1+1,3,none⟩] (by refine ⟨?_,?_,?_,?_,trivial⟩<;>first|with_reducible assumption|omega|(simp;omega)|(simp;done)) (by refine ⟨?_,?_,?_,?_,trivial⟩<;>exact byFT)
     have hzs9:=blocks_calls hb4 [w.heap.size,w.heap.size+1,w.heap.size+1+1,w3.heap.size] (by refine ⟨?_,?_,?_,?_,trivial⟩<;>first|with_reducible assumption|omega|(simp;omega)|(simp;done))
     try clear c00 c01 c02
     try clear c10 c11 c12
     try clear c20 c21 c22 c23 f20 f21 f22 f23
     try clear c30 c31 c32 c33
     obtain ⟨c00,c01,c02,c10,c11,c12,c20,c21,c22,c23,c30,c31,c32,c33,-⟩:=hcs9
     obtain ⟨f20,f21,f22,f23,-⟩:=hfs9
     obtain ⟨z0,z1,z2,z3,-⟩:=hzs9
     have hs4:=hb4.size
     clear k0 k1 k3
     go_wp2
     refine bodyPost_ret (v:= .tuple #[.agg #[.int .i64 0,.int .i64 0,.int .i64 0,.int .i64 0],.bool false]) (by simp [results,Tryz.results7,go_sem, *]) rfl ?_
     exact ⟨by first|(rw [unhide HV];done)|(rw [unhide HV];rfl),byGG⟩
    ·have HV:Hid ((lmV (leM a b c p q r n):Value)= .tuple #[.agg #[.int .i64 v0,.int .i64 v1,.int .i64 v2,.int .i64 v3],.bool true]):=hide (by unfold leM leA;rw [k0,k1,hR];simp [lmV,k3])
     go_enter Tryz.func7,Tryz.ntmps7
     go_wp2_with fail
     refine (lvS_e a b c n true _ k0).mono ?_
     rintro en w1 ⟨rfl,hb1⟩
     have hcs9:=cells_calls hb1 [⟨w.heap.size,0,none⟩,⟨w.heap.size,1,none⟩,⟨w.heap.size,2,none⟩,⟨w.heap.size+1,0,none⟩,⟨w.heap.size+1,1,none⟩,⟨w.heap.size+1,2,none⟩,⟨w.heap.size+1+1,0,none⟩,⟨w.heap.size+1+1,1,none⟩,⟨w.heap.size+1+1,2,none⟩,⟨w.heap.size+1+1,3,none⟩] [.int .i64 a,.int .i64 b,.int .i64 c,.int .i64 p,.int .i64 q,.int .i64 r,.int .i64 0,.int .i64 0,.int .i64 0,.int .i64 0] (by refine ⟨?_,?_,?_,?_,?_,?_,?_,?_,?_,?_,trivial⟩<;>exact byCT)
     have hfs9:=frees_calls hb1 [⟨w.heap.size+1+1,0,none⟩,⟨w.heap.size+1+1,1,none⟩,⟨w.heap.size+1+1,2,none⟩,⟨w.heap.size+1+1,3,none⟩] (by refine ⟨?_,?_,?_,?_,trivial⟩<;>first|with_reducible assumption|omega|(simp;omega)|(simp;done)) (by refine ⟨?_,?_,?_,?_,trivial⟩<;>exact byFT)
     have hzs9:=blocks_calls hb1 [w.heap.size,w.heap.size+1,w.heap.size+1+1] (by refine ⟨?_,?_,?_,trivial⟩<;>first|with_reducible assumption|omega|(simp;omega)|(simp;done))
     try clear c00 c01 c02
     try clear c10 c11 c12
     try clear c20 c21 c22 c23 f20 f21 f22 f23
     obtain ⟨c00,c01,c02,c10,c11,c12,c20,c21,c22,c23,-⟩:=hcs9
     obtain ⟨f20,f21,f22,f23,-⟩:=hfs9
     obtain ⟨z0,z1,z2,-⟩:=hzs9
     have hs1:=hb1.size
     go_wp2_with fail
     refine (lvS_e p q r n true _ k1).mono ?_
     rintro en w2 ⟨rfl,hb2⟩
     have hcs9:=cells_calls hb2 [⟨w.heap.size,0,none⟩,⟨w.heap.size,1,none⟩,⟨w.heap.size,2,none⟩,⟨w.heap.size+1,0,none⟩,⟨w.heap.size+1,1,none⟩,⟨w.heap.size+1,2,none⟩,⟨w.heap.size+1+1,0,none⟩,⟨w.heap.size+1+1,1,none⟩,⟨w.heap.size+1+1,2,none⟩,⟨w.heap.size+1+1,3,none⟩] [.int .i64 a,.int .i64 b,.int .i64 c,.int .i64 p,.int .i64 q,.int .i64 r,.int .i64 0,.int .i64 0,.int .i64 0,.int .i64 0] (by refine ⟨?_,?_,?_,?_,?_,?_,?_,?_,?_,?_,trivial⟩<;>exact byCT)
     have hfs9:=frees_calls hb2 [⟨w.heap.size+1+1,0,none⟩,⟨w.heap.size+1+1,1,none⟩,⟨w.heap.size+1+1,2,none⟩,⟨w.heap.size+1+1,3,none⟩] (by refine ⟨?_,?_,?_,?_,trivial⟩<;>first|with_reducible assumption|omega|(simp;omega)|(simp;done)) (by refine ⟨?_,?_,?_,?_,trivial⟩<;>exact byFT)
     have hzs9:=blocks_calls hb2 [w.heap.size,w.heap.size+1,w.heap.size+1+1] (by refine ⟨?_,?_,?_,trivial⟩<;>first|with_reducible assumption|omega|(simp;omega)|(simp;done))
     try clear c00 c01 c02
     try clear c10 c11 c12
     try clear c20 c21 c22 c23 f20 f21 f22 f23
     obtain ⟨c00,c01,c02,c10,c11,c12,c20,c21,c22,c23,-⟩:=hcs9
     obtain ⟨f20,f21,f22,f23,-⟩:=hfs9
     obtain ⟨z0,z1,z2,-⟩:=hzs9
     have hs2:=hb2.size
     go_wp2_with fail
     refine (lmG_s a b c p q r n v0 v1 v2 v3 true _ k0 k1 hR).mono ?_
     rintro en w3 ⟨rfl,hb3⟩
     have hcs9:=cells_calls hb3 [⟨w.heap.size,0,none⟩,⟨w.heap.size,1,none⟩,⟨w.heap.size,2,none⟩,⟨w.heap.size+1,0,none⟩,⟨w.heap.size+1,1,none⟩,⟨w.heap.size+1,2,none⟩,⟨w.heap.size+1+1,0,none⟩,⟨w.heap.size+1+1,1,none⟩,⟨w.heap.size+1+1,2,none⟩,⟨w.heap.size+1+1,3,none⟩] [.int .i64 a,.int .i64 b,.int .i64 c,.int .i64 p,.int .i64 q,.int .i64 r,.int .i64 0,.int .i64 0,.int .i64 0,.int .i64 0] (by refine ⟨?_,?_,?_,?_,?_,?_,?_,?_,?_,?_,trivial⟩<;>exact byCT)
     have hfs9:=frees_calls hb3 [⟨w.heap.size+1+1,0,none⟩,⟨w.heap.size+1+1,1,none⟩,⟨w.heap.size+1+1,2,none⟩,⟨w.heap.size+1+1,3,none⟩] (by refine ⟨?_,?_,?_,?_,trivial⟩<;>first|with_reducible assumption|omega|(simp;omega)|(simp;done)) (by refine ⟨?_,?_,?_,?_,trivial⟩<;>exact byFT)
     have hzs9:=blocks_calls hb3 [w.heap.size,w.heap.size+1,w.heap.size+1+1] (by refine ⟨?_,?_,?_,trivial⟩<;>first|with_reducible assumption|omega|(simp;omega)|(simp;done))
     try clear c00 c01 c02
     try clear c10 c11 c12
     try clear c20 c21 c22 c23 f20 f21 f22 f23
     obtain ⟨c00,c01,c02,c10,c11,c12,c20,c21,c22,c23,-⟩:=hcs9
     obtain ⟨f20,f21,f22,f23,-⟩:=hfs9
     obtain ⟨z0,z1,z2,-⟩:=hzs9
     have hs3:=hb3.size
     clear hR
     go_wp2_with fail
     refine (foMat_e v0 v1 v2 v3 true _ k3).mono ?_
     rintro en w4 ⟨rfl,hb4⟩
     have hcs9:=cells_calls hb4 [⟨w.heap.size,0,none⟩,⟨w.heap.size,1,none⟩,⟨w.heap.size,2,none⟩,⟨w.heap.size+1,0,none⟩,⟨w.heap.size+1,1,none⟩,⟨w.heap.size+1,2,none⟩,⟨w.heap.size+1+1,0,none⟩,⟨w.heap.size+1+1,1,none⟩,⟨w.heap.size+1+1,2,none⟩,⟨w.heap.size+1+1,3,none⟩,⟨w3.heap.size,0,none⟩,⟨w3.heap.size,1,none⟩,⟨w3.heap.size,2,none⟩,⟨w3.heap.size,3,none⟩] [.int .i64 a,.int .i64 b,.int .i64 c,.int .i64 p,.int .i64 q,.int .i64 r,.int .i64 0,.int .i64 0,.int .i64 0,.int .i64 0,.int .i64 v0,.int .i64 v1,.int .i64 v2,.int .i64 v3] (by refine ⟨?_,?_,?_,?_,?_,?_,?_,?_,?_,?_,?_,?_,?_,?_,trivial⟩<;>exact byCT)
     have hfs9:=frees_calls hb4 [⟨w.heap.size+1+1,0,none⟩,⟨w.heap.size+1+1,1,none⟩,⟨w.heap.size+1+1,2,none⟩,⟨w.heap.size+1+1,3,none⟩] (by refine ⟨?_,?_,?_,?_,trivial⟩<;>first|with_reducible assumption|omega|(simp;omega)|(simp;done)) (by refine ⟨?_,?_,?_,?_,trivial⟩<;>exact byFT)
     have hzs9:=blocks_calls hb4 [w.heap.size,w.heap.size+1,w.heap.size+1+1,w3.heap.size] (by refine ⟨?_,?_,?_,?_,trivial⟩<;>first|with_reducible assumption|omega|(simp;omega)|(simp;done))
     try clear c00 c01 c02
     try clear c10 c11 c12
     try clear c20 c21 c22 c23 f20 f21 f22 f23
     try clear c30 c31 c32 c33
     obtain ⟨c00,c01,c02,c10,c11,c12,c20,c21,c22,c23,c30,c31,c32,c33,-⟩:=hcs9
     obtain ⟨f20,f21,f22,f23,-⟩:=hfs9
     obtain ⟨z0,z1,z2,z3,-⟩:=hzs9
     have hs4:=hb4.size
     clear k0 k1 k3
     go_wp2
     refine bodyPost_ret (v:= .tuple #[.agg #[.int .i64 v0,.int .i64 v1,.int .i64 v2,.int .i64 v3],.bool true]) (by simp [results,Tryz.results7,go_sem, *]) rfl ?_
     exact ⟨by first|(rw [unhide HV];done)|(rw [unhide HV];rfl),byGG⟩
end Go.Proofs.YtobkcnmlmmhpoaaGreat
