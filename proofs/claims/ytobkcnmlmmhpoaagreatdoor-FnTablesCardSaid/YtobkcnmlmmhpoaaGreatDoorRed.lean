/- Reduced forms of a discriminant on both sides. -/
import Derived.Test.YtobkcnmlmmhpoaaGreatDoorConv
namespace Go.Proofs.YtobkcnmlmmhpoaaGreatDoor
set_option maxRecDepth 100000
set_option maxHeartbeats 80000000
open Go.RowKit
set_option linter.unusedVariables false
set_option linter.unusedSimpArgs false
attribute [local go_sem] q2 q3 q4 q5 q6 q7 q8 q9 q10 q11 q12

def flat3:List (Int × Int × Int)→List Int
 | []=> []
 |f :: fs=>f.1 :: f.2.1 :: f.2.2 :: flat3 fs
theorem flat3_append (a b:List (Int × Int × Int)):flat3 (a++b)=flat3 a++flat3 b:=by
 induction a with
 |nil=>rfl
 |cons f fs ih=>simp [flat3,ih]
theorem flat3_get (fs:List (Int × Int × Int)): ∀i,i<fs.length→(flat3 fs).getD (i*3) 0=(fs.getD i (0,0,0)).1∧(flat3 fs).getD (i*3+1) 0=(fs.getD i (0,0,0)).2.1∧(flat3 fs).getD (i*3+2) 0=(fs.getD i (0,0,0)).2.2:=by
 induction fs with
 |nil=>intro i hi;cases hi
 |cons f fs ih=>
  intro i hi
  cases i with
  |zero=>exact ⟨rfl,rfl,rfl⟩
  |succ i=>
   have h:=ih i (by simpa using hi)
   have e0:(i+1)*3=i*3+3:=by omega
   rw[e0]
   simpa [flat3,List.getD] using h
def FL (w:World) (lo:Nat) (v:Value) (fs:List (Int × Int × Int)):Prop:=FormL w lo v fs.length (flat3 fs)
theorem FL.nil (w:World) (lo:Nat):FL w lo (.slice none 0 0) []:=FormL.nil _ _
theorem FL.made (w:World) (lo:Nat) (h:lo≤w.heap.size):FL (w.alloc (.cells #[] 81)) lo (.slice (some ⟨w.heap.size,0,none⟩) 0 0) []:=FormL.made w lo h
theorem FL.alloc {w:World} {lo:Nat} {v:Value} {fs:List (Int × Int × Int)} (h:FL w lo v fs) (o:Obj):FL (w.alloc o) lo v fs:=FormL.alloc h o
theorem FL.below {w w':World} {lo:Nat} {v:Value} {fs:List (Int × Int × Int)} (h:FL w lo v fs) (hb:Below w.heap.size w w'):FL w' lo v fs:=FormL.below h hb
theorem FL.lt {w:World} {lo:Nat} {v:Value} {fs:List (Int × Int × Int)} (h:FL w lo v fs): ∀k,v.ownBlock=some k→lo≤k∧k<w.heap.size:=FormL.lt h
theorem FL.weak {w:World} {lo lo':Nat} {v:Value} {fs:List (Int × Int × Int)} (h:FL w lo v fs) (hl:lo'≤lo):FL w lo' v fs:=by
 unfold FL FormL World.ownsRow at*
 refine ⟨h.1,?_⟩
 rcases h.2 with h2|⟨g,cap,cur,h1,h2,h3⟩
 ·exact .inl h2
 ·exact .inr ⟨g,cap,cur,h1,Vn,h3⟩
def FAt (w:World) (lo hi:Nat) (a:Option Addr) (fs:List (Int × Int × Int)):Prop:=FormsAt w lo hi a fs.length (fun i=>(flat3 fs).getD i 0)
theorem FL.at {w:World} {lo:Nat} {a:Option Addr} {m c:Nat} {fs:List (Int × Int × Int)} (h:FL w lo (.slice a m c) fs):m=fs.length∧FAt w lo w.heap.size a fs:=FormL.at h
theorem FAt.below {w w':World} {lo hi B:Nat} {a:Option Addr} {fs:List (Int × Int × Int)} (h:FAt w lo hi a fs) (hb:Below B w w') (hB:hi≤B):FAt w' lo hi a fs:=FormsAt.below h hb hB
theorem FAt.cells {w:World} {lo hi:Nat} {a:Option Addr} {fs:List (Int × Int × Int)} (h:FAt w lo hi a fs) {i:Nat} (hi':i<fs.length):
  ∃g,a=some ⟨g,0,none⟩∧g<w.heap.size∧w.cell? ⟨g,i*3,none⟩=some (.int .i64 (fs.getD i (0,0,0)).1)∧w.cell? ⟨g,i*3+1,none⟩=some (.int .i64 (fs.getD i (0,0,0)).2.1)∧w.cell? ⟨g,i*3+2,none⟩=some (.int .i64 (fs.getD i (0,0,0)).2.2):=by
 rcases h with h|⟨g,cap,F,ha,h1,h2,h3,r,e⟩
 ·omega
 ·obtain ⟨e0,e1,e2⟩:=flat3_get fs i hi'
  refine ⟨g,ha,r.lt,?_,?_,?_⟩
  ·rw [r.cell (i:=i*3) Vn,e (i*3) Vn];exact congrArg (fun z=>some (Value.int .i64 z)) e0
  ·rw [r.cell (i:=i*3+1) Vn,e (i*3+1) Vn];exact congrArg (fun z=>some (Value.int .i64 z)) e1
  ·rw [r.cell (i:=i*3+2) Vn,e (i*3+2) Vn];exact congrArg (fun z=>some (Value.int .i64 z)) e2
theorem app_FL (w:World) {ops:Array Oper} {rest:List Oper} {o:Oper} {a:Act} {Q:Exit→Act→World→Prop} (hgd:o.guard=none) (s x:Operand)
  (ho:o.op= .call { callee:= .builtin .append,args:= #[s,x],argTypes:= #[55,55] })
  (lo:Nat) (v:Value) (fs:List (Int × Int × Int)) (x0 x1 x2:Int) (B:Nat) (hs:a.eval s=v) (hx:a.eval x= .slice (some ⟨B,0,none⟩) 1 1)
  (hown:FL w lo v fs) (hB0:w.cell? ⟨B,0,none⟩=some (.int .i64 x0)) (hB1:w.cell? ⟨B,1,none⟩=some (.int .i64 x1)) (hB2:w.cell? ⟨B,2,none⟩=some (.int .i64 x2)) (hlen:fs.length≤100000000) (hlo:lo≤w.heap.size)
  (h: ∀g cap w',FL w' lo (.slice (some ⟨g,0,none⟩) (fs.length+1) cap) (fs++ [(x0,x1,x2)])→w.grownBy w' v.ownBlock→(v.ownBlock=some g∨g=w.heap.size)→g<w'.heap.size→
   wpList Tryz.prog ops Q rest (a.put o.dst (.slice (some ⟨g,0,none⟩) (fs.length+1) cap)) w'):wpList Tryz.prog ops Q (o :: rest) a w:=by
 refine app_Form w hgd s x ho lo v fs.length (flat3 fs) x0 x1 x2 B hs hx hown hB0 hB1 hB2 hlen hlo ?_
 intro g cap w' h1 h2 h3 h4
 refine h g cap w' ?_ h2 h3 h4
 unfold FL
 rw[flat3_append,List.length_append]
 exact h1
def RetFL (w:World) (fs:List (Int × Int × Int)) (e:Ending) (w':World):Prop:=
 ∃a c,e= .returned (.slice a fs.length c)∧FL w' w.heap.size (.slice a fs.length c) fs∧Below w.heap.size w w'

def cOf (d a b:Int):Int:=(b*b-d) / (4*a)
def rowP (d:Int) (a:Nat) (j:Nat):Bool:=(((1-(a:Int)+j)*(1-(a:Int)+j)-d)%(4*(a:Int))==0)&&redB a (1-(a:Int)+j) (cOf d a (1-(a:Int)+j))
def rowE (d:Int) (a:Nat) (j:Nat):Int × Int × Int:=((a:Int),1-(a:Int)+j,cOf d a (1-(a:Int)+j))
def rowL (d:Int) (a j:Nat):List (Int × Int × Int):=flN (rowP d a) (rowE d a) j
def allB3 (d:Int):Nat→List (Int × Int × Int)
 |0=> []
 |a+1=>allB3 d a++rowL d a (2*a)
def partL (d:Int) (a j:Nat):List (Int × Int × Int):=allB3 d a++rowL d a j
theorem partL_zero (d:Int) (a:Nat):partL d a 0=allB3 d a:=List.append_nil _
def aN (d:Int):Nat:=isqN ((-d) / 3).toNat+1
def allR (d:Int):List (Int × Int × Int):=allB3 d (aN d)
theorem allB3_one (d:Int):allB3 d 1= []:=rfl
theorem allB3_succ (d:Int) (a:Nat):allB3 d (a+1)=allB3 d a++rowL d a (2*a):=rfl
theorem row_no {d:Int} {a j:Nat} {b:Int} (hb:b=1-(a:Int)+j) (h:(((b*b-d)%(4*(a:Int))==0)&&redB a b (cOf d a b))=false):rowL d a (j+1)=rowL d a j:=by
 subst hb;exact flN_no (p:=rowP d a) h
theorem row_yes {d:Int} {a j:Nat} {b:Int} (hb:b=1-(a:Int)+j) (h:(((b*b-d)%(4*(a:Int))==0)&&redB a b (cOf d a b))=true):rowL d a (j+1)=rowL d a j++ [((a:Int),b,cOf d a b)]:=by
 subst hb;exact flN_yes (p:=rowP d a) h
theorem part_no {d:Int} {a j:Nat} {b:Int} (hb:b=1-(a:Int)+j) (h:(((b*b-d)%(4*(a:Int))==0)&&redB a b (cOf d a b))=false):partL d a (j+1)=partL d a j:=by
 unfold partL;rw [row_no hb h]
theorem part_yes {d:Int} {a j:Nat} {b:Int} (hb:b=1-(a:Int)+j) (h:(((b*b-d)%(4*(a:Int))==0)&&redB a b (cOf d a b))=true):partL d a (j+1)=partL d a j++ [((a:Int),b,cOf d a b)]:=by
 unfold partL;rw [row_yes hb h,List.append_assoc]
theorem aN_iff {d:Int} (h1:d≤ -3) {a:Nat} :a<aN d↔3*(a:Int)*(a:Int)≤ -d:=by
 unfold aN
 rw[←isqN_iff]
 have e:3*(a:Int)*(a:Int)=3*((a*a:Nat):Int):=by rw[Int.natCast_mul,Int.mul_assoc]
 rw[e]
 omega
theorem aN_le {d:Int} (h0: -2000≤d) (h1:d≤ -3):1≤aN d∧aN d≤26:=by
 refine ⟨by unfold aN;omega,?_⟩
 by_cases c:26<aN d
 ·have:=(aN_iff h1).1 c;omega
 ·omega
theorem cOf_bd {d b:Int} {a:Nat} (h0: -2000≤d) (h1:d≤ -3) (ha:1≤a) (hb:0≤b*b∧b*b≤676):0≤cOf d a b∧cOf d a b≤1000:=by
 unfold cOf
 refine ⟨Int.ediv_nonneg Vn Vn,?_⟩
 have:(b*b-d) / (4*(a:Int))≤(b*b-d) / 4:=by
  have h4:(b*b-d) / (4*(a:Int))=(b*b-d) / 4 / a:=by rw[Int.ediv_ediv_of_nonneg Vn]
  rw[h4]
  exact Int.ediv_le_self _ (Int.ediv_nonneg Vn Vn)
 omega
theorem bb_bd {b:Int} (h0: -26≤b) (h1:b≤26):0≤b*b∧b*b≤676:=by
 have:=mul_bd (a:=b) (b:=b) (A:=26) (B:=26) Vn Vn Vn
 refine ⟨?_,Vn⟩
 by_cases q:0≤b
 ·exact Int.mul_nonneg q q
 ·exact Int.mul_nonneg_of_nonpos_of_nonpos Vn Vn
theorem disc_of {d b:Int} {a:Nat} (ha:1≤a):(discI a b (cOf d a b)==d)=((b*b-d)%(4*(a:Int))==0):=by
 unfold discI cOf
 have h:=Int.emod_add_mul_ediv (b*b-d) (4*(a:Int))
 rw[Bool.eq_iff_iff]
 simp only[beq_iff_eq]
 constructor<;>intro q<;>omega
theorem form_in {d b:Int} {a:Nat} (h0: -2000≤d) (h1:d≤ -3) (ha:1≤a) (ha2:a≤26) (hb0: -26≤b) (hb1:b≤26):formB a b (cOf d a b)=true:=by
 obtain ⟨c0,c1⟩:=cOf_bd (b:=b) h0 h1 ha (bb_bd hb0 hb1)
 rw[form_num]
 simp [numB,inB]
 omega
theorem allB3_len (d:Int): ∀a,(allB3 d a).length≤a*a:=by
 intro a
 induction a with
 |zero=>exact Nat.le_refl _
 |succ a ih=>
  rw[allB3_succ,List.length_append]
  have:=flN_len (rowP d a) (rowE d a) (2*a)
  unfold rowL
  have e:(a+1)*(a+1)=a*a+2*a+1:=by rw[Nat.add_mul,Nat.mul_add];omega
  omega
theorem allR_len {d:Int} (h0: -2000≤d) (h1:d≤ -3):(allR d).length≤676:=by
 have h2:=allB3_len d (aN d)
 have h3:=(aN_le h0 h1).2
 have:=Nat.mul_le_mul h3 h3
 unfold allR;omega
theorem allB3_form {d:Int} (h0: -2000≤d) (h1:d≤ -3): ∀a,a≤26→ ∀f ∈ allB3 d a,formB f.1 f.2.1 f.2.2=true:=by
 intro a
 induction a with
 |zero=>intro _ f hf;cases hf
 |succ a ih=>
  intro ha f hf
  rw[allB3_succ,List.mem_append] at hf
  rcases hf with hf|hf
  ·exact ih Vn f hf
  ·obtain ⟨j,hj,hp,rfl⟩:=flN_mem hf
   have ha1:1≤a:=by omega
   exact form_in (b:=1-(a:Int)+j) h0 h1 ha1 Vn Vn Vn
theorem allR_form {d:Int} (h0: -2000≤d) (h1:d≤ -3): ∀f ∈ allR d,formB f.1 f.2.1 f.2.2=true:=
 allB3_form h0 h1 _ (aN_le h0 h1).2
def primI (f:Int × Int × Int):Bool:=contI f.1 f.2.1 f.2.2==1
def primK (fs:List (Int × Int × Int)) (k:Nat):List (Int × Int × Int):=flN (fun i=>primI (fs.getD i (0,0,0))) (fun i=>fs.getD i (0,0,0)) k
def primL (fs:List (Int × Int × Int)):List (Int × Int × Int):=primK fs fs.length
theorem prim_no {fs:List (Int × Int × Int)} {k:Nat} {x y z:Int} (e0:(fs.getD k (0,0,0)).1=x) (e1:(fs.getD k (0,0,0)).2.1=y) (e2:(fs.getD k (0,0,0)).2.2=z) (h:contI x y z≠1):primK fs (k+1)=primK fs k:=by
 subst e0 e1 e2
 exact flN_no (p:=fun i=>primI (fs.getD i (0,0,0))) (by simpa [primI] using h)
theorem prim_yes {fs:List (Int × Int × Int)} {k:Nat} {x y z:Int} (e0:(fs.getD k (0,0,0)).1=x) (e1:(fs.getD k (0,0,0)).2.1=y) (e2:(fs.getD k (0,0,0)).2.2=z) (h:contI x y z=1):primK fs (k+1)=primK fs k++ [(x,y,z)]:=by
 subst e0 e1 e2
 exact flN_yes (p:=fun i=>primI (fs.getD i (0,0,0))) (by simpa [primI] using h)
def rfL (d:Int):List (Int × Int × Int):=primL (allR d)
theorem rfL_len {d:Int} (h0: -2000≤d) (h1:d≤ -3):(rfL d).length≤676:=Nat.le_trans (flN_len _ _ _) (allR_len h0 h1)

theorem foDisc_x (a b c:Int) (w:World) (h0:formB a b c=true):
  Calls Tryz.prog 108 #[.agg #[.int .i64 a,.int .i64 b,.int .i64 c]] w fun e w'=>e= .returned (.int .i64 (discI a b c))∧w'=w.alloc (.cells #[.int .i64 a,.int .i64 b,.int .i64 c] 81):=by
 obtain ⟨ha,hb,hc⟩:=form_true h0
 have m1:=num_mul hb hb
 have m2:=num_mul ha hc
 have m3:4*a*c=4*(a*c):=Int.mul_assoc _ _ _
 have m4: -4000000000000≤4*a*c∧4*a*c≤4000000000000:=by omega
 clear m2 m3
 clear h0
 go_enter Tryz.func108,Tryz.ntmps108
 go_wp2
 go_returns
 refine ⟨rfl,?_⟩
 rfl

theorem allReduced_a (d:Int) (w:World) (h0: -2000≤d) (h1:d≤ -3):
  Calls Tryz.prog 69 #[.int .i64 d] w (RetFL w (allR d)):=by
 obtain ⟨m1,m2⟩:=aN_le h0 h1
 go_enter Tryz.func69,Tryz.ntmps69
 go_wp2
 go_loopw [3,4] (fun ls xs wr=> ∃(a:Nat),1≤a∧a≤aN d∧xs= .int .i64 (a:Int)∧ ∃(g:Option Addr) (cp:Nat),ls= .slice g (allB3 d a).length cp∧FL wr w.heap.size (.slice g (allB3 d a).length cp) (allB3 d a)∧Below w.heap.size w wr) (fun _ xs _=>aN d-(intOf xs).toNat)
 case atStart=>exact ⟨1,Vn,Vn,rfl,some ⟨w.heap.size,0,none⟩,0,rfl,FL.made w _ (Nat.le_refl _),(Below.refl _ _).alloc (Nat.le_refl _) _⟩
 case round=>
  obtain ⟨a,h1a,hxa,rfl,g,cp,rfl,hl,hb⟩:=hrel
  obtain ⟨wo,rfl⟩: ∃wo:World,wo=wr:=⟨_,rfl⟩
  by_cases c1:a<aN d
  ·have hq:=(aN_iff h1).1 c1
   have hq0:0≤3*(a:Int)*(a:Int):=Int.mul_nonneg Vn Vn
   go_wp2
   go_loopw [3,5,6] (fun ls ys _ wr=> ∃(j:Nat) (b:Int),j≤2*a∧Hid (b=1-(a:Int)+j)∧ys= .int .i64 b∧ ∃(g:Option Addr) (cp:Nat),ls= .slice g (partL d a j).length cp∧FL wr w.heap.size (.slice g (partL d a j).length cp) (partL d a j)∧Below w.heap.size w wr) (fun _ ys _ _=>((a:Int)+1-intOf ys).toNat)
   case atStart=>exact ⟨0,1-(a:Int),Vn,hide Vn,rfl,g,cp,by rw[partL_zero],by rw[partL_zero];exact hl,hb⟩
   case round=>
    clear hl hb
    obtain ⟨j,b,hj,HB,rfl,g,cp,rfl,hl,hb⟩:=hrel
    obtain ⟨w1,rfl⟩: ∃w1:World,w1=wr:=⟨_,rfl⟩
    have hz:=hb.size
    have hlen:(partL d a j).length≤100000000:=by
     have q1:=allB3_len d a
     have q2:=flN_len (rowP d a) (rowE d a) j
     have q3:=Nat.mul_le_mul (show a≤26 by omega) (show a≤26 by omega)
     unfold partL;rw [List.length_append];unfold rowL;omega
    have b0: -26≤b:=by have:=unhide HB;omega
    by_cases c2:b≤a
    ·have c3:j<2*a:=by have:=unhide HB;omega
     obtain ⟨bb0,bb1⟩:=bb_bd b0 Vn
     obtain ⟨cc0,cc1⟩:=cOf_bd (b:=b) h0 h1 h1a ⟨bb0,bb1⟩
     have hform:=form_in (b:=b) h0 h1 h1a Vn b0 Vn
     have HFM:formB (a:Int) b ((b*b-d) / (4*(a:Int)))=true:=hform
     have cd0:0≤(b*b-d) / (4*(a:Int)):=cc0
     have cd1:(b*b-d) / (4*(a:Int))≤1000:=cc1
     cases hm:((b*b-d)%(4*(a:Int))==0)
     ·have t1:((b*b-d)%(4*(a:Int))==0)=false:=hm
      have t2:((b*b-d)%(4*(a:Int)) != 0)=true:=by simp [bne,hm]
      have el:=part_no (d:=d) (a:=a) (j:=j) (unhide HB) (by rw[hm];rfl)
      have EL:=hide el
      clear el
      go_wp2_with (go_at_call 96;refine (isReduced_x _ _ _ _ Vp).mono ?_;rintro e w' ⟨rfl,rfl⟩)
      all_goals
       go_roundw
       case rel=>first|exact ⟨j+1,b+1,Vn,hide VL,rfl,g,cp,by rw[unhide EL],by rw[unhide EL];first|exact hl|exact hl.alloc _|exact (hl.alloc _).alloc _|exact ((hl.alloc _).alloc _).alloc _,by (repeat' first|with_reducible (first|exact Below.refl _ _|assumption|refine gr_alloc ?_ _|refine below_drewN ?_ _|refine below_drew ?_|refine gr_call ?_ VV|refine Below.setCell ?_ ?_ _)|go_size|omega|(simp;omega))⟩|((repeat apply Exists.intro);exact ⟨⟨j+1,b+1,Vn,hide VL,rfl,g,cp,by rw[unhide EL],by rw[unhide EL];first|exact hl|exact hl.alloc _|exact (hl.alloc _).alloc _|exact ((hl.alloc _).alloc _).alloc _,by (repeat' first|with_reducible (first|exact Below.refl _ _|assumption|refine gr_alloc ?_ _|refine below_drewN ?_ _|refine below_drew ?_|refine gr_call ?_ VV|refine Below.setCell ?_ ?_ _)|go_size|omega|(simp;omega))⟩,rfl⟩)
       case measure=>simp [intOf];omega
     ·have t1:((b*b-d)%(4*(a:Int))==0)=true:=hm
      have t2:((b*b-d)%(4*(a:Int)) != 0)=false:=by simp [bne,hm]
      cases hr:redB a b (cOf d a b)
      ·have t5:redB (a:Int) b ((b*b-d) / (4*(a:Int)))=false:=hr
       have el:=part_no (d:=d) (a:=a) (j:=j) (unhide HB) (by rw[hr,Bool.and_false])
       have EL:=hide el
       clear el
       go_wp2_with (go_at_call 96;refine (isReduced_x _ _ _ _ Vp).mono ?_;rintro e w' ⟨rfl,rfl⟩)
       all_goals
        go_roundw
        case rel=>first|exact ⟨j+1,b+1,Vn,hide VL,rfl,g,cp,by rw[unhide EL],by rw[unhide EL];first|exact hl|exact hl.alloc _|exact (hl.alloc _).alloc _|exact ((hl.alloc _).alloc _).alloc _,by (repeat' first|with_reducible (first|exact Below.refl _ _|assumption|refine gr_alloc ?_ _|refine below_drewN ?_ _|refine below_drew ?_|refine gr_call ?_ VV|refine Below.setCell ?_ ?_ _)|go_size|omega|(simp;omega))⟩|((repeat apply Exists.intro);exact ⟨⟨j+1,b+1,Vn,hide VL,rfl,g,cp,by rw[unhide EL],by rw[unhide EL];first|exact hl|exact hl.alloc _|exact (hl.alloc _).alloc _|exact ((hl.alloc _).alloc _).alloc _,by (repeat' first|with_reducible (first|exact Below.refl _ _|assumption|refine gr_alloc ?_ _|refine below_drewN ?_ _|refine below_drew ?_|refine gr_call ?_ VV|refine Below.setCell ?_ ?_ _)|go_size|omega|(simp;omega))⟩,rfl⟩)
        case measure=>simp [intOf];omega
      ·have t5:redB (a:Int) b ((b*b-d) / (4*(a:Int)))=true:=hr
       have el:=part_yes (d:=d) (a:=a) (j:=j) (unhide HB) (by rw[hm,hr];rfl)
       have EL:=hide el
       clear el
       go_wp2_with (first|(go_at_call 96;refine (isReduced_x _ _ _ _ Vp).mono ?_;rintro e w' ⟨rfl,rfl⟩)|(at_builtin;refine app_FL _ rfl (.tmp 46) (.tmp 48) rfl w.heap.size (.slice g (partL d a j).length cp) (partL d a j) (a:Int) b ((b*b-d) / (4*(a:Int))) (w1.heap.size+1+1+1) rfl rfl ((((hl.alloc _).alloc _).alloc _).alloc _) VB VB VB Vn (by first|omega|(simp;omega)|go_simp) ?_;intro g2 cap w2 hown hgrow hat hlt))
       go_roundw
       case rel=>
        refine ⟨j+1,b+1,Vn,hide VL,rfl,some ⟨g2,0,none⟩,cap,?_,?_,?_⟩
        ·rw [unhide EL,List.length_append];rfl
        ·rw [unhide EL,List.length_append];exact hown
        ·exact ((((hb.alloc hz _).alloc VX _).alloc VX _).alloc VX _).grown hgrow VX (fun k hk=>(hl.lt k hk).1)
       case measure=>simp [intOf];omega
    ·have c3:j=2*a:=by have:=unhide HB;omega
     have el:partL d a j=allB3 d (a+1):=by rw[c3];rfl
     have EL:=hide el
     clear el c3
     go_wp2
     go_roundw
     case rel=>first|exact ⟨a+1,Vn,Vn,by first|rfl|go_num,g,cp,by rw[←unhide EL],by rw[←unhide EL];exact hl,hb⟩|((repeat apply Exists.intro);exact ⟨⟨a+1,Vn,Vn,by first|rfl|go_num,g,cp,by rw[←unhide EL],by rw[←unhide EL];exact hl,hb⟩,rfl⟩)
     case measure=>simp [intOf];omega
  ·have hq: ¬3*(a:Int)*(a:Int)≤ -d:=fun h=>c1 ((aN_iff h1).2 h)
   have e:a=aN d:=by omega
   have hq2: -d<3*(a:Int)*(a:Int):=by omega
   have hq3:3*(a:Int)*(a:Int)≤3*26*26:=by
    have:=mul_bd (a:=3*(a:Int)) (b:=(a:Int)) (A:=78) (B:=26) Vn Vn Vn;omega
   have E:=hide e
   clear e hq
   go_wp2
   go_ret
   exact ⟨g,cp,by rw[unhide E];rfl,by rw[unhide E] at hl;exact hl,hb⟩

theorem reAll_a (d:Int) (w:World) (h0: -2000≤d) (h1:d≤ -3):
  Calls Tryz.prog 81 #[.int .i64 d] w (RetFL w (allR d)):=by
 obtain ⟨m1,m2⟩:=aN_le h0 h1
 go_enter Tryz.func81,Tryz.ntmps81
 go_wp2
 go_loopw [3,4] (fun ls xs wr=> ∃(a:Nat),1≤a∧a≤aN d∧xs= .int .i64 (a:Int)∧ ∃(g:Option Addr) (cp:Nat),ls= .slice g (allB3 d a).length cp∧FL wr w.heap.size (.slice g (allB3 d a).length cp) (allB3 d a)∧Below w.heap.size w wr) (fun _ xs _=>aN d-(intOf xs).toNat)
 case atStart=>exact ⟨1,Vn,Vn,rfl,none,0,rfl,FL.nil _ _,Below.refl _ _⟩
 case round=>
  obtain ⟨a,h1a,hxa,rfl,g,cp,rfl,hl,hb⟩:=hrel
  obtain ⟨wo,rfl⟩: ∃wo:World,wo=wr:=⟨_,rfl⟩
  by_cases c1:a<aN d
  ·have hq:=(aN_iff h1).1 c1
   have hq0:0≤3*(a:Int)*(a:Int):=Int.mul_nonneg Vn Vn
   go_wp2
   go_loopw [3,5,6] (fun ls ys _ wr=> ∃(j:Nat) (b:Int),j≤2*a∧Hid (b=1-(a:Int)+j)∧ys= .int .i64 b∧ ∃(g:Option Addr) (cp:Nat),ls= .slice g (partL d a j).length cp∧FL wr w.heap.size (.slice g (partL d a j).length cp) (partL d a j)∧Below w.heap.size w wr) (fun _ ys _ _=>((a:Int)+1-intOf ys).toNat)
   case atStart=>exact ⟨0,1-(a:Int),Vn,hide Vn,rfl,g,cp,by rw[partL_zero],by rw[partL_zero];exact hl,hb⟩
   case round=>
    clear hl hb
    obtain ⟨j,b,hj,HB,rfl,g,cp,rfl,hl,hb⟩:=hrel
    obtain ⟨w1,rfl⟩: ∃w1:World,w1=wr:=⟨_,rfl⟩
    have hz:=hb.size
    have hlen:(partL d a j).length≤100000000:=by
     have q1:=allB3_len d a
     have q2:=flN_len (rowP d a) (rowE d a) j
     have q3:=Nat.mul_le_mul (show a≤26 by omega) (show a≤26 by omega)
     unfold partL;rw [List.length_append];unfold rowL;omega
    have b0: -26≤b:=by have:=unhide HB;omega
    by_cases c2:b≤a
    ·have c3:j<2*a:=by have:=unhide HB;omega
     obtain ⟨bb0,bb1⟩:=bb_bd b0 Vn
     obtain ⟨cc0,cc1⟩:=cOf_bd (b:=b) h0 h1 h1a ⟨bb0,bb1⟩
     have hform:=form_in (b:=b) h0 h1 h1a Vn b0 Vn
     have HFM:formB (a:Int) b ((b*b-d) / (4*(a:Int)))=true:=hform
     have cd0:0≤(b*b-d) / (4*(a:Int)):=cc0
     have cd1:(b*b-d) / (4*(a:Int))≤1000:=cc1
     cases hm:((b*b-d)%(4*(a:Int))==0)
     ·have t1:((b*b-d)%(4*(a:Int))==0)=false:=hm
      have t2:((b*b-d)%(4*(a:Int)) != 0)=true:=by simp [bne,hm]
      have t3:(discI (a:Int) b ((b*b-d) / (4*(a:Int)))==d)=false:=(disc_of h1a).trans hm
      have el:=part_no (d:=d) (a:=a) (j:=j) (unhide HB) (by rw[hm];rfl)
      have EL:=hide el
      clear el
      go_wp2_with (first|(go_at_call 108;refine (foDisc_x _ _ _ _ Vp).mono ?_;rintro e w' ⟨rfl,rfl⟩)|(go_at_call 109;refine (reIs_x _ _ _ _ Vp).mono ?_;rintro e w' ⟨rfl,rfl⟩))
      all_goals
       go_roundw
       case rel=>first|exact ⟨j+1,b+1,Vn,hide VL,rfl,g,cp,by rw[unhide EL],by rw[unhide EL];first|exact hl|exact hl.alloc _|exact (hl.alloc _).alloc _|exact ((hl.alloc _).alloc _).alloc _,by (repeat' first|with_reducible (first|exact Below.refl _ _|assumption|refine gr_alloc ?_ _|refine below_drewN ?_ _|refine below_drew ?_|refine gr_call ?_ VV|refine Below.setCell ?_ ?_ _)|go_size|omega|(simp;omega))⟩|((repeat apply Exists.intro);exact ⟨⟨j+1,b+1,Vn,hide VL,rfl,g,cp,by rw[unhide EL],by rw[unhide EL];first|exact hl|exact hl.alloc _|exact (hl.alloc _).alloc _|exact ((hl.alloc _).alloc _).alloc _,by (repeat' first|with_reducible (first|exact Below.refl _ _|assumption|refine gr_alloc ?_ _|refine below_drewN ?_ _|refine below_drew ?_|refine gr_call ?_ VV|refine Below.setCell ?_ ?_ _)|go_size|omega|(simp;omega))⟩,rfl⟩)
       case measure=>simp [intOf];omega
     ·have t1:((b*b-d)%(4*(a:Int))==0)=true:=hm
      have t2:((b*b-d)%(4*(a:Int)) != 0)=false:=by simp [bne,hm]
      have t3:(discI (a:Int) b ((b*b-d) / (4*(a:Int)))==d)=true:=(disc_of h1a).trans hm
      cases hr:redB a b (cOf d a b)
      ·have t5:redB (a:Int) b ((b*b-d) / (4*(a:Int)))=false:=hr
       have el:=part_no (d:=d) (a:=a) (j:=j) (unhide HB) (by rw[hr,Bool.and_false])
       have EL:=hide el
       clear el
       go_wp2_with (first|(go_at_call 108;refine (foDisc_x _ _ _ _ Vp).mono ?_;rintro e w' ⟨rfl,rfl⟩)|(go_at_call 109;refine (reIs_x _ _ _ _ Vp).mono ?_;rintro e w' ⟨rfl,rfl⟩))
       all_goals
        go_roundw
        case rel=>first|exact ⟨j+1,b+1,Vn,hide VL,rfl,g,cp,by rw[unhide EL],by rw[unhide EL];first|exact hl|exact hl.alloc _|exact (hl.alloc _).alloc _|exact ((hl.alloc _).alloc _).alloc _,by (repeat' first|with_reducible (first|exact Below.refl _ _|assumption|refine gr_alloc ?_ _|refine below_drewN ?_ _|refine below_drew ?_|refine gr_call ?_ VV|refine Below.setCell ?_ ?_ _)|go_size|omega|(simp;omega))⟩|((repeat apply Exists.intro);exact ⟨⟨j+1,b+1,Vn,hide VL,rfl,g,cp,by rw[unhide EL],by rw[unhide EL];first|exact hl|exact hl.alloc _|exact (hl.alloc _).alloc _|exact ((hl.alloc _).alloc _).alloc _,by (repeat' first|with_reducible (first|exact Below.refl _ _|assumption|refine gr_alloc ?_ _|refine below_drewN ?_ _|refine below_drew ?_|refine gr_call ?_ VV|refine Below.setCell ?_ ?_ _)|go_size|omega|(simp;omega))⟩,rfl⟩)
        case measure=>simp [intOf];omega
      ·have t5:redB (a:Int) b ((b*b-d) / (4*(a:Int)))=true:=hr
       have el:=part_yes (d:=d) (a:=a) (j:=j) (unhide HB) (by rw[hm,hr];rfl)
       have EL:=hide el
       clear el
       go_wp2_with (first|(first|(go_at_call 108;refine (foDisc_x _ _ _ _ Vp).mono ?_;rintro e w' ⟨rfl,rfl⟩)|(go_at_call 109;refine (reIs_x _ _ _ _ Vp).mono ?_;rintro e w' ⟨rfl,rfl⟩))|(at_builtin;refine app_FL _ rfl (.tmp 42) (.tmp 44) rfl w.heap.size (.slice g (partL d a j).length cp) (partL d a j) (a:Int) b ((b*b-d) / (4*(a:Int))) (w1.heap.size+1+1+1) rfl rfl ((((hl.alloc _).alloc _).alloc _).alloc _) VB VB VB Vn (by first|omega|(simp;omega)|go_simp) ?_;intro g2 cap w2 hown hgrow hat hlt))
       go_roundw
       case rel=>
        refine ⟨j+1,b+1,Vn,hide VL,rfl,some ⟨g2,0,none⟩,cap,?_,?_,?_⟩
        ·rw [unhide EL,List.length_append];rfl
        ·rw [unhide EL,List.length_append];exact hown
        ·exact ((((hb.alloc hz _).alloc VX _).alloc VX _).alloc VX _).grown hgrow VX (fun k hk=>(hl.lt k hk).1)
       case measure=>simp [intOf];omega
    ·have c3:j=2*a:=by have:=unhide HB;omega
     have el:partL d a j=allB3 d (a+1):=by rw[c3];rfl
     have EL:=hide el
     clear el c3
     go_wp2
     go_roundw
     case rel=>first|exact ⟨a+1,Vn,Vn,by first|rfl|go_num,g,cp,by rw[←unhide EL],by rw[←unhide EL];exact hl,hb⟩|((repeat apply Exists.intro);exact ⟨⟨a+1,Vn,Vn,by first|rfl|go_num,g,cp,by rw[←unhide EL],by rw[←unhide EL];exact hl,hb⟩,rfl⟩)
     case measure=>simp [intOf];omega
  ·have hq: ¬3*(a:Int)*(a:Int)≤ -d:=fun h=>c1 ((aN_iff h1).2 h)
   have e:a=aN d:=by omega
   have hq2: -d<3*(a:Int)*(a:Int):=by omega
   have hq3:3*(a:Int)*(a:Int)≤3*26*26:=by
    have:=mul_bd (a:=3*(a:Int)) (b:=(a:Int)) (A:=78) (B:=26) Vn Vn Vn;omega
   have E:=hide e
   clear e hq
   go_wp2
   go_ret
   exact ⟨g,cp,by rw[unhide E];rfl,by rw[unhide E] at hl;exact hl,hb⟩

end Go.Proofs.YtobkcnmlmmhpoaaGreatDoor
