/- Forms, matrices and their validity on both sides. Which forms are reduced, on both sides. Levels on both sides. Slices of Forms in blocks of the call's own, and the laws' helpers over them. Lists of integers that a call builds by append, in blocks of its own. Lists of integers that a loop filters. Plain arithmetic: numbers of representations by sums of squares, by finite sums. No program in sight. -/
import Derived.Test.YtobkcnmlmmhpoaaGreatDoorNum
import Derived.Deep.QuietTactic
import Derived.BigQuiet
import Derived.Deep.RegionWith
import Derived.Deep.RegionHeld3
import Derived.Deep.DeepCutAuto
import Derived.Deep.AppendLies
namespace Go.Proofs.YtobkcnmlmmhpoaaGreatDoor
set_option maxRecDepth 100000
set_option maxHeartbeats 80000000
open Go.RowKit
set_option linter.unusedVariables false
set_option linter.unusedSimpArgs false
attribute [local go_sem] q2 q3 q4 q5 q6 q7 q8 q9 q10 q11 q12

def numB (n:Int):Bool:=inB n (-1000000) 1000000
def formB (a b c:Int):Bool:=allB [a,b,c] (-1000000) 1000000
theorem form_true {a b c:Int} (h:formB a b c=true):(-1000000≤a∧a≤1000000)∧(-1000000≤b∧b≤1000000)∧(-1000000≤c∧c≤1000000):=by
 have:=allB_mem h
 simpa only[List.mem_cons,List.not_mem_nil,or_false,forall_eq_or_imp,forall_eq] using this
theorem mul_bd {a b A B:Int} (hA:0≤A) (ha: -A≤a∧a≤A) (hb: -B≤b∧b≤B): -(A*B)≤a*b∧a*b≤A*B:=by
 have h1:a.natAbs≤A.natAbs:=by omega
 have h2:b.natAbs≤B.natAbs:=by omega
 have h3:=Nat.mul_le_mul h1 h2
 rw[←Int.natAbs_mul,←Int.natAbs_mul] at h3
 have h4:0≤A*B:=Int.mul_nonneg hA Vn
 omega
theorem num_mul {a b:Int} (ha: -1000000≤a∧a≤1000000) (hb: -1000000≤b∧b≤1000000): -1000000000000≤a*b∧a*b≤1000000000000:=by
 have:=mul_bd Vn ha hb;omega
def discI (a b c:Int):Int:=b*b-4*a*c
theorem form_num (a b c:Int):formB a b c=(numB a&&(numB b&&numB c)):=by simp [formB,allB,numB]
def contI (a b c:Int):Int:=igcd a (igcd b c)
theorem cont_alt (a b c:Int):igcd (igcd a b) c=contI a b c:=by
 unfold contI igcd Int.gcd
 simp only[Int.natAbs_natCast]
 rw[Nat.gcd_assoc]
def defB (a b c:Int):Bool:=formB a b c&&(decide (discI a b c<0)&&decide (0<a))
def shownB (a b c:Int):Bool:=defB a b c&&decide (-2000≤discI a b c)
def classB (a b c:Int):Bool:=shownB a b c&&(contI a b c==1)
theorem def_form {a b c:Int} (h:defB a b c=true):formB a b c=true:=by unfold defB at h;simp at h;exact h.1
theorem shown_def {a b c:Int} (h:shownB a b c=true):defB a b c=true:=by unfold shownB at h;simp at h;exact h.1
theorem class_shown {a b c:Int} (h:classB a b c=true):shownB a b c=true:=by unfold classB at h;simp at h;exact h.1
theorem class_form {a b c:Int} (h:classB a b c=true):formB a b c=true:=def_form (shown_def (class_shown h))
theorem class_disc {a b c:Int} (h:classB a b c=true): -2000≤discI a b c∧discI a b c<0:=by
 have h1:=class_shown h
 have h2:=shown_def h1
 unfold shownB at h1;unfold defB at h2;simp at h1 h2;omega

theorem disc_a (a b c:Int) (w:World) (h0:formB a b c=true):
  Calls Tryz.prog 99 #[.agg #[.int .i64 a,.int .i64 b,.int .i64 c]] w fun e w'=>e= .returned (.int .i64 (discI a b c))∧Below w.heap.size w w':=by
 obtain ⟨ha,hb,hc⟩:=form_true h0
 have m1:=num_mul hb hb
 have m2:=num_mul ha hc
 have m3:4*a*c=4*(a*c):=Int.mul_assoc _ _ _
 have m4: -4000000000000≤4*a*c∧4*a*c≤4000000000000:=by omega
 clear m2 m3
 clear h0
 go_enter Tryz.func99,Tryz.ntmps99
 go_wp2
 go_returns
 refine ⟨rfl,?_⟩
 (repeat' (first|(with_reducible exact Below.refl _ _)|(with_reducible assumption)|(with_reducible refine gr_alloc ?_ _)|(with_reducible refine below_drewN ?_ _)|(with_reducible refine below_drew ?_)|(with_reducible refine gr_call ?_ VV)|(with_reducible refine Below.setCell ?_ ?_ _)|go_size|omega|(simp;omega)))

theorem foDisc_a (a b c:Int) (w:World) (h0:formB a b c=true):
  Calls Tryz.prog 108 #[.agg #[.int .i64 a,.int .i64 b,.int .i64 c]] w fun e w'=>e= .returned (.int .i64 (discI a b c))∧Below w.heap.size w w':=by
 obtain ⟨ha,hb,hc⟩:=form_true h0
 have m1:=num_mul hb hb
 have m2:=num_mul ha hc
 have m3:4*a*c=4*(a*c):=Int.mul_assoc _ _ _
 have m4: -4000000000000≤4*a*c∧4*a*c≤4000000000000:=by omega
 clear m2 m3
 clear h0
 go_enter Tryz.func108,Tryz.ntmps108
 go_wp2
 go_returns
 refine ⟨rfl,?_⟩
 (repeat' (first|(with_reducible exact Below.refl _ _)|(with_reducible assumption)|(with_reducible refine gr_alloc ?_ _)|(with_reducible refine below_drewN ?_ _)|(with_reducible refine below_drew ?_)|(with_reducible refine gr_call ?_ VV)|(with_reducible refine Below.setCell ?_ ?_ _)|go_size|omega|(simp;omega)))

theorem content_a (a b c:Int) (w:World) (h0:formB a b c=true):
  Calls Tryz.prog 95 #[.agg #[.int .i64 a,.int .i64 b,.int .i64 c]] w fun e w'=>e= .returned (.int .i64 (contI a b c))∧Below w.heap.size w w':=by
 obtain ⟨ha,hb,hc⟩:=form_true h0
 clear h0
 have g0:=gcd_le_bd (a:=b) (b:=c) Vn Vn
 go_enter Tryz.func95,Tryz.ntmps95
 go_wp2
 go_quiet ((go_at_call 36;exact Calls.quiet_of (gcd_a _ _ _ Vp Vp)))
 go_wp2
 go_returns
 exact ⟨rfl,by (repeat' (first|(with_reducible exact Below.refl _ _)|(with_reducible assumption)|(with_reducible refine gr_alloc ?_ _)|(with_reducible refine below_drewN ?_ _)|(with_reducible refine below_drew ?_)|(with_reducible refine gr_call ?_ VV)|(with_reducible refine Below.setCell ?_ ?_ _)|go_size|omega|(simp;omega)))⟩

theorem foContent_a (a b c:Int) (w:World) (h0:formB a b c=true):
  Calls Tryz.prog 82 #[.agg #[.int .i64 a,.int .i64 b,.int .i64 c]] w fun e w'=>e= .returned (.int .i64 (contI a b c))∧Below w.heap.size w w':=by
 obtain ⟨ha,hb,hc⟩:=form_true h0
 clear h0
 have g0:=gcd_le_bd (a:=a) (b:=b) Vn Vn
 have HE:=hide (cont_alt a b c)
 go_enter Tryz.func82,Tryz.ntmps82
 go_wp2
 go_quiet ((go_at_call 110;exact Calls.quiet_of (nuGcd_a _ _ _ Vp Vp)))
 go_wp2
 go_returns
 exact ⟨ret_int (unhide HE),by (repeat' (first|(with_reducible exact Below.refl _ _)|(with_reducible assumption)|(with_reducible refine gr_alloc ?_ _)|(with_reducible refine below_drewN ?_ _)|(with_reducible refine below_drew ?_)|(with_reducible refine gr_call ?_ VV)|(with_reducible refine Below.setCell ?_ ?_ _)|go_size|omega|(simp;omega)))⟩

end Go.Proofs.YtobkcnmlmmhpoaaGreatDoor
namespace Go.Proofs.YtobkcnmlmmhpoaaGreatDoor
open Go.RowKit
set_option linter.unusedVariables false
set_option linter.unusedSimpArgs false
attribute [local go_sem] q2 q3 q4 q5 q6 q7 q8 q9 q10 q11 q12

def normB (a b:Int):Bool:=decide (-a<b)&&decide (b≤a)
def redB (a b c:Int):Bool:=normB a b&&(decide (a<c) || (decide (a=c)&&decide (0≤b)))
theorem isNormal_x (a b c:Int) (w:World) (h0: -1000000000000000000≤a∧a≤1000000000000000000):
  Calls Tryz.prog 127 #[.agg #[.int .i64 a,.int .i64 b,.int .i64 c]] w fun e w'=>e= .returned (.bool (normB a b))∧w'=w.alloc (.cells #[.int .i64 a,.int .i64 b,.int .i64 c] 81):=by
 by_cases k0: -a<b
 ·by_cases k1:b≤a
  ·go_enter Tryz.func127,Tryz.ntmps127
   go_wp2
   go_returns
   refine ⟨ret_bool (by simp [normB,k0,k1]<;>(try (intros;omega))),?_⟩
   rfl
  ·go_enter Tryz.func127,Tryz.ntmps127
   go_wp2
   go_returns
   refine ⟨ret_bool (by simp [normB,k0,k1]<;>(try (intros;omega))),?_⟩
   rfl
 ·go_enter Tryz.func127,Tryz.ntmps127
  go_wp2
  go_returns
  refine ⟨ret_bool (by simp [normB,k0]<;>(try (intros;omega))),?_⟩
  rfl

theorem isReduced_x (a b c:Int) (w:World) (h0: -1000000000000000000≤a∧a≤1000000000000000000):
  Calls Tryz.prog 96 #[.agg #[.int .i64 a,.int .i64 b,.int .i64 c]] w fun e w'=>e= .returned (.bool (redB a b c))∧w'=(w.alloc (.cells #[.int .i64 a,.int .i64 b,.int .i64 c] 81)).alloc (.cells #[.int .i64 a,.int .i64 b,.int .i64 c] 81):=by
 cases k0:normB a b
 ·go_enter Tryz.func96,Tryz.ntmps96
  go_wp2_with (go_at_call 127;refine (isNormal_x _ _ _ _ Vp).mono ?_;rintro e w' ⟨rfl,rfl⟩)
  go_returns
  refine ⟨ret_bool (by simp [redB,k0]<;>(try (intros;omega))),?_⟩
  rfl
 ·by_cases k1:a<c
  ·go_enter Tryz.func96,Tryz.ntmps96
   go_wp2_with (go_at_call 127;refine (isNormal_x _ _ _ _ Vp).mono ?_;rintro e w' ⟨rfl,rfl⟩)
   go_returns
   refine ⟨ret_bool (by simp [redB,k0,k1]<;>(try (intros;omega))),?_⟩
   rfl
  ·by_cases k2:a=c
   ·subst k2
    by_cases k3:0≤b
    ·go_enter Tryz.func96,Tryz.ntmps96
     go_wp2_with (go_at_call 127;refine (isNormal_x _ _ _ _ Vp).mono ?_;rintro e w' ⟨rfl,rfl⟩)
     go_returns
     refine ⟨ret_bool (by simp [redB,k0,k3]<;>(try (intros;omega))),?_⟩
     rfl
    ·go_enter Tryz.func96,Tryz.ntmps96
     go_wp2_with (go_at_call 127;refine (isNormal_x _ _ _ _ Vp).mono ?_;rintro e w' ⟨rfl,rfl⟩)
     go_returns
     refine ⟨ret_bool (by simp [redB,k0,k3]<;>(try (intros;omega))),?_⟩
     rfl
   ·go_enter Tryz.func96,Tryz.ntmps96
    go_wp2_with (go_at_call 127;refine (isNormal_x _ _ _ _ Vp).mono ?_;rintro e w' ⟨rfl,rfl⟩)
    go_returns
    refine ⟨ret_bool (by simp [redB,k0,k1,k2]<;>(try (intros;omega))),?_⟩
    rfl

theorem reIs_x (a b c:Int) (w:World) (h0: -1000000000000000000≤a∧a≤1000000000000000000):
  Calls Tryz.prog 109 #[.agg #[.int .i64 a,.int .i64 b,.int .i64 c]] w fun e w'=>e= .returned (.bool (redB a b c))∧w'=w.alloc (.cells #[.int .i64 a,.int .i64 b,.int .i64 c] 81):=by
 by_cases n0: -a<b
 ·by_cases n1:b≤a
  ·by_cases k1:a<c
   ·go_enter Tryz.func109,Tryz.ntmps109
    go_wp2
    go_returns
    refine ⟨ret_bool (by simp [redB,normB,n0,n1,k1]<;>(try (intros;omega))),?_⟩
    rfl
   ·by_cases k2:a=c
    ·subst k2
     by_cases k3:0≤b
     ·go_enter Tryz.func109,Tryz.ntmps109
      go_wp2
      go_returns
      refine ⟨ret_bool (by simp [redB,normB,n0,n1,k3]<;>(try (intros;omega))),?_⟩
      rfl
     ·go_enter Tryz.func109,Tryz.ntmps109
      go_wp2
      go_returns
      refine ⟨ret_bool (by simp [redB,normB,n0,n1,k3]<;>(try (intros;omega))),?_⟩
      rfl
    ·go_enter Tryz.func109,Tryz.ntmps109
     go_wp2
     go_returns
     refine ⟨ret_bool (by simp [redB,normB,n0,n1,k1,k2]<;>(try (intros;omega))),?_⟩
     rfl
  ·go_enter Tryz.func109,Tryz.ntmps109
   go_wp2
   go_returns
   refine ⟨ret_bool (by simp [redB,normB,n0,n1]<;>(try (intros;omega))),?_⟩
   rfl
 ·go_enter Tryz.func109,Tryz.ntmps109
  go_wp2
  go_returns
  refine ⟨ret_bool (by simp [redB,normB,n0]<;>(try (intros;omega))),?_⟩
  rfl

end Go.Proofs.YtobkcnmlmmhpoaaGreatDoor
namespace Go.Proofs.YtobkcnmlmmhpoaaGreatDoor
open Go.RowKit
set_option linter.unusedVariables false
set_option linter.unusedSimpArgs false
attribute [local go_sem] q2 q3 q4 q5 q6 q7 q8 q9 q10 q11 q12

def negB (d:Int):Bool:=inB d (-2000) (-3)&&decide (d%4≤1)
theorem neg_true {d:Int} (h:negB d=true): -2000≤d∧d≤ -3:=by
 unfold negB at h;simp at h;exact inB_true h.1
theorem isNegativeDisc_a (d:Int) (w:World):
  Calls Tryz.prog 31 #[.int .i64 d] w fun e w'=>e= .returned (.bool (negB d))∧w=w':=by
 by_cases k0: -2000≤d
 ·by_cases k1:d≤ -3
  ·by_cases k2:d%4≤1
   ·go_enter Tryz.func31,Tryz.ntmps31
    go_wp2_with (go_at_call 53;refine (mod_a _ _ _ Vp Vp Vp).mono ?_;rintro e w' ⟨rfl,rfl⟩)
    go_returns
    exact ⟨ret_bool (by simp [negB,inB,k0,k1,k2]<;>(try (intros;omega))),rfl⟩
   ·go_enter Tryz.func31,Tryz.ntmps31
    go_wp2_with (go_at_call 53;refine (mod_a _ _ _ Vp Vp Vp).mono ?_;rintro e w' ⟨rfl,rfl⟩)
    go_returns
    exact ⟨ret_bool (by simp [negB,inB,k0,k1,k2]<;>(try (intros;omega))),rfl⟩
  ·go_enter Tryz.func31,Tryz.ntmps31
   go_wp2_with (go_at_call 53;refine (mod_a _ _ _ Vp Vp Vp).mono ?_;rintro e w' ⟨rfl,rfl⟩)
   go_returns
   exact ⟨ret_bool (by simp [negB,inB,k0,k1]<;>(try (intros;omega))),rfl⟩
 ·go_enter Tryz.func31,Tryz.ntmps31
  go_wp2_with (go_at_call 53;refine (mod_a _ _ _ Vp Vp Vp).mono ?_;rintro e w' ⟨rfl,rfl⟩)
  go_returns
  exact ⟨ret_bool (by simp [negB,inB,k0]<;>(try (intros;omega))),rfl⟩

theorem reDisc_a (d:Int) (w:World):
  Calls Tryz.prog 49 #[.int .i64 d] w fun e w'=>e= .returned (.bool (negB d))∧w=w':=by
 cases k0:inB d (-2000) (-3)
 ·go_enter Tryz.func49,Tryz.ntmps49
  go_wp2_with (first|(go_at_call 48;refine (l1In_any _ _ _ _).mono ?_;rintro e w' ⟨rfl,rfl⟩)|(go_at_call 77;refine (nuMod_a _ _ _ Vp Vp Vp).mono ?_;rintro e w' ⟨rfl,rfl⟩))
  go_returns
  exact ⟨ret_bool (by simp [negB,k0]<;>(try (intros;omega))),rfl⟩
 ·obtain ⟨e0,e1⟩:=inB_true k0
  by_cases k1:d%4≤1
  ·go_enter Tryz.func49,Tryz.ntmps49
   go_wp2_with (first|(go_at_call 48;refine (l1In_any _ _ _ _).mono ?_;rintro e w' ⟨rfl,rfl⟩)|(go_at_call 77;refine (nuMod_a _ _ _ Vp Vp Vp).mono ?_;rintro e w' ⟨rfl,rfl⟩))
   go_returns
   exact ⟨ret_bool (by simp [negB,k0,k1]<;>(try (intros;omega))),rfl⟩
  ·go_enter Tryz.func49,Tryz.ntmps49
   go_wp2_with (first|(go_at_call 48;refine (l1In_any _ _ _ _).mono ?_;rintro e w' ⟨rfl,rfl⟩)|(go_at_call 77;refine (nuMod_a _ _ _ Vp Vp Vp).mono ?_;rintro e w' ⟨rfl,rfl⟩))
   go_returns
   exact ⟨ret_bool (by simp [negB,k0,k1]<;>(try (intros;omega))),rfl⟩

end Go.Proofs.YtobkcnmlmmhpoaaGreatDoor
namespace Go.Proofs.YtobkcnmlmmhpoaaGreatDoor
open Go.RowKit
set_option linter.unusedVariables false
set_option linter.unusedSimpArgs false

def FormsAt (w:World) (lo hi:Nat) (a:Option Addr) (n:Nat) (f:Nat→Int):Prop:=
 n=0∨ ∃g cap F,a=some ⟨g,0,none⟩∧lo≤g∧g<hi∧n≤cap∧w.rowIs g 81 (cap*3) F∧ ∀i,i<n*3→F i= .int .i64 (f i)
theorem FormsAt.keep {w w':World} {lo hi:Nat} {a:Option Addr} {n:Nat} {f:Nat→Int} (h:FormsAt w lo hi a n f) (hk: ∀k,lo≤k→k<hi→w'.heap[k]? =w.heap[k]?):FormsAt w' lo hi a n f:=by
 rcases h with h|⟨g,cap,F,ha,h1,h2,h3,h4,h5⟩
 ·exact .inl h
 ·exact .inr ⟨g,cap,F,ha,h1,h2,h3,h4.of_block (hk g h1 h2),h5⟩
theorem FormsAt.below {w w':World} {lo hi B:Nat} {a:Option Addr} {n:Nat} {f:Nat→Int} (h:FormsAt w lo hi a n f) (hb:Below B w w') (hB:hi≤B):FormsAt w' lo hi a n f:=
 h.keep fun k _ h2=>hb.block k Vn

theorem Tryz.infoForm:(Tryz.prog.info? 81).map (fun i=>(i.zero,i.size,i.bytes))=some (some (.agg #[.int .i64 0,.int .i64 0,.int .i64 0]),3,24):=by kernel_rfl
def FormL (w:World) (lo:Nat) (v:Value) (n:Nat) (zs:List Int):Prop:=w.ownsRow lo 81 3 v n (zs.map (Value.int .i64))
theorem FormL.nil (w:World) (lo:Nat):FormL w lo (.slice none 0 0) 0 []:=World.ownsRow_nil _ _ _ _
theorem FormL.made (w:World) (lo:Nat) (h:lo≤w.heap.size):FormL (w.alloc (.cells #[] 81)) lo (.slice (some ⟨w.heap.size,0,none⟩) 0 0) 0 []:=
 World.ownsRow_made w #[] 0 h VA rfl
theorem FormL.alloc {w:World} {lo:Nat} {v:Value} {n:Nat} {zs:List Int} (h:FormL w lo v n zs) (o:Obj):FormL (w.alloc o) lo v n zs:=World.ownsRow.alloc h o
theorem FormL.kept {w w':World} {lo:Nat} {v:Value} {n:Nat} {zs:List Int} {row:Option Nat} (h:FormL w lo v n zs) (hg:w.grownBy w' row) (hne:v.ownBlock=none∨v.ownBlock≠row):FormL w' lo v n zs:=World.ownsRow.kept h hg hne
theorem FormL.lt {w:World} {lo:Nat} {v:Value} {n:Nat} {zs:List Int} (h:FormL w lo v n zs): ∀k,v.ownBlock=some k→lo≤k∧k<w.heap.size:=World.ownsRow.lt h
theorem FormL.below {w w':World} {lo:Nat} {v:Value} {n:Nat} {zs:List Int} (h:FormL w lo v n zs) (hb:Below w.heap.size w w'):FormL w' lo v n zs:=
 h.kept (row:=none) ⟨hb.os,hb.tape,hb.output,hb.size,fun k hk _=>hb.block k hk⟩ (by cases v.ownBlock<;>simp)
theorem FormL.len {w:World} {lo:Nat} {v:Value} {n:Nat} {zs:List Int} (h:FormL w lo v n zs):zs.length=n*3:=by
 have:=h.1
 simpa using this
theorem FormL.at {w:World} {lo:Nat} {a:Option Addr} {n m c:Nat} {zs:List Int} (h:FormL w lo (.slice a m c) n zs):m=n∧FormsAt w lo w.heap.size a n (fun i=>zs.getD i 0):=by
 have hl:=h.len
 rcases h.2 with ⟨h1,h2⟩|⟨g,cap,cur,h1,h2,h3,h4,h5,h6,h7⟩
 ·simp only[Value.slice.injEq] at h1
  exact ⟨Vn,.inl h2⟩
 ·simp only[Value.slice.injEq] at h1
  obtain ⟨rfl,rfl,rfl⟩:=h1
  refine ⟨rfl,.inr ⟨g,c,fun i=>cur.getD i undef,rfl,h2,(Array.getElem?_eq_some_iff.1 h3).1,h4,⟨cur,h3,Vn,fun i hi=> ?_⟩,fun i hi=> ?_⟩⟩
  ·rw [Array.getElem?_eq_getElem Vn];simp [Array.getD,show i<cur.size from by omega]
  ·have hi0:i<zs.length:=by omega
   have e:cur.toList[i]? =(zs.map (Value.int .i64))[i]? :=by
    rw[←h7,List.getElem?_take,if_pos Vn]
   rw[List.getElem?_map,List.getElem?_eq_getElem hi0] at e
   simp only[Option.map_some] at e
   have hi2:i<cur.size:=by omega
   rw[Array.getElem?_toList,Array.getElem?_eq_getElem hi2] at e
   have e2:cur[i]=Value.int .i64 zs[i]:=by simpa using e
   have e3:zs.getD i 0=zs[i]:=by rw[List.getD_eq_getElem?_getD,List.getElem?_eq_getElem hi0];rfl
   show cur.getD i undef= .int .i64 (zs.getD i 0)
   rw[e3,←e2]
   simp [Array.getD,hi2]
theorem app_Form (w:World) {ops:Array Oper} {rest:List Oper} {o:Oper} {a:Act} {Q:Exit→Act→World→Prop} (hgd:o.guard=none) (s x:Operand)
  (ho:o.op= .call { callee:= .builtin .append,args:= #[s,x],argTypes:= #[55,55] })
  (lo:Nat) (v:Value) (n:Nat) (zs:List Int) (x0 x1 x2:Int) (B:Nat) (hs:a.eval s=v) (hx:a.eval x= .slice (some ⟨B,0,none⟩) 1 1)
  (hown:FormL w lo v n zs) (hB0:w.cell? ⟨B,0,none⟩=some (.int .i64 x0)) (hB1:w.cell? ⟨B,1,none⟩=some (.int .i64 x1)) (hB2:w.cell? ⟨B,2,none⟩=some (.int .i64 x2)) (hlen:n≤100000000) (hlo:lo≤w.heap.size)
  (h: ∀g cap w',FormL w' lo (.slice (some ⟨g,0,none⟩) (n+1) cap) (n+1) (zs++ [x0,x1,x2])→w.grownBy w' v.ownBlock→(v.ownBlock=some g∨g=w.heap.size)→g<w'.heap.size→
   wpList Tryz.prog ops Q rest (a.put o.dst (.slice (some ⟨g,0,none⟩) (n+1) cap)) w'):wpList Tryz.prog ops Q (o :: rest) a w:=by
 obtain ⟨i0,hi,hz0,hz1,hz2⟩:=info_parts Tryz.infoForm
 refine wpList_append_lies w hgd s x 55 ho lo 81 i0 (.agg #[.int .i64 0,.int .i64 0,.int .i64 0]) 3 24 Tryz.underlying55 hi hz0 hz1 hz2 rfl VA v n _ hs hown ⟨B,0,none⟩ 1 1 ([x0,x1,x2].map (Value.int .i64)) hx rfl ?_ (by simp [Value.oneCell']) VA VK Vn hlo _ rfl ?_
 ·intro j u hu
  match j with
  |0=>simp at hu;subst hu;simpa [Addr.add] using hB0
  |1=>simp at hu;subst hu;simpa [Addr.add] using hB1
  |2=>simp at hu;subst hu;simpa [Addr.add] using hB2
  |j+3=>simp at hu
 ·intro g cap w' h1 h2 h3 h4
  refine h g cap w' ?_ h2 h3 h4
  unfold FormL
  rw[List.map_append]
  exact h1
end Go.Proofs.YtobkcnmlmmhpoaaGreatDoor
namespace Go.Proofs.YtobkcnmlmmhpoaaGreatDoor
open Go.RowKit
set_option linter.unusedVariables false
set_option linter.unusedSimpArgs false

theorem Tryz.infoInt':(Tryz.prog.info? 3).map (fun i=>(i.zero,i.size,i.bytes))=some (some (.int .i64 0),1,8):=by kernel_rfl

def IL (w:World) (lo:Nat) (v:Value) (zs:List Int):Prop:=w.ownsRow lo 3 1 v zs.length (zs.map (Value.int .i64))

theorem IL.nil (w:World) (lo:Nat):IL w lo (.slice none 0 0) []:=World.ownsRow_nil _ _ _ _
theorem IL.made (w:World) (lo:Nat) (h:lo≤w.heap.size):IL (w.alloc (.cells #[] 3)) lo (.slice (some ⟨w.heap.size,0,none⟩) 0 0) []:=
 World.ownsRow_made w #[] 0 h VA rfl
theorem IL.alloc {w:World} {lo:Nat} {v:Value} {zs:List Int} (h:IL w lo v zs) (o:Obj):IL (w.alloc o) lo v zs:=World.ownsRow.alloc h o
theorem IL.kept {w w':World} {lo:Nat} {v:Value} {zs:List Int} {row:Option Nat} (h:IL w lo v zs) (hg:w.grownBy w' row) (hne:v.ownBlock=none∨v.ownBlock≠row):IL w' lo v zs:=World.ownsRow.kept h hg hne
theorem IL.lt {w:World} {lo:Nat} {v:Value} {zs:List Int} (h:IL w lo v zs): ∀k,v.ownBlock=some k→lo≤k∧k<w.heap.size:=World.ownsRow.lt h
theorem IL.ints {w:World} {lo:Nat} {a:Option Addr} {n c:Nat} {zs:List Int} (h:IL w lo (.slice a n c) zs):n=zs.length∧IntsAt w lo w.heap.size a zs.length (fun i=>zs.getD i 0):=by
 rcases h.2 with ⟨h1,h2⟩|⟨g,cap,cur,h1,h2,h3,h4,h5,h6,h7⟩
 ·simp only[Value.slice.injEq] at h1
  exact ⟨Vn,.inl h2⟩
 ·simp only[Value.slice.injEq] at h1
  obtain ⟨rfl,rfl,rfl⟩:=h1
  refine ⟨rfl,.inr ⟨g,c,fun i=>cur.getD i undef,rfl,h2,(Array.getElem?_eq_some_iff.1 h3).1,h4,⟨cur,h3,Vn,fun i hi=> ?_⟩,fun i hi=> ?_⟩⟩
  ·rw [Array.getElem?_eq_getElem Vn];simp [Array.getD,show i<cur.size from by omega]
  ·have e:cur.toList[i]? =(zs.map (Value.int .i64))[i]? :=by
    rw[←h7,List.getElem?_take,if_pos Vn]
   rw[List.getElem?_map,List.getElem?_eq_getElem hi] at e
   simp only[Option.map_some] at e
   have hi2:i<cur.size:=by omega
   rw[Array.getElem?_toList,Array.getElem?_eq_getElem hi2] at e
   have e2:cur[i]=Value.int .i64 zs[i]:=by simpa using e
   have e3:zs.getD i 0=zs[i]:=by rw[List.getD_eq_getElem?_getD,List.getElem?_eq_getElem hi];rfl
   show cur.getD i undef= .int .i64 (zs.getD i 0)
   rw[e3,←e2]
   simp [Array.getD,hi2]

theorem app_int (w:World) {ops:Array Oper} {rest:List Oper} {o:Oper} {a:Act} {Q:Exit→Act→World→Prop} (hgd:o.guard=none) (s x:Operand)
  (ho:o.op= .call { callee:= .builtin .append,args:= #[s,x],argTypes:= #[29,29] })
  (lo:Nat) (v:Value) (zs:List Int) (z:Int) (B:Nat) (hs:a.eval s=v) (hx:a.eval x= .slice (some ⟨B,0,none⟩) 1 1)
  (hown:IL w lo v zs) (hB:w.cell? ⟨B,0,none⟩=some (.int .i64 z)) (hlen:zs.length≤1000000000) (hlo:lo≤w.heap.size)
  (h: ∀g cap w',IL w' lo (.slice (some ⟨g,0,none⟩) (zs.length+1) cap) (zs++ [z])→w.grownBy w' v.ownBlock→(v.ownBlock=some g∨g=w.heap.size)→g<w'.heap.size→
   wpList Tryz.prog ops Q rest (a.put o.dst (.slice (some ⟨g,0,none⟩) (zs.length+1) cap)) w'):wpList Tryz.prog ops Q (o :: rest) a w:=by
 obtain ⟨i0,hi,hz0,hz1,hz2⟩:=info_parts Tryz.infoInt'
 refine wpList_append_lies w hgd s x 29 ho lo 3 i0 (.int .i64 0) 1 8 Tryz.underlying29 hi hz0 hz1 hz2 rfl VA v zs.length _ hs hown ⟨B,0,none⟩ 1 1 [.int .i64 z] hx rfl ?_ (by simp [Value.oneCell']) VA VK Vn hlo _ rfl ?_
 ·intro j u hu
  match j with
  |0=>simp at hu;subst hu;simpa [Addr.add] using hB
  |j+1=>simp at hu
 ·intro g cap w' h1 h2 h3 h4
  refine h g cap w' ?_ h2 h3 h4
  unfold IL
  rw[List.map_append,List.length_append]
  exact h1
end Go.Proofs.YtobkcnmlmmhpoaaGreatDoor
namespace Go.Proofs.YtobkcnmlmmhpoaaGreatDoor
open Go.RowKit
set_option linter.unusedVariables false
set_option linter.unusedSimpArgs false
def flN {α:Type} (p:Nat→Bool) (e:Nat→α):Nat→List α
 |0=> []
 |k+1=>if p k then flN p e k++ [e k] else flN p e k
theorem flN_yes {α:Type} {p:Nat→Bool} {e:Nat→α} {k:Nat} (h:p k=true):flN p e (k+1)=flN p e k++ [e k]:=by rw[flN,if_pos h]
theorem flN_no {α:Type} {p:Nat→Bool} {e:Nat→α} {k:Nat} (h:p k=false):flN p e (k+1)=flN p e k:=by rw[flN,if_neg (by rw[h];simp)]
theorem flN_len {α:Type} (p:Nat→Bool) (e:Nat→α) (k:Nat):(flN p e k).length≤k:=by
 induction k with
 |zero=>exact Nat.le_refl _
 |succ k ih=>
  rw[flN]
  split
  ·rw [List.length_append];simp only[List.length_cons,List.length_nil];omega
  ·omega
theorem flN_mem {α:Type} {p:Nat→Bool} {e:Nat→α} {x:α} {k:Nat} (h:x ∈ flN p e k): ∃j,j<k∧p j=true∧x=e j:=by
 induction k with
 |zero=>cases h
 |succ k ih=>
  rw[flN] at h
  split at h
  ·rename_i hp
   rw[List.mem_append] at h
   rcases h with h|h
   ·obtain ⟨j,h1,h2,h3⟩:=ih h;exact ⟨j,Vn,h2,h3⟩
   ·simp at h;exact ⟨k,Vn,hp,h⟩
  ·obtain ⟨j,h1,h2,h3⟩:=ih h;exact ⟨j,Vn,h2,h3⟩
theorem IL.below {w w':World} {lo:Nat} {v:Value} {zs:List Int} (h:IL w lo v zs) (hb:Below w.heap.size w w'):IL w' lo v zs:=
 h.kept (row:=none) ⟨hb.os,hb.tape,hb.output,hb.size,fun k hk _=>hb.block k hk⟩ (by cases v.ownBlock<;>simp)
theorem IL.drewN {w:World} {lo:Nat} {v:Value} {zs:List Int} (h:IL w lo v zs) (n:Nat):IL (w.drewN n) lo v zs:=
 h.below ⟨(Below.refl w.heap.size w).os,(Below.refl w.heap.size w).tape,(Below.refl w.heap.size w).output,(Below.refl w.heap.size w).size,(Below.refl w.heap.size w).block⟩
def RetIL (w:World) (zs:List Int) (e:Ending) (w':World):Prop:=
 ∃a c,e= .returned (.slice a zs.length c)∧IL w' w.heap.size (.slice a zs.length c) zs∧Below w.heap.size w w'
end Go.Proofs.YtobkcnmlmmhpoaaGreatDoor
namespace Go.Proofs.YtobkcnmlmmhpoaaGreatDoor

def sumN (h:Nat→Int):Nat→Int
 |0=>0
 |k+1=>sumN h k+h k

def cw (x:Nat):Int:=if x=0 then 1 else 2
theorem isqN_mono_sq {x m:Nat} (h:x*x≤m):x≤isqN m:=by
 by_cases c:x≤isqN m
 ·exact c
 ·have:=(isqN_spec m).2
  have h2:=Nat.mul_le_mul (show isqN m+1≤x by omega) (show isqN m+1≤x by omega)
  omega
theorem isqN_sq_le {x m:Nat} (h:x≤isqN m):x*x≤m:=Nat.le_trans (Nat.mul_le_mul h h) (isqN_spec m).1
theorem isqN_iff {x m:Nat} :x*x≤m↔x<isqN m+1:=⟨fun h=>by have:=isqN_mono_sq h;omega,fun h=>isqN_sq_le Vn⟩
/-! bounds -/
/-! the closed forms -/
def e1 (j:Nat):Int:=if isqN j*isqN j=j then cw (isqN j) else 0
def tt (n x:Nat):Int:=if isqN (n-x*x)*isqN (n-x*x)=n-x*x then cw x*cw (isqN (n-x*x)) else 0
def two (n:Nat):Int:=sumN (tt n) (isqN n+1)
/-! the reference's table of sums of two squares -/
end Go.Proofs.YtobkcnmlmmhpoaaGreatDoor
