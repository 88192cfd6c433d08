/- Forms, matrices and their validity on both sides. -/
import Derived.Test.YtobkcnmlmmhpoaaGreatNum
import Derived.Deep.QuietTactic
import Derived.BigQuiet
namespace Go.Proofs.YtobkcnmlmmhpoaaGreat
open Go.RowKit
set_option linter.unusedVariables false
set_option linter.unusedSimpArgs false
attribute [local go_sem] q2 q3 q4 q5 q6 q7 q8 q9 q10 q11 q12

def numB (n:Int):Bool:=inB n (-1000000) 1000000
def formB (a b c:Int):Bool:=allB [a,b,c] (-1000000) 1000000
theorem form_true {a b c:Int} (h:formB a b c=true):(-1000000≤a∧a≤1000000)∧(-1000000≤b∧b≤1000000)∧(-1000000≤c∧c≤1000000):=by
 have:=allB_mem h
 simpa only[List.mem_cons,List.not_mem_nil,or_false,forall_eq_or_imp,forall_eq] using this
def matB (p q r s:Int):Bool:=allB [p,q,r,s] (-1000000) 1000000
theorem mat_true {p q r s:Int} (h:matB p q r s=true):(-1000000≤p∧p≤1000000)∧(-1000000≤q∧q≤1000000)∧(-1000000≤r∧r≤1000000)∧(-1000000≤s∧s≤1000000):=by
 have:=allB_mem h
 simpa only[List.mem_cons,List.not_mem_nil,or_false,forall_eq_or_imp,forall_eq] using this
theorem mul_bd {a b A B:Int} (hA:0≤A) (ha: -A≤a∧a≤A) (hb: -B≤b∧b≤B): -(A*B)≤a*b∧a*b≤A*B:=by
 have h1:a.natAbs≤A.natAbs:=by omega
 have h2:b.natAbs≤B.natAbs:=by omega
 have h3:=Nat.mul_le_mul h1 h2
 rw[←Int.natAbs_mul,←Int.natAbs_mul] at h3
 have h4:0≤A*B:=Int.mul_nonneg hA (by omega)
 omega
theorem num_mul {a b:Int} (ha: -1000000≤a∧a≤1000000) (hb: -1000000≤b∧b≤1000000): -1000000000000≤a*b∧a*b≤1000000000000:=by
 have:=mul_bd (by omega) ha hb;omega
def discI (a b c:Int):Int:=b*b-4*a*c
theorem disc_bd {a b c:Int} (h:formB a b c=true): -4000000000000≤discI a b c∧discI a b c≤5000000000000:=by
 obtain ⟨ha,hb,hc⟩:=form_true h
 have h1:=num_mul hb hb
 have h2:=num_mul ha hc
 have h3:4*a*c=4*(a*c):=by rw[Int.mul_assoc]
 unfold discI
 rw[h3]
 by_cases hq:0≤b
 ·have:=Int.mul_nonneg hq hq;omega
 ·have:=Int.mul_nonneg_of_nonpos_of_nonpos (a:=b) (b:=b) (by omega) (by omega);omega
theorem form_num (a b c:Int):formB a b c=(numB a&&(numB b&&numB c)):=by simp [formB,allB,numB]
theorem mat_num (p q r s:Int):matB p q r s=(numB p&&(numB q&&(numB r&&numB s))):=by simp [matB,allB,numB]
def detI (p q r s:Int):Int:=p*s-q*r
theorem det_bd {p q r s:Int} (h:matB p q r s=true): -2000000000000≤detI p q r s∧detI p q r s≤2000000000000:=by
 obtain ⟨hp,hq,hr,hs⟩:=mat_true h
 have h1:=num_mul hp hs
 have h2:=num_mul hq hr
 unfold detI;omega
def contI (a b c:Int):Int:=igcd a (igcd b c)
theorem cont_alt (a b c:Int):igcd (igcd a b) c=contI a b c:=by
 unfold contI igcd Int.gcd
 simp only[Int.natAbs_natCast]
 rw[Nat.gcd_assoc]
def defB (a b c:Int):Bool:=formB a b c&&(decide (discI a b c<0)&&decide (0<a))
def shownB (a b c:Int):Bool:=defB a b c&&decide (-2000≤discI a b c)
def classB (a b c:Int):Bool:=shownB a b c&&(contI a b c==1)
def properB (p q r s:Int):Bool:=matB p q r s&&(detI p q r s==1)
theorem def_form {a b c:Int} (h:defB a b c=true):formB a b c=true:=by unfold defB at h;simp at h;exact h.1
theorem shown_def {a b c:Int} (h:shownB a b c=true):defB a b c=true:=by unfold shownB at h;simp at h;exact h.1
theorem class_shown {a b c:Int} (h:classB a b c=true):shownB a b c=true:=by unfold classB at h;simp at h;exact h.1
theorem class_form {a b c:Int} (h:classB a b c=true):formB a b c=true:=def_form (shown_def (class_shown h))
theorem proper_mat {p q r s:Int} (h:properB p q r s=true):matB p q r s=true:=by unfold properB at h;simp at h;exact h.1
theorem class_disc {a b c:Int} (h:classB a b c=true): -2000≤discI a b c∧discI a b c<0:=by
 have h1:=class_shown h
 have h2:=shown_def h1
 unfold shownB at h1;unfold defB at h2;simp at h1 h2;omega

set_option maxRecDepth 100000 in
set_option maxHeartbeats 400000 in
theorem nuGood_a (n:Int) (w:World):
  Calls Tryz.prog 57 #[.int .i64 n] w fun e w'=>e= .returned (.bool (numB n))∧w=w':=by
 go_enter Tryz.func57,Tryz.ntmps57
 go_wp2_with (go_at_call 34;refine (l1In_any _ _ _ _).mono ?_;rintro e w' ⟨rfl,rfl⟩)
 go_returns
 exact ⟨rfl,rfl⟩

set_option maxRecDepth 100000 in
set_option maxHeartbeats 400000 in
theorem IsForm_a (a b c:Int) (w:World) (h0:I64 a) (h1:I64 b) (h2:I64 c):
  Calls Tryz.prog 26 #[.agg #[.int .i64 a,.int .i64 b,.int .i64 c]] w fun e w'=>e= .returned (.bool (formB a b c))∧Below w.heap.size w w':=by
 go_enter Tryz.func26,Tryz.ntmps26
 go_wp2_with (go_at_call 58;refine (areNumbers_any [a,b,c] _ _ _ (i64_list (by simp only[List.mem_cons,List.not_mem_nil,or_false,forall_eq_or_imp,forall_eq];exact ⟨h0,h1,h2⟩)) (by simp) (cells_new _ _ _ _ _ rfl (by simp))).mono ?_;rintro e w1 ⟨rfl,rfl⟩)
 go_returns
 refine ⟨rfl,?_⟩
 (repeat' (first|(with_reducible exact Below.refl _ _)|(with_reducible assumption)|(with_reducible refine gr_alloc ?_ _)|(with_reducible refine below_drewN ?_ _)|(with_reducible refine below_drew ?_)|(with_reducible refine gr_call ?_ (by assumption))|(with_reducible refine Below.setCell ?_ ?_ _)|go_size|omega|(simp;omega)))

set_option maxRecDepth 100000 in
set_option maxHeartbeats 400000 in
theorem IsMatrix_a (p q r s:Int) (w:World) (h0:I64 p) (h1:I64 q) (h2:I64 r) (h3:I64 s):
  Calls Tryz.prog 27 #[.agg #[.int .i64 p,.int .i64 q,.int .i64 r,.int .i64 s]] w fun e w'=>e= .returned (.bool (matB p q r s))∧Below w.heap.size w w':=by
 go_enter Tryz.func27,Tryz.ntmps27
 go_wp2_with (go_at_call 58;refine (areNumbers_any [p,q,r,s] _ _ _ (i64_list (by simp only[List.mem_cons,List.not_mem_nil,or_false,forall_eq_or_imp,forall_eq];exact ⟨h0,h1,h2,h3⟩)) (by simp) (cells_new _ _ _ _ _ rfl (by simp))).mono ?_;rintro e w1 ⟨rfl,rfl⟩)
 go_returns
 refine ⟨rfl,?_⟩
 (repeat' (first|(with_reducible exact Below.refl _ _)|(with_reducible assumption)|(with_reducible refine gr_alloc ?_ _)|(with_reducible refine below_drewN ?_ _)|(with_reducible refine below_drew ?_)|(with_reducible refine gr_call ?_ (by assumption))|(with_reducible refine Below.setCell ?_ ?_ _)|go_size|omega|(simp;omega)))

set_option maxRecDepth 100000 in
set_option maxHeartbeats 1000000 in
theorem foGood_a (a b c:Int) (w:World):
  Calls Tryz.prog 75 #[.agg #[.int .i64 a,.int .i64 b,.int .i64 c]] w fun e w'=>e= .returned (.bool (formB a b c))∧Below w.heap.size w w':=by
 cases k0:numB a
 ·go_enter Tryz.func75,Tryz.ntmps75
  go_wp2_with (go_at_call 57;refine (nuGood_a _ _).mono ?_;rintro e w' ⟨rfl,rfl⟩)
  go_returns
  refine ⟨ret_bool (by simp [form_num,k0]<;>(try (intros;omega))),?_⟩
  (repeat' (first|(with_reducible exact Below.refl _ _)|(with_reducible assumption)|(with_reducible refine gr_alloc ?_ _)|(with_reducible refine below_drewN ?_ _)|(with_reducible refine below_drew ?_)|(with_reducible refine gr_call ?_ (by assumption))|(with_reducible refine Below.setCell ?_ ?_ _)|go_size|omega|(simp;omega)))
 ·cases k1:numB b
  ·go_enter Tryz.func75,Tryz.ntmps75
   go_wp2_with (go_at_call 57;refine (nuGood_a _ _).mono ?_;rintro e w' ⟨rfl,rfl⟩)
   go_returns
   refine ⟨ret_bool (by simp [form_num,k0,k1]<;>(try (intros;omega))),?_⟩
   (repeat' (first|(with_reducible exact Below.refl _ _)|(with_reducible assumption)|(with_reducible refine gr_alloc ?_ _)|(with_reducible refine below_drewN ?_ _)|(with_reducible refine below_drew ?_)|(with_reducible refine gr_call ?_ (by assumption))|(with_reducible refine Below.setCell ?_ ?_ _)|go_size|omega|(simp;omega)))
  ·cases k2:numB c
   ·go_enter Tryz.func75,Tryz.ntmps75
    go_wp2_with (go_at_call 57;refine (nuGood_a _ _).mono ?_;rintro e w' ⟨rfl,rfl⟩)
    go_returns
    refine ⟨ret_bool (by simp [form_num,k0,k1,k2]<;>(try (intros;omega))),?_⟩
    (repeat' (first|(with_reducible exact Below.refl _ _)|(with_reducible assumption)|(with_reducible refine gr_alloc ?_ _)|(with_reducible refine below_drewN ?_ _)|(with_reducible refine below_drew ?_)|(with_reducible refine gr_call ?_ (by assumption))|(with_reducible refine Below.setCell ?_ ?_ _)|go_size|omega|(simp;omega)))
   ·go_enter Tryz.func75,Tryz.ntmps75
    go_wp2_with (go_at_call 57;refine (nuGood_a _ _).mono ?_;rintro e w' ⟨rfl,rfl⟩)
    go_returns
    refine ⟨ret_bool (by simp [form_num,k0,k1,k2]<;>(try (intros;omega))),?_⟩
    (repeat' (first|(with_reducible exact Below.refl _ _)|(with_reducible assumption)|(with_reducible refine gr_alloc ?_ _)|(with_reducible refine below_drewN ?_ _)|(with_reducible refine below_drew ?_)|(with_reducible refine gr_call ?_ (by assumption))|(with_reducible refine Below.setCell ?_ ?_ _)|go_size|omega|(simp;omega)))

set_option maxRecDepth 100000 in
set_option maxHeartbeats 1000000 in
theorem foMatrix_a (p q r s:Int) (w:World):
  Calls Tryz.prog 25 #[.agg #[.int .i64 p,.int .i64 q,.int .i64 r,.int .i64 s]] w fun e w'=>e= .returned (.bool (matB p q r s))∧Below w.heap.size w w':=by
 cases k0:numB p
 ·go_enter Tryz.func25,Tryz.ntmps25
  go_wp2_with (go_at_call 57;refine (nuGood_a _ _).mono ?_;rintro e w' ⟨rfl,rfl⟩)
  go_returns
  refine ⟨ret_bool (by simp [mat_num,k0]<;>(try (intros;omega))),?_⟩
  (repeat' (first|(with_reducible exact Below.refl _ _)|(with_reducible assumption)|(with_reducible refine gr_alloc ?_ _)|(with_reducible refine below_drewN ?_ _)|(with_reducible refine below_drew ?_)|(with_reducible refine gr_call ?_ (by assumption))|(with_reducible refine Below.setCell ?_ ?_ _)|go_size|omega|(simp;omega)))
 ·cases k1:numB q
  ·go_enter Tryz.func25,Tryz.ntmps25
   go_wp2_with (go_at_call 57;refine (nuGood_a _ _).mono ?_;rintro e w' ⟨rfl,rfl⟩)
   go_returns
   refine ⟨ret_bool (by simp [mat_num,k0,k1]<;>(try (intros;omega))),?_⟩
   (repeat' (first|(with_reducible exact Below.refl _ _)|(with_reducible assumption)|(with_reducible refine gr_alloc ?_ _)|(with_reducible refine below_drewN ?_ _)|(with_reducible refine below_drew ?_)|(with_reducible refine gr_call ?_ (by assumption))|(with_reducible refine Below.setCell ?_ ?_ _)|go_size|omega|(simp;omega)))
  ·cases k2:numB r
   ·go_enter Tryz.func25,Tryz.ntmps25
    go_wp2_with (go_at_call 57;refine (nuGood_a _ _).mono ?_;rintro e w' ⟨rfl,rfl⟩)
    go_returns
    refine ⟨ret_bool (by simp [mat_num,k0,k1,k2]<;>(try (intros;omega))),?_⟩
    (repeat' (first|(with_reducible exact Below.refl _ _)|(with_reducible assumption)|(with_reducible refine gr_alloc ?_ _)|(with_reducible refine below_drewN ?_ _)|(with_reducible refine below_drew ?_)|(with_reducible refine gr_call ?_ (by assumption))|(with_reducible refine Below.setCell ?_ ?_ _)|go_size|omega|(simp;omega)))
   ·cases k3:numB s
    ·go_enter Tryz.func25,Tryz.ntmps25
     go_wp2_with (go_at_call 57;refine (nuGood_a _ _).mono ?_;rintro e w' ⟨rfl,rfl⟩)
     go_returns
     refine ⟨ret_bool (by simp [mat_num,k0,k1,k2,k3]<;>(try (intros;omega))),?_⟩
     (repeat' (first|(with_reducible exact Below.refl _ _)|(with_reducible assumption)|(with_reducible refine gr_alloc ?_ _)|(with_reducible refine below_drewN ?_ _)|(with_reducible refine below_drew ?_)|(with_reducible refine gr_call ?_ (by assumption))|(with_reducible refine Below.setCell ?_ ?_ _)|go_size|omega|(simp;omega)))
    ·go_enter Tryz.func25,Tryz.ntmps25
     go_wp2_with (go_at_call 57;refine (nuGood_a _ _).mono ?_;rintro e w' ⟨rfl,rfl⟩)
     go_returns
     refine ⟨ret_bool (by simp [mat_num,k0,k1,k2,k3]<;>(try (intros;omega))),?_⟩
     (repeat' (first|(with_reducible exact Below.refl _ _)|(with_reducible assumption)|(with_reducible refine gr_alloc ?_ _)|(with_reducible refine below_drewN ?_ _)|(with_reducible refine below_drew ?_)|(with_reducible refine gr_call ?_ (by assumption))|(with_reducible refine Below.setCell ?_ ?_ _)|go_size|omega|(simp;omega)))

set_option maxRecDepth 100000 in
set_option maxHeartbeats 400000 in
theorem disc_a (a b c:Int) (w:World) (h0:formB a b c=true):
  Calls Tryz.prog 63 #[.agg #[.int .i64 a,.int .i64 b,.int .i64 c]] w fun e w'=>e= .returned (.int .i64 (discI a b c))∧Below w.heap.size w w':=by
 obtain ⟨ha,hb,hc⟩:=form_true h0
 have m1:=num_mul hb hb
 have m2:=num_mul ha hc
 have m3:4*a*c=4*(a*c):=Int.mul_assoc _ _ _
 have m4: -4000000000000≤4*a*c∧4*a*c≤4000000000000:=by omega
 clear m2 m3
 clear h0
 go_enter Tryz.func63,Tryz.ntmps63
 go_wp2
 go_returns
 refine ⟨rfl,?_⟩
 (repeat' (first|(with_reducible exact Below.refl _ _)|(with_reducible assumption)|(with_reducible refine gr_alloc ?_ _)|(with_reducible refine below_drewN ?_ _)|(with_reducible refine below_drew ?_)|(with_reducible refine gr_call ?_ (by assumption))|(with_reducible refine Below.setCell ?_ ?_ _)|go_size|omega|(simp;omega)))

set_option maxRecDepth 100000 in
set_option maxHeartbeats 400000 in
theorem foDisc_a (a b c:Int) (w:World) (h0:formB a b c=true):
  Calls Tryz.prog 45 #[.agg #[.int .i64 a,.int .i64 b,.int .i64 c]] w fun e w'=>e= .returned (.int .i64 (discI a b c))∧Below w.heap.size w w':=by
 obtain ⟨ha,hb,hc⟩:=form_true h0
 have m1:=num_mul hb hb
 have m2:=num_mul ha hc
 have m3:4*a*c=4*(a*c):=Int.mul_assoc _ _ _
 have m4: -4000000000000≤4*a*c∧4*a*c≤4000000000000:=by omega
 clear m2 m3
 clear h0
 go_enter Tryz.func45,Tryz.ntmps45
 go_wp2
 go_returns
 refine ⟨rfl,?_⟩
 (repeat' (first|(with_reducible exact Below.refl _ _)|(with_reducible assumption)|(with_reducible refine gr_alloc ?_ _)|(with_reducible refine below_drewN ?_ _)|(with_reducible refine below_drew ?_)|(with_reducible refine gr_call ?_ (by assumption))|(with_reducible refine Below.setCell ?_ ?_ _)|go_size|omega|(simp;omega)))

set_option maxRecDepth 100000 in
set_option maxHeartbeats 400000 in
theorem det_a (p q r s:Int) (w:World) (h0:matB p q r s=true):
  Calls Tryz.prog 37 #[.agg #[.int .i64 p,.int .i64 q,.int .i64 r,.int .i64 s]] w fun e w'=>e= .returned (.int .i64 (detI p q r s))∧Below w.heap.size w w':=by
 obtain ⟨hp,hq,hr,hs⟩:=mat_true h0
 have m1:=num_mul hp hs
 have m2:=num_mul hq hr
 clear h0
 go_enter Tryz.func37,Tryz.ntmps37
 go_wp2
 go_returns
 refine ⟨rfl,?_⟩
 (repeat' (first|(with_reducible exact Below.refl _ _)|(with_reducible assumption)|(with_reducible refine gr_alloc ?_ _)|(with_reducible refine below_drewN ?_ _)|(with_reducible refine below_drew ?_)|(with_reducible refine gr_call ?_ (by assumption))|(with_reducible refine Below.setCell ?_ ?_ _)|go_size|omega|(simp;omega)))

set_option maxRecDepth 100000 in
set_option maxHeartbeats 400000 in
theorem foDet_a (p q r s:Int) (w:World) (h0:matB p q r s=true):
  Calls Tryz.prog 68 #[.agg #[.int .i64 p,.int .i64 q,.int .i64 r,.int .i64 s]] w fun e w'=>e= .returned (.int .i64 (detI p q r s))∧Below w.heap.size w w':=by
 obtain ⟨hp,hq,hr,hs⟩:=mat_true h0
 have m1:=num_mul hp hs
 have m2:=num_mul hq hr
 clear h0
 go_enter Tryz.func68,Tryz.ntmps68
 go_wp2
 go_returns
 refine ⟨rfl,?_⟩
 (repeat' (first|(with_reducible exact Below.refl _ _)|(with_reducible assumption)|(with_reducible refine gr_alloc ?_ _)|(with_reducible refine below_drewN ?_ _)|(with_reducible refine below_drew ?_)|(with_reducible refine gr_call ?_ (by assumption))|(with_reducible refine Below.setCell ?_ ?_ _)|go_size|omega|(simp;omega)))

set_option maxRecDepth 100000 in
set_option maxHeartbeats 1000000 in
theorem content_a (a b c:Int) (w:World) (h0:formB a b c=true):
  Calls Tryz.prog 96 #[.agg #[.int .i64 a,.int .i64 b,.int .i64 c]] w fun e w'=>e= .returned (.int .i64 (contI a b c))∧Below w.heap.size w w':=by
 obtain ⟨ha,hb,hc⟩:=form_true h0
 clear h0
 have g0:=gcd_le_bd (a:=b) (b:=c) (by omega) (by omega)
 go_enter Tryz.func96,Tryz.ntmps96
 go_wp2
 go_quiet ((go_at_call 40;exact Calls.quiet_of (gcd_a _ _ _ (by first|assumption|omega) (by first|assumption|omega))))
 go_wp2
 go_returns
 exact ⟨rfl,by (repeat' (first|(with_reducible exact Below.refl _ _)|(with_reducible assumption)|(with_reducible refine gr_alloc ?_ _)|(with_reducible refine below_drewN ?_ _)|(with_reducible refine below_drew ?_)|(with_reducible refine gr_call ?_ (by assumption))|(with_reducible refine Below.setCell ?_ ?_ _)|go_size|omega|(simp;omega)))⟩

set_option maxRecDepth 100000 in
set_option maxHeartbeats 1000000 in
theorem foContent_a (a b c:Int) (w:World) (h0:formB a b c=true):
  Calls Tryz.prog 93 #[.agg #[.int .i64 a,.int .i64 b,.int .i64 c]] w fun e w'=>e= .returned (.int .i64 (contI a b c))∧Below w.heap.size w w':=by
 obtain ⟨ha,hb,hc⟩:=form_true h0
 clear h0
 have g0:=gcd_le_bd (a:=a) (b:=b) (by omega) (by omega)
 have HE:=hide (cont_alt a b c)
 go_enter Tryz.func93,Tryz.ntmps93
 go_wp2
 go_quiet ((go_at_call 70;exact Calls.quiet_of (nuGcd_a _ _ _ (by first|assumption|omega) (by first|assumption|omega))))
 go_wp2
 go_returns
 exact ⟨ret_int (unhide HE),by (repeat' (first|(with_reducible exact Below.refl _ _)|(with_reducible assumption)|(with_reducible refine gr_alloc ?_ _)|(with_reducible refine below_drewN ?_ _)|(with_reducible refine below_drew ?_)|(with_reducible refine gr_call ?_ (by assumption))|(with_reducible refine Below.setCell ?_ ?_ _)|go_size|omega|(simp;omega)))⟩

set_option maxRecDepth 100000 in
set_option maxHeartbeats 1000000 in
theorem isDefinite_a (a b c:Int) (w:World) (h0:I64 a) (h1:I64 b) (h2:I64 c):
  Calls Tryz.prog 87 #[.agg #[.int .i64 a,.int .i64 b,.int .i64 c]] w fun e w'=>e= .returned (.bool (defB a b c))∧Below w.heap.size w w':=by
 cases k0:formB a b c
 ·go_enter Tryz.func87,Tryz.ntmps87
  go_wp2_with (first|(go_at_call 26;refine (IsForm_a _ _ _ _ (by assumption) (by assumption) (by assumption)).mono ?_;rintro e w1 ⟨rfl,hb⟩;obtain ⟨hc,hf⟩:=bcell hb;have hl:=lt_keep hb;have hs:=hb.size)|(go_at_call 63;refine (disc_a _ _ _ _ (by assumption)).mono ?_;rintro e w1 ⟨rfl,hb⟩;obtain ⟨hc,hf⟩:=bcell hb;have hl:=lt_keep hb;have hs:=hb.size))
  go_returns
  refine ⟨ret_bool (by simp [defB,k0]<;>(try (intros;omega))),?_⟩
  (repeat' (first|(with_reducible exact Below.refl _ _)|(with_reducible assumption)|(with_reducible refine gr_alloc ?_ _)|(with_reducible refine below_drewN ?_ _)|(with_reducible refine below_drew ?_)|(with_reducible refine gr_call ?_ (by assumption))|(with_reducible refine Below.setCell ?_ ?_ _)|go_size|omega|(simp;omega)))
 ·have bd:=disc_bd k0
  by_cases k1:discI a b c<0
  ·by_cases k2:0<a
   ·go_enter Tryz.func87,Tryz.ntmps87
    go_wp2_with (first|(go_at_call 26;refine (IsForm_a _ _ _ _ (by assumption) (by assumption) (by assumption)).mono ?_;rintro e w1 ⟨rfl,hb⟩;obtain ⟨hc,hf⟩:=bcell hb;have hl:=lt_keep hb;have hs:=hb.size)|(go_at_call 63;refine (disc_a _ _ _ _ (by assumption)).mono ?_;rintro e w1 ⟨rfl,hb⟩;obtain ⟨hc,hf⟩:=bcell hb;have hl:=lt_keep hb;have hs:=hb.size))
    go_returns
    refine ⟨ret_bool (by simp [defB,k0,k1,k2]<;>(try (intros;omega))),?_⟩
    (repeat' (first|(with_reducible exact Below.refl _ _)|(with_reducible assumption)|(with_reducible refine gr_alloc ?_ _)|(with_reducible refine below_drewN ?_ _)|(with_reducible refine below_drew ?_)|(with_reducible refine gr_call ?_ (by assumption))|(with_reducible refine Below.setCell ?_ ?_ _)|go_size|omega|(simp;omega)))
   ·go_enter Tryz.func87,Tryz.ntmps87
    go_wp2_with (first|(go_at_call 26;refine (IsForm_a _ _ _ _ (by assumption) (by assumption) (by assumption)).mono ?_;rintro e w1 ⟨rfl,hb⟩;obtain ⟨hc,hf⟩:=bcell hb;have hl:=lt_keep hb;have hs:=hb.size)|(go_at_call 63;refine (disc_a _ _ _ _ (by assumption)).mono ?_;rintro e w1 ⟨rfl,hb⟩;obtain ⟨hc,hf⟩:=bcell hb;have hl:=lt_keep hb;have hs:=hb.size))
    go_returns
    refine ⟨ret_bool (by simp [defB,k0,k1,k2]<;>(try (intros;omega))),?_⟩
    (repeat' (first|(with_reducible exact Below.refl _ _)|(with_reducible assumption)|(with_reducible refine gr_alloc ?_ _)|(with_reducible refine below_drewN ?_ _)|(with_reducible refine below_drew ?_)|(with_reducible refine gr_call ?_ (by assumption))|(with_reducible refine Below.setCell ?_ ?_ _)|go_size|omega|(simp;omega)))
  ·go_enter Tryz.func87,Tryz.ntmps87
   go_wp2_with (first|(go_at_call 26;refine (IsForm_a _ _ _ _ (by assumption) (by assumption) (by assumption)).mono ?_;rintro e w1 ⟨rfl,hb⟩;obtain ⟨hc,hf⟩:=bcell hb;have hl:=lt_keep hb;have hs:=hb.size)|(go_at_call 63;refine (disc_a _ _ _ _ (by assumption)).mono ?_;rintro e w1 ⟨rfl,hb⟩;obtain ⟨hc,hf⟩:=bcell hb;have hl:=lt_keep hb;have hs:=hb.size))
   go_returns
   refine ⟨ret_bool (by simp [defB,k0,k1]<;>(try (intros;omega))),?_⟩
   (repeat' (first|(with_reducible exact Below.refl _ _)|(with_reducible assumption)|(with_reducible refine gr_alloc ?_ _)|(with_reducible refine below_drewN ?_ _)|(with_reducible refine below_drew ?_)|(with_reducible refine gr_call ?_ (by assumption))|(with_reducible refine Below.setCell ?_ ?_ _)|go_size|omega|(simp;omega)))

set_option maxRecDepth 100000 in
set_option maxHeartbeats 1000000 in
theorem foDefinite_a (a b c:Int) (w:World):
  Calls Tryz.prog 114 #[.agg #[.int .i64 a,.int .i64 b,.int .i64 c]] w fun e w'=>e= .returned (.bool (defB a b c))∧Below w.heap.size w w':=by
 cases k0:formB a b c
 ·go_enter Tryz.func114,Tryz.ntmps114
  go_wp2_with (first|(go_at_call 75;refine (foGood_a _ _ _ _).mono ?_;rintro e w1 ⟨rfl,hb⟩;obtain ⟨hc,hf⟩:=bcell hb;have hl:=lt_keep hb;have hs:=hb.size)|(go_at_call 45;refine (foDisc_a _ _ _ _ (by assumption)).mono ?_;rintro e w1 ⟨rfl,hb⟩;obtain ⟨hc,hf⟩:=bcell hb;have hl:=lt_keep hb;have hs:=hb.size))
  go_returns
  refine ⟨ret_bool (by simp [defB,k0]<;>(try (intros;omega))),?_⟩
  (repeat' (first|(with_reducible exact Below.refl _ _)|(with_reducible assumption)|(with_reducible refine gr_alloc ?_ _)|(with_reducible refine below_drewN ?_ _)|(with_reducible refine below_drew ?_)|(with_reducible refine gr_call ?_ (by assumption))|(with_reducible refine Below.setCell ?_ ?_ _)|go_size|omega|(simp;omega)))
 ·have bd:=disc_bd k0
  by_cases k1:discI a b c<0
  ·by_cases k2:0<a
   ·go_enter Tryz.func114,Tryz.ntmps114
    go_wp2_with (first|(go_at_call 75;refine (foGood_a _ _ _ _).mono ?_;rintro e w1 ⟨rfl,hb⟩;obtain ⟨hc,hf⟩:=bcell hb;have hl:=lt_keep hb;have hs:=hb.size)|(go_at_call 45;refine (foDisc_a _ _ _ _ (by assumption)).mono ?_;rintro e w1 ⟨rfl,hb⟩;obtain ⟨hc,hf⟩:=bcell hb;have hl:=lt_keep hb;have hs:=hb.size))
    go_returns
    refine ⟨ret_bool (by simp [defB,k0,k1,k2]<;>(try (intros;omega))),?_⟩
    (repeat' (first|(with_reducible exact Below.refl _ _)|(with_reducible assumption)|(with_reducible refine gr_alloc ?_ _)|(with_reducible refine below_drewN ?_ _)|(with_reducible refine below_drew ?_)|(with_reducible refine gr_call ?_ (by assumption))|(with_reducible refine Below.setCell ?_ ?_ _)|go_size|omega|(simp;omega)))
   ·go_enter Tryz.func114,Tryz.ntmps114
    go_wp2_with (first|(go_at_call 75;refine (foGood_a _ _ _ _).mono ?_;rintro e w1 ⟨rfl,hb⟩;obtain ⟨hc,hf⟩:=bcell hb;have hl:=lt_keep hb;have hs:=hb.size)|(go_at_call 45;refine (foDisc_a _ _ _ _ (by assumption)).mono ?_;rintro e w1 ⟨rfl,hb⟩;obtain ⟨hc,hf⟩:=bcell hb;have hl:=lt_keep hb;have hs:=hb.size))
    go_returns
    refine ⟨ret_bool (by simp [defB,k0,k1,k2]<;>(try (intros;omega))),?_⟩
    (repeat' (first|(with_reducible exact Below.refl _ _)|(with_reducible assumption)|(with_reducible refine gr_alloc ?_ _)|(with_reducible refine below_drewN ?_ _)|(with_reducible refine below_drew ?_)|(with_reducible refine gr_call ?_ (by assumption))|(with_reducible refine Below.setCell ?_ ?_ _)|go_size|omega|(simp;omega)))
  ·go_enter Tryz.func114,Tryz.ntmps114
   go_wp2_with (first|(go_at_call 75;refine (foGood_a _ _ _ _).mono ?_;rintro e w1 ⟨rfl,hb⟩;obtain ⟨hc,hf⟩:=bcell hb;have hl:=lt_keep hb;have hs:=hb.size)|(go_at_call 45;refine (foDisc_a _ _ _ _ (by assumption)).mono ?_;rintro e w1 ⟨rfl,hb⟩;obtain ⟨hc,hf⟩:=bcell hb;have hl:=lt_keep hb;have hs:=hb.size))
   go_returns
   refine ⟨ret_bool (by simp [defB,k0,k1]<;>(try (intros;omega))),?_⟩
   (repeat' (first|(with_reducible exact Below.refl _ _)|(with_reducible assumption)|(with_reducible refine gr_alloc ?_ _)|(with_reducible refine below_drewN ?_ _)|(with_reducible refine below_drew ?_)|(with_reducible refine gr_call ?_ (by assumption))|(with_reducible refine Below.setCell ?_ ?_ _)|go_size|omega|(simp;omega)))

set_option maxRecDepth 100000 in
set_option maxHeartbeats 1000000 in
theorem isShownForm_a (a b c:Int) (w:World) (h0:I64 a) (h1:I64 b) (h2:I64 c):
  Calls Tryz.prog 95 #[.agg #[.int .i64 a,.int .i64 b,.int .i64 c]] w fun e w'=>e= .returned (.bool (shownB a b c))∧Below w.heap.size w w':=by
 cases k0:defB a b c
 ·go_enter Tryz.func95,Tryz.ntmps95
  go_wp2_with (first|(go_at_call 87;refine (isDefinite_a _ _ _ _ (by first|assumption|omega) (by first|assumption|omega) (by first|assumption|omega)).mono ?_;rintro e w1 ⟨rfl,hb⟩;obtain ⟨hc,hf⟩:=bcell hb;have hl:=lt_keep hb;have hs:=hb.size)|(go_at_call 63;refine (disc_a _ _ _ _ (by first|assumption|omega)).mono ?_;rintro e w1 ⟨rfl,hb⟩;obtain ⟨hc,hf⟩:=bcell hb;have hl:=lt_keep hb;have hs:=hb.size))
  go_returns
  refine ⟨ret_bool (by simp [shownB,k0]<;>(try (intros;omega))),?_⟩
  (repeat' (first|(with_reducible exact Below.refl _ _)|(with_reducible assumption)|(with_reducible refine gr_alloc ?_ _)|(with_reducible refine below_drewN ?_ _)|(with_reducible refine below_drew ?_)|(with_reducible refine gr_call ?_ (by assumption))|(with_reducible refine Below.setCell ?_ ?_ _)|go_size|omega|(simp;omega)))
 ·have kf:=def_form k0
  have bd:=disc_bd kf
  by_cases k1: -2000≤discI a b c
  ·go_enter Tryz.func95,Tryz.ntmps95
   go_wp2_with (first|(go_at_call 87;refine (isDefinite_a _ _ _ _ (by first|assumption|omega) (by first|assumption|omega) (by first|assumption|omega)).mono ?_;rintro e w1 ⟨rfl,hb⟩;obtain ⟨hc,hf⟩:=bcell hb;have hl:=lt_keep hb;have hs:=hb.size)|(go_at_call 63;refine (disc_a _ _ _ _ (by first|assumption|omega)).mono ?_;rintro e w1 ⟨rfl,hb⟩;obtain ⟨hc,hf⟩:=bcell hb;have hl:=lt_keep hb;have hs:=hb.size))
   go_returns
   refine ⟨ret_bool (by simp [shownB,k0,k1]<;>(try (intros;omega))),?_⟩
   (repeat' (first|(with_reducible exact Below.refl _ _)|(with_reducible assumption)|(with_reducible refine gr_alloc ?_ _)|(with_reducible refine below_drewN ?_ _)|(with_reducible refine below_drew ?_)|(with_reducible refine gr_call ?_ (by assumption))|(with_reducible refine Below.setCell ?_ ?_ _)|go_size|omega|(simp;omega)))
  ·go_enter Tryz.func95,Tryz.ntmps95
   go_wp2_with (first|(go_at_call 87;refine (isDefinite_a _ _ _ _ (by first|assumption|omega) (by first|assumption|omega) (by first|assumption|omega)).mono ?_;rintro e w1 ⟨rfl,hb⟩;obtain ⟨hc,hf⟩:=bcell hb;have hl:=lt_keep hb;have hs:=hb.size)|(go_at_call 63;refine (disc_a _ _ _ _ (by first|assumption|omega)).mono ?_;rintro e w1 ⟨rfl,hb⟩;obtain ⟨hc,hf⟩:=bcell hb;have hl:=lt_keep hb;have hs:=hb.size))
   go_returns
   refine ⟨ret_bool (by simp [shownB,k0,k1]<;>(try (intros;omega))),?_⟩
   (repeat' (first|(with_reducible exact Below.refl _ _)|(with_reducible assumption)|(with_reducible refine gr_alloc ?_ _)|(with_reducible refine below_drewN ?_ _)|(with_reducible refine below_drew ?_)|(with_reducible refine gr_call ?_ (by assumption))|(with_reducible refine Below.setCell ?_ ?_ _)|go_size|omega|(simp;omega)))

set_option maxRecDepth 100000 in
set_option maxHeartbeats 1000000 in
theorem vaForm_a (a b c:Int) (w:World):
  Calls Tryz.prog 103 #[.agg #[.int .i64 a,.int .i64 b,.int .i64 c]] w fun e w'=>e= .returned (.bool (shownB a b c))∧Below w.heap.size w w':=by
 cases k0:defB a b c
 ·go_enter Tryz.func103,Tryz.ntmps103
  go_wp2_with (first|(go_at_call 114;refine (foDefinite_a _ _ _ _).mono ?_;rintro e w1 ⟨rfl,hb⟩;obtain ⟨hc,hf⟩:=bcell hb;have hl:=lt_keep hb;have hs:=hb.size)|(go_at_call 45;refine (foDisc_a _ _ _ _ (by first|assumption|omega)).mono ?_;rintro e w1 ⟨rfl,hb⟩;obtain ⟨hc,hf⟩:=bcell hb;have hl:=lt_keep hb;have hs:=hb.size))
  go_returns
  refine ⟨ret_bool (by simp [shownB,k0]<;>(try (intros;omega))),?_⟩
  (repeat' (first|(with_reducible exact Below.refl _ _)|(with_reducible assumption)|(with_reducible refine gr_alloc ?_ _)|(with_reducible refine below_drewN ?_ _)|(with_reducible refine below_drew ?_)|(with_reducible refine gr_call ?_ (by assumption))|(with_reducible refine Below.setCell ?_ ?_ _)|go_size|omega|(simp;omega)))
 ·have kf:=def_form k0
  have bd:=disc_bd kf
  by_cases k1: -2000≤discI a b c
  ·go_enter Tryz.func103,Tryz.ntmps103
   go_wp2_with (first|(go_at_call 114;refine (foDefinite_a _ _ _ _).mono ?_;rintro e w1 ⟨rfl,hb⟩;obtain ⟨hc,hf⟩:=bcell hb;have hl:=lt_keep hb;have hs:=hb.size)|(go_at_call 45;refine (foDisc_a _ _ _ _ (by first|assumption|omega)).mono ?_;rintro e w1 ⟨rfl,hb⟩;obtain ⟨hc,hf⟩:=bcell hb;have hl:=lt_keep hb;have hs:=hb.size))
   go_returns
   refine ⟨ret_bool (by simp [shownB,k0,k1]<;>(try (intros;omega))),?_⟩
   (repeat' (first|(with_reducible exact Below.refl _ _)|(with_reducible assumption)|(with_reducible refine gr_alloc ?_ _)|(with_reducible refine below_drewN ?_ _)|(with_reducible refine below_drew ?_)|(with_reducible refine gr_call ?_ (by assumption))|(with_reducible refine Below.setCell ?_ ?_ _)|go_size|omega|(simp;omega)))
  ·go_enter Tryz.func103,Tryz.ntmps103
   go_wp2_with (first|(go_at_call 114;refine (foDefinite_a _ _ _ _).mono ?_;rintro e w1 ⟨rfl,hb⟩;obtain ⟨hc,hf⟩:=bcell hb;have hl:=lt_keep hb;have hs:=hb.size)|(go_at_call 45;refine (foDisc_a _ _ _ _ (by first|assumption|omega)).mono ?_;rintro e w1 ⟨rfl,hb⟩;obtain ⟨hc,hf⟩:=bcell hb;have hl:=lt_keep hb;have hs:=hb.size))
   go_returns
   refine ⟨ret_bool (by simp [shownB,k0,k1]<;>(try (intros;omega))),?_⟩
   (repeat' (first|(with_reducible exact Below.refl _ _)|(with_reducible assumption)|(with_reducible refine gr_alloc ?_ _)|(with_reducible refine below_drewN ?_ _)|(with_reducible refine below_drew ?_)|(with_reducible refine gr_call ?_ (by assumption))|(with_reducible refine Below.setCell ?_ ?_ _)|go_size|omega|(simp;omega)))

set_option maxRecDepth 100000 in
set_option maxHeartbeats 1000000 in
theorem isClassForm_a (a b c:Int) (w:World) (h0:I64 a) (h1:I64 b) (h2:I64 c):
  Calls Tryz.prog 61 #[.agg #[.int .i64 a,.int .i64 b,.int .i64 c]] w fun e w'=>e= .returned (.bool (classB a b c))∧Below w.heap.size w w':=by
 cases k0:shownB a b c
 ·go_enter Tryz.func61,Tryz.ntmps61
  go_wp2_with (first|(go_at_call 95;refine (isShownForm_a _ _ _ _ (by first|assumption|omega) (by first|assumption|omega) (by first|assumption|omega)).mono ?_;rintro e w1 ⟨rfl,hb⟩;obtain ⟨hc,hf⟩:=bcell hb;have hl:=lt_keep hb;have hs:=hb.size)|(go_at_call 96;refine (content_a _ _ _ _ (by first|assumption|omega)).mono ?_;rintro e w1 ⟨rfl,hb⟩;obtain ⟨hc,hf⟩:=bcell hb;have hl:=lt_keep hb;have hs:=hb.size))
  go_returns
  refine ⟨ret_bool (by simp [classB,k0]<;>(try (intros;omega))),?_⟩
  (repeat' (first|(with_reducible exact Below.refl _ _)|(with_reducible assumption)|(with_reducible refine gr_alloc ?_ _)|(with_reducible refine below_drewN ?_ _)|(with_reducible refine below_drew ?_)|(with_reducible refine gr_call ?_ (by assumption))|(with_reducible refine Below.setCell ?_ ?_ _)|go_size|omega|(simp;omega)))
 ·have kf:=def_form (shown_def k0)
  by_cases k1:contI a b c=1
  ·go_enter Tryz.func61,Tryz.ntmps61
   go_wp2_with (first|(go_at_call 95;refine (isShownForm_a _ _ _ _ (by first|assumption|omega) (by first|assumption|omega) (by first|assumption|omega)).mono ?_;rintro e w1 ⟨rfl,hb⟩;obtain ⟨hc,hf⟩:=bcell hb;have hl:=lt_keep hb;have hs:=hb.size)|(go_at_call 96;refine (content_a _ _ _ _ (by first|assumption|omega)).mono ?_;rintro e w1 ⟨rfl,hb⟩;obtain ⟨hc,hf⟩:=bcell hb;have hl:=lt_keep hb;have hs:=hb.size))
   go_returns
   refine ⟨ret_bool (by simp [classB,k0,k1]<;>(try (intros;omega))),?_⟩
   (repeat' (first|(with_reducible exact Below.refl _ _)|(with_reducible assumption)|(with_reducible refine gr_alloc ?_ _)|(with_reducible refine below_drewN ?_ _)|(with_reducible refine below_drew ?_)|(with_reducible refine gr_call ?_ (by assumption))|(with_reducible refine Below.setCell ?_ ?_ _)|go_size|omega|(simp;omega)))
  ·go_enter Tryz.func61,Tryz.ntmps61
   go_wp2_with (first|(go_at_call 95;refine (isShownForm_a _ _ _ _ (by first|assumption|omega) (by first|assumption|omega) (by first|assumption|omega)).mono ?_;rintro e w1 ⟨rfl,hb⟩;obtain ⟨hc,hf⟩:=bcell hb;have hl:=lt_keep hb;have hs:=hb.size)|(go_at_call 96;refine (content_a _ _ _ _ (by first|assumption|omega)).mono ?_;rintro e w1 ⟨rfl,hb⟩;obtain ⟨hc,hf⟩:=bcell hb;have hl:=lt_keep hb;have hs:=hb.size))
   go_returns
   refine ⟨ret_bool (by simp [classB,k0,k1]<;>(try (intros;omega))),?_⟩
   (repeat' (first|(with_reducible exact Below.refl _ _)|(with_reducible assumption)|(with_reducible refine gr_alloc ?_ _)|(with_reducible refine below_drewN ?_ _)|(with_reducible refine below_drew ?_)|(with_reducible refine gr_call ?_ (by assumption))|(with_reducible refine Below.setCell ?_ ?_ _)|go_size|omega|(simp;omega)))

set_option maxRecDepth 100000 in
set_option maxHeartbeats 1000000 in
theorem coGood_a (a b c:Int) (w:World):
  Calls Tryz.prog 73 #[.agg #[.int .i64 a,.int .i64 b,.int .i64 c]] w fun e w'=>e= .returned (.bool (classB a b c))∧Below w.heap.size w w':=by
 cases k0:shownB a b c
 ·go_enter Tryz.func73,Tryz.ntmps73
  go_wp2_with (first|(go_at_call 103;refine (vaForm_a _ _ _ _).mono ?_;rintro e w1 ⟨rfl,hb⟩;obtain ⟨hc,hf⟩:=bcell hb;have hl:=lt_keep hb;have hs:=hb.size)|(go_at_call 93;refine (foContent_a _ _ _ _ (by first|assumption|omega)).mono ?_;rintro e w1 ⟨rfl,hb⟩;obtain ⟨hc,hf⟩:=bcell hb;have hl:=lt_keep hb;have hs:=hb.size))
  go_returns
  refine ⟨ret_bool (by simp [classB,k0]<;>(try (intros;omega))),?_⟩
  (repeat' (first|(with_reducible exact Below.refl _ _)|(with_reducible assumption)|(with_reducible refine gr_alloc ?_ _)|(with_reducible refine below_drewN ?_ _)|(with_reducible refine below_drew ?_)|(with_reducible refine gr_call ?_ (by assumption))|(with_reducible refine Below.setCell ?_ ?_ _)|go_size|omega|(simp;omega)))
 ·have kf:=def_form (shown_def k0)
  by_cases k1:contI a b c=1
  ·go_enter Tryz.func73,Tryz.ntmps73
   go_wp2_with (first|(go_at_call 103;refine (vaForm_a _ _ _ _).mono ?_;rintro e w1 ⟨rfl,hb⟩;obtain ⟨hc,hf⟩:=bcell hb;have hl:=lt_keep hb;have hs:=hb.size)|(go_at_call 93;refine (foContent_a _ _ _ _ (by first|assumption|omega)).mono ?_;rintro e w1 ⟨rfl,hb⟩;obtain ⟨hc,hf⟩:=bcell hb;have hl:=lt_keep hb;have hs:=hb.size))
   go_returns
   refine ⟨ret_bool (by simp [classB,k0,k1]<;>(try (intros;omega))),?_⟩
   (repeat' (first|(with_reducible exact Below.refl _ _)|(with_reducible assumption)|(with_reducible refine gr_alloc ?_ _)|(with_reducible refine below_drewN ?_ _)|(with_reducible refine below_drew ?_)|(with_reducible refine gr_call ?_ (by assumption))|(with_reducible refine Below.setCell ?_ ?_ _)|go_size|omega|(simp;omega)))
  ·go_enter Tryz.func73,Tryz.ntmps73
   go_wp2_with (first|(go_at_call 103;refine (vaForm_a _ _ _ _).mono ?_;rintro e w1 ⟨rfl,hb⟩;obtain ⟨hc,hf⟩:=bcell hb;have hl:=lt_keep hb;have hs:=hb.size)|(go_at_call 93;refine (foContent_a _ _ _ _ (by first|assumption|omega)).mono ?_;rintro e w1 ⟨rfl,hb⟩;obtain ⟨hc,hf⟩:=bcell hb;have hl:=lt_keep hb;have hs:=hb.size))
   go_returns
   refine ⟨ret_bool (by simp [classB,k0,k1]<;>(try (intros;omega))),?_⟩
   (repeat' (first|(with_reducible exact Below.refl _ _)|(with_reducible assumption)|(with_reducible refine gr_alloc ?_ _)|(with_reducible refine below_drewN ?_ _)|(with_reducible refine below_drew ?_)|(with_reducible refine gr_call ?_ (by assumption))|(with_reducible refine Below.setCell ?_ ?_ _)|go_size|omega|(simp;omega)))

set_option maxRecDepth 100000 in
set_option maxHeartbeats 1000000 in
theorem isProper_a (p q r s:Int) (w:World) (h0:I64 p) (h1:I64 q) (h2:I64 r) (h3:I64 s):
  Calls Tryz.prog 29 #[.agg #[.int .i64 p,.int .i64 q,.int .i64 r,.int .i64 s]] w fun e w'=>e= .returned (.bool (properB p q r s))∧Below w.heap.size w w':=by
 cases k0:matB p q r s
 ·go_enter Tryz.func29,Tryz.ntmps29
  go_wp2_with (first|(go_at_call 27;refine (IsMatrix_a _ _ _ _ _ (by first|assumption|omega) (by first|assumption|omega) (by first|assumption|omega) (by first|assumption|omega)).mono ?_;rintro e w1 ⟨rfl,hb⟩;obtain ⟨hc,hf⟩:=bcell hb;have hl:=lt_keep hb;have hs:=hb.size)|(go_at_call 37;refine (det_a _ _ _ _ _ (by first|assumption|omega)).mono ?_;rintro e w1 ⟨rfl,hb⟩;obtain ⟨hc,hf⟩:=bcell hb;have hl:=lt_keep hb;have hs:=hb.size))
  go_returns
  refine ⟨ret_bool (by simp [properB,k0]<;>(try (intros;omega))),?_⟩
  (repeat' (first|(with_reducible exact Below.refl _ _)|(with_reducible assumption)|(with_reducible refine gr_alloc ?_ _)|(with_reducible refine below_drewN ?_ _)|(with_reducible refine below_drew ?_)|(with_reducible refine gr_call ?_ (by assumption))|(with_reducible refine Below.setCell ?_ ?_ _)|go_size|omega|(simp;omega)))
 ·have bd:=det_bd k0
  by_cases k1:detI p q r s=1
  ·go_enter Tryz.func29,Tryz.ntmps29
   go_wp2_with (first|(go_at_call 27;refine (IsMatrix_a _ _ _ _ _ (by first|assumption|omega) (by first|assumption|omega) (by first|assumption|omega) (by first|assumption|omega)).mono ?_;rintro e w1 ⟨rfl,hb⟩;obtain ⟨hc,hf⟩:=bcell hb;have hl:=lt_keep hb;have hs:=hb.size)|(go_at_call 37;refine (det_a _ _ _ _ _ (by first|assumption|omega)).mono ?_;rintro e w1 ⟨rfl,hb⟩;obtain ⟨hc,hf⟩:=bcell hb;have hl:=lt_keep hb;have hs:=hb.size))
   go_returns
   refine ⟨ret_bool (by simp [properB,k0,k1]<;>(try (intros;omega))),?_⟩
   (repeat' (first|(with_reducible exact Below.refl _ _)|(with_reducible assumption)|(with_reducible refine gr_alloc ?_ _)|(with_reducible refine below_drewN ?_ _)|(with_reducible refine below_drew ?_)|(with_reducible refine gr_call ?_ (by assumption))|(with_reducible refine Below.setCell ?_ ?_ _)|go_size|omega|(simp;omega)))
  ·go_enter Tryz.func29,Tryz.ntmps29
   go_wp2_with (first|(go_at_call 27;refine (IsMatrix_a _ _ _ _ _ (by first|assumption|omega) (by first|assumption|omega) (by first|assumption|omega) (by first|assumption|omega)).mono ?_;rintro e w1 ⟨rfl,hb⟩;obtain ⟨hc,hf⟩:=bcell hb;have hl:=lt_keep hb;have hs:=hb.size)|(go_at_call 37;refine (det_a _ _ _ _ _ (by first|assumption|omega)).mono ?_;rintro e w1 ⟨rfl,hb⟩;obtain ⟨hc,hf⟩:=bcell hb;have hl:=lt_keep hb;have hs:=hb.size))
   go_returns
   refine ⟨ret_bool (by simp [properB,k0,k1]<;>(try (intros;omega))),?_⟩
   (repeat' (first|(with_reducible exact Below.refl _ _)|(with_reducible assumption)|(with_reducible refine gr_alloc ?_ _)|(with_reducible refine below_drewN ?_ _)|(with_reducible refine below_drew ?_)|(with_reducible refine gr_call ?_ (by assumption))|(with_reducible refine Below.setCell ?_ ?_ _)|go_size|omega|(simp;omega)))

set_option maxRecDepth 100000 in
set_option maxHeartbeats 1000000 in
theorem lvProper_a (p q r s:Int) (w:World):
  Calls Tryz.prog 33 #[.agg #[.int .i64 p,.int .i64 q,.int .i64 r,.int .i64 s]] w fun e w'=>e= .returned (.bool (properB p q r s))∧Below w.heap.size w w':=by
 cases k0:matB p q r s
 ·go_enter Tryz.func33,Tryz.ntmps33
  go_wp2_with (first|(go_at_call 25;refine (foMatrix_a _ _ _ _ _).mono ?_;rintro e w1 ⟨rfl,hb⟩;obtain ⟨hc,hf⟩:=bcell hb;have hl:=lt_keep hb;have hs:=hb.size)|(go_at_call 68;refine (foDet_a _ _ _ _ _ (by first|assumption|omega)).mono ?_;rintro e w1 ⟨rfl,hb⟩;obtain ⟨hc,hf⟩:=bcell hb;have hl:=lt_keep hb;have hs:=hb.size))
  go_returns
  refine ⟨ret_bool (by simp [properB,k0]<;>(try (intros;omega))),?_⟩
  (repeat' (first|(with_reducible exact Below.refl _ _)|(with_reducible assumption)|(with_reducible refine gr_alloc ?_ _)|(with_reducible refine below_drewN ?_ _)|(with_reducible refine below_drew ?_)|(with_reducible refine gr_call ?_ (by assumption))|(with_reducible refine Below.setCell ?_ ?_ _)|go_size|omega|(simp;omega)))
 ·have bd:=det_bd k0
  by_cases k1:detI p q r s=1
  ·go_enter Tryz.func33,Tryz.ntmps33
   go_wp2_with (first|(go_at_call 25;refine (foMatrix_a _ _ _ _ _).mono ?_;rintro e w1 ⟨rfl,hb⟩;obtain ⟨hc,hf⟩:=bcell hb;have hl:=lt_keep hb;have hs:=hb.size)|(go_at_call 68;refine (foDet_a _ _ _ _ _ (by first|assumption|omega)).mono ?_;rintro e w1 ⟨rfl,hb⟩;obtain ⟨hc,hf⟩:=bcell hb;have hl:=lt_keep hb;have hs:=hb.size))
   go_returns
   refine ⟨ret_bool (by simp [properB,k0,k1]<;>(try (intros;omega))),?_⟩
   (repeat' (first|(with_reducible exact Below.refl _ _)|(with_reducible assumption)|(with_reducible refine gr_alloc ?_ _)|(with_reducible refine below_drewN ?_ _)|(with_reducible refine below_drew ?_)|(with_reducible refine gr_call ?_ (by assumption))|(with_reducible refine Below.setCell ?_ ?_ _)|go_size|omega|(simp;omega)))
  ·go_enter Tryz.func33,Tryz.ntmps33
   go_wp2_with (first|(go_at_call 25;refine (foMatrix_a _ _ _ _ _).mono ?_;rintro e w1 ⟨rfl,hb⟩;obtain ⟨hc,hf⟩:=bcell hb;have hl:=lt_keep hb;have hs:=hb.size)|(go_at_call 68;refine (foDet_a _ _ _ _ _ (by first|assumption|omega)).mono ?_;rintro e w1 ⟨rfl,hb⟩;obtain ⟨hc,hf⟩:=bcell hb;have hl:=lt_keep hb;have hs:=hb.size))
   go_returns
   refine ⟨ret_bool (by simp [properB,k0,k1]<;>(try (intros;omega))),?_⟩
   (repeat' (first|(with_reducible exact Below.refl _ _)|(with_reducible assumption)|(with_reducible refine gr_alloc ?_ _)|(with_reducible refine below_drewN ?_ _)|(with_reducible refine below_drew ?_)|(with_reducible refine gr_call ?_ (by assumption))|(with_reducible refine Below.setCell ?_ ?_ _)|go_size|omega|(simp;omega)))
end Go.Proofs.YtobkcnmlmmhpoaaGreat
