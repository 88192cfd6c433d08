/- Levels on both sides. -/
import Derived.Test.YtobkcnmlmmhpoaaGreatForm
import Derived.Deep.RegionWith
namespace Go.Proofs.YtobkcnmlmmhpoaaGreat
open Go.RowKit
set_option linter.unusedVariables false
set_option linter.unusedSimpArgs false
attribute [local go_sem] q2 q3 q4 q5 q6 q7 q8 q9 q10 q11 q12

def negB (d:Int):Bool:=inB d (-2000) (-3)&&decide (d%4≤1)
theorem neg_true {d:Int} (h:negB d=true): -2000≤d∧d≤ -3:=by
 unfold negB at h;simp at h;exact inB_true h.1
def levB (d n:Int):Bool:=inB n 1 30&&(igcd d n==1)
theorem lev_true {d n:Int} (h:levB d n=true):1≤n∧n≤30:=by
 unfold levB at h;simp at h;exact inB_true h.1
def hasB (a b c n:Int):Bool:=classB a b c&&levB (discI a b c) n
def lvB (a b c n:Int):Bool:=hasB a b c n&&(a%n==0)
theorem has_facts {a b c n:Int} (h:hasB a b c n=true):classB a b c=true∧1≤n∧n≤30∧0<a∧a≤1000000∧ -1000000≤b∧b≤1000000∧0<c∧c≤1000000:=by
 unfold hasB at h;simp at h
 have h1:=lev_true h.2
 obtain ⟨ha,hb,hc⟩:=form_true (class_form h.1)
 have hd:=class_disc h.1
 have h2:=shown_def (class_shown h.1)
 unfold defB at h2;simp at h2
 refine ⟨h.1,h1.1,h1.2,h2.2.2,ha.2,hb.1,hb.2,?_,hc.2⟩
 have hbb:0≤b*b:=by
  by_cases q:0≤b
  ·exact Int.mul_nonneg q q
  ·exact Int.mul_nonneg_of_nonpos_of_nonpos (by omega) (by omega)
 have e:4*a*c=4*(a*c):=Int.mul_assoc _ _ _
 have hac:0<a*c:=by unfold discI at hd;omega
 by_cases q:0<c
 ·exact q
 ·have:=Int.mul_nonneg_of_nonpos_of_nonpos (a:= -a) (b:=c) (by omega) (by omega)
  rw[Int.neg_mul] at this;omega
theorem lv_has {a b c n:Int} (h:lvB a b c n=true):hasB a b c n=true:=by unfold lvB at h;simp at h;exact h.1

set_option maxRecDepth 100000 in
set_option maxHeartbeats 1000000 in
theorem reDisc_a (d:Int) (w:World):
  Calls Tryz.prog 104 #[.int .i64 d] w fun e w'=>e= .returned (.bool (negB d))∧w=w':=by
 cases k0:inB d (-2000) (-3)
 ·go_enter Tryz.func104,Tryz.ntmps104
  go_wp2_with (first|(go_at_call 34;refine (l1In_any _ _ _ _).mono ?_;rintro e w' ⟨rfl,rfl⟩)|(go_at_call 69;refine (nuMod_a _ _ _ (by first|assumption|omega) (by first|assumption|omega) (by first|assumption|omega)).mono ?_;rintro e w' ⟨rfl,rfl⟩))
  go_returns
  exact ⟨ret_bool (by simp [negB,k0]<;>(try (intros;omega))),rfl⟩
 ·obtain ⟨e0,e1⟩:=inB_true k0
  by_cases k1:d%4≤1
  ·go_enter Tryz.func104,Tryz.ntmps104
   go_wp2_with (first|(go_at_call 34;refine (l1In_any _ _ _ _).mono ?_;rintro e w' ⟨rfl,rfl⟩)|(go_at_call 69;refine (nuMod_a _ _ _ (by first|assumption|omega) (by first|assumption|omega) (by first|assumption|omega)).mono ?_;rintro e w' ⟨rfl,rfl⟩))
   go_returns
   exact ⟨ret_bool (by simp [negB,k0,k1]<;>(try (intros;omega))),rfl⟩
  ·go_enter Tryz.func104,Tryz.ntmps104
   go_wp2_with (first|(go_at_call 34;refine (l1In_any _ _ _ _).mono ?_;rintro e w' ⟨rfl,rfl⟩)|(go_at_call 69;refine (nuMod_a _ _ _ (by first|assumption|omega) (by first|assumption|omega) (by first|assumption|omega)).mono ?_;rintro e w' ⟨rfl,rfl⟩))
   go_returns
   exact ⟨ret_bool (by simp [negB,k0,k1]<;>(try (intros;omega))),rfl⟩

set_option maxRecDepth 100000 in
set_option maxHeartbeats 1000000 in
theorem isLevel_a (d n:Int) (w:World) (h0: -4611686018427387904≤d∧d≤4611686018427387904):
  Calls Tryz.prog 62 #[.int .i64 d,.int .i64 n] w fun e w'=>e= .returned (.bool (levB d n))∧ ∃n,w'=w.drewN n:=by
 by_cases k0:1≤n
 ·by_cases k1:n≤30
  ·by_cases k2:igcd d n=1
   ·go_enter Tryz.func62,Tryz.ntmps62
    go_wp2_with (go_at_call 40;refine (gcd_a _ _ _ (by first|assumption|omega) (by first|assumption|omega)).mono ?_;rintro e w' ⟨rfl,nq,rfl⟩)
    go_returns
    refine ⟨ret_bool (by simp [levB,inB,k0,k1,k2]<;>(try (intros;omega))),?_⟩
    first|exact ⟨_,rfl⟩|exact ⟨0,rfl⟩
   ·go_enter Tryz.func62,Tryz.ntmps62
    go_wp2_with (go_at_call 40;refine (gcd_a _ _ _ (by first|assumption|omega) (by first|assumption|omega)).mono ?_;rintro e w' ⟨rfl,nq,rfl⟩)
    go_returns
    refine ⟨ret_bool (by simp [levB,inB,k0,k1,k2]<;>(try (intros;omega))),?_⟩
    first|exact ⟨_,rfl⟩|exact ⟨0,rfl⟩
  ·go_enter Tryz.func62,Tryz.ntmps62
   go_wp2_with (go_at_call 40;refine (gcd_a _ _ _ (by first|assumption|omega) (by first|assumption|omega)).mono ?_;rintro e w' ⟨rfl,nq,rfl⟩)
   go_returns
   refine ⟨ret_bool (by simp [levB,inB,k0,k1]<;>(try (intros;omega))),?_⟩
   first|exact ⟨_,rfl⟩|exact ⟨0,rfl⟩
 ·go_enter Tryz.func62,Tryz.ntmps62
  go_wp2_with (go_at_call 40;refine (gcd_a _ _ _ (by first|assumption|omega) (by first|assumption|omega)).mono ?_;rintro e w' ⟨rfl,nq,rfl⟩)
  go_returns
  refine ⟨ret_bool (by simp [levB,inB,k0]<;>(try (intros;omega))),?_⟩
  first|exact ⟨_,rfl⟩|exact ⟨0,rfl⟩

set_option maxRecDepth 100000 in
set_option maxHeartbeats 1000000 in
theorem lvGood_a (d n:Int) (w:World) (h0: -4611686018427387904≤d∧d≤4611686018427387904):
  Calls Tryz.prog 90 #[.int .i64 d,.int .i64 n] w fun e w'=>e= .returned (.bool (levB d n))∧ ∃n,w'=w.drewN n:=by
 cases k0:inB n 1 30
 ·go_enter Tryz.func90,Tryz.ntmps90
  go_wp2_with (first|(go_at_call 34;refine (l1In_any _ _ _ _).mono ?_;rintro e w' ⟨rfl,rfl⟩)|(go_at_call 70;refine (nuGcd_a _ _ _ (by first|assumption|omega) (by first|assumption|omega)).mono ?_;rintro e w' ⟨rfl,nq,rfl⟩))
  go_returns
  refine ⟨ret_bool (by simp [levB,k0]<;>(try (intros;omega))),?_⟩
  first|exact ⟨_,rfl⟩|exact ⟨0,rfl⟩
 ·obtain ⟨e0,e1⟩:=inB_true k0
  by_cases k1:igcd d n=1
  ·go_enter Tryz.func90,Tryz.ntmps90
   go_wp2_with (first|(go_at_call 34;refine (l1In_any _ _ _ _).mono ?_;rintro e w' ⟨rfl,rfl⟩)|(go_at_call 70;refine (nuGcd_a _ _ _ (by first|assumption|omega) (by first|assumption|omega)).mono ?_;rintro e w' ⟨rfl,nq,rfl⟩))
   go_returns
   refine ⟨ret_bool (by simp [levB,k0,k1]<;>(try (intros;omega))),?_⟩
   first|exact ⟨_,rfl⟩|exact ⟨0,rfl⟩
  ·go_enter Tryz.func90,Tryz.ntmps90
   go_wp2_with (first|(go_at_call 34;refine (l1In_any _ _ _ _).mono ?_;rintro e w' ⟨rfl,rfl⟩)|(go_at_call 70;refine (nuGcd_a _ _ _ (by first|assumption|omega) (by first|assumption|omega)).mono ?_;rintro e w' ⟨rfl,nq,rfl⟩))
   go_returns
   refine ⟨ret_bool (by simp [levB,k0,k1]<;>(try (intros;omega))),?_⟩
   first|exact ⟨_,rfl⟩|exact ⟨0,rfl⟩

set_option maxRecDepth 100000 in
set_option maxHeartbeats 1000000 in
theorem hasLevel_a (a b c n:Int) (w:World) (h0:I64 a) (h1:I64 b) (h2:I64 c):
  Calls Tryz.prog 30 #[.agg #[.int .i64 a,.int .i64 b,.int .i64 c],.int .i64 n] w fun e w'=>e= .returned (.bool (hasB a b c n))∧Below w.heap.size w w':=by
 cases k0:classB a b c
 ·go_enter Tryz.func30,Tryz.ntmps30
  go_wp2_with (first|(go_at_call 61;refine (isClassForm_a _ _ _ _ (by first|assumption|omega) (by first|assumption|omega) (by first|assumption|omega)).mono ?_;rintro e w1 ⟨rfl,hb⟩;obtain ⟨hc,hf⟩:=bcell hb;have hl:=lt_keep hb;have hs:=hb.size)|(go_at_call 63;refine (disc_a _ _ _ _ (by first|assumption|omega)).mono ?_;rintro e w1 ⟨rfl,hb⟩;obtain ⟨hc,hf⟩:=bcell hb;have hl:=lt_keep hb;have hs:=hb.size)|(go_at_call 62;refine (isLevel_a _ _ _ (by first|assumption|omega)).mono ?_;rintro e w' ⟨rfl,nq,rfl⟩))
  go_returns
  refine ⟨ret_bool (by simp [hasB,k0]<;>(try (intros;omega))),?_⟩
  (repeat' (first|(with_reducible exact Below.refl _ _)|(with_reducible assumption)|(with_reducible refine gr_alloc ?_ _)|(with_reducible refine below_drewN ?_ _)|(with_reducible refine below_drew ?_)|(with_reducible refine gr_call ?_ (by assumption))|(with_reducible refine Below.setCell ?_ ?_ _)|go_size|omega|(simp;omega)))
 ·have kf:=class_form k0
  have bd:=disc_bd kf
  cases k1:levB (discI a b c) n
  ·go_enter Tryz.func30,Tryz.ntmps30
   go_wp2_with (first|(go_at_call 61;refine (isClassForm_a _ _ _ _ (by first|assumption|omega) (by first|assumption|omega) (by first|assumption|omega)).mono ?_;rintro e w1 ⟨rfl,hb⟩;obtain ⟨hc,hf⟩:=bcell hb;have hl:=lt_keep hb;have hs:=hb.size)|(go_at_call 63;refine (disc_a _ _ _ _ (by first|assumption|omega)).mono ?_;rintro e w1 ⟨rfl,hb⟩;obtain ⟨hc,hf⟩:=bcell hb;have hl:=lt_keep hb;have hs:=hb.size)|(go_at_call 62;refine (isLevel_a _ _ _ (by first|assumption|omega)).mono ?_;rintro e w' ⟨rfl,nq,rfl⟩))
   go_returns
   refine ⟨ret_bool (by simp [hasB,k0,k1]<;>(try (intros;omega))),?_⟩
   (repeat' (first|(with_reducible exact Below.refl _ _)|(with_reducible assumption)|(with_reducible refine gr_alloc ?_ _)|(with_reducible refine below_drewN ?_ _)|(with_reducible refine below_drew ?_)|(with_reducible refine gr_call ?_ (by assumption))|(with_reducible refine Below.setCell ?_ ?_ _)|go_size|omega|(simp;omega)))
  ·go_enter Tryz.func30,Tryz.ntmps30
   go_wp2_with (first|(go_at_call 61;refine (isClassForm_a _ _ _ _ (by first|assumption|omega) (by first|assumption|omega) (by first|assumption|omega)).mono ?_;rintro e w1 ⟨rfl,hb⟩;obtain ⟨hc,hf⟩:=bcell hb;have hl:=lt_keep hb;have hs:=hb.size)|(go_at_call 63;refine (disc_a _ _ _ _ (by first|assumption|omega)).mono ?_;rintro e w1 ⟨rfl,hb⟩;obtain ⟨hc,hf⟩:=bcell hb;have hl:=lt_keep hb;have hs:=hb.size)|(go_at_call 62;refine (isLevel_a _ _ _ (by first|assumption|omega)).mono ?_;rintro e w' ⟨rfl,nq,rfl⟩))
   go_returns
   refine ⟨ret_bool (by simp [hasB,k0,k1]<;>(try (intros;omega))),?_⟩
   (repeat' (first|(with_reducible exact Below.refl _ _)|(with_reducible assumption)|(with_reducible refine gr_alloc ?_ _)|(with_reducible refine below_drewN ?_ _)|(with_reducible refine below_drew ?_)|(with_reducible refine gr_call ?_ (by assumption))|(with_reducible refine Below.setCell ?_ ?_ _)|go_size|omega|(simp;omega)))

set_option maxRecDepth 100000 in
set_option maxHeartbeats 1000000 in
theorem lvForm_a (a b c n:Int) (w:World):
  Calls Tryz.prog 53 #[.agg #[.int .i64 a,.int .i64 b,.int .i64 c],.int .i64 n] w fun e w'=>e= .returned (.bool (hasB a b c n))∧Below w.heap.size w w':=by
 cases k0:classB a b c
 ·go_enter Tryz.func53,Tryz.ntmps53
  go_wp2_with (first|(go_at_call 73;refine (coGood_a _ _ _ _).mono ?_;rintro e w1 ⟨rfl,hb⟩;obtain ⟨hc,hf⟩:=bcell hb;have hl:=lt_keep hb;have hs:=hb.size)|(go_at_call 45;refine (foDisc_a _ _ _ _ (by first|assumption|omega)).mono ?_;rintro e w1 ⟨rfl,hb⟩;obtain ⟨hc,hf⟩:=bcell hb;have hl:=lt_keep hb;have hs:=hb.size)|(go_at_call 90;refine (lvGood_a _ _ _ (by first|assumption|omega)).mono ?_;rintro e w' ⟨rfl,nq,rfl⟩))
  go_returns
  refine ⟨ret_bool (by simp [hasB,k0]<;>(try (intros;omega))),?_⟩
  (repeat' (first|(with_reducible exact Below.refl _ _)|(with_reducible assumption)|(with_reducible refine gr_alloc ?_ _)|(with_reducible refine below_drewN ?_ _)|(with_reducible refine below_drew ?_)|(with_reducible refine gr_call ?_ (by assumption))|(with_reducible refine Below.setCell ?_ ?_ _)|go_size|omega|(simp;omega)))
 ·have kf:=class_form k0
  have bd:=disc_bd kf
  cases k1:levB (discI a b c) n
  ·go_enter Tryz.func53,Tryz.ntmps53
   go_wp2_with (first|(go_at_call 73;refine (coGood_a _ _ _ _).mono ?_;rintro e w1 ⟨rfl,hb⟩;obtain ⟨hc,hf⟩:=bcell hb;have hl:=lt_keep hb;have hs:=hb.size)|(go_at_call 45;refine (foDisc_a _ _ _ _ (by first|assumption|omega)).mono ?_;rintro e w1 ⟨rfl,hb⟩;obtain ⟨hc,hf⟩:=bcell hb;have hl:=lt_keep hb;have hs:=hb.size)|(go_at_call 90;refine (lvGood_a _ _ _ (by first|assumption|omega)).mono ?_;rintro e w' ⟨rfl,nq,rfl⟩))
   go_returns
   refine ⟨ret_bool (by simp [hasB,k0,k1]<;>(try (intros;omega))),?_⟩
   (repeat' (first|(with_reducible exact Below.refl _ _)|(with_reducible assumption)|(with_reducible refine gr_alloc ?_ _)|(with_reducible refine below_drewN ?_ _)|(with_reducible refine below_drew ?_)|(with_reducible refine gr_call ?_ (by assumption))|(with_reducible refine Below.setCell ?_ ?_ _)|go_size|omega|(simp;omega)))
  ·go_enter Tryz.func53,Tryz.ntmps53
   go_wp2_with (first|(go_at_call 73;refine (coGood_a _ _ _ _).mono ?_;rintro e w1 ⟨rfl,hb⟩;obtain ⟨hc,hf⟩:=bcell hb;have hl:=lt_keep hb;have hs:=hb.size)|(go_at_call 45;refine (foDisc_a _ _ _ _ (by first|assumption|omega)).mono ?_;rintro e w1 ⟨rfl,hb⟩;obtain ⟨hc,hf⟩:=bcell hb;have hl:=lt_keep hb;have hs:=hb.size)|(go_at_call 90;refine (lvGood_a _ _ _ (by first|assumption|omega)).mono ?_;rintro e w' ⟨rfl,nq,rfl⟩))
   go_returns
   refine ⟨ret_bool (by simp [hasB,k0,k1]<;>(try (intros;omega))),?_⟩
   (repeat' (first|(with_reducible exact Below.refl _ _)|(with_reducible assumption)|(with_reducible refine gr_alloc ?_ _)|(with_reducible refine below_drewN ?_ _)|(with_reducible refine below_drew ?_)|(with_reducible refine gr_call ?_ (by assumption))|(with_reducible refine Below.setCell ?_ ?_ _)|go_size|omega|(simp;omega)))

set_option maxRecDepth 100000 in
set_option maxHeartbeats 1000000 in
theorem isLevelForm_a (a b c n:Int) (w:World) (h0:I64 a) (h1:I64 b) (h2:I64 c):
  Calls Tryz.prog 20 #[.agg #[.int .i64 a,.int .i64 b,.int .i64 c],.int .i64 n] w fun e w'=>e= .returned (.bool (lvB a b c n))∧Below w.heap.size w w':=by
 cases k0:hasB a b c n
 ·go_enter Tryz.func20,Tryz.ntmps20
  go_wp2_with (go_at_call 30;refine (hasLevel_a _ _ _ _ _ (by first|assumption|omega) (by first|assumption|omega) (by first|assumption|omega)).mono ?_;rintro e w1 ⟨rfl,hb⟩;obtain ⟨hc,hf⟩:=bcell hb;have hl:=lt_keep hb;have hs:=hb.size)
  go_returns
  refine ⟨ret_bool (by simp [lvB,k0]<;>(try (intros;omega))),?_⟩
  (repeat' (first|(with_reducible exact Below.refl _ _)|(with_reducible assumption)|(with_reducible refine gr_alloc ?_ _)|(with_reducible refine below_drewN ?_ _)|(with_reducible refine below_drew ?_)|(with_reducible refine gr_call ?_ (by assumption))|(with_reducible refine Below.setCell ?_ ?_ _)|go_size|omega|(simp;omega)))
 ·obtain ⟨_,e1,e2,e3,e4,_⟩:=has_facts k0
  by_cases k1:a%n=0
  ·go_enter Tryz.func20,Tryz.ntmps20
   go_wp2_with (go_at_call 30;refine (hasLevel_a _ _ _ _ _ (by first|assumption|omega) (by first|assumption|omega) (by first|assumption|omega)).mono ?_;rintro e w1 ⟨rfl,hb⟩;obtain ⟨hc,hf⟩:=bcell hb;have hl:=lt_keep hb;have hs:=hb.size)
   go_returns
   refine ⟨ret_bool (by simp [lvB,k0,k1]<;>(try (intros;omega))),?_⟩
   (repeat' (first|(with_reducible exact Below.refl _ _)|(with_reducible assumption)|(with_reducible refine gr_alloc ?_ _)|(with_reducible refine below_drewN ?_ _)|(with_reducible refine below_drew ?_)|(with_reducible refine gr_call ?_ (by assumption))|(with_reducible refine Below.setCell ?_ ?_ _)|go_size|omega|(simp;omega)))
  ·go_enter Tryz.func20,Tryz.ntmps20
   go_wp2_with (go_at_call 30;refine (hasLevel_a _ _ _ _ _ (by first|assumption|omega) (by first|assumption|omega) (by first|assumption|omega)).mono ?_;rintro e w1 ⟨rfl,hb⟩;obtain ⟨hc,hf⟩:=bcell hb;have hl:=lt_keep hb;have hs:=hb.size)
   go_returns
   refine ⟨ret_bool (by simp [lvB,k0,k1]<;>(try (intros;omega))),?_⟩
   (repeat' (first|(with_reducible exact Below.refl _ _)|(with_reducible assumption)|(with_reducible refine gr_alloc ?_ _)|(with_reducible refine below_drewN ?_ _)|(with_reducible refine below_drew ?_)|(with_reducible refine gr_call ?_ (by assumption))|(with_reducible refine Below.setCell ?_ ?_ _)|go_size|omega|(simp;omega)))

set_option maxRecDepth 100000 in
set_option maxHeartbeats 1000000 in
theorem lvIs_a (a b c n:Int) (w:World):
  Calls Tryz.prog 23 #[.agg #[.int .i64 a,.int .i64 b,.int .i64 c],.int .i64 n] w fun e w'=>e= .returned (.bool (lvB a b c n))∧Below w.heap.size w w':=by
 cases k0:hasB a b c n
 ·go_enter Tryz.func23,Tryz.ntmps23
  go_wp2_with (go_at_call 53;refine (lvForm_a _ _ _ _ _).mono ?_;rintro e w1 ⟨rfl,hb⟩;obtain ⟨hc,hf⟩:=bcell hb;have hl:=lt_keep hb;have hs:=hb.size)
  go_returns
  refine ⟨ret_bool (by simp [lvB,k0]<;>(try (intros;omega))),?_⟩
  (repeat' (first|(with_reducible exact Below.refl _ _)|(with_reducible assumption)|(with_reducible refine gr_alloc ?_ _)|(with_reducible refine below_drewN ?_ _)|(with_reducible refine below_drew ?_)|(with_reducible refine gr_call ?_ (by assumption))|(with_reducible refine Below.setCell ?_ ?_ _)|go_size|omega|(simp;omega)))
 ·obtain ⟨_,e1,e2,e3,e4,_⟩:=has_facts k0
  by_cases k1:a%n=0
  ·go_enter Tryz.func23,Tryz.ntmps23
   go_wp2_with (go_at_call 53;refine (lvForm_a _ _ _ _ _).mono ?_;rintro e w1 ⟨rfl,hb⟩;obtain ⟨hc,hf⟩:=bcell hb;have hl:=lt_keep hb;have hs:=hb.size)
   go_returns
   refine ⟨ret_bool (by simp [lvB,k0,k1]<;>(try (intros;omega))),?_⟩
   (repeat' (first|(with_reducible exact Below.refl _ _)|(with_reducible assumption)|(with_reducible refine gr_alloc ?_ _)|(with_reducible refine below_drewN ?_ _)|(with_reducible refine below_drew ?_)|(with_reducible refine gr_call ?_ (by assumption))|(with_reducible refine Below.setCell ?_ ?_ _)|go_size|omega|(simp;omega)))
  ·go_enter Tryz.func23,Tryz.ntmps23
   go_wp2_with (go_at_call 53;refine (lvForm_a _ _ _ _ _).mono ?_;rintro e w1 ⟨rfl,hb⟩;obtain ⟨hc,hf⟩:=bcell hb;have hl:=lt_keep hb;have hs:=hb.size)
   go_returns
   refine ⟨ret_bool (by simp [lvB,k0,k1]<;>(try (intros;omega))),?_⟩
   (repeat' (first|(with_reducible exact Below.refl _ _)|(with_reducible assumption)|(with_reducible refine gr_alloc ?_ _)|(with_reducible refine below_drewN ?_ _)|(with_reducible refine below_drew ?_)|(with_reducible refine gr_call ?_ (by assumption))|(with_reducible refine Below.setCell ?_ ?_ _)|go_size|omega|(simp;omega)))

set_option maxRecDepth 100000 in
set_option maxHeartbeats 1000000 in
theorem implIsLevelForm_a (a b c n:Int) (w:World) (h0:I64 a) (h1:I64 b) (h2:I64 c):
  Calls Tryz.prog 12 #[.agg #[.int .i64 a,.int .i64 b,.int .i64 c],.int .i64 n] w fun e w'=>e= .returned (.tuple #[.bool (lvB a b c n),.bool (hasB a b c n)])∧Below w.heap.size w w':=by
 go_enter Tryz.func12,Tryz.ntmps12
 go_wp2
 go_region_with (first|(go_at_call 20;refine (isLevelForm_a _ _ _ _ _ (by first|assumption|omega) (by first|assumption|omega) (by first|assumption|omega)).mono ?_;rintro e w1 ⟨rfl,hb⟩;obtain ⟨hc,hf⟩:=bcell hb;have hl:=lt_keep hb;have hs:=hb.size)|(go_at_call 30;refine (hasLevel_a _ _ _ _ _ (by first|assumption|omega) (by first|assumption|omega) (by first|assumption|omega)).mono ?_;rintro e w1 ⟨rfl,hb⟩;obtain ⟨hc,hf⟩:=bcell hb;have hl:=lt_keep hb;have hs:=hb.size))
 all_goals (go_wp2;go_returns;refine ⟨rfl,?_⟩;(repeat' (first|(with_reducible exact Below.refl _ _)|(with_reducible assumption)|(with_reducible refine gr_alloc ?_ _)|(with_reducible refine below_drewN ?_ _)|(with_reducible refine below_drew ?_)|(with_reducible refine gr_call ?_ (by assumption))|(with_reducible refine Below.setCell ?_ ?_ _)|go_size|omega|(simp;omega))))

def lmB (p q r s n:Int):Bool:=properB p q r s&&inB n 1 30

set_option maxRecDepth 100000 in
set_option maxHeartbeats 1000000 in
theorem implIsLevelMatrix_a (p q r s n:Int) (w:World) (h0:I64 p) (h1:I64 q) (h2:I64 r) (h3:I64 s):
  Calls Tryz.prog 10 #[.agg #[.int .i64 p,.int .i64 q,.int .i64 r,.int .i64 s],.int .i64 n] w fun e w'=>e= .returned (.tuple #[.bool (lmB p q r s n&&(r.tmod n==0)),.bool (lmB p q r s n)])∧Below w.heap.size w w':=by
 cases k0:properB p q r s
 ·go_enter Tryz.func10,Tryz.ntmps10
  go_wp2_with (go_at_call 29;refine (isProper_a _ _ _ _ _ (by first|assumption|omega) (by first|assumption|omega) (by first|assumption|omega) (by first|assumption|omega)).mono ?_;rintro e w1 ⟨rfl,hb⟩;obtain ⟨hc,hf⟩:=bcell hb;have hl:=lt_keep hb;have hs:=hb.size)
  go_returns
  refine ⟨ret_bb (by simp [lmB,k0]<;>(try (intros;omega))) (by simp [lmB,k0]<;>(try (intros;omega))),?_⟩
  (repeat' (first|(with_reducible exact Below.refl _ _)|(with_reducible assumption)|(with_reducible refine gr_alloc ?_ _)|(with_reducible refine below_drewN ?_ _)|(with_reducible refine below_drew ?_)|(with_reducible refine gr_call ?_ (by assumption))|(with_reducible refine Below.setCell ?_ ?_ _)|go_size|omega|(simp;omega)))
 ·obtain ⟨_,_,hr,_⟩:=mat_true (proper_mat k0)
  by_cases k1:1≤n
  ·by_cases k2:n≤30
   ·have k3:lmB p q r s n=true:=by simp [lmB,k0,inB,k1,k2]
    have K3:=hide k3
    clear k3
    go_enter Tryz.func10,Tryz.ntmps10
    go_wp2_with (go_at_call 29;refine (isProper_a _ _ _ _ _ (by first|assumption|omega) (by first|assumption|omega) (by first|assumption|omega) (by first|assumption|omega)).mono ?_;rintro e w1 ⟨rfl,hb⟩;obtain ⟨hc,hf⟩:=bcell hb;have hl:=lt_keep hb;have hs:=hb.size)
    go_returns
    refine ⟨ret_bb (by rw[unhide K3];rfl) (unhide K3).symm,?_⟩
    (repeat' (first|(with_reducible exact Below.refl _ _)|(with_reducible assumption)|(with_reducible refine gr_alloc ?_ _)|(with_reducible refine below_drewN ?_ _)|(with_reducible refine below_drew ?_)|(with_reducible refine gr_call ?_ (by assumption))|(with_reducible refine Below.setCell ?_ ?_ _)|go_size|omega|(simp;omega)))
   ·go_enter Tryz.func10,Tryz.ntmps10
    go_wp2_with (go_at_call 29;refine (isProper_a _ _ _ _ _ (by first|assumption|omega) (by first|assumption|omega) (by first|assumption|omega) (by first|assumption|omega)).mono ?_;rintro e w1 ⟨rfl,hb⟩;obtain ⟨hc,hf⟩:=bcell hb;have hl:=lt_keep hb;have hs:=hb.size)
    go_returns
    refine ⟨ret_bb (by simp [lmB,inB,k2]<;>(try (intros;omega))) (by simp [lmB,inB,k2]<;>(try (intros;omega))),?_⟩
    (repeat' (first|(with_reducible exact Below.refl _ _)|(with_reducible assumption)|(with_reducible refine gr_alloc ?_ _)|(with_reducible refine below_drewN ?_ _)|(with_reducible refine below_drew ?_)|(with_reducible refine gr_call ?_ (by assumption))|(with_reducible refine Below.setCell ?_ ?_ _)|go_size|omega|(simp;omega)))
  ·go_enter Tryz.func10,Tryz.ntmps10
   go_wp2_with (go_at_call 29;refine (isProper_a _ _ _ _ _ (by first|assumption|omega) (by first|assumption|omega) (by first|assumption|omega) (by first|assumption|omega)).mono ?_;rintro e w1 ⟨rfl,hb⟩;obtain ⟨hc,hf⟩:=bcell hb;have hl:=lt_keep hb;have hs:=hb.size)
   go_returns
   refine ⟨ret_bb (by simp [lmB,inB,k1]<;>(try (intros;omega))) (by simp [lmB,inB,k1]<;>(try (intros;omega))),?_⟩
   (repeat' (first|(with_reducible exact Below.refl _ _)|(with_reducible assumption)|(with_reducible refine gr_alloc ?_ _)|(with_reducible refine below_drewN ?_ _)|(with_reducible refine below_drew ?_)|(with_reducible refine gr_call ?_ (by assumption))|(with_reducible refine Below.setCell ?_ ?_ _)|go_size|omega|(simp;omega)))

end Go.Proofs.YtobkcnmlmmhpoaaGreat
