/- A drawn region by an invariant: one proof for each operation, whatever the order. Plain law over any program. A drawn region by an invariant, where an operation may lean on what holds as long as another one that waits for it is still to come. Plain law over any program. What the operations of a drawn region leave behind, by kinds: a value, a new block, a new block that holds values, cells of old blocks. Plain law over any program. The invariant rule for a drawn region, its operations one behind the other. Plain law over any program. The invariant rule where an operation reads a slot that a later one writes. Plain law over any program. -/
import Derived.Test.YtobkcnmlmmhpoaaGreatDoorNum
import Derived.WalkKit
import Derived.Below
import Derived.Handy
import Derived.Deep.RegionHeld3
import Derived.Deep.DeepCutAuto
import Derived.Deep.Draws
namespace Go.Proofs.YtobkcnmlmmhpoaaGreatDoor
open Go.RowKit
set_option linter.unusedVariables false
set_option linter.unusedSimpArgs false

section
variable {P:Program} {ops:Array Oper} {Q:Exit→Act→World→Prop}

def depsOf (ops:Array Oper) (i:Nat):List Nat:=match ops[i]? with
 |some o=>(o.after.toList.filter (Region.binds .any)).map (·.on)
 |none=> []
def dstOf (ops:Array Oper) (i:Nat):Option Nat:=(ops[i]?).bind (·.dst)
def regionOk (ops:Array Oper) (slot:Nat→Nat):Bool:=
 (List.range ops.size).all fun i=>(match ops[i]? with|some o=>true|none=>false)&&(depsOf ops i).all (· <i)&&
  (List.range ops.size).all fun j=> !(dstOf ops i==some (slot j)) || i==j || (depsOf ops j).contains i

def tau (a:Act) (t:Nat):Value:=a.tmps.getD t undef

structure Inv (ops:Array Oper) (a0:Act) (slot:Nat→Nat) (g:Nat→World→Value→Prop) (S:World→Prop) (l:Array Bool) (a:Act) (w:World):Prop where
 size:l.size=ops.size
 defers:a.defers=a0.defers
 width:a.tmps.size=a0.tmps.size
 fixed: ∀t,(∀i,i<ops.size→dstOf ops i≠some t)→tau a t=tau a0 t
 keeps:S w
 good: ∀j,l.getD j false=true→g j w (tau a (slot j))
 closed: ∀j,l.getD j false=true→ ∀e ∈ depsOf ops j,l.getD e false=true

def Owes (P:Program) (ops:Array Oper) (Q:Exit→Act→World→Prop) (a0:Act) (slot:Nat→Nat) (g:Nat→World→Value→Prop) (S:World→Prop) (i:Nat) (o:Oper):Prop:=
 ∀(a:Act) (w:World) (K:Act→World→Prop),(∀t,(∀i,i<ops.size→dstOf ops i≠some t)→tau a t=tau a0 t)→S w→(∀j ∈ depsOf ops i,g j w (tau a (slot j)))→a.tmps.size=a0.tmps.size→
  (∀v w',S w'→g i w' (if o.dst=some (slot i) then v else tau a (slot i))→(∀j u,j≠i→g j w u→g j w' u)→K (a.put o.dst v) w')→o.wp P a w K Q

theorem tau_put_ne {a:Act} {d:Option Nat} {v:Value} {t:Nat} (h:d≠some t):tau (a.put d v) t=tau a t:=by
 cases d with
 |none=>rfl
 |some d=>
  unfold tau Act.put
  simp only
  have hd:d≠t:=fun e=>h (by rw[e])
  simp [Array.getD_eq_getD_getElem?,Array.getElem?_setIfInBounds,hd]
theorem tau_put_eq {a:Act} {v:Value} {t:Nat} (h:t<a.tmps.size):tau (a.put (some t) v) t=v:=by
 unfold tau Act.put
 simp [Array.getD_eq_getD_getElem?,Array.getElem?_setIfInBounds,h]
theorem put_defers {a:Act} {d:Option Nat} {v:Value} :(a.put d v).defers=a.defers:=by cases d<;>rfl
theorem put_width {a:Act} {d:Option Nat} {v:Value} :(a.put d v).tmps.size=a.tmps.size:=by cases d<;>simp [Act.put]

theorem getD_set {l:Array Bool} {i j:Nat} (hi:i<l.size):(l.setIfInBounds i true).getD j false=if j=i then true else l.getD j false:=by
 simp only[Array.getD_eq_getD_getElem?,Array.getElem?_setIfInBounds]
 by_cases c:i=j
 ·subst c;simp [hi]
 ·rw [if_neg c,if_neg (fun e=>c e.symm)]

def cntR (l:Array Bool) (n:Nat):Nat:=(List.range n).countP (fun i=>l.getD i false)
theorem cnt_le (l:Array Bool) (n:Nat):cntR l n≤n:=by
 have:=List.countP_le_length (p:=fun i=>l.getD i false) (l:=List.range n)
 simpa [cntR] using this
theorem cnt_succ (l:Array Bool) (n:Nat):cntR l (n+1)=cntR l n+(if l.getD n false then 1 else 0):=by
 unfold cntR;rw [List.range_succ,List.countP_append];simp [List.countP_cons]
theorem cnt_set {l:Array Bool} {i:Nat} (hi:i<l.size) (h:l.getD i false=false) (n:Nat):cntR (l.setIfInBounds i true) n=cntR l n+(if i<n then 1 else 0):=by
 induction n with
 |zero=>simp [cntR]
 |succ n ih=>
  rw[cnt_succ,cnt_succ,ih,getD_set hi]
  by_cases c:n=i
  ·subst c;simp [h]
  ·rw [if_neg c]
   by_cases d:i<n
   ·rw [if_pos d,if_pos (show i<n+1 by omega)];omega
   ·rw [if_neg d,if_neg (show ¬i<n+1 by omega)];omega
theorem cnt_full {l:Array Bool} {n:Nat} (h:cntR l n=n): ∀j,j<n→l.getD j false=true:=by
 induction n with
 |zero=>intro j hj;omega
 |succ n ih=>
  intro j hj
  rw[cnt_succ] at h
  have hle:=cnt_le l n
  have h1:l.getD n false=true:=by
   by_cases c:l.getD n false=true
   ·exact c
   ·rw [if_neg c] at h;omega
  rw[if_pos h1] at h
  by_cases c:j=n
  ·rw [c];exact h1
  ·exact ih Vn j Vn

theorem ok_dep {slot:Nat→Nat} (h:regionOk ops slot=true) {i:Nat} (hi:i<ops.size):(∃o,ops[i]? =some o)∧(∀e ∈ depsOf ops i,e<i)∧ ∀j,j<ops.size→dstOf ops i=some (slot j)→i=j∨i ∈ depsOf ops j:=by
 unfold regionOk at h
 rw[List.all_eq_true] at h
 have h1:=h i (List.mem_range.2 hi)
 simp only[Bool.and_eq_true] at h1
 obtain ⟨⟨h2,h3⟩,h4⟩:=h1
 refine ⟨?_,fun e he=> ?_,fun j hj hd=> ?_⟩
 ·cases e:ops[i]? with
  |none=>rw[e] at h2;cases h2
  |some o=>exact ⟨o,rfl⟩
 ·rw [List.all_eq_true] at h3
  simpa using h3 e he
 ·rw [List.all_eq_true] at h4
  have:=h4 j (List.mem_range.2 hj)
  simp [hd] at this
  exact this

theorem ready_mem {l:Array Bool} {i:Nat} (h:i ∈ Region.ready .any ops l):i<ops.size∧l.getD i true=false∧ ∀e ∈ depsOf ops i,l.getD e false=true:=by
 unfold Region.ready at h
 rw[List.mem_filter,List.mem_range] at h
 obtain ⟨h1,h2⟩:=h
 simp only[Bool.and_eq_true,Bool.not_eq_true'] at h2
 refine ⟨h1,h2.1,fun e he=> ?_⟩
 unfold depsOf at he
 cases ho:ops[i]? with
 |none=>rw[ho] at he;cases he
 |some o=>
  rw[ho] at he h2
  simp only[List.mem_map,List.mem_filter] at he
  obtain ⟨x,⟨hx1,hx2⟩,rfl⟩:=he
  have h3:=h2.2
  simp only[Option.map_some,Option.getD_some] at h3
  rw[Array.all_eq_true'] at h3
  have:=h3 x (by simpa using hx1)
  simpa [hx2] using this
theorem ready_of {l:Array Bool} {i:Nat} {o:Oper} (hi:i<ops.size) (ho:ops[i]? =some o) (h0:l.getD i true=false) (h: ∀e ∈ depsOf ops i,l.getD e false=true):i ∈ Region.ready .any ops l:=by
 unfold Region.ready
 rw[List.mem_filter,List.mem_range]
 refine ⟨hi,?_⟩
 rw[ho]
 simp only[Bool.and_eq_true,Bool.not_eq_true',Option.map_some,Option.getD_some]
 refine ⟨h0,?_⟩
 rw[Array.all_eq_true']
 intro x hx
 by_cases b:Region.binds .any x=true
 ·have:=h x.on (by unfold depsOf;rw [ho];simp only[List.mem_map,List.mem_filter];exact ⟨x,⟨by simpa using hx,b⟩,rfl⟩)
  simp [this]
 ·simp [b]

theorem all_listed {slot:Nat→Nat} (hok:regionOk ops slot=true) {l:Array Bool} (hs:l.size=ops.size) (h:Region.ready .any ops l= []): ∀n,n≤ops.size→ ∀j,j<n→l.getD j false=true:=by
 intro n
 induction n with
 |zero=>intro _ j hj;omega
 |succ n ih=>
  intro hn j hj
  by_cases c:j=n
  ·subst c
   by_cases d:l.getD j false=true
   ·exact d
   ·exfalso
    obtain ⟨⟨o,ho⟩,hd,_⟩:=ok_dep hok (show j<ops.size by omega)
    have h0:l.getD j true=false:=by
     simp only[Array.getD_eq_getD_getElem?] at d ⊢
     rw[Array.getElem?_eq_getElem Vn] at d ⊢
     simpa using d
    have:=ready_of Vn ho h0 (fun e he=>ih Vn e (hd e he))
    rw[h] at this
    cases this
  ·exact ih Vn j Vn

theorem inv_step {a0:Act} {slot:Nat→Nat} {g:Nat→World→Value→Prop} {S:World→Prop} (hok:regionOk ops slot=true) (hslot: ∀j,j<ops.size→slot j<a0.tmps.size)
  {l:Array Bool} {a:Act} {w w':World} {i:Nat} {o:Oper} {v:Value} (hI:Inv ops a0 slot g S l a w) (ho:ops[i]? =some o) (h1:i<ops.size) (h2':l.getD i false=false) (h3: ∀e ∈ depsOf ops i,l.getD e false=true)
  (hS:S w') (hgi:g i w' (if o.dst=some (slot i) then v else tau a (slot i))) (hst: ∀j u,j≠i→g j w u→g j w' u):
  Inv ops a0 slot g S (l.setIfInBounds i true) (a.put o.dst v) w':=by
 obtain ⟨_,hd,hw⟩:=ok_dep hok h1
 have hls:i<l.size:=by rw[hI.size];exact h1
 have hdst:dstOf ops i=o.dst:=by unfold dstOf;rw [ho];rfl
 refine ⟨?_,?_,?_,?_,hS,?_,?_⟩
 ·simpa using hI.size
 ·rw [put_defers];exact hI.defers
 ·rw [put_width];exact hI.width
 ·intro t ht
  rw[tau_put_ne (by rw[←hdst];exact ht i h1)]
  exact hI.fixed t ht
 ·intro j hj
  rw[getD_set hls] at hj
  by_cases c:j=i
  ·subst c
   by_cases e:o.dst=some (slot j)
   ·rw [if_pos e] at hgi
    rw[e,tau_put_eq (by rw[hI.width];exact hslot j h1)]
    exact hgi
   ·rw [if_neg e] at hgi
    rw[tau_put_ne e]
    exact hgi
  ·rw [if_neg c] at hj
   have hj9:j<ops.size:=by
    by_cases q:j<l.size
    ·rw [←hI.size];exact q
    ·simp [Array.getD_eq_getD_getElem?,Array.getElem?_eq_none (by omega:l.size≤j)] at hj
   have hne:o.dst≠some (slot j):=fun e=>by
    rcases hw j hj9 (by rw[hdst];exact e) with q|q
    ·exact c q.symm
    ·have:=hI.closed j hj i q
     rw[h2'] at this;cases this
   rw[tau_put_ne hne]
   exact hst j _ c (hI.good j hj)
 ·intro j hj e he
  rw[getD_set hls] at hj ⊢
  by_cases q:e=i
  ·rw [if_pos q]
  ·rw [if_neg q]
   by_cases c:j=i
   ·subst c;exact h3 e he
   ·rw [if_neg c] at hj;exact hI.closed j hj e he

theorem any_inv {a0:Act} {slot:Nat→Nat} {g:Nat→World→Value→Prop} {S:World→Prop} (run:Nat→Bool) (hok:regionOk ops slot=true) (hslot: ∀j,j<ops.size→slot j<a0.tmps.size)
  (hrun: ∀i o,ops[i]? =some o→ ∀(a:Act) (w:World),(∀j ∈ depsOf ops i,g j w (tau a (slot j)))→Region.wanted o (yielded ops a.tmps)=run i)
  (ob: ∀i o,ops[i]? =some o→run i=true→Owes P ops Q a0 slot g S i o)
  (skip: ∀i o,ops[i]? =some o→run i=false→o.dst=some (slot i)∧ ∀w,S w→g i w undef)
  (done: ∀a w,a.defers=a0.defers→a.tmps.size=a0.tmps.size→(∀t,(∀i,i<ops.size→dstOf ops i≠some t)→tau a t=tau a0 t)→S w→(∀j,j<ops.size→g j w (tau a (slot j)))→Q .normal a w):
  ∀fuel l a w,Inv ops a0 slot g S l a w→cntR l ops.size+fuel=ops.size→wpAny P .any ops Q fuel l a w:=by
 intro fuel
 induction fuel with
 |zero=>
  intro l a w hI hc
  have hall:=cnt_full (l:=l) (n:=ops.size) Vn
  refine ⟨?_,done a w hI.defers hI.width hI.fixed hI.keeps (fun j hj=>hI.good j (hall j hj))⟩
  cases hr:Region.ready .any ops l with
  |nil=>rfl
  |cons i is=>
   exfalso
   obtain ⟨h1,h2,_⟩:=ready_mem (l:=l) (i:=i) (by rw[hr];exact List.mem_cons_self)
   have h3:=hall i h1
   simp only[Array.getD_eq_getD_getElem?] at h2 h3
   rw[Array.getElem?_eq_getElem (by rw[hI.size];exact h1)] at h2 h3
   simp at h2 h3
   rw[h2] at h3;cases h3
 |succ fuel ih=>
  intro l a w hI hc
  refine ⟨fun hr=> ?_,fun i hi=> ?_⟩
  ·have hall:=all_listed hok hI.size hr ops.size (Nat.le_refl _)
   exact done a w hI.defers hI.width hI.fixed hI.keeps (fun j hj=>hI.good j (hall j hj))
  ·obtain ⟨h1,h2,h3⟩:=ready_mem hi
   obtain ⟨⟨o,ho⟩,hd,hw⟩:=ok_dep hok h1
   have hls:i<l.size:=by rw[hI.size];exact h1
   have h2':l.getD i false=false:=by
    simp only[Array.getD_eq_getD_getElem?] at h2 ⊢
    rw[Array.getElem?_eq_getElem hls] at h2 ⊢
    simpa using h2
   have hwant:=hrun i o ho a w (fun j hj=>hI.good j (h3 j hj))
   have hcnt:cntR (l.setIfInBounds i true) ops.size+fuel=ops.size:=by rw[cnt_set hls h2',if_pos h1];omega
   unfold wpOp
   rw[ho]
   cases hr:run i
   ·rw [hr] at hwant
    simp only[hwant,Bool.false_eq_true,if_false]
    obtain ⟨hd1,hd2⟩:=skip i o ho hr
    refine ih _ _ _ (inv_step hok hslot hI ho h1 h2' h3 hI.keeps ?_ (fun j u _ h=>h)) hcnt
    rw[if_pos hd1]
    exact hd2 w hI.keeps
   ·rw [hr] at hwant
    simp only[hwant,if_true]
    left
    refine ob i o ho hr a w _ hI.fixed hI.keeps (fun j hj=>hI.good j (h3 j hj)) hI.width ?_
    intro v w' hS hgi hst
    exact ih _ _ _ (inv_step hok hslot hI ho h1 h2' h3 hS hgi hst) hcnt

theorem wanted_free {ops:Array Oper} {o:Oper} {a:Act} (h:o.guard=none):Region.wanted o (yielded ops a.tmps)=true:=by unfold Region.wanted;rw [h]
theorem region_inv2 {id:Nat} {a0:Act} {w0:World} (hm:P.follows .mixedOrders=true) (slot:Nat→Nat) (g:Nat→World→Value→Prop) (S:World→Prop) (run:Nat→Bool) (hok:regionOk ops slot=true) (hslot: ∀j,j<ops.size→slot j<a0.tmps.size)
  (hrun: ∀i o,ops[i]? =some o→ ∀(a:Act) (w:World),(∀j ∈ depsOf ops i,g j w (tau a (slot j)))→Region.wanted o (yielded ops a.tmps)=run i)
  (hS:S w0.drew) (ob: ∀i o,ops[i]? =some o→run i=true→Owes P ops Q a0 slot g S i o)
  (skip: ∀i o,ops[i]? =some o→run i=false→o.dst=some (slot i)∧ ∀w,S w→g i w undef)
  (done: ∀a w,a.defers=a0.defers→a.tmps.size=a0.tmps.size→(∀t,(∀i,i<ops.size→dstOf ops i≠some t)→tau a t=tau a0 t)→S w→(∀j,j<ops.size→g j w (tau a (slot j)))→Q .normal a w):
  (Code.region id ops true).wp P Q a0 w0:=by
 refine wp_region_any hm ?_
 have hz: ∀j,(Array.replicate ops.size false).getD j false=false:=fun j=>by
  simp only[Array.getD_eq_getD_getElem?,Array.getElem?_replicate]
  split<;>rfl
 refine any_inv run hok hslot hrun ob skip done ops.size _ a0 _ ⟨Vs,rfl,rfl,fun _ _=>rfl,hS,fun j hj=> ?_,fun j hj=> ?_⟩ ?_
 ·rw [hz] at hj;cases hj
 ·rw [hz] at hj;cases hj
 ·have:cntR (Array.replicate ops.size false) ops.size=0:=by
   unfold cntR
   rw[List.countP_eq_zero]
   intro j _
   rw[hz];simp
  omega
end
end Go.Proofs.YtobkcnmlmmhpoaaGreatDoor
namespace Go.Proofs.YtobkcnmlmmhpoaaGreatDoor
open Go.RowKit
set_option linter.unusedVariables false
set_option linter.unusedSimpArgs false

section
variable {P:Program} {ops:Array Oper} {Q:Exit→Act→World→Prop}

/-! The same, where an operation may lean on what holds as long as another one that waits for it is still to come. -/
structure Inv3 (ops:Array Oper) (a0:Act) (slot:Nat→Nat) (g:Nat→World→Value→Prop) (S:World→Prop) (pre:Nat→World→Prop) (l:Array Bool) (a:Act) (w:World):Prop where
 size:l.size=ops.size
 defers:a.defers=a0.defers
 width:a.tmps.size=a0.tmps.size
 fixed: ∀t,(∀i,i<ops.size→dstOf ops i≠some t)→tau a t=tau a0 t
 keeps:S w
 good: ∀j,l.getD j false=true→g j w (tau a (slot j))
 early: ∀j,j<ops.size→l.getD j false=false→pre j w
 closed: ∀j,l.getD j false=true→ ∀e ∈ depsOf ops j,l.getD e false=true

def Owes3 (P:Program) (ops:Array Oper) (Q:Exit→Act→World→Prop) (a0:Act) (slot:Nat→Nat) (g:Nat→World→Value→Prop) (S:World→Prop) (pre:Nat→World→Prop) (i:Nat) (o:Oper):Prop:=
 ∀(a:Act) (w:World) (K:Act→World→Prop),(∀t,(∀i,i<ops.size→dstOf ops i≠some t)→tau a t=tau a0 t)→S w→(∀j ∈ depsOf ops i,g j w (tau a (slot j)))→a.tmps.size=a0.tmps.size→pre i w→(∀j,j<ops.size→i ∈ depsOf ops j→pre j w)→
  (∀v w',S w'→g i w' (if o.dst=some (slot i) then v else tau a (slot i))→(∀j u,j≠i→g j w u→g j w' u)→(∀j,j≠i→pre j w→pre j w')→K (a.put o.dst v) w')→o.wp P a w K Q

theorem inv_step3 {a0:Act} {slot:Nat→Nat} {g:Nat→World→Value→Prop} {S:World→Prop} {pre:Nat→World→Prop} (hok:regionOk ops slot=true) (hslot: ∀j,j<ops.size→slot j<a0.tmps.size)
  {l:Array Bool} {a:Act} {w w':World} {i:Nat} {o:Oper} {v:Value} (hI:Inv3 ops a0 slot g S pre l a w) (ho:ops[i]? =some o) (h1:i<ops.size) (h2':l.getD i false=false) (h3: ∀e ∈ depsOf ops i,l.getD e false=true)
  (hS:S w') (hgi:g i w' (if o.dst=some (slot i) then v else tau a (slot i))) (hst: ∀j u,j≠i→g j w u→g j w' u) (hpr: ∀j,j≠i→pre j w→pre j w'):
  Inv3 ops a0 slot g S pre (l.setIfInBounds i true) (a.put o.dst v) w':=by
 obtain ⟨_,hd,hw⟩:=ok_dep hok h1
 have hls:i<l.size:=by rw[hI.size];exact h1
 have hdst:dstOf ops i=o.dst:=by unfold dstOf;rw [ho];rfl
 refine ⟨?_,?_,?_,?_,hS,?_,?_,?_⟩
 ·simpa using hI.size
 ·rw [put_defers];exact hI.defers
 ·rw [put_width];exact hI.width
 ·intro t ht
  rw[tau_put_ne (by rw[←hdst];exact ht i h1)]
  exact hI.fixed t ht
 ·intro j hj
  rw[getD_set hls] at hj
  by_cases c:j=i
  ·subst c
   by_cases e:o.dst=some (slot j)
   ·rw [if_pos e] at hgi
    rw[e,tau_put_eq (by rw[hI.width];exact hslot j h1)]
    exact hgi
   ·rw [if_neg e] at hgi
    rw[tau_put_ne e]
    exact hgi
  ·rw [if_neg c] at hj
   have hj9:j<ops.size:=by
    by_cases q:j<l.size
    ·rw [←hI.size];exact q
    ·simp [Array.getD_eq_getD_getElem?,Array.getElem?_eq_none (by omega:l.size≤j)] at hj
   have hne:o.dst≠some (slot j):=fun e=>by
    rcases hw j hj9 (by rw[hdst];exact e) with q|q
    ·exact c q.symm
    ·have:=hI.closed j hj i q
     rw[h2'] at this;cases this
   rw[tau_put_ne hne]
   exact hst j _ c (hI.good j hj)
 ·intro j hj hl
  rw[getD_set hls] at hl
  by_cases c:j=i
  ·rw [if_pos c] at hl;cases hl
  ·rw [if_neg c] at hl;exact hpr j c (hI.early j hj hl)
 ·intro j hj e he
  rw[getD_set hls] at hj ⊢
  by_cases q:e=i
  ·rw [if_pos q]
  ·rw [if_neg q]
   by_cases c:j=i
   ·subst c;exact h3 e he
   ·rw [if_neg c] at hj;exact hI.closed j hj e he

theorem any_inv3 {a0:Act} {slot:Nat→Nat} {g:Nat→World→Value→Prop} {S:World→Prop} {pre:Nat→World→Prop} (run:Nat→Bool) (hok:regionOk ops slot=true) (hslot: ∀j,j<ops.size→slot j<a0.tmps.size)
  (hrun: ∀i o,ops[i]? =some o→ ∀(a:Act) (w:World),(∀j ∈ depsOf ops i,g j w (tau a (slot j)))→Region.wanted o (yielded ops a.tmps)=run i)
  (ob: ∀i o,ops[i]? =some o→run i=true→Owes3 P ops Q a0 slot g S pre i o)
  (skip: ∀i o,ops[i]? =some o→run i=false→o.dst=some (slot i)∧ ∀w,S w→g i w undef)
  (done: ∀a w,a.defers=a0.defers→a.tmps.size=a0.tmps.size→(∀t,(∀i,i<ops.size→dstOf ops i≠some t)→tau a t=tau a0 t)→S w→(∀j,j<ops.size→g j w (tau a (slot j)))→Q .normal a w):
  ∀fuel l a w,Inv3 ops a0 slot g S pre l a w→cntR l ops.size+fuel=ops.size→wpAny P .any ops Q fuel l a w:=by
 intro fuel
 induction fuel with
 |zero=>
  intro l a w hI hc
  have hall:=cnt_full (l:=l) (n:=ops.size) Vn
  refine ⟨?_,done a w hI.defers hI.width hI.fixed hI.keeps (fun j hj=>hI.good j (hall j hj))⟩
  cases hr:Region.ready .any ops l with
  |nil=>rfl
  |cons i is=>
   exfalso
   obtain ⟨h1,h2,_⟩:=ready_mem (l:=l) (i:=i) (by rw[hr];exact List.mem_cons_self)
   have h3:=hall i h1
   simp only[Array.getD_eq_getD_getElem?] at h2 h3
   rw[Array.getElem?_eq_getElem (by rw[hI.size];exact h1)] at h2 h3
   simp at h2 h3
   rw[h2] at h3;cases h3
 |succ fuel ih=>
  intro l a w hI hc
  refine ⟨fun hr=> ?_,fun i hi=> ?_⟩
  ·have hall:=all_listed hok hI.size hr ops.size (Nat.le_refl _)
   exact done a w hI.defers hI.width hI.fixed hI.keeps (fun j hj=>hI.good j (hall j hj))
  ·obtain ⟨h1,h2,h3⟩:=ready_mem hi
   obtain ⟨⟨o,ho⟩,hd,hw⟩:=ok_dep hok h1
   have hls:i<l.size:=by rw[hI.size];exact h1
   have h2':l.getD i false=false:=by
    simp only[Array.getD_eq_getD_getElem?] at h2 ⊢
    rw[Array.getElem?_eq_getElem hls] at h2 ⊢
    simpa using h2
   have hwant:=hrun i o ho a w (fun j hj=>hI.good j (h3 j hj))
   have hcnt:cntR (l.setIfInBounds i true) ops.size+fuel=ops.size:=by rw[cnt_set hls h2',if_pos h1];omega
   unfold wpOp
   rw[ho]
   cases hr:run i
   ·rw [hr] at hwant
    simp only[hwant,Bool.false_eq_true,if_false]
    obtain ⟨hd1,hd2⟩:=skip i o ho hr
    refine ih _ _ _ (inv_step3 hok hslot hI ho h1 h2' h3 hI.keeps ?_ (fun j u _ h=>h) (fun j _ h=>h)) hcnt
    rw[if_pos hd1]
    exact hd2 w hI.keeps
   ·rw [hr] at hwant
    simp only[hwant,if_true]
    left
    refine ob i o ho hr a w _ hI.fixed hI.keeps (fun j hj=>hI.good j (h3 j hj)) hI.width (hI.early i h1 h2') (fun j hj hd2=>hI.early j hj (by
     cases q:l.getD j false
     ·rfl
     ·have:=hI.closed j q i hd2
      rw[h2'] at this;cases this)) ?_
    intro v w' hS hgi hst hpr
    exact ih _ _ _ (inv_step3 hok hslot hI ho h1 h2' h3 hS hgi hst hpr) hcnt

theorem region_inv3 {id:Nat} {a0:Act} {w0:World} (hm:P.follows .mixedOrders=true) (slot:Nat→Nat) (g:Nat→World→Value→Prop) (S:World→Prop) (pre:Nat→World→Prop) (run:Nat→Bool) (hok:regionOk ops slot=true) (hslot: ∀j,j<ops.size→slot j<a0.tmps.size)
  (hrun: ∀i o,ops[i]? =some o→ ∀(a:Act) (w:World),(∀j ∈ depsOf ops i,g j w (tau a (slot j)))→Region.wanted o (yielded ops a.tmps)=run i)
  (hS:S w0.drew) (hpre: ∀j,j<ops.size→pre j w0.drew) (ob: ∀i o,ops[i]? =some o→run i=true→Owes3 P ops Q a0 slot g S pre i o)
  (skip: ∀i o,ops[i]? =some o→run i=false→o.dst=some (slot i)∧ ∀w,S w→g i w undef)
  (done: ∀a w,a.defers=a0.defers→a.tmps.size=a0.tmps.size→(∀t,(∀i,i<ops.size→dstOf ops i≠some t)→tau a t=tau a0 t)→S w→(∀j,j<ops.size→g j w (tau a (slot j)))→Q .normal a w):
  (Code.region id ops true).wp P Q a0 w0:=by
 refine wp_region_any hm ?_
 have hz: ∀j,(Array.replicate ops.size false).getD j false=false:=fun j=>by
  simp only[Array.getD_eq_getD_getElem?,Array.getElem?_replicate]
  split<;>rfl
 refine any_inv3 run hok hslot hrun ob skip done ops.size _ a0 _ ⟨Vs,rfl,rfl,fun _ _=>rfl,hS,fun j hj=> ?_,fun j hj _=>hpre j hj,fun j hj=> ?_⟩ ?_
 ·rw [hz] at hj;cases hj
 ·rw [hz] at hj;cases hj
 ·have:cntR (Array.replicate ops.size false) ops.size=0:=by
   unfold cntR
   rw[List.countP_eq_zero]
   intro j _
   rw[hz];simp
  omega
end
end Go.Proofs.YtobkcnmlmmhpoaaGreatDoor
namespace Go.Proofs.YtobkcnmlmmhpoaaGreatDoor
open Go.RowKit
set_option linter.unusedVariables false
set_option linter.unusedSimpArgs false

inductive Kd where
 |any
 |val (v:Value)
 |own (B k:Nat)
 |held (B:Nat) (vs:List Value)
 |old (B:Nat) (cs:List (Addr × Value))
def Kd.ok:Kd→World→Value→Prop
 | .any,_,_=>True
 | .val u,_,v=>v=u
 | .own B k,w,v=> ∃g:Nat,v= .pointer (some ⟨g,0,none⟩)∧B≤g∧g<w.heap.size∧ ∀j,j<k→(∃u,w.cell? ⟨g,j,none⟩=some u)∧w.frozen? ⟨g,j,none⟩=false
 | .held B vs,w,v=> ∃g:Nat,v= .pointer (some ⟨g,0,none⟩)∧B≤g∧g<w.heap.size∧ ∀j,j<vs.length→w.cell? ⟨g,j,none⟩=some (vs.getD j undef)∧w.frozen? ⟨g,j,none⟩=false
 | .old B cs,w,_=> ∀c ∈ cs,w.cell? c.1=some c.2∧c.1.block<B
def Kd.isHeld:Kd→Bool
 | .held _ _=>true
 |_=>false
def Kd.off (p:Addr):Kd→Prop
 | .old _ cs=> ∀c ∈ cs,p≠c.1
 |_=>True
def Kd.at_:Kd→Nat→Prop
 | .own B _,b=>b<B
 | .held B _,b=>b<B
 |_,_=>True

theorem Kd.ok_below {k:Kd} {W w':World} {v:Value} (hb:Below W.heap.size W w') (h:k.ok W v):k.ok w' v:=by
 cases k with
 |any=>trivial
 |val u=>exact h
 |own B n=>
  obtain ⟨g,h1,h2,h3,h4⟩:=h
  refine ⟨g,h1,h2,Nat.lt_of_lt_of_le h3 hb.size,fun j hj=> ?_⟩
  obtain ⟨⟨u,hu⟩,hf⟩:=h4 j hj
  exact ⟨⟨u,by rw[hb.cell h3];exact hu⟩,by rw[hb.frozen h3];exact hf⟩
 |held B vs=>
  obtain ⟨g,h1,h2,h3,h4⟩:=h
  exact ⟨g,h1,h2,Nat.lt_of_lt_of_le h3 hb.size,fun j hj=>⟨by rw[hb.cell h3];exact (h4 j hj).1,by rw[hb.frozen h3];exact (h4 j hj).2⟩⟩
 |old B cs=>
  intro c hc
  exact ⟨by rw[hb.cell (World.block_lt_of_cell? _ _ (h c hc).1)];exact (h c hc).1,(h c hc).2⟩
theorem below_alloc_self (W:World) (o:Obj):Below W.heap.size W (W.alloc o):=(Below.refl (B:=W.heap.size) (w:=W)).alloc (Nat.le_refl _) o
theorem below_refl_self (W:World):Below W.heap.size W W:=Below.refl _ _
theorem below_drewN_self (W:World) (n:Nat):Below W.heap.size W (W.drewN n):=⟨(Below.refl W.heap.size W).os,(Below.refl W.heap.size W).tape,(Below.refl W.heap.size W).output,(Below.refl W.heap.size W).size,(Below.refl W.heap.size W).block⟩
structure Sy (w:World) (B:Nat) (cs:List (Addr × Value)) (fs:List Addr) (W:World):Prop where
 cells: ∀c ∈ cs,W.cell? c.1=some c.2
 free: ∀p ∈ fs,(∃u,W.cell? p=some u)∧W.frozen? p=false
 lt: ∀c ∈ cs,c.1.block<B
 size:B≤W.heap.size
 above:w.heap.size≤B
 below:Below w.heap.size w W
theorem Sy.call {w:World} {B:Nat} {cs:List (Addr × Value)} {fs:List Addr} {W w':World} (hb:Below W.heap.size W w') (h:Sy w B cs fs W):Sy w B cs fs w':=by
 refine ⟨fun c hc=>by rw[hb.cell (Nat.lt_of_lt_of_le (h.lt c hc) h.size)];exact h.cells c hc,fun p hp=> ?_,h.lt,Nat.le_trans h.size hb.size,h.above,h.below.trans (hb.mono (Nat.le_trans h.above h.size))⟩
 obtain ⟨⟨u,hu⟩,hf⟩:=h.free p hp
 have hl:=World.block_lt_of_cell? _ _ hu
 exact ⟨⟨u,by rw[hb.cell hl];exact hu⟩,by rw[hb.frozen hl];exact hf⟩
theorem Sy.set {w:World} {B:Nat} {cs:List (Addr × Value)} {fs:List Addr} {W:World} {p:Addr} {u:Value} (hp:w.heap.size≤p.block) (hne: ∀c ∈ cs,p≠c.1) (h:Sy w B cs fs W):Sy w B cs fs (W.setCell p u):=by
 refine ⟨fun c hc=>by rw[World.cell?_setCell_other _ _ _ _ (hne c hc)];exact h.cells c hc,fun q hq=> ?_,h.lt,by simpa using h.size,h.above,h.below.setCell hp _⟩
 obtain ⟨⟨x,hu⟩,hf⟩:=h.free q hq
 refine ⟨?_,by simpa using hf⟩
 by_cases c:p=q
 ·subst c;exact ⟨u,World.cell?_setCell_same _ _ _ hu⟩
 ·exact ⟨x,by rw[World.cell?_setCell_other _ _ _ _ c];exact hu⟩
theorem Sy.drew {w:World} {B:Nat} {cs:List (Addr × Value)} {fs:List Addr} {W:World} (h:Sy w B cs fs W):Sy w B cs fs W.drew:=
 ⟨h.cells,h.free,h.lt,h.size,h.above,⟨h.below.os,h.below.tape,h.below.output,h.below.size,h.below.block⟩⟩
theorem Sy.mk_of {w:World} {B:Nat} {cs:List (Addr × Value)} {fs:List Addr} {W:World} (hB:W.heap.size=B) (hc: ∀c ∈ cs,W.cell? c.1=some c.2) (hf: ∀p ∈ fs,(∃u,W.cell? p=some u)∧W.frozen? p=false) (hb:Below w.heap.size w W):Sy w B cs fs W:=
 ⟨hc,hf,fun c h=>by rw[←hB];exact World.block_lt_of_cell? _ _ (hc c h),Vn,by rw[←hB];exact hb.size,hb⟩

theorem kd_new {B k:Nat} {W:World} {o:Array Value} {t:TypeId} (hB:B≤W.heap.size) (hk:o.size=k):(Kd.own B k).ok (W.alloc (.cells o t)) (.pointer (some ⟨W.heap.size,0,none⟩)):=by
 refine ⟨_,rfl,hB,Vs,fun j hj=> ?_⟩
 have hn:=heap_alloc_new W (.cells o t)
 refine ⟨⟨o.getD j undef,?_⟩,?_⟩
 ·rw [cell_of_row _ _ j o t (0,0) hn]
  simp [Array.getD_eq_getD_getElem?,Array.getElem?_eq_getElem (show j<o.size by omega)]
 ·exact frozen_of_row _ _ j o t hn
theorem arr_eq {t:Array Value} {n:Nat} (h:t.size=n):t=((List.range n).map (fun k=>t.getD k undef)).toArray:=by
 subst h
 apply Array.ext
 ·simp
 ·intro i h1 h2
  simp [Array.getD_eq_getD_getElem?,Array.getElem?_eq_getElem h1]
theorem ev_const (a:Act): ∀v,a.eval (.const v)=v:=fun _=>rfl
theorem ev_func (a:Act): ∀f,a.eval (.func f)= .func (.func f) #[] #[]:=fun _=>rfl
theorem quo_in {a n:Int} (h0:0≤a) (h1:a≤9223372036854775807) (hn:1≤n):IntKind.i64.wrap (a.tdiv n)=a / n:=by
 rw[Int.tdiv_eq_ediv_of_nonneg h0]
 have:=Int.ediv_nonneg h0 (show 0≤n by omega)
 have:=Int.ediv_le_self n h0
 exact IntWalk.i64_in _ Vn
theorem rem_in {a n:Int} (h0:0≤a) (hn:1≤n):a.tmod n=a%n:=Int.tmod_eq_emod_of_nonneg h0
theorem int_in {n:Int} (h: -9223372036854775808≤n∧n≤9223372036854775807):IntKind.i64.wrap n=n:=IntWalk.i64_in _ h
theorem cell_al {w:World} {a:Addr} {v:Value} (o:Obj) (h:w.cell? a=some v):(w.alloc o).cell? a=some v:=by
 rw[World.cell?_alloc_lt _ _ _ (World.block_lt_of_cell? w a h)];exact h
theorem cell_eq {w:World} {a:Addr} (v:Value) (h: ∃u,w.cell? a=some u):(w.setCell a v).cell? a=some v:=by
 obtain ⟨u,h⟩:=h;exact World.cell?_setCell_same _ _ _ h
theorem ex_set {w:World} {p a:Addr} (v:Value) (h: ∃u,w.cell? a=some u): ∃u,(w.setCell p v).cell? a=some u:=by
 by_cases c:p=a
 ·subst c;exact ⟨v,cell_eq v h⟩
 ·obtain ⟨u,h⟩:=h;exact ⟨u,by rw[World.cell?_setCell_other _ _ _ _ c];exact h⟩
theorem ex_al {w:World} {a:Addr} (o:Obj) (h: ∃u,w.cell? a=some u): ∃u,(w.alloc o).cell? a=some u:=by
 obtain ⟨u,h⟩:=h;exact ⟨u,cell_al o h⟩
theorem cell_ne {w:World} {p a:Addr} {v:Value} (u:Value) (hp:p≠a) (h:w.cell? a=some v):(w.setCell p u).cell? a=some v:=by
 rw[World.cell?_setCell_other _ _ _ _ hp];exact h
theorem frz_al {w:World} {a:Addr} (o:Obj) (hl:a.block<w.heap.size) (h:w.frozen? a=false):(w.alloc o).frozen? a=false:=by
 rw[(below_alloc_self w o).frozen hl];exact h
theorem frz_set {w:World} {p a:Addr} (v:Value) (h:w.frozen? a=false):(w.setCell p v).frozen? a=false:=by simpa using h
theorem fa0 {α:Type} {p:α→Prop} : ∀c ∈ ([]:List α),p c:=fun c hc=>by cases hc
theorem fa {α:Type} {p:α→Prop} {a:α} {l:List α} (h:p a) (t: ∀c ∈ l,p c): ∀c ∈ a :: l,p c:=fun c hc=>by
 cases hc with
 |head=>exact h
 |tail _ hc=>exact t c hc
def setAll (g:Nat):Nat→List Value→World→World
 |_,[],W=>W
 |o,v :: vs,W=>setAll g (o+1) vs (W.setCell ⟨g,o,none⟩ v)
theorem setAll_size (g:Nat): ∀(vs:List Value) (o:Nat) (W:World),(setAll g o vs W).heap.size=W.heap.size:=by
 intro vs
 induction vs with
 |nil=>intro o W;rfl
 |cons v vs ih=>intro o W;rw [setAll,ih];simp
theorem setAll_frozen (g:Nat) (p:Addr): ∀(vs:List Value) (o:Nat) (W:World),(setAll g o vs W).frozen? p=W.frozen? p:=by
 intro vs
 induction vs with
 |nil=>intro o W;rfl
 |cons v vs ih=>intro o W;rw [setAll,ih];simp
theorem setAll_other (g:Nat) (p:Addr): ∀(vs:List Value) (o:Nat) (W:World),(p.block≠g∨p.off<o∨o+vs.length≤p.off)→(setAll g o vs W).cell? p=W.cell? p:=by
 intro vs
 induction vs with
 |nil=>intro o W _;rfl
 |cons v vs ih=>
  intro o W h
  have h2:p.block≠g∨p.off<o+1∨o+1+vs.length≤p.off:=by simp at h;omega
  rw[setAll,ih _ _ h2]
  refine World.cell?_setCell_other _ _ _ _ (fun e=> ?_)
  subst e
  simp at h
  omega
theorem setAll_ex (g:Nat) (p:Addr): ∀(vs:List Value) (o:Nat) (W:World),(∃u,W.cell? p=some u)→ ∃u,(setAll g o vs W).cell? p=some u:=by
 intro vs
 induction vs with
 |nil=>intro o W h;exact h
 |cons v vs ih=>intro o W h;rw [setAll];exact ih _ _ (ex_set v h)
theorem setAll_at (g:Nat): ∀(vs:List Value) (o:Nat) (W:World) (j:Nat),j<vs.length→(∃u,W.cell? ⟨g,o+j,none⟩=some u)→(setAll g o vs W).cell? ⟨g,o+j,none⟩=some (vs.getD j undef):=by
 intro vs
 induction vs with
 |nil=>intro o W j h;cases h
 |cons v vs ih=>
  intro o W j hj h
  rw[setAll]
  cases j with
  |zero=>
   rw[setAll_other]
   ·exact cell_eq v h
   ·exact .inr (.inl (Nat.lt_succ_self _))
  |succ j=>
   have e:o+(j+1)=o+1+j:=by omega
   rw[e] at h ⊢
   exact ih _ _ j (by simpa using hj) (ex_set v h)
theorem setAll_below (g:Nat) {B:Nat} {w:World} (hg:B≤g): ∀(vs:List Value) (o:Nat) (W:World),Below B w W→Below B w (setAll g o vs W):=by
 intro vs
 induction vs with
 |nil=>intro o W h;exact h
 |cons v vs ih=>intro o W h;rw [setAll];exact ih _ _ (h.setCell hg _)
theorem Sy.setAll {w:World} {B:Nat} {cs:List (Addr × Value)} {fs:List Addr} {W:World} {g o:Nat} {vs:List Value} (hp:w.heap.size≤g) (hne: ∀c ∈ cs,c.1.block≠g∨c.1.off<o∨o+vs.length≤c.1.off) (h:Sy w B cs fs W):Sy w B cs fs (setAll g o vs W):=by
 refine ⟨fun c hc=>by rw[setAll_other _ _ _ _ _ (hne c hc)];exact h.cells c hc,fun q hq=> ?_,h.lt,by rw[setAll_size];exact h.size,h.above,setAll_below g hp vs o W h.below⟩
 obtain ⟨hu,hf⟩:=h.free q hq
 exact ⟨setAll_ex _ _ _ _ _ hu,by rw[setAll_frozen];exact hf⟩
theorem Sy.setAll_new {w:World} {B:Nat} {cs:List (Addr × Value)} {fs:List Addr} {W:World} {g o:Nat} {vs:List Value} (hp:B≤g) (h:Sy w B cs fs W):Sy w B cs fs (Go.Proofs.YtobkcnmlmmhpoaaGreatDoor.setAll g o vs W):=
 h.setAll (Nat.le_trans h.above hp) (fun c hc=> .inl (fun e=>by have:=h.lt c hc;rw [e] at this;omega))
def Kd.offA (g o n:Nat):Kd→Prop
 | .old _ cs=> ∀c ∈ cs,c.1.block≠g∨c.1.off<o∨o+n≤c.1.off
 |_=>True
theorem Kd.ok_setAll_new {k:Kd} {W:World} {v:Value} {g o:Nat} {vs:List Value} (hk:k.isHeld=false) (hB: ∀B' cs,k= .old B' cs→B'≤g) (h:k.ok W v):k.ok (setAll g o vs W) v:=by
 cases k with
 |any=>trivial
 |val u=>exact h
 |own B n=>
  obtain ⟨b,h1,h2,h3,h4⟩:=h
  exact ⟨b,h1,h2,by rw[setAll_size];exact h3,fun j hj=>⟨setAll_ex _ _ _ _ _ (h4 j hj).1,by rw[setAll_frozen];exact (h4 j hj).2⟩⟩
 |held B vs=>cases hk
 |old B cs=>
  intro c hc
  have h1:=hB _ _ rfl
  have h2:=(h c hc).2
  exact ⟨by rw[setAll_other _ _ _ _ _ (.inl Vn)];exact (h c hc).1,h2⟩
theorem Kd.ok_setAll_old {k:Kd} {W:World} {v:Value} {g o:Nat} {vs:List Value} (hb:k.at_ g) (ho:Kd.offA g o vs.length k) (h:k.ok W v):k.ok (setAll g o vs W) v:=by
 cases k with
 |any=>trivial
 |val u=>exact h
 |own B n=>
  obtain ⟨b,h1,h2,h3,h4⟩:=h
  exact ⟨b,h1,h2,by rw[setAll_size];exact h3,fun j hj=>⟨setAll_ex _ _ _ _ _ (h4 j hj).1,by rw[setAll_frozen];exact (h4 j hj).2⟩⟩
 |held B us=>
  obtain ⟨b,h1,h2,h3,h4⟩:=h
  have hg:g<B:=hb
  exact ⟨b,h1,h2,by rw[setAll_size];exact h3,fun j hj=>⟨by rw[setAll_other _ _ _ _ _ (.inl (show b≠g by omega))];exact (h4 j hj).1,by rw[setAll_frozen];exact (h4 j hj).2⟩⟩
 |old B cs=>
  intro c hc
  exact ⟨by rw[setAll_other _ _ _ _ _ (ho c hc)];exact (h c hc).1,(h c hc).2⟩
theorem kd_held {B g:Nat} {W:World} {v:Value} {vs:List Value} (hB:B≤g) (hl:g<W.heap.size) (hv:v= .pointer (some ⟨g,0,none⟩)) (h: ∀j,j<vs.length→(∃u,W.cell? ⟨g,j,none⟩=some u)∧W.frozen? ⟨g,j,none⟩=false):(Kd.held B vs).ok (setAll g 0 vs W) v:=by
 refine ⟨g,hv,hB,by rw[setAll_size];exact hl,fun j hj=>⟨?_,by rw[setAll_frozen];exact (h j hj).2⟩⟩
 have h1:=(h j hj).1
 have e:0+j=j:=Nat.zero_add j
 have h2:=setAll_at g vs 0 W j hj (by rw[e];exact h1)
 rw[e] at h2;exact h2
theorem far_blk {b g o o0 n:Nat} {v:Value} (h: ¬b=g):((⟨b,o,none⟩:Addr),v).1.block≠g∨((⟨b,o,none⟩:Addr),v).1.off<o0∨o0+n≤((⟨b,o,none⟩:Addr),v).1.off:= .inl h
theorem far_off {b g o o0 n:Nat} {v:Value} (h:o<o0∨o0+n≤o):((⟨b,o,none⟩:Addr),v).1.block≠g∨((⟨b,o,none⟩:Addr),v).1.off<o0∨o0+n≤((⟨b,o,none⟩:Addr),v).1.off:= .inr h
end Go.Proofs.YtobkcnmlmmhpoaaGreatDoor
namespace Go.Proofs.YtobkcnmlmmhpoaaGreatDoor
open Go.RowKit
set_option linter.unusedVariables false
set_option linter.unusedSimpArgs false

section
variable {P:Program} {ops:Array Oper} {Q:Exit→Act→World→Prop}
def fixB (ops:Array Oper) (t:Nat):Bool:=(List.range ops.size).all fun i=> !(dstOf ops i==some t)
theorem fix_of {t:Nat} (h:fixB ops t=true): ∀i,i<ops.size→dstOf ops i≠some t:=by
 intro i hi e
 unfold fixB at h
 rw[List.all_eq_true] at h
 have:=h i (List.mem_range.2 hi)
 rw[e] at this
 simp at this
theorem dep_of {i j:Nat} (h:(depsOf ops i).contains j=true):j ∈ depsOf ops i:=by simpa using h
def OwesN (P:Program) (ops:Array Oper) (Q:Exit→Act→World→Prop) (a0:Act) (slot:Nat→Nat) (g:Nat→World→Value→Prop) (S:World→Prop) (i:Nat) (o:Oper):Prop:=
 ∀(a:Act) (w:World) (K:Act→World→Prop),(∀t,(h:fixB ops t=true:=by decide +kernel)→tau a t=tau a0 t)→S w→(∀j,(h:(depsOf ops i).contains j=true:=by decide +kernel)→g j w (tau a (slot j)))→(∀v,a.eval (.const v)=v)→(∀f,a.eval (.func f)= .func (.func f) #[] #[])→
  (∀v w',S w'→g i w' (if o.dst=some (slot i) then v else tau a (slot i))→(∀j u,j≠i→g j w u→g j w' u)→K (a.put o.dst v) w')→o.wp P a w K Q
def OwesL (P:Program) (ops:Array Oper) (Q:Exit→Act→World→Prop) (a0:Act) (slot:Nat→Nat) (g:Nat→World→Value→Prop) (S:World→Prop) (run:Nat→Bool):List Oper→Nat→Prop
 | [],_=>True
 |o :: l,i=>(run i=true→OwesN P ops Q a0 slot g S i o)∧OwesL P ops Q a0 slot g S run l (i+1)
theorem owesL_at {a0:Act} {slot:Nat→Nat} {g:Nat→World→Value→Prop} {S:World→Prop} {run:Nat→Bool} : ∀(l:List Oper) (k:Nat),OwesL P ops Q a0 slot g S run l k→ ∀i o,l[i]? =some o→run (k+i)=true→OwesN P ops Q a0 slot g S (k+i) o:=by
 intro l
 induction l with
 |nil=>intro k h i o ho;simp at ho
 |cons o l ih=>
  intro k h i o' ho hr
  cases i with
  |zero=>
   have e:o=o':=by simpa using ho
   subst e
   exact h.1 hr
  |succ i=>
   have e:k+(i+1)=k+1+i:=by omega
   rw[e] at hr ⊢
   exact ih (k+1) h.2 i o' (by simpa using ho) hr
theorem region_n {id:Nat} {a0:Act} {w0:World} (hm:P.follows .mixedOrders=true) (slot:Nat→Nat) (g:Nat→World→Value→Prop) (S:World→Prop) (run:Nat→Bool) (hok:regionOk ops slot=true) (hslot: ∀j,j<ops.size→slot j<a0.tmps.size)
  (hrun: ∀i o,ops[i]? =some o→ ∀(a:Act) (w:World),(∀j ∈ depsOf ops i,g j w (tau a (slot j)))→Region.wanted o (yielded ops a.tmps)=run i)
  (skip: ∀i o,ops[i]? =some o→run i=false→o.dst=some (slot i)∧ ∀w,S w→g i w undef)
  (hS:S w0.drew) (ob:OwesL P ops Q a0 slot g S run ops.toList 0)
  (done: ∀a w,a.defers=a0.defers→a.tmps.size=a0.tmps.size→(∀t,(h:fixB ops t=true:=by decide +kernel)→tau a t=tau a0 t)→S w→(∀j,j<ops.size→g j w (tau a (slot j)))→Q .normal a w):
  (Code.region id ops true).wp P Q a0 w0:=
 region_inv2 hm slot g S run hok hslot hrun hS (fun i o ho hr a w K hf hs hd _ hk=>by
   have h:=owesL_at ops.toList 0 ob i o (by simpa using ho) (by rw[Nat.zero_add];exact hr)
   rw[Nat.zero_add] at h
   exact h a w K (fun t ht=>hf t (fix_of ht)) hs (fun j hj=>hd j (dep_of hj)) (ev_const a) (ev_func a) hk) skip
  (fun a w h1 h2 h3 h4 h5=>done a w h1 h2 (fun t ht=>h3 t (fix_of ht)) h4 h5)
theorem hrun_none {slot:Nat→Nat} {g:Nat→World→Value→Prop} (hg:(ops.all fun o=>o.guard.isNone)=true): ∀i o,ops[i]? =some o→ ∀(a:Act) (w:World),(∀j ∈ depsOf ops i,g j w (tau a (slot j)))→Region.wanted o (yielded ops a.tmps)=true:=
 fun i o ho a w _=>wanted_free (by
  rw[Array.all_eq_true'] at hg
  exact Option.isNone_iff_eq_none.1 (hg o (by rw[Array.mem_iff_getElem?];exact ⟨i,ho⟩)))
theorem region_n0 {id:Nat} {a0:Act} {w0:World} (hm:P.follows .mixedOrders=true) (slot:Nat→Nat) (g:Nat→World→Value→Prop) (S:World→Prop) (hg:(ops.all fun o=>o.guard.isNone)=true) (hok:regionOk ops slot=true) (hslot: ∀j,j<ops.size→slot j<a0.tmps.size)
  (hS:S w0.drew) (ob:OwesL P ops Q a0 slot g S (fun _=>true) ops.toList 0)
  (done: ∀a w,a.defers=a0.defers→a.tmps.size=a0.tmps.size→(∀t,(h:fixB ops t=true:=by decide +kernel)→tau a t=tau a0 t)→S w→(∀j,j<ops.size→g j w (tau a (slot j)))→Q .normal a w):
  (Code.region id ops true).wp P Q a0 w0:=
 region_n hm slot g S (fun _=>true) hok hslot (hrun_none hg) (fun i o ho h=>by cases h) hS ob done
/- The same where an operation reads what another one will write: pre. -/
def OwesN3 (P:Program) (ops:Array Oper) (Q:Exit→Act→World→Prop) (a0:Act) (slot:Nat→Nat) (g:Nat→World→Value→Prop) (S:World→Prop) (pre:Nat→World→Prop) (i:Nat) (o:Oper):Prop:=
 ∀(a:Act) (w:World) (K:Act→World→Prop),(∀t,(h:fixB ops t=true:=by decide +kernel)→tau a t=tau a0 t)→S w→(∀j,(h:(depsOf ops i).contains j=true:=by decide +kernel)→g j w (tau a (slot j)))→(∀v,a.eval (.const v)=v)→(∀f,a.eval (.func f)= .func (.func f) #[] #[])→pre i w→(∀j,(h:(decide (j<ops.size)&&(depsOf ops j).contains i)=true:=by decide +kernel)→pre j w)→
  (∀v w',S w'→g i w' (if o.dst=some (slot i) then v else tau a (slot i))→(∀j u,j≠i→g j w u→g j w' u)→(∀j,j≠i→pre j w→pre j w')→K (a.put o.dst v) w')→o.wp P a w K Q
def OwesL3 (P:Program) (ops:Array Oper) (Q:Exit→Act→World→Prop) (a0:Act) (slot:Nat→Nat) (g:Nat→World→Value→Prop) (S:World→Prop) (pre:Nat→World→Prop) (run:Nat→Bool):List Oper→Nat→Prop
 | [],_=>True
 |o :: l,i=>(run i=true→OwesN3 P ops Q a0 slot g S pre i o)∧OwesL3 P ops Q a0 slot g S pre run l (i+1)
theorem owesL3_at {a0:Act} {slot:Nat→Nat} {g:Nat→World→Value→Prop} {S:World→Prop} {pre:Nat→World→Prop} {run:Nat→Bool} : ∀(l:List Oper) (k:Nat),OwesL3 P ops Q a0 slot g S pre run l k→ ∀i o,l[i]? =some o→run (k+i)=true→OwesN3 P ops Q a0 slot g S pre (k+i) o:=by
 intro l
 induction l with
 |nil=>intro k h i o ho;simp at ho
 |cons o l ih=>
  intro k h i o' ho hr
  cases i with
  |zero=>
   have e:o=o':=by simpa using ho
   subst e
   exact h.1 hr
  |succ i=>
   have e:k+(i+1)=k+1+i:=by omega
   rw[e] at hr ⊢
   exact ih (k+1) h.2 i o' (by simpa using ho) hr
theorem region_n3 {id:Nat} {a0:Act} {w0:World} (hm:P.follows .mixedOrders=true) (slot:Nat→Nat) (g:Nat→World→Value→Prop) (S:World→Prop) (pre:Nat→World→Prop) (run:Nat→Bool) (hok:regionOk ops slot=true) (hslot: ∀j,j<ops.size→slot j<a0.tmps.size)
  (hrun: ∀i o,ops[i]? =some o→ ∀(a:Act) (w:World),(∀j ∈ depsOf ops i,g j w (tau a (slot j)))→Region.wanted o (yielded ops a.tmps)=run i)
  (skip: ∀i o,ops[i]? =some o→run i=false→o.dst=some (slot i)∧ ∀w,S w→g i w undef)
  (hS:S w0.drew) (hpre: ∀j,j<ops.size→pre j w0.drew) (ob:OwesL3 P ops Q a0 slot g S pre run ops.toList 0)
  (done: ∀a w,a.defers=a0.defers→a.tmps.size=a0.tmps.size→(∀t,(h:fixB ops t=true:=by decide +kernel)→tau a t=tau a0 t)→S w→(∀j,j<ops.size→g j w (tau a (slot j)))→Q .normal a w):
  (Code.region id ops true).wp P Q a0 w0:=
 region_inv3 hm slot g S pre run hok hslot hrun hS hpre (fun i o ho hr a w K hf hs hd _ hp hpj hk=>by
   have h:=owesL3_at ops.toList 0 ob i o (by simpa using ho) (by rw[Nat.zero_add];exact hr)
   rw[Nat.zero_add] at h
   exact h a w K (fun t ht=>hf t (fix_of ht)) hs (fun j hj=>hd j (dep_of hj)) (ev_const a) (ev_func a) hp (fun j hj=>by
    rw[Bool.and_eq_true] at hj
    exact hpj j (of_decide_eq_true hj.1) (dep_of hj.2)) hk) skip
  (fun a w h1 h2 h3 h4 h5=>done a w h1 h2 (fun t ht=>h3 t (fix_of ht)) h4 h5)
end
end Go.Proofs.YtobkcnmlmmhpoaaGreatDoor
namespace Go.Proofs.YtobkcnmlmmhpoaaGreatDoor
open Go.RowKit
set_option linter.unusedVariables false
set_option linter.unusedSimpArgs false

section
variable {P:Program} {ops:Array Oper} {Q:Exit→Act→World→Prop}

/-! The same, where an operation may lean on what holds as long as another one that waits for it is still to come. -/
end
end Go.Proofs.YtobkcnmlmmhpoaaGreatDoor
