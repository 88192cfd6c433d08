/- Primitive reduced forms and discriminants in a range, on both sides. Plain: the reduced forms of a discriminant. Reduced forms are small. -/
import Derived.Test.YtobkcnmlmmhpoaaGreatRed
import Derived.Test.YtobkcnmlmmhpoaaGreatRedF
import Derived.Test.YtobkcnmlmmhpoaaGreatDrm
namespace Go.Proofs.YtobkcnmlmmhpoaaGreat
open Go.RowKit
set_option linter.unusedVariables false
set_option linter.unusedSimpArgs false
attribute [local go_sem] q2 q3 q4 q5 q6 q7 q8 q9 q10 q11 q12
theorem below_alloc_p (W:World) (o:Obj):Below W.heap.size W (W.alloc o):=(Below.refl (B:=W.heap.size) (w:=W)).alloc (Nat.le_refl _) o
theorem FAt.grown {w w':World} {lo hi:Nat} {a:Option Addr} {fs:List (Int × Int × Int)} {row:Option Nat} (h:FAt w lo hi a fs) (hg:w.grownBy w' row) (hr: ∀k,row=some k→hi≤k) (hB:hi≤w.heap.size):FAt w' lo hi a fs:=
 FormsAt.keep h fun k _ h2=>hg.block k (by omega) (fun e=>by have:=hr k e.symm;omega)

set_option maxRecDepth 100000 in
set_option maxHeartbeats 4000000 in
theorem reList_a (d:Int) (w:World) (h0: -2000≤d) (h1:d≤ -3):
  Calls Tryz.prog 81 #[.int .i64 d] w (RetFL w (rfL d)):=by
 have hlen:=allR_len h0 h1
 have HV:=allR_form h0 h1
 have HC:=reAll_a d w h0 h1
 unfold rfL
 generalize allR d=fs at*
 go_enter Tryz.func81,Tryz.ntmps81
 go_wp2_with (go_at_call 108;refine HC.mono ?_;rintro e wA ⟨a0,c0,rfl,hlA,hbA⟩)
 have hF0:=hlA.at.2
 have hzw:=hbA.size
 clear HC
 go_loopw [3,9] (fun ls is wr=> ∃(k:Nat) (g:Option Addr) (cp:Nat),k≤fs.length∧is= .int .i64 (k:Int)∧ls= .slice g (primK fs k).length cp∧FL wr wA.heap.size (.slice g (primK fs k).length cp) (primK fs k)∧Below w.heap.size w wr∧wA.heap.size≤wr.heap.size∧FAt wr w.heap.size wA.heap.size a0 fs) (fun _ is _=>fs.length-(intOf is).toNat)
 case atStart=>exact ⟨0,none,0,by omega,rfl,rfl,FL.nil _ _,hbA,Nat.le_refl _,hF0⟩
 case round=>
  obtain ⟨k,g,cp,hk,rfl,rfl,hl,hb1,hzA,hF⟩:=hrel
  obtain ⟨w1,rfl⟩: ∃w1:World,w1=wr:=⟨_,rfl⟩
  have hz:=hb1.size
  have hL:(primK fs k).length≤k:=flN_len _ _ _
  by_cases c:k<fs.length
  ·have hci:(k:Int)<(fs.length:Int):=by omega
   obtain ⟨g0,hg,hg2,c0,c1,c2⟩:=hF.cells c
   have hv:=HV (fs.getD k (0,0,0)) (by rw[List.getD_eq_getElem?_getD,List.getElem?_eq_getElem c];exact List.getElem_mem c)
   generalize hx:(fs.getD k (0,0,0)).1=x at*
   generalize hy:(fs.getD k (0,0,0)).2.1=y at*
   generalize hz9:(fs.getD k (0,0,0)).2.2=z at*
   subst hg
   by_cases k1:contI x y z=1
   ·have el:=prim_yes hx hy hz9 k1
    have EL:=hide el
    have t1:(contI x y z==1)=true:=by simp [k1]
    clear el hx hy hz9
    go_wp2_with (first|(go_at_call 93;refine (foContent_a _ _ _ _ (by first|assumption|omega)).mono ?_;rintro e w2 ⟨rfl,hb⟩;have c00:=cell_call hb (a:=⟨w1.heap.size,0,none⟩) (v:= .int .i64 x) (by first|assumption|go_simp);have c01:=cell_call hb (a:=⟨w1.heap.size,1,none⟩) (v:= .int .i64 y) (by first|assumption|go_simp);have c02:=cell_call hb (a:=⟨w1.heap.size,2,none⟩) (v:= .int .i64 z) (by first|assumption|go_simp);have z0:=lt_keep hb (w1.heap.size) (by first|assumption|(simp;omega)|(simp;done));have hs:=hb.size;have hF2:=hF.below ((below_alloc_p w1 (.cells #[.int .i64 x,.int .i64 y,.int .i64 z] 25)).trans (hb.mono (by simp))) (by omega);have hl2:=(hl.alloc _).below hb;have hb3:Below w.heap.size w w2:=(hb1.alloc hz _).trans (hb.mono (by simp;omega)))|(at_builtin;refine app_FL _ rfl (.tmp 16) (.tmp 18) rfl wA.heap.size (.slice g (primK fs k).length cp) (primK fs k) x y z w2.heap.size rfl rfl (hl2.alloc _) (by go_simp) (by go_simp) (by go_simp) (by omega) (by simp;omega) ?_;intro g2 cap w3 hown hgrow hat hlt))
    go_roundw
    case rel=>
     refine ⟨k+1,some ⟨g2,0,none⟩,cap,by omega,by go_num,?_,?_,(hb3.alloc (by omega) _).grown hgrow (by simp;omega) (fun k hk=>by have:=(hl2.lt k hk).1;omega),by simp at hs;have:=hgrow.size;simp at this;omega,(hF2.below (below_alloc_p w2 _) (by omega)).grown hgrow (fun k hk=>(hl2.lt k hk).1) (by simp;omega)⟩
     ·rw [unhide EL,List.length_append];rfl
     ·rw [unhide EL,List.length_append];exact hown
    case measure=>simp [intOf];omega
   ·have el:=prim_no hx hy hz9 k1
    have EL:=hide el
    have t1:(contI x y z==1)=false:=by simp [k1]
    clear el hx hy hz9
    go_wp2_with (go_at_call 93;refine (foContent_a _ _ _ _ (by first|assumption|omega)).mono ?_;rintro e w2 ⟨rfl,hb⟩;have c00:=cell_call hb (a:=⟨w1.heap.size,0,none⟩) (v:= .int .i64 x) (by first|assumption|go_simp);have c01:=cell_call hb (a:=⟨w1.heap.size,1,none⟩) (v:= .int .i64 y) (by first|assumption|go_simp);have c02:=cell_call hb (a:=⟨w1.heap.size,2,none⟩) (v:= .int .i64 z) (by first|assumption|go_simp);have z0:=lt_keep hb (w1.heap.size) (by first|assumption|(simp;omega)|(simp;done));have hs:=hb.size;have hF2:=hF.below ((below_alloc_p w1 (.cells #[.int .i64 x,.int .i64 y,.int .i64 z] 25)).trans (hb.mono (by simp))) (by omega);have hl2:=(hl.alloc _).below hb;have hb3:Below w.heap.size w w2:=(hb1.alloc hz _).trans (hb.mono (by simp;omega)))
    go_roundw
    case rel=>first|exact ⟨k+1,g,cp,by omega,by first|rfl|go_num,by rw[unhide EL],by rw[unhide EL];exact hl2,hb3,by simp at hs;omega,hF2⟩|((repeat apply Exists.intro);exact ⟨⟨k+1,g,cp,by omega,by first|rfl|go_num,by rw[unhide EL],by rw[unhide EL];exact hl2,hb3,by simp at hs;omega,hF2⟩,rfl⟩)
    case measure=>simp [intOf];omega
  ·obtain rfl:k=fs.length:=by omega
   go_wp2
   go_ret
   exact ⟨g,cp,rfl,hl.weak hbA.size,hb1⟩

end Go.Proofs.YtobkcnmlmmhpoaaGreat
namespace Go.Proofs.YtobkcnmlmmhpoaaGreat
open Go.RowKit
set_option linter.unusedVariables false
set_option linter.unusedSimpArgs false
attribute [local go_sem] q2 q3 q4 q5 q6 q7 q8 q9 q10 q11 q12
theorem okF_dr {a b c:Int} (h:classB a b c=true):OkF a b c:=by
 obtain ⟨ha,hb,hc⟩:=form_true (class_form h)
 have hd:=class_disc h
 have h2:=shown_def (class_shown h)
 unfold defB at h2;simp at h2
 have hbb:0≤b*b:=by
  by_cases q:0≤b
  ·exact Int.mul_nonneg q q
  ·exact Int.mul_nonneg_of_nonpos_of_nonpos (by omega) (by omega)
 have e:4*a*c=4*(a*c):=Int.mul_assoc _ _ _
 have hac:0<a*c:=by unfold discI at hd;omega
 have c0:0<c:=by
  by_cases q:0<c
  ·exact q
  ·have:=Int.mul_nonneg_of_nonpos_of_nonpos (a:= -a) (b:=c) (by omega) (by omega)
   rw[Int.neg_mul] at this;omega
 exact ⟨h2.2.2,by omega,by omega,by omega,c0,by omega,hd.1,hd.2⟩

theorem flN_in {α:Type} {p:Nat→Bool} {e:Nat→α} {j:Nat} (hp:p j=true): ∀{k:Nat},j<k→e j ∈ flN p e k
 |0,h=>by omega
 |k+1,h=>by
  rw[flN]
  by_cases q:j=k
  ·subst q;rw [if_pos hp];simp
  ·have:=flN_in (p:=p) (e:=e) hp (k:=k) (by omega)
   split
   ·rw [List.mem_append];exact .inl this
   ·exact this
theorem allB3_in {d:Int} {a j:Nat} (hj:j<2*a) (hp:rowP d a j=true): ∀{n:Nat},a<n→rowE d a j ∈ allB3 d n
 |0,h=>by omega
 |n+1,h=>by
  rw[allB3_succ,List.mem_append]
  by_cases q:a=n
  ·subst q;exact .inr (flN_in (p:=rowP d a) (e:=rowE d a) hp hj)
  ·exact .inl (allB3_in hj hp (by omega))
theorem allB3_of {d:Int} {f:Int × Int × Int} : ∀a,f ∈ allB3 d a→ ∃(a' j:Nat),1≤a'∧a'<a∧rowP d a' j=true∧f=rowE d a' j
 |0,h=>by cases h
 |a+1,h=>by
  rw[allB3_succ,List.mem_append] at h
  rcases h with h|h
  ·obtain ⟨a',j,h1,h2,h3⟩:=allB3_of a h
   exact ⟨a',j,h1,by omega,h3⟩
  ·obtain ⟨j,h1,h2,h3⟩:=flN_mem h
   exact ⟨a,j,by omega,by omega,h2,h3⟩
structure RfOk (d x y z:Int):Prop where
 cls:classB x y z=true
 red:redB x y z=true
 disc:discI x y z=d
theorem rf_ok {d:Int} (hd:negB d=true) {f:Int × Int × Int} (hf:f ∈ rfL d):RfOk d f.1 f.2.1 f.2.2:=by
 obtain ⟨d0,d1⟩:=neg_true hd
 obtain ⟨i,h1,h2,h3⟩:=flN_mem hf
 have hm:f ∈ allR d:=by
  rw[h3,List.getD_eq_getElem?_getD,List.getElem?_eq_getElem h1];exact List.getElem_mem h1
 have hform:=allR_form d0 d1 f hm
 have hc:contI f.1 f.2.1 f.2.2=1:=by
  have h4:primI ((allR d).getD i (0,0,0))=true:=h2
  have h5:f=(allR d).getD i (0,0,0):=h3
  rw[←h5] at h4
  unfold primI at h4
  simpa using h4
 obtain ⟨a,j,ha,_,hp,he⟩:=allB3_of _ hm
 unfold rowP at hp
 rw[Bool.and_eq_true] at hp
 have hD:discI f.1 f.2.1 f.2.2=d:=by
  have:=disc_of (d:=d) (b:=1-(a:Int)+j) ha
  rw[hp.1] at this
  rw[he]
  simpa [rowE] using this
 have hr:redB f.1 f.2.1 f.2.2=true:=by rw[he];exact hp.2
 refine ⟨?_,hr,hD⟩
 unfold classB shownB defB
 rw[hform,hD,hc]
 have:0<f.1:=by rw[he];show (0:Int)<(a:Int);omega
 simp [this];omega
theorem rf_pos {d:Int} (hd:negB d=true):0<(rfL d).length:=by
 obtain ⟨d0,d1⟩:=neg_true hd
 have hm4:d%4=0∨d%4=1:=by unfold negB at hd;simp at hd;omega
 obtain ⟨j,hj,hjd⟩: ∃j:Nat,j<2∧(j:Int)=d%4:=by
  rcases hm4 with h|h
  ·exact ⟨0,by omega,by omega⟩
  ·exact ⟨1,by omega,by omega⟩
 have hq:((j:Int)*(j:Int)-d)%4=0:=by
  rcases (show j=0∨j=1 by omega) with rfl|rfl<;>simp<;>omega
 have hp:rowP d 1 j=true:=by
  unfold rowP
  have e:(1:Int)-((1:Nat):Int)+(j:Int)=(j:Int):=by omega
  rw[e]
  have hc:1≤cOf d 1 (j:Int):=by
   unfold cOf
   rcases (show j=0∨j=1 by omega) with rfl|rfl<;>simp<;>omega
  have h4:((j:Int)*(j:Int)-d)%(4*((1:Nat):Int))=0:=hq
  rw[h4]
  unfold redB normB
  simp
  omega
 have hmem:rowE d 1 j ∈ allR d:=allB3_in (by omega) hp ((aN_iff d1).2 (by simp;omega))
 obtain ⟨i,hi,he⟩:=List.getElem_of_mem hmem
 have hpr:primI ((allR d).getD i (0,0,0))=true:=by
  have:(allR d).getD i (0,0,0)=rowE d 1 j:=by rw[List.getD_eq_getElem?_getD,List.getElem?_eq_getElem hi];exact he
  rw[this]
  unfold primI rowE contI igcd
  simp
 have:=flN_in (p:=fun i=>primI ((allR d).getD i (0,0,0))) (e:=fun i=>(allR d).getD i (0,0,0)) hpr hi
 exact List.length_pos_of_mem this
end Go.Proofs.YtobkcnmlmmhpoaaGreat
namespace Go.Proofs.YtobkcnmlmmhpoaaGreat
open Go.RowKit
set_option linter.unusedVariables false
set_option linter.unusedSimpArgs false

theorem RfOk.small {d x y z:Int} (h:RfOk d x y z):In 1000 x∧In 1000 y∧In 1000 z:=by
 have ho:=okF_dr h.cls
 obtain ⟨h1,h2,h3,h4⟩:=red_small ho h.red
 have:=ho.a0
 have:=ho.c0
 unfold In;omega
end Go.Proofs.YtobkcnmlmmhpoaaGreat
