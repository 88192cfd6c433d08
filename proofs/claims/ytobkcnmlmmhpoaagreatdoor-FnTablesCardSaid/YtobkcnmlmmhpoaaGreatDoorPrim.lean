/- Primitive reduced forms and discriminants in a range, on both sides. -/
import Derived.Test.YtobkcnmlmmhpoaaGreatDoorRed
namespace Go.Proofs.YtobkcnmlmmhpoaaGreatDoor
set_option maxRecDepth 100000
set_option maxHeartbeats 80000000
open Go.RowKit
set_option linter.unusedVariables false
set_option linter.unusedSimpArgs false
attribute [local go_sem] q2 q3 q4 q5 q6 q7 q8 q9 q10 q11 q12
theorem below_alloc_p (W:World) (o:Obj):Below W.heap.size W (W.alloc o):=(Below.refl (B:=W.heap.size) (w:=W)).alloc (Nat.le_refl _) o
theorem FAt.grown {w w':World} {lo hi:Nat} {a:Option Addr} {fs:List (Int × Int × Int)} {row:Option Nat} (h:FAt w lo hi a fs) (hg:w.grownBy w' row) (hr: ∀k,row=some k→hi≤k) (hB:hi≤w.heap.size):FAt w' lo hi a fs:=
 FormsAt.keep h fun k _ h2=>hg.block k Vn (fun e=>by have:=hr k e.symm;omega)

theorem primitiveOf_a (fs:List (Int × Int × Int)) (a0:Option Addr) (c0 lo:Nat) (w:World) (hF:FAt w lo w.heap.size a0 fs) (hv: ∀f ∈ fs,formB f.1 f.2.1 f.2.2=true) (hn:fs.length≤100000):
  Calls Tryz.prog 68 #[.slice a0 fs.length c0] w (RetFL w (primL fs)):=by
 have HV:=fun f h=>hv f h
 clear hv
 go_enter Tryz.func68,Tryz.ntmps68
 go_wp2
 go_loopw [3,9] (fun ls is wr=> ∃(k:Nat) (g:Option Addr) (cp:Nat),k≤fs.length∧is= .int .i64 (k:Int)∧ls= .slice g (primK fs k).length cp∧FL wr w.heap.size (.slice g (primK fs k).length cp) (primK fs k)∧Below w.heap.size w wr∧FAt wr lo w.heap.size a0 fs) (fun _ is _=>fs.length-(intOf is).toNat)
 case atStart=>exact ⟨0,some ⟨w.heap.size,0,none⟩,0,Vn,rfl,rfl,FL.made w _ (Nat.le_refl _),(Below.refl _ _).alloc (Nat.le_refl _) _,hF.below (below_alloc_p w _) (Nat.le_refl _)⟩
 case round=>
  obtain ⟨k,g,cp,hk,rfl,rfl,hl,hb1,hF⟩:=hrel
  obtain ⟨w1,rfl⟩: ∃w1:World,w1=wr:=⟨_,rfl⟩
  have hz:=hb1.size
  have hL:(primK fs k).length≤k:=flN_len _ _ _
  by_cases c:k<fs.length
  ·have hci:(k:Int)<(fs.length:Int):=by omega
   obtain ⟨g0,hg,hg2,c0,c1,c2⟩:=hF.cells c
   have hv:=HV (fs.getD k (0,0,0)) (by rw[List.getD_eq_getElem?_getD,List.getElem?_eq_getElem c];exact List.getElem_mem c)
   generalize hx:(fs.getD k (0,0,0)).1=x at*
   generalize hy:(fs.getD k (0,0,0)).2.1=y at*
   generalize hz9:(fs.getD k (0,0,0)).2.2=z at*
   subst hg
   by_cases k1:contI x y z=1
   ·have el:=prim_yes hx hy hz9 k1
    have EL:=hide el
    have t1:(contI x y z==1)=true:=by simp [k1]
    clear el hx hy hz9
    go_wp2_with (first|(go_at_call 95;refine (content_a _ _ _ _ Vp).mono ?_;rintro e w2 ⟨rfl,hb⟩;have c00:=cell_call hb (a:=⟨w1.heap.size,0,none⟩) (v:= .int .i64 x) Vq;have c01:=cell_call hb (a:=⟨w1.heap.size,1,none⟩) (v:= .int .i64 y) Vq;have c02:=cell_call hb (a:=⟨w1.heap.size,2,none⟩) (v:= .int .i64 z) Vq;have z0:=lt_keep hb (w1.heap.size) Vx;have hs:=hb.size;have hF2:=hF.below ((below_alloc_p w1 (.cells #[.int .i64 x,.int .i64 y,.int .i64 z] 81)).trans (hb.mono Vs)) Vn;have hl2:=(hl.alloc _).below hb;have hb3:Below w.heap.size w w2:=(hb1.alloc hz _).trans (hb.mono VX))|(at_builtin;refine app_FL _ rfl (.tmp 16) (.tmp 18) rfl w.heap.size (.slice g (primK fs k).length cp) (primK fs k) x y z w2.heap.size rfl rfl (hl2.alloc _) VB VB VB Vn VX ?_;intro g2 cap w3 hown hgrow hat hlt))
    go_roundw
    case rel=>
     refine ⟨k+1,some ⟨g2,0,none⟩,cap,Vn,by go_num,?_,?_,(hb3.alloc Vn _).grown hgrow VX (fun k hk=>(hl2.lt k hk).1),(hF2.below (below_alloc_p w2 _) Vn).grown hgrow (fun k hk=>(hl2.lt k hk).1) VX⟩
     ·rw [unhide EL,List.length_append];rfl
     ·rw [unhide EL,List.length_append];exact hown
    case measure=>simp [intOf];omega
   ·have el:=prim_no hx hy hz9 k1
    have EL:=hide el
    have t1:(contI x y z==1)=false:=by simp [k1]
    clear el hx hy hz9
    go_wp2_with (go_at_call 95;refine (content_a _ _ _ _ Vp).mono ?_;rintro e w2 ⟨rfl,hb⟩;have c00:=cell_call hb (a:=⟨w1.heap.size,0,none⟩) (v:= .int .i64 x) Vq;have c01:=cell_call hb (a:=⟨w1.heap.size,1,none⟩) (v:= .int .i64 y) Vq;have c02:=cell_call hb (a:=⟨w1.heap.size,2,none⟩) (v:= .int .i64 z) Vq;have z0:=lt_keep hb (w1.heap.size) Vx;have hs:=hb.size;have hF2:=hF.below ((below_alloc_p w1 (.cells #[.int .i64 x,.int .i64 y,.int .i64 z] 81)).trans (hb.mono Vs)) Vn;have hl2:=(hl.alloc _).below hb;have hb3:Below w.heap.size w w2:=(hb1.alloc hz _).trans (hb.mono VX))
    go_roundw
    case rel=>first|exact ⟨k+1,g,cp,Vn,by first|rfl|go_num,by rw[unhide EL],by rw[unhide EL];exact hl2,hb3,hF2⟩|((repeat apply Exists.intro);exact ⟨⟨k+1,g,cp,Vn,by first|rfl|go_num,by rw[unhide EL],by rw[unhide EL];exact hl2,hb3,hF2⟩,rfl⟩)
    case measure=>simp [intOf];omega
  ·obtain rfl:k=fs.length:=by omega
   go_wp2
   go_ret
   exact ⟨g,cp,rfl,hl,hb1⟩

theorem reList_a (d:Int) (w:World) (h0: -2000≤d) (h1:d≤ -3):
  Calls Tryz.prog 51 #[.int .i64 d] w (RetFL w (rfL d)):=by
 have hlen:=allR_len h0 h1
 have HV:=allR_form h0 h1
 have HC:=reAll_a d w h0 h1
 unfold rfL
 generalize allR d=fs at*
 go_enter Tryz.func51,Tryz.ntmps51
 go_wp2_with (go_at_call 81;refine HC.mono ?_;rintro e wA ⟨a0,c0,rfl,hlA,hbA⟩)
 have hF0:=hlA.at.2
 have hzw:=hbA.size
 clear HC
 go_loopw [3,9] (fun ls is wr=> ∃(k:Nat) (g:Option Addr) (cp:Nat),k≤fs.length∧is= .int .i64 (k:Int)∧ls= .slice g (primK fs k).length cp∧FL wr wA.heap.size (.slice g (primK fs k).length cp) (primK fs k)∧Below w.heap.size w wr∧wA.heap.size≤wr.heap.size∧FAt wr w.heap.size wA.heap.size a0 fs) (fun _ is _=>fs.length-(intOf is).toNat)
 case atStart=>exact ⟨0,none,0,Vn,rfl,rfl,FL.nil _ _,hbA,Nat.le_refl _,hF0⟩
 case round=>
  obtain ⟨k,g,cp,hk,rfl,rfl,hl,hb1,hzA,hF⟩:=hrel
  obtain ⟨w1,rfl⟩: ∃w1:World,w1=wr:=⟨_,rfl⟩
  have hz:=hb1.size
  have hL:(primK fs k).length≤k:=flN_len _ _ _
  by_cases c:k<fs.length
  ·have hci:(k:Int)<(fs.length:Int):=by omega
   obtain ⟨g0,hg,hg2,c0,c1,c2⟩:=hF.cells c
   have hv:=HV (fs.getD k (0,0,0)) (by rw[List.getD_eq_getElem?_getD,List.getElem?_eq_getElem c];exact List.getElem_mem c)
   generalize hx:(fs.getD k (0,0,0)).1=x at*
   generalize hy:(fs.getD k (0,0,0)).2.1=y at*
   generalize hz9:(fs.getD k (0,0,0)).2.2=z at*
   subst hg
   by_cases k1:contI x y z=1
   ·have el:=prim_yes hx hy hz9 k1
    have EL:=hide el
    have t1:(contI x y z==1)=true:=by simp [k1]
    clear el hx hy hz9
    go_wp2_with (first|(go_at_call 82;refine (foContent_a _ _ _ _ Vp).mono ?_;rintro e w2 ⟨rfl,hb⟩;have c00:=cell_call hb (a:=⟨w1.heap.size,0,none⟩) (v:= .int .i64 x) Vq;have c01:=cell_call hb (a:=⟨w1.heap.size,1,none⟩) (v:= .int .i64 y) Vq;have c02:=cell_call hb (a:=⟨w1.heap.size,2,none⟩) (v:= .int .i64 z) Vq;have z0:=lt_keep hb (w1.heap.size) Vx;have hs:=hb.size;have hF2:=hF.below ((below_alloc_p w1 (.cells #[.int .i64 x,.int .i64 y,.int .i64 z] 81)).trans (hb.mono Vs)) Vn;have hl2:=(hl.alloc _).below hb;have hb3:Below w.heap.size w w2:=(hb1.alloc hz _).trans (hb.mono VX))|(at_builtin;refine app_FL _ rfl (.tmp 16) (.tmp 18) rfl wA.heap.size (.slice g (primK fs k).length cp) (primK fs k) x y z w2.heap.size rfl rfl (hl2.alloc _) VB VB VB Vn VX ?_;intro g2 cap w3 hown hgrow hat hlt))
    go_roundw
    case rel=>
     refine ⟨k+1,some ⟨g2,0,none⟩,cap,Vn,by go_num,?_,?_,(hb3.alloc Vn _).grown hgrow VX (fun k hk=>by have:=(hl2.lt k hk).1;omega),by simp at hs;have:=hgrow.size;simp at this;omega,(hF2.below (below_alloc_p w2 _) Vn).grown hgrow (fun k hk=>(hl2.lt k hk).1) VX⟩
     ·rw [unhide EL,List.length_append];rfl
     ·rw [unhide EL,List.length_append];exact hown
    case measure=>simp [intOf];omega
   ·have el:=prim_no hx hy hz9 k1
    have EL:=hide el
    have t1:(contI x y z==1)=false:=by simp [k1]
    clear el hx hy hz9
    go_wp2_with (go_at_call 82;refine (foContent_a _ _ _ _ Vp).mono ?_;rintro e w2 ⟨rfl,hb⟩;have c00:=cell_call hb (a:=⟨w1.heap.size,0,none⟩) (v:= .int .i64 x) Vq;have c01:=cell_call hb (a:=⟨w1.heap.size,1,none⟩) (v:= .int .i64 y) Vq;have c02:=cell_call hb (a:=⟨w1.heap.size,2,none⟩) (v:= .int .i64 z) Vq;have z0:=lt_keep hb (w1.heap.size) Vx;have hs:=hb.size;have hF2:=hF.below ((below_alloc_p w1 (.cells #[.int .i64 x,.int .i64 y,.int .i64 z] 81)).trans (hb.mono Vs)) Vn;have hl2:=(hl.alloc _).below hb;have hb3:Below w.heap.size w w2:=(hb1.alloc hz _).trans (hb.mono VX))
    go_roundw
    case rel=>first|exact ⟨k+1,g,cp,Vn,by first|rfl|go_num,by rw[unhide EL],by rw[unhide EL];exact hl2,hb3,by simp at hs;omega,hF2⟩|((repeat apply Exists.intro);exact ⟨⟨k+1,g,cp,Vn,by first|rfl|go_num,by rw[unhide EL],by rw[unhide EL];exact hl2,hb3,by simp at hs;omega,hF2⟩,rfl⟩)
    case measure=>simp [intOf];omega
  ·obtain rfl:k=fs.length:=by omega
   go_wp2
   go_ret
   exact ⟨g,cp,rfl,hl.weak hbA.size,hb1⟩

theorem reducedForms_a (d:Int) (w:World) (h0: -2000≤d) (h1:d≤ -3):
  Calls Tryz.prog 42 #[.int .i64 d] w (RetFL w (rfL d)):=by
 have hlen:=allR_len h0 h1
 have HV:=allR_form h0 h1
 go_enter Tryz.func42,Tryz.ntmps42
 go_wp2_with (first|(go_at_call 69;refine (allReduced_a _ _ h0 h1).mono ?_;rintro e wA ⟨a0,c0,rfl,hlA,hbA⟩)|(go_at_call 68;refine (primitiveOf_a (allR d) a0 c0 w.heap.size wA hlA.at.2 HV Vn).mono ?_;rintro e w2 ⟨a2,c2,rfl,hl2,hb2⟩))
 go_ret
 exact ⟨a2,c2,rfl,hl2.weak hbA.size,hbA.trans (hb2.mono hbA.size)⟩

def dcP (lo:Int) (k:Nat):Bool:=negB (lo+k)
def dcE (lo:Int) (k:Nat):Int:=lo+k
def dcL (lo hi:Int):List Int:=flN (dcP lo) (dcE lo) (hi-lo+1).toNat

theorem discsIn_a (lo hi:Int) (w:World) (h0: -2000≤lo) (h1:hi≤ -3):
  Calls Tryz.prog 25 #[.int .i64 lo,.int .i64 hi] w (RetIL w (flN (dcP lo) (dcE lo) (hi-lo+1).toNat)):=by
 go_enter Tryz.func25,Tryz.ntmps25
 go_wp2
 go_loopw [5,6] (fun ls xs wr=> ∃(k:Nat) (a:Option Addr) (c:Nat),k≤(hi-lo+1).toNat∧xs= .int .i64 (lo+(k:Int))∧ls= .slice a (flN (dcP lo) (dcE lo) k).length c∧IL wr w.heap.size (.slice a (flN (dcP lo) (dcE lo) k).length c) (flN (dcP lo) (dcE lo) k)∧Below w.heap.size w wr) (fun _ xs _=>((hi+1)-intOf xs).toNat)
 case atStart=>exact ⟨0,some ⟨w.heap.size,0,none⟩,0,Vn,congrArg (Value.int .i64) Vn,rfl,IL.made w _ (Nat.le_refl _),(Below.refl _ _).alloc (Nat.le_refl _) _⟩
 case round=>
  obtain ⟨k,a,c,hk,rfl,rfl,hl,hb⟩:=hrel
  obtain ⟨w1,rfl⟩: ∃w1:World,w1=wr:=⟨_,rfl⟩
  have hz:=hb.size
  have hL:=flN_len (dcP lo) (dcE lo) k
  by_cases c1:k<(hi-lo+1).toNat
  ·have hle:lo+(k:Int)≤hi:=by omega
   cases hp:(dcP lo) k
   ·have el:=flN_no (e:=(dcE lo)) hp
    have EL:=hide el
    have hp2:negB (lo+(k:Int))=false:=hp
    clear el
    go_wp2_with (go_at_call 31;refine (isNegativeDisc_a _ _).mono ?_;rintro e w' ⟨rfl,rfl⟩)
    go_roundw
    case rel=>first|exact ⟨k+1,a,c,Vn,congrArg (Value.int .i64) Vn,by rw[unhide EL],by rw[unhide EL];exact hl,hb⟩|((repeat apply Exists.intro);exact ⟨⟨k+1,a,c,Vn,congrArg (Value.int .i64) Vn,by rw[unhide EL],by rw[unhide EL];exact hl,hb⟩,rfl⟩)
    case measure=>simp [intOf];omega
   ·have el:=flN_yes (e:=(dcE lo)) hp
    have EL:=hide el
    have hp2:negB (lo+(k:Int))=true:=hp
    clear el
    go_wp2_with (first|(go_at_call 31;refine (isNegativeDisc_a _ _).mono ?_;rintro e w' ⟨rfl,rfl⟩)|(at_builtin;refine app_int _ rfl (.tmp 16) (.tmp 18) rfl w.heap.size (.slice a (flN (dcP lo) (dcE lo) k).length c) (flN (dcP lo) (dcE lo) k) (lo+(k:Int)) w1.heap.size rfl rfl (hl.alloc _) Vs Vn VX ?_;intro g cap w2 hown hgrow hat hlt))
    go_roundw
    case rel=>
     refine ⟨k+1,some ⟨g,0,none⟩,cap,Vn,congrArg (Value.int .i64) Vn,?_,?_,(hb.alloc hz _).grown hgrow VX (fun k hk=>(hl.lt k hk).1)⟩
     ·rw [unhide EL,List.length_append];rfl
     ·rw [unhide EL,List.length_append];exact hown
    case measure=>simp [intOf];omega
  ·have hle:hi<lo+(k:Int):=by omega
   obtain rfl:k=(hi-lo+1).toNat:=by omega
   go_wp2
   go_ret
   exact ⟨a,c,rfl,hl,hb⟩

theorem tbDiscs_a (lo hi:Int) (w:World) (h0: -2000≤lo) (h1:hi≤ -3):
  Calls Tryz.prog 28 #[.int .i64 lo,.int .i64 hi] w (RetIL w (flN (dcP lo) (dcE lo) (hi-lo+1).toNat)):=by
 go_enter Tryz.func28,Tryz.ntmps28
 go_wp2
 go_loopw [5,6] (fun ls xs wr=> ∃(k:Nat) (a:Option Addr) (c:Nat),k≤(hi-lo+1).toNat∧xs= .int .i64 (lo+(k:Int))∧ls= .slice a (flN (dcP lo) (dcE lo) k).length c∧IL wr w.heap.size (.slice a (flN (dcP lo) (dcE lo) k).length c) (flN (dcP lo) (dcE lo) k)∧Below w.heap.size w wr) (fun _ xs _=>((hi+1)-intOf xs).toNat)
 case atStart=>exact ⟨0,none,0,Vn,congrArg (Value.int .i64) Vn,rfl,IL.nil _ _,Below.refl _ _⟩
 case round=>
  obtain ⟨k,a,c,hk,rfl,rfl,hl,hb⟩:=hrel
  obtain ⟨w1,rfl⟩: ∃w1:World,w1=wr:=⟨_,rfl⟩
  have hz:=hb.size
  have hL:=flN_len (dcP lo) (dcE lo) k
  by_cases c1:k<(hi-lo+1).toNat
  ·have hle:lo+(k:Int)≤hi:=by omega
   cases hp:(dcP lo) k
   ·have el:=flN_no (e:=(dcE lo)) hp
    have EL:=hide el
    have hp2:negB (lo+(k:Int))=false:=hp
    clear el
    go_wp2_with (go_at_call 49;refine (reDisc_a _ _).mono ?_;rintro e w' ⟨rfl,rfl⟩)
    go_roundw
    case rel=>first|exact ⟨k+1,a,c,Vn,congrArg (Value.int .i64) Vn,by rw[unhide EL],by rw[unhide EL];exact hl,hb⟩|((repeat apply Exists.intro);exact ⟨⟨k+1,a,c,Vn,congrArg (Value.int .i64) Vn,by rw[unhide EL],by rw[unhide EL];exact hl,hb⟩,rfl⟩)
    case measure=>simp [intOf];omega
   ·have el:=flN_yes (e:=(dcE lo)) hp
    have EL:=hide el
    have hp2:negB (lo+(k:Int))=true:=hp
    clear el
    go_wp2_with (first|(go_at_call 49;refine (reDisc_a _ _).mono ?_;rintro e w' ⟨rfl,rfl⟩)|(at_builtin;refine app_int _ rfl (.tmp 15) (.tmp 17) rfl w.heap.size (.slice a (flN (dcP lo) (dcE lo) k).length c) (flN (dcP lo) (dcE lo) k) (lo+(k:Int)) w1.heap.size rfl rfl (hl.alloc _) Vs Vn VX ?_;intro g cap w2 hown hgrow hat hlt))
    go_roundw
    case rel=>
     refine ⟨k+1,some ⟨g,0,none⟩,cap,Vn,congrArg (Value.int .i64) Vn,?_,?_,(hb.alloc hz _).grown hgrow VX (fun k hk=>(hl.lt k hk).1)⟩
     ·rw [unhide EL,List.length_append];rfl
     ·rw [unhide EL,List.length_append];exact hown
    case measure=>simp [intOf];omega
  ·have hle:hi<lo+(k:Int):=by omega
   obtain rfl:k=(hi-lo+1).toNat:=by omega
   go_wp2
   go_ret
   exact ⟨a,c,rfl,hl,hb⟩

theorem dcL_mem {lo hi x:Int} (h:x ∈ dcL lo hi):negB x=true:=by
 obtain ⟨j,_,hp,rfl⟩:=flN_mem h
 exact hp
theorem dcL_len {lo hi:Int} (h0: -2000≤lo) (h1:hi≤ -3):(dcL lo hi).length≤2000:=by
 have:=flN_len (dcP lo) (dcE lo) (hi-lo+1).toNat
 unfold dcL;omega
end Go.Proofs.YtobkcnmlmmhpoaaGreatDoor
