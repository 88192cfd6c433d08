/- Slices of Forms in blocks of the call's own, and the laws' helpers over them. Lists of integers that a call builds by append, in blocks of its own. Lists of integers that a loop filters. Plain arithmetic: numbers of representations by sums of squares, by finite sums. No program in sight. -/
import Derived.Test.YtobkcnmlmmhpoaaGreatNum
import Derived.Deep.RegionHeld3
import Derived.Deep.DeepCutAuto
import Derived.Deep.AppendLies
namespace Go.Proofs.YtobkcnmlmmhpoaaGreat
open Go.RowKit
set_option linter.unusedVariables false
set_option linter.unusedSimpArgs false

def FormsAt (w:World) (lo hi:Nat) (a:Option Addr) (n:Nat) (f:Nat→Int):Prop:=
 n=0∨ ∃g cap F,a=some ⟨g,0,none⟩∧lo≤g∧g<hi∧n≤cap∧w.rowIs g 25 (cap*3) F∧ ∀i,i<n*3→F i= .int .i64 (f i)
theorem FormsAt.keep {w w':World} {lo hi:Nat} {a:Option Addr} {n:Nat} {f:Nat→Int} (h:FormsAt w lo hi a n f) (hk: ∀k,lo≤k→k<hi→w'.heap[k]? =w.heap[k]?):FormsAt w' lo hi a n f:=by
 rcases h with h|⟨g,cap,F,ha,h1,h2,h3,h4,h5⟩
 ·exact .inl h
 ·exact .inr ⟨g,cap,F,ha,h1,h2,h3,h4.of_block (hk g h1 h2),h5⟩
theorem FormsAt.below {w w':World} {lo hi B:Nat} {a:Option Addr} {n:Nat} {f:Nat→Int} (h:FormsAt w lo hi a n f) (hb:Below B w w') (hB:hi≤B):FormsAt w' lo hi a n f:=
 h.keep fun k _ h2=>hb.block k (by omega)

theorem Tryz.infoForm:(Tryz.prog.info? 25).map (fun i=>(i.zero,i.size,i.bytes))=some (some (.agg #[.int .i64 0,.int .i64 0,.int .i64 0]),3,24):=by kernel_rfl
def FormL (w:World) (lo:Nat) (v:Value) (n:Nat) (zs:List Int):Prop:=w.ownsRow lo 25 3 v n (zs.map (Value.int .i64))
theorem FormL.nil (w:World) (lo:Nat):FormL w lo (.slice none 0 0) 0 []:=World.ownsRow_nil _ _ _ _
theorem FormL.made (w:World) (lo:Nat) (h:lo≤w.heap.size):FormL (w.alloc (.cells #[] 25)) lo (.slice (some ⟨w.heap.size,0,none⟩) 0 0) 0 []:=
 World.ownsRow_made w #[] 0 h (by decide) rfl
theorem FormL.alloc {w:World} {lo:Nat} {v:Value} {n:Nat} {zs:List Int} (h:FormL w lo v n zs) (o:Obj):FormL (w.alloc o) lo v n zs:=World.ownsRow.alloc h o
theorem FormL.kept {w w':World} {lo:Nat} {v:Value} {n:Nat} {zs:List Int} {row:Option Nat} (h:FormL w lo v n zs) (hg:w.grownBy w' row) (hne:v.ownBlock=none∨v.ownBlock≠row):FormL w' lo v n zs:=World.ownsRow.kept h hg hne
theorem FormL.lt {w:World} {lo:Nat} {v:Value} {n:Nat} {zs:List Int} (h:FormL w lo v n zs): ∀k,v.ownBlock=some k→lo≤k∧k<w.heap.size:=World.ownsRow.lt h
theorem FormL.below {w w':World} {lo:Nat} {v:Value} {n:Nat} {zs:List Int} (h:FormL w lo v n zs) (hb:Below w.heap.size w w'):FormL w' lo v n zs:=
 h.kept (row:=none) ⟨hb.os,hb.tape,hb.output,hb.size,fun k hk _=>hb.block k hk⟩ (by cases v.ownBlock<;>simp)
theorem FormL.len {w:World} {lo:Nat} {v:Value} {n:Nat} {zs:List Int} (h:FormL w lo v n zs):zs.length=n*3:=by
 have:=h.1
 simpa using this
theorem FormL.at {w:World} {lo:Nat} {a:Option Addr} {n m c:Nat} {zs:List Int} (h:FormL w lo (.slice a m c) n zs):m=n∧FormsAt w lo w.heap.size a n (fun i=>zs.getD i 0):=by
 have hl:=h.len
 rcases h.2 with ⟨h1,h2⟩|⟨g,cap,cur,h1,h2,h3,h4,h5,h6,h7⟩
 ·simp only[Value.slice.injEq] at h1
  exact ⟨by omega,.inl h2⟩
 ·simp only[Value.slice.injEq] at h1
  obtain ⟨rfl,rfl,rfl⟩:=h1
  refine ⟨rfl,.inr ⟨g,c,fun i=>cur.getD i undef,rfl,h2,(Array.getElem?_eq_some_iff.1 h3).1,h4,⟨cur,h3,by omega,fun i hi=> ?_⟩,fun i hi=> ?_⟩⟩
  ·rw [Array.getElem?_eq_getElem (by omega)];simp [Array.getD,show i<cur.size from by omega]
  ·have hi0:i<zs.length:=by omega
   have e:cur.toList[i]? =(zs.map (Value.int .i64))[i]? :=by
    rw[←h7,List.getElem?_take,if_pos (by omega)]
   rw[List.getElem?_map,List.getElem?_eq_getElem hi0] at e
   simp only[Option.map_some] at e
   have hi2:i<cur.size:=by omega
   rw[Array.getElem?_toList,Array.getElem?_eq_getElem hi2] at e
   have e2:cur[i]=Value.int .i64 zs[i]:=by simpa using e
   have e3:zs.getD i 0=zs[i]:=by rw[List.getD_eq_getElem?_getD,List.getElem?_eq_getElem hi0];rfl
   show cur.getD i undef= .int .i64 (zs.getD i 0)
   rw[e3,←e2]
   simp [Array.getD,hi2]
theorem app_Form (w:World) {ops:Array Oper} {rest:List Oper} {o:Oper} {a:Act} {Q:Exit→Act→World→Prop} (hgd:o.guard=none) (s x:Operand)
  (ho:o.op= .call { callee:= .builtin .append,args:= #[s,x],argTypes:= #[96,96] })
  (lo:Nat) (v:Value) (n:Nat) (zs:List Int) (x0 x1 x2:Int) (B:Nat) (hs:a.eval s=v) (hx:a.eval x= .slice (some ⟨B,0,none⟩) 1 1)
  (hown:FormL w lo v n zs) (hB0:w.cell? ⟨B,0,none⟩=some (.int .i64 x0)) (hB1:w.cell? ⟨B,1,none⟩=some (.int .i64 x1)) (hB2:w.cell? ⟨B,2,none⟩=some (.int .i64 x2)) (hlen:n≤100000000) (hlo:lo≤w.heap.size)
  (h: ∀g cap w',FormL w' lo (.slice (some ⟨g,0,none⟩) (n+1) cap) (n+1) (zs++ [x0,x1,x2])→w.grownBy w' v.ownBlock→(v.ownBlock=some g∨g=w.heap.size)→g<w'.heap.size→
   wpList Tryz.prog ops Q rest (a.put o.dst (.slice (some ⟨g,0,none⟩) (n+1) cap)) w'):wpList Tryz.prog ops Q (o :: rest) a w:=by
 obtain ⟨i0,hi,hz0,hz1,hz2⟩:=info_parts Tryz.infoForm
 refine wpList_append_lies w hgd s x 96 ho lo 25 i0 (.agg #[.int .i64 0,.int .i64 0,.int .i64 0]) 3 24 Tryz.underlying96 hi hz0 hz1 hz2 rfl (by decide) v n _ hs hown ⟨B,0,none⟩ 1 1 ([x0,x1,x2].map (Value.int .i64)) hx rfl ?_ (by simp [Value.oneCell']) (by decide) (by unfold maxLen;omega) (by omega) hlo _ rfl ?_
 ·intro j u hu
  match j with
  |0=>simp at hu;subst hu;simpa [Addr.add] using hB0
  |1=>simp at hu;subst hu;simpa [Addr.add] using hB1
  |2=>simp at hu;subst hu;simpa [Addr.add] using hB2
  |j+3=>simp at hu
 ·intro g cap w' h1 h2 h3 h4
  refine h g cap w' ?_ h2 h3 h4
  unfold FormL
  rw[List.map_append]
  exact h1
end Go.Proofs.YtobkcnmlmmhpoaaGreat
namespace Go.Proofs.YtobkcnmlmmhpoaaGreat
open Go.RowKit
set_option linter.unusedVariables false
set_option linter.unusedSimpArgs false

theorem Tryz.infoInt':(Tryz.prog.info? 3).map (fun i=>(i.zero,i.size,i.bytes))=some (some (.int .i64 0),1,8):=by kernel_rfl

def IL (w:World) (lo:Nat) (v:Value) (zs:List Int):Prop:=w.ownsRow lo 3 1 v zs.length (zs.map (Value.int .i64))

theorem IL.nil (w:World) (lo:Nat):IL w lo (.slice none 0 0) []:=World.ownsRow_nil _ _ _ _
theorem IL.made (w:World) (lo:Nat) (h:lo≤w.heap.size):IL (w.alloc (.cells #[] 3)) lo (.slice (some ⟨w.heap.size,0,none⟩) 0 0) []:=
 World.ownsRow_made w #[] 0 h (by decide) rfl
theorem IL.alloc {w:World} {lo:Nat} {v:Value} {zs:List Int} (h:IL w lo v zs) (o:Obj):IL (w.alloc o) lo v zs:=World.ownsRow.alloc h o
theorem IL.kept {w w':World} {lo:Nat} {v:Value} {zs:List Int} {row:Option Nat} (h:IL w lo v zs) (hg:w.grownBy w' row) (hne:v.ownBlock=none∨v.ownBlock≠row):IL w' lo v zs:=World.ownsRow.kept h hg hne
theorem IL.lt {w:World} {lo:Nat} {v:Value} {zs:List Int} (h:IL w lo v zs): ∀k,v.ownBlock=some k→lo≤k∧k<w.heap.size:=World.ownsRow.lt h
theorem IL.form {w:World} {lo:Nat} {v:Value} {zs:List Int} (h:IL w lo v zs): ∃a c,v= .slice a zs.length c:=by
 rcases h.2 with ⟨h1,h2⟩|⟨g,cap,cur,h1,_⟩
 ·exact ⟨none,0,by rw[h1,h2]⟩
 ·exact ⟨_,_,h1⟩
theorem IL.ints {w:World} {lo:Nat} {a:Option Addr} {n c:Nat} {zs:List Int} (h:IL w lo (.slice a n c) zs):n=zs.length∧IntsAt w lo w.heap.size a zs.length (fun i=>zs.getD i 0):=by
 rcases h.2 with ⟨h1,h2⟩|⟨g,cap,cur,h1,h2,h3,h4,h5,h6,h7⟩
 ·simp only[Value.slice.injEq] at h1
  exact ⟨by omega,.inl h2⟩
 ·simp only[Value.slice.injEq] at h1
  obtain ⟨rfl,rfl,rfl⟩:=h1
  refine ⟨rfl,.inr ⟨g,c,fun i=>cur.getD i undef,rfl,h2,(Array.getElem?_eq_some_iff.1 h3).1,h4,⟨cur,h3,by omega,fun i hi=> ?_⟩,fun i hi=> ?_⟩⟩
  ·rw [Array.getElem?_eq_getElem (by omega)];simp [Array.getD,show i<cur.size from by omega]
  ·have e:cur.toList[i]? =(zs.map (Value.int .i64))[i]? :=by
    rw[←h7,List.getElem?_take,if_pos (by omega)]
   rw[List.getElem?_map,List.getElem?_eq_getElem hi] at e
   simp only[Option.map_some] at e
   have hi2:i<cur.size:=by omega
   rw[Array.getElem?_toList,Array.getElem?_eq_getElem hi2] at e
   have e2:cur[i]=Value.int .i64 zs[i]:=by simpa using e
   have e3:zs.getD i 0=zs[i]:=by rw[List.getD_eq_getElem?_getD,List.getElem?_eq_getElem hi];rfl
   show cur.getD i undef= .int .i64 (zs.getD i 0)
   rw[e3,←e2]
   simp [Array.getD,hi2]

theorem app_int (w:World) {ops:Array Oper} {rest:List Oper} {o:Oper} {a:Act} {Q:Exit→Act→World→Prop} (hgd:o.guard=none) (s x:Operand)
  (ho:o.op= .call { callee:= .builtin .append,args:= #[s,x],argTypes:= #[69,69] })
  (lo:Nat) (v:Value) (zs:List Int) (z:Int) (B:Nat) (hs:a.eval s=v) (hx:a.eval x= .slice (some ⟨B,0,none⟩) 1 1)
  (hown:IL w lo v zs) (hB:w.cell? ⟨B,0,none⟩=some (.int .i64 z)) (hlen:zs.length≤1000000000) (hlo:lo≤w.heap.size)
  (h: ∀g cap w',IL w' lo (.slice (some ⟨g,0,none⟩) (zs.length+1) cap) (zs++ [z])→w.grownBy w' v.ownBlock→(v.ownBlock=some g∨g=w.heap.size)→g<w'.heap.size→
   wpList Tryz.prog ops Q rest (a.put o.dst (.slice (some ⟨g,0,none⟩) (zs.length+1) cap)) w'):wpList Tryz.prog ops Q (o :: rest) a w:=by
 obtain ⟨i0,hi,hz0,hz1,hz2⟩:=info_parts Tryz.infoInt'
 refine wpList_append_lies w hgd s x 69 ho lo 3 i0 (.int .i64 0) 1 8 Tryz.underlying69 hi hz0 hz1 hz2 rfl (by decide) v zs.length _ hs hown ⟨B,0,none⟩ 1 1 [.int .i64 z] hx rfl ?_ (by simp [Value.oneCell']) (by decide) (by unfold maxLen;omega) (by omega) hlo _ rfl ?_
 ·intro j u hu
  match j with
  |0=>simp at hu;subst hu;simpa [Addr.add] using hB
  |j+1=>simp at hu
 ·intro g cap w' h1 h2 h3 h4
  refine h g cap w' ?_ h2 h3 h4
  unfold IL
  rw[List.map_append,List.length_append]
  exact h1
end Go.Proofs.YtobkcnmlmmhpoaaGreat
namespace Go.Proofs.YtobkcnmlmmhpoaaGreat
open Go.RowKit
set_option linter.unusedVariables false
set_option linter.unusedSimpArgs false
def flN {α:Type} (p:Nat→Bool) (e:Nat→α):Nat→List α
 |0=> []
 |k+1=>if p k then flN p e k++ [e k] else flN p e k
theorem flN_yes {α:Type} {p:Nat→Bool} {e:Nat→α} {k:Nat} (h:p k=true):flN p e (k+1)=flN p e k++ [e k]:=by rw[flN,if_pos h]
theorem flN_no {α:Type} {p:Nat→Bool} {e:Nat→α} {k:Nat} (h:p k=false):flN p e (k+1)=flN p e k:=by rw[flN,if_neg (by rw[h];simp)]
theorem flN_len {α:Type} (p:Nat→Bool) (e:Nat→α) (k:Nat):(flN p e k).length≤k:=by
 induction k with
 |zero=>exact Nat.le_refl _
 |succ k ih=>
  rw[flN]
  split
  ·rw [List.length_append];simp only[List.length_cons,List.length_nil];omega
  ·omega
theorem flN_mem {α:Type} {p:Nat→Bool} {e:Nat→α} {x:α} {k:Nat} (h:x ∈ flN p e k): ∃j,j<k∧p j=true∧x=e j:=by
 induction k with
 |zero=>cases h
 |succ k ih=>
  rw[flN] at h
  split at h
  ·rename_i hp
   rw[List.mem_append] at h
   rcases h with h|h
   ·obtain ⟨j,h1,h2,h3⟩:=ih h;exact ⟨j,by omega,h2,h3⟩
   ·simp at h;exact ⟨k,by omega,hp,h⟩
  ·obtain ⟨j,h1,h2,h3⟩:=ih h;exact ⟨j,by omega,h2,h3⟩
theorem IL.below {w w':World} {lo:Nat} {v:Value} {zs:List Int} (h:IL w lo v zs) (hb:Below w.heap.size w w'):IL w' lo v zs:=
 h.kept (row:=none) ⟨hb.os,hb.tape,hb.output,hb.size,fun k hk _=>hb.block k hk⟩ (by cases v.ownBlock<;>simp)
theorem IL.drewN {w:World} {lo:Nat} {v:Value} {zs:List Int} (h:IL w lo v zs) (n:Nat):IL (w.drewN n) lo v zs:=
 h.below ⟨(Below.refl w.heap.size w).os,(Below.refl w.heap.size w).tape,(Below.refl w.heap.size w).output,(Below.refl w.heap.size w).size,(Below.refl w.heap.size w).block⟩
def RetIL (w:World) (zs:List Int) (e:Ending) (w':World):Prop:=
 ∃a c,e= .returned (.slice a zs.length c)∧IL w' w.heap.size (.slice a zs.length c) zs∧Below w.heap.size w w'
end Go.Proofs.YtobkcnmlmmhpoaaGreat
namespace Go.Proofs.YtobkcnmlmmhpoaaGreat

def sumN (h:Nat→Int):Nat→Int
 |0=>0
 |k+1=>sumN h k+h k

def cw (x:Nat):Int:=if x=0 then 1 else 2
theorem isqN_mono_sq {x m:Nat} (h:x*x≤m):x≤isqN m:=by
 by_cases c:x≤isqN m
 ·exact c
 ·have:=(isqN_spec m).2
  have h2:=Nat.mul_le_mul (show isqN m+1≤x by omega) (show isqN m+1≤x by omega)
  omega
theorem isqN_sq_le {x m:Nat} (h:x≤isqN m):x*x≤m:=Nat.le_trans (Nat.mul_le_mul h h) (isqN_spec m).1
theorem isqN_iff {x m:Nat} :x*x≤m↔x<isqN m+1:=⟨fun h=>by have:=isqN_mono_sq h;omega,fun h=>isqN_sq_le (by omega)⟩
def addx (cn:Int) (n:Nat):Nat→(Nat→Int)→Nat→Int
 |0,g=>g
 |x+1,g=>fun j=>if j=n+x*x then addx cn n x g j+cn*cw x else addx cn n x g j
def addn (f:Nat→Int) (most:Nat):Nat→Nat→Int
 |0=>fun _=>0
 |n+1=>addx (f n) n (isqN (most-n)+1) (addn f most n)
def nx (f:Nat→Int) (most:Nat):Nat→Int:=addn f most (most+1)
/-! bounds -/
/-! the closed forms -/
def e1 (j:Nat):Int:=if isqN j*isqN j=j then cw (isqN j) else 0
def tt (n x:Nat):Int:=if isqN (n-x*x)*isqN (n-x*x)=n-x*x then cw x*cw (isqN (n-x*x)) else 0
def two (n:Nat):Int:=sumN (tt n) (isqN n+1)
/-! the reference's table of sums of two squares -/
end Go.Proofs.YtobkcnmlmmhpoaaGreat
