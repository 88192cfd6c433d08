/- Slices of Points in blocks of the call's own, and the laws' helpers over them. -/
import Derived.Test.YtobkcnmlmmhpoaaGreatNum
import Derived.Deep.RegionHeld3
import Derived.Deep.DeepCutAuto
import Derived.Deep.AppendLies
namespace Go.Proofs.YtobkcnmlmmhpoaaGreat
open Go.RowKit
set_option linter.unusedVariables false
set_option linter.unusedSimpArgs false

def PointsAt (w:World) (lo hi:Nat) (a:Option Addr) (n:Nat) (f:Nat→Int):Prop:=
 n=0∨ ∃g cap F,a=some ⟨g,0,none⟩∧lo≤g∧g<hi∧n≤cap∧w.rowIs g 42 (cap*2) F∧ ∀i,i<n*2→F i= .int .i64 (f i)
theorem PointsAt.keep {w w':World} {lo hi:Nat} {a:Option Addr} {n:Nat} {f:Nat→Int} (h:PointsAt w lo hi a n f) (hk: ∀k,lo≤k→k<hi→w'.heap[k]? =w.heap[k]?):PointsAt w' lo hi a n f:=by
 rcases h with h|⟨g,cap,F,ha,h1,h2,h3,h4,h5⟩
 ·exact .inl h
 ·exact .inr ⟨g,cap,F,ha,h1,h2,h3,h4.of_block (hk g h1 h2),h5⟩
theorem PointsAt.below {w w':World} {lo hi B:Nat} {a:Option Addr} {n:Nat} {f:Nat→Int} (h:PointsAt w lo hi a n f) (hb:Below B w w') (hB:hi≤B):PointsAt w' lo hi a n f:=
 h.keep fun k _ h2=>hb.block k (by omega)

theorem Tryz.infoPoint:(Tryz.prog.info? 42).map (fun i=>(i.zero,i.size,i.bytes))=some (some (.agg #[.int .i64 0,.int .i64 0]),2,16):=by kernel_rfl
def PointL (w:World) (lo:Nat) (v:Value) (n:Nat) (zs:List Int):Prop:=w.ownsRow lo 42 2 v n (zs.map (Value.int .i64))
theorem PointL.nil (w:World) (lo:Nat):PointL w lo (.slice none 0 0) 0 []:=World.ownsRow_nil _ _ _ _
theorem PointL.made (w:World) (lo:Nat) (h:lo≤w.heap.size):PointL (w.alloc (.cells #[] 42)) lo (.slice (some ⟨w.heap.size,0,none⟩) 0 0) 0 []:=
 World.ownsRow_made w #[] 0 h (by decide) rfl
theorem PointL.alloc {w:World} {lo:Nat} {v:Value} {n:Nat} {zs:List Int} (h:PointL w lo v n zs) (o:Obj):PointL (w.alloc o) lo v n zs:=World.ownsRow.alloc h o
theorem PointL.kept {w w':World} {lo:Nat} {v:Value} {n:Nat} {zs:List Int} {row:Option Nat} (h:PointL w lo v n zs) (hg:w.grownBy w' row) (hne:v.ownBlock=none∨v.ownBlock≠row):PointL w' lo v n zs:=World.ownsRow.kept h hg hne
theorem PointL.lt {w:World} {lo:Nat} {v:Value} {n:Nat} {zs:List Int} (h:PointL w lo v n zs): ∀k,v.ownBlock=some k→lo≤k∧k<w.heap.size:=World.ownsRow.lt h
theorem PointL.below {w w':World} {lo:Nat} {v:Value} {n:Nat} {zs:List Int} (h:PointL w lo v n zs) (hb:Below w.heap.size w w'):PointL w' lo v n zs:=
 h.kept (row:=none) ⟨hb.os,hb.tape,hb.output,hb.size,fun k hk _=>hb.block k hk⟩ (by cases v.ownBlock<;>simp)
theorem PointL.len {w:World} {lo:Nat} {v:Value} {n:Nat} {zs:List Int} (h:PointL w lo v n zs):zs.length=n*2:=by
 have:=h.1
 simpa using this
theorem PointL.at {w:World} {lo:Nat} {a:Option Addr} {n m c:Nat} {zs:List Int} (h:PointL w lo (.slice a m c) n zs):m=n∧PointsAt w lo w.heap.size a n (fun i=>zs.getD i 0):=by
 have hl:=h.len
 rcases h.2 with ⟨h1,h2⟩|⟨g,cap,cur,h1,h2,h3,h4,h5,h6,h7⟩
 ·simp only[Value.slice.injEq] at h1
  exact ⟨by omega,.inl h2⟩
 ·simp only[Value.slice.injEq] at h1
  obtain ⟨rfl,rfl,rfl⟩:=h1
  refine ⟨rfl,.inr ⟨g,c,fun i=>cur.getD i undef,rfl,h2,(Array.getElem?_eq_some_iff.1 h3).1,h4,⟨cur,h3,by omega,fun i hi=> ?_⟩,fun i hi=> ?_⟩⟩
  ·rw [Array.getElem?_eq_getElem (by omega)];simp [Array.getD,show i<cur.size from by omega]
  ·have hi0:i<zs.length:=by omega
   have e:cur.toList[i]? =(zs.map (Value.int .i64))[i]? :=by
    rw[←h7,List.getElem?_take,if_pos (by omega)]
   rw[List.getElem?_map,List.getElem?_eq_getElem hi0] at e
   simp only[Option.map_some] at e
   have hi2:i<cur.size:=by omega
   rw[Array.getElem?_toList,Array.getElem?_eq_getElem hi2] at e
   have e2:cur[i]=Value.int .i64 zs[i]:=by simpa using e
   have e3:zs.getD i 0=zs[i]:=by rw[List.getD_eq_getElem?_getD,List.getElem?_eq_getElem hi0];rfl
   show cur.getD i undef= .int .i64 (zs.getD i 0)
   rw[e3,←e2]
   simp [Array.getD,hi2]
theorem app_Point (w:World) {ops:Array Oper} {rest:List Oper} {o:Oper} {a:Act} {Q:Exit→Act→World→Prop} (hgd:o.guard=none) (s x:Operand)
  (ho:o.op= .call { callee:= .builtin .append,args:= #[s,x],argTypes:= #[47,47] })
  (lo:Nat) (v:Value) (n:Nat) (zs:List Int) (x0 x1:Int) (B:Nat) (hs:a.eval s=v) (hx:a.eval x= .slice (some ⟨B,0,none⟩) 1 1)
  (hown:PointL w lo v n zs) (hB0:w.cell? ⟨B,0,none⟩=some (.int .i64 x0)) (hB1:w.cell? ⟨B,1,none⟩=some (.int .i64 x1)) (hlen:n≤100000000) (hlo:lo≤w.heap.size)
  (h: ∀g cap w',PointL w' lo (.slice (some ⟨g,0,none⟩) (n+1) cap) (n+1) (zs++ [x0,x1])→w.grownBy w' v.ownBlock→(v.ownBlock=some g∨g=w.heap.size)→g<w'.heap.size→
   wpList Tryz.prog ops Q rest (a.put o.dst (.slice (some ⟨g,0,none⟩) (n+1) cap)) w'):wpList Tryz.prog ops Q (o :: rest) a w:=by
 obtain ⟨i0,hi,hz0,hz1,hz2⟩:=info_parts Tryz.infoPoint
 refine wpList_append_lies w hgd s x 47 ho lo 42 i0 (.agg #[.int .i64 0,.int .i64 0]) 2 16 Tryz.underlying47 hi hz0 hz1 hz2 rfl (by decide) v n _ hs hown ⟨B,0,none⟩ 1 1 ([x0,x1].map (Value.int .i64)) hx rfl ?_ (by simp [Value.oneCell']) (by decide) (by unfold maxLen;omega) (by omega) hlo _ rfl ?_
 ·intro j u hu
  match j with
  |0=>simp at hu;subst hu;simpa [Addr.add] using hB0
  |1=>simp at hu;subst hu;simpa [Addr.add] using hB1
  |j+2=>simp at hu
 ·intro g cap w' h1 h2 h3 h4
  refine h g cap w' ?_ h2 h3 h4
  unfold PointL
  rw[List.map_append]
  exact h1
def RetPoints (w:World) (n:Nat) (f:Nat→Int) (ok:Bool) (e:Ending) (w':World):Prop:=
 ∃a c,e= .returned (.tuple #[.slice a n c,.bool ok])∧PointsAt w' w.heap.size w'.heap.size a n f∧Below w.heap.size w w'
end Go.Proofs.YtobkcnmlmmhpoaaGreat
