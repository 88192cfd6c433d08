/- The last step of a law whose walk ends in a world in which nothing that was there has turned. An argument that is a slice of bytes, opened: its length, its bytes. -/
import Derived.Below
import Derived.ChangeSame
import Derived.ProofKit
import Derived.Test.YtobkcnmlmmhpoaaGreatDlc
import Derived.Deep.Slices
import Derived.Carry
namespace Go.Proofs.YtobkcnmlmmhpoaaGreat
open Go.RowKit Go.WideShapes Go.ChangeShapes
set_option linter.unusedVariables false

theorem post_of_below {H:Type} {enc:TypeId × Value→H} {P:Program} {f:Func} {s:ChangeSpec} {apart fresh handsOn again:Bool} {W W':World} {args:Array Value} {v:Value} {ds gs:List (DataW H)} {before pa pv:List MemPlace}
  (hW:DataW.Whole enc P f.params.toList s.vars apart W args.toList ds gs before)
  (hres: ∀(b:Nat) (sp:Nat→Bool) (hd:Bool),DataW.TrodAll enc P W' b sp hd f.resultTypes.toList (v.resultList f.resultTypes.size) (s.fn H (ds++gs)).results [])
  (hargs: ∀sp:Nat→Bool,(∀p ∈ before,sp p.block=true)→DataW.TrodAll enc P W' 0 sp true f.params.toList args.toList (s.fn H (ds++gs)).args pa)
  (hvars: ∀sp:Nat→Bool,(∀p ∈ before,sp p.block=true)→DataW.TrodVars enc P W' sp s.vars (s.fn H (ds++gs)).vars pv)
  (hps:before=pa++pv) (hb:Below W.heap.size W W')
  (hok: ∀(j:Nat) (t:TypeId) (r:Value),f.resultTypes[j]? =some t→(v.resultList f.resultTypes.size)[j]? =some r→Value.okWide P W' .any 0 t r):
  s.post enc P f apart fresh handsOn again W args v W':=by
 have hlt: ∀p ∈ before,p.block<W.heap.size:=fun p hp=>hW.lt p hp
 have hold: ∀p ∈ before,(fun b=>decide (b<W.heap.size)) p.block=true:=fun p hp=>by simpa using hlt p hp
 refine ⟨ds,gs,before,[],pa,pv,hW,hres _ _ _,hargs _ hold,hvars _ hold,World.keptBut_mono (fun p hp=>⟨hp,?_⟩) (hb.frame (· ∈ before)),fun _=> ?_⟩
 ·rw [hps,List.mem_append] at hp
  exact Or.inr hp
 ·obtain ⟨_,_,_,_,_,hz,hn⟩:=hW
  refine ⟨hok,_,_,([]++pa)++pv,⟨[]++pa,pv,trodAll_append (hargs _ (fun _ _=>rfl)) (hres _ _ _),hvars _ (fun _ _=>rfl),rfl,?_,?_⟩,?_⟩
  ·intro b off hp
   have hin:MemPlace.cell b off ∈ before:=by rw[hps];simpa using hp
   rw[hb.frozen (hlt _ hin)]
   exact hz b off hin
  ·intro ha
   have:=hn ha
   rw[hps] at this
   simpa using this
  ·intro p hp _
   rw[hps]
   simpa using hp
end Go.Proofs.YtobkcnmlmmhpoaaGreat
namespace Go.Proofs.YtobkcnmlmmhpoaaGreat
open Go.RowKit Go.WideShapes Go.ChangeShapes Go.Deep
set_option linter.unusedVariables false
set_option linter.unusedSimpArgs false

theorem Tryz.cellsU8:Tryz.prog.cellsOf 5=1:=by kernel_rfl
theorem addr_addB {b off k:Nat} :(⟨b,off,none⟩:Addr).add k=⟨b,off+k,none⟩:=by unfold Addr.add;split<;>simp_all
theorem cell_spotB {w:World} {a:Addr} {v:Value} (h:w.cell? a=some v):a.spot=none:=by
 unfold World.cell? at h
 split at h
 ·split at h
  ·cases h
  ·rename_i hs;cases hx:a.spot with
   |none=>rfl
   |some _=>rw[hx] at hs;simp at hs
 ·cases h
section
variable {H:Type} {enc:TypeId × Value→H} {w:World} {base:Nat} {spare:Nat→Bool} {held:Bool}
set_option maxRecDepth 100000 in
theorem open_bytes {fuel:Nat} {cs:List Value} {x:DataW H × List MemPlace} (h:DataW.trod enc Tryz.prog w base spare held fuel 22 cs=some x):
  ∃(v:Value) (n:Nat),cs= [v]∧ArgB w v n∧n≤maxLen:=by
 rcases open_slice Tryz.underlying22 h with ⟨hcs,_⟩|⟨a,len,cap,m,n,D,Pl,hcs,hb,hl,hm,hmm,hx,hi⟩
 ·exact ⟨_,0,hcs,.inl ⟨none,0,rfl,rfl⟩,Nat.zero_le _⟩
 ·have hlm:len≤m:=by rw[hmm];split<;>omega
  have one: ∀i,i<len→ ∃X:Int,w.cell? (a.add i)=some (.int .u8 X)∧0≤X∧X≤255:=by
   intro i q
   obtain ⟨cs',hc,ht⟩:=hi i (by omega)
   rw[Tryz.cellsU8,Nat.mul_one] at hc
   obtain ⟨hl1,_,hat⟩:=World.cells?_some hc
   match cs',hl1 with
   | [c0],_=>
    obtain ⟨n0,e0,_,w0⟩:=DataW.trod_int Tryz.underlying5 ht
    cases e0
    have a0:=hat 0 (by omega)
    rw[Go.Deep.add_add] at a0
    refine ⟨n0,a0,?_⟩
    simp only[Lit.wf,Bool.and_eq_true,decide_eq_true_eq] at w0
    exact ⟨w0.1,w0.2⟩
  refine ⟨_,len,hcs,?_,Nat.le_trans hl hm⟩
  by_cases q:len=0
  ·exact .inl ⟨some a,cap,rfl,q⟩
  ·obtain ⟨X0,h0,_⟩:=one 0 (by omega)
   have hs:a.spot=none:=cell_spotB (a:=a) (by simpa [Addr.add] using h0)
   obtain ⟨b,off,sp⟩:=a
   have hs2:sp=none:=hs
   subst hs2
   refine .inr ⟨b,off,cap,rfl,World.block_lt_of_cell? _ _ h0,fun i hi=> ?_⟩
   obtain ⟨X,h1,h2⟩:=one i hi
   rw[addr_addB] at h1
   exact ⟨X,h1,h2⟩
end
end Go.Proofs.YtobkcnmlmmhpoaaGreat
