/- Plain: both ways to list the automorphs give one list. Lists of matrices in one row of the call's own: reading, storing, shifting. -/
import Derived.Test.YtobkcnmlmmhpoaaGreatAul
import Derived.Test.YtobkcnmlmmhpoaaGreatRedF
import Derived.Laws.OwnMore
import Derived.Laws.CopyRow
import Derived.Laws.IdiomCopy
import Derived.Deep.RegionLaw
namespace Go.Proofs.YtobkcnmlmmhpoaaGreat
open Go.RowKit
set_option linter.unusedVariables false
set_option linter.unusedSimpArgs false

def kapM (a b c p q r s:Int):Int:=a*p*q+b*q*r+c*r*s
theorem kap_b {a0 b0 c0 a b c p q r s:Int} (h:MadeM a0 b0 c0 a b c p q r s):b=2*kapM a0 b0 c0 p q r s+b0:=by
 obtain ⟨h1,h2,h3,h4⟩:=h
 unfold kapM
 have:p*s=1+q*r:=by omega
 rw[h3,this]
 grind
theorem disc_made {a0 b0 c0 a b c p q r s:Int} (h:MadeM a0 b0 c0 a b c p q r s):discI a b c=discI a0 b0 c0:=by
 obtain ⟨h1,h2,h3,h4⟩:=h
 subst h2 h3 h4
 unfold discI
 have e:p*s=1+q*r:=by omega
 have e2:(p*s)*(p*s)=(1+q*r)*(1+q*r):=by rw[e]
 grind
theorem conj_turn {a0 b0 c0 a b c p q r s:Int} (h:MadeM a0 b0 c0 a b c p q r s) (h1:a=c∧b=0→a=1) (h2:a=c∧b=a→a=1):
  (turnL a b c).map (fun n=>mM (mM (p,q,r,s) n) (iM (p,q,r,s)))=((turnX a b c).map (fun z=>(z.1+kapM a0 b0 c0 p q r s*z.2,z.2))).map (fun z=>aM a0 b0 c0 z.1 z.2):=by
 rw[turn_aM h1 h2,List.map_map,List.map_map]
 refine List.map_congr_left fun z _=> ?_
 simp only[Function.comp]
 have:=aut_conj (a:=a0) (b:=b0) (c:=c0) (x:=z.1) (u:=z.2) h.det
 rw[←h.ea,←h.eb,←h.ec] at this
 exact this
theorem nodup_aM {a b c:Int} (ha:0<a) {L:List (Int × Int)} (h:L.Nodup):(L.map (fun z=>aM a b c z.1 z.2)).Nodup:=by
 refine List.Pairwise.map _ (fun z w hzw e=>hzw ?_) h
 obtain ⟨e1,e2⟩:=aM_inj ha e
 exact Prod.ext e1 e2
def spX (b d:Int):List (Int × Int):=
 if d= -4 then [(-1,0),(b / 2,-1),(-b / 2,1),(1,0)]
 else if d= -3 then [(-1,0),((-1+b) / 2,-1),((-1-b) / 2,1),((1+b) / 2,-1),((1-b) / 2,1),(1,0)]
 else [(-1,0),(1,0)]
theorem sp_spX {a b c:Int} (h:discI a b c<0) (hm:discI a b c%4=0∨discI a b c%4=1):spK a b c 15=(spX b (discI a b c)).map (fun z=>aM a b c z.1 z.2):=by
 unfold spX
 generalize hd:discI a b c=d at*
 by_cases q4:d= -4
 ·subst q4
  simp [spK,candT,candU,candM,hd]
 ·by_cases q3:d= -3
  ·subst q3
   simp [spK,candT,candU,candM,hd,Int.sub_eq_add_neg]
  ·have q5:d< -4:=by omega
   rw[if_neg q4,if_neg q3]
   have n1: ¬(4-d=4):=by omega
   have n2: ¬(1-d=4):=by omega
   have n3: ¬(0-d=4):=by omega
   have n4: ¬(-d=4):=by omega
   simp [spK,candT,candU,candM,hd,n1,n2,n3,n4]

theorem MadeM.backB {a0 b0 c0 a b c p q r s:Int} (h:MadeM a0 b0 c0 a b c p q r s):b0=b*(p*s+q*r)-2*a*q*s-2*c*p*r:=by
 obtain ⟨h1,h2,h3,h4⟩:=h
 subst h2 h3 h4
 have e:p*s=1+q*r:=by omega
 have e2:(p*s)*(p*s)=(1+q*r)*(1+q*r):=by rw[e]
 grind
theorem made_unit {a0 b0 c0 a b c p q r s:Int} (h:MadeM a0 b0 c0 a b c p q r s) (hp:contI a0 b0 c0=1) (ha:0<a) (hb:a∣b) (hc:a∣c):a=1:=by
 have d1:a∣a0:=by
  rw[h.backA]
  obtain ⟨x,rfl⟩:=hb
  obtain ⟨y,rfl⟩:=hc
  exact ⟨s*s-x*s*r+y*r*r,by grind⟩
 have d2:a∣b0:=by
  rw[h.backB]
  obtain ⟨x,rfl⟩:=hb
  obtain ⟨y,rfl⟩:=hc
  exact ⟨x*(p*s+q*r)-2*q*s-2*y*p*r,by grind⟩
 have d3:a∣c0:=by
  rw[h.backC]
  obtain ⟨x,rfl⟩:=hb
  obtain ⟨y,rfl⟩:=hc
  exact ⟨q*q-x*q*p+y*p*p,by grind⟩
 have d4:a∣contI a0 b0 c0:=Int.dvd_coe_gcd d1 (Int.dvd_coe_gcd d2 d3)
 rw[hp] at d4
 have:=Int.le_of_dvd (by omega) d4
 omega
theorem turnX_nodup (a b c:Int) (k:Int):((turnX a b c).map (fun z=>(z.1+k*z.2,z.2))).Nodup:=by
 unfold turnX
 split
 ·simp<;>omega
 ·split
  ·simp<;>omega
  ·simp
theorem spX_nodup (b d:Int):(spX b d).Nodup:=by
 unfold spX
 split
 ·simp<;>omega
 ·split
  ·simp<;>omega
  ·simp
theorem red_disc {a b c:Int} (ha:0<a) (hr:redB a b c=true) (hd: -4≤discI a b c) (hn:discI a b c<0):a=1∧c=1∧(b=0∨b=1):=by
 unfold redB at hr
 simp at hr
 obtain ⟨h1,h2⟩:=hr
 obtain ⟨h3,h4⟩:=norm_true h1
 have hc:a≤c:=by omega
 have q1:=(sq_le_of (x:=b) (A:=a) ⟨by omega,h4⟩).2
 have q2:=Int.mul_le_mul_of_nonneg_left hc (show 0≤a by omega)
 unfold discI at hd hn
 have e:4*a*c=4*(a*c):=Int.mul_assoc _ _ _
 have h5:a*c≤1:=by omega
 have h6:a=1:=by
  by_cases q:a=1
  ·exact q
  ·have:=Int.mul_le_mul (show 2≤a by omega) (show 1≤c by omega) (by omega) (by omega)
   omega
 subst h6
 rw[Int.one_mul] at h5
 refine ⟨rfl,by omega,?_⟩
 omega
theorem aut_eq {a0 b0 c0 a b c p q r s:Int} (h:MadeM a0 b0 c0 a b c p q r s) (ha0:0<a0) (ha:0<a) (hr:redB a b c=true) (hp:contI a0 b0 c0=1) (hn:discI a0 b0 c0<0) (hm:discI a0 b0 c0%4=0∨discI a0 b0 c0%4=1):
  putM [] ((turnL a b c).map (fun n=>mM (mM (p,q,r,s) n) (iM (p,q,r,s))))=putM [] (spK a0 b0 c0 15):=by
 have u1:a=c∧b=0→a=1:=fun ⟨e1,e2⟩=>made_unit h hp ha (by rw[e2];exact Int.dvd_zero a) (by rw[←e1];exact Int.dvd_refl a)
 have u2:a=c∧b=a→a=1:=fun ⟨e1,e2⟩=>made_unit h hp ha (by rw[e2];exact Int.dvd_refl a) (by rw[←e1];exact Int.dvd_refl a)
 rw[conj_turn h u1 u2,sp_spX hn hm]
 refine put_eq (nodup_aM ha0 (turnX_nodup _ _ _ _)) (nodup_aM ha0 (spX_nodup _ _)) fun m=> ?_
 suffices H: ∀z,z ∈ (turnX a b c).map (fun z=>(z.1+kapM a0 b0 c0 p q r s*z.2,z.2))↔z ∈ spX b0 (discI a0 b0 c0) by
  rw[List.mem_map,List.mem_map]
  constructor
  ·rintro ⟨z,hz,rfl⟩;exact ⟨z,(H z).1 hz,rfl⟩
  ·rintro ⟨z,hz,rfl⟩;exact ⟨z,(H z).2 hz,rfl⟩
 have kb:=kap_b h
 have hd:=disc_made h
 generalize kapM a0 b0 c0 p q r s=k at*
 rintro ⟨x,u⟩
 unfold turnX spX
 by_cases q1:a=c∧b=0
 ·have e1:=u1 q1
  have e2:discI a0 b0 c0= -4:=by rw[←hd];obtain ⟨rfl,rfl⟩:=q1;subst e1;rfl
  rw[if_pos q1,if_pos e2]
  obtain ⟨rfl,rfl⟩:=q1
  simp
  omega
 ·rw [if_neg q1]
  by_cases q2:a=c∧b=a
  ·have e1:=u2 q2
   have e2:discI a0 b0 c0= -3:=by rw[←hd];obtain ⟨rfl,rfl⟩:=q2;subst e1;rfl
   rw[if_pos q2,e2]
   obtain ⟨rfl,rfl⟩:=q2
   subst e1
   have eb:b0=1-2*k:=by omega
   have f1:(-1+b0) / 2= -k:=by omega
   have f2:(-1-b0) / 2=k-1:=by omega
   have f3:(1+b0) / 2=1-k:=by omega
   have f4:(1-b0) / 2=k:=by omega
   rw[if_neg (show ¬((-3:Int)= -4) by omega),if_pos rfl,f1,f2,f3,f4]
   simp only[List.map_cons,List.map_nil,List.mem_cons,List.not_mem_nil,or_false,Prod.mk.injEq,Int.mul_zero,Int.mul_one,Int.add_zero,Int.mul_neg]
   clear f1 f2 f3 f4 eb kb hd
   constructor<;>rintro (g|g|g|g|g|g)<;>obtain ⟨rfl,rfl⟩:=g<;>simp<;>omega
  ·have h3: ¬(discI a0 b0 c0= -4):=fun e=>by
    obtain ⟨g1,g2,g3⟩:=red_disc ha hr (by omega) (by omega)
    omega
   have h4: ¬(discI a0 b0 c0= -3):=fun e=>by
    obtain ⟨g1,g2,g3⟩:=red_disc ha hr (by omega) (by omega)
    omega
   rw[if_neg q2,if_neg h3,if_neg h4]
   simp
   omega
end Go.Proofs.YtobkcnmlmmhpoaaGreat
namespace Go.Proofs.YtobkcnmlmmhpoaaGreat
open Go.RowKit
set_option linter.unusedVariables false
set_option linter.unusedSimpArgs false

def c4 (m:M4):List Int:= [m.1,m.2.1,m.2.2.1,m.2.2.2]
def fl4 (ms:List M4):List Int:=ms.flatMap c4
theorem fl4_len (ms:List M4):(fl4 ms).length=ms.length*4:=by
 induction ms with
 |nil=>rfl
 |cons z zs ih=>unfold fl4 at *;rw [List.flatMap_cons,List.length_append,ih,List.length_cons];show 4+_=_;omega
theorem fl4_app (ms ns:List M4):fl4 (ms++ns)=fl4 ms++fl4 ns:=by unfold fl4;exact List.flatMap_append
theorem fl4_drop: ∀(ms:List M4) (i:Nat),(fl4 ms).drop (i*4)=fl4 (ms.drop i)
 |ms,0=>by simp
 | [],i+1=>by simp [fl4]
 |m :: ms,i+1=>by
  have e:(i+1)*4=i*4+4:=by omega
  rw[e,List.drop_succ_cons,←fl4_drop ms i]
  rfl
theorem fl4_take: ∀(ms:List M4) (i:Nat),(fl4 ms).take (i*4)=fl4 (ms.take i)
 |ms,0=>by simp [fl4]
 | [],i+1=>by simp [fl4]
 |m :: ms,i+1=>by
  have e:(i+1)*4=i*4+4:=by omega
  rw[e,List.take_succ_cons]
  show m.1 :: m.2.1 :: m.2.2.1 :: m.2.2.2 :: (fl4 ms).take (i*4)=_
  rw[fl4_take ms i]
  rfl
def m40:M4:=(0,0,0,0)
theorem fl4_get: ∀(ms:List M4) (i:Nat),i<ms.length→(fl4 ms)[i*4]? =some (ms.getD i m40).1∧(fl4 ms)[i*4+1]? =some (ms.getD i m40).2.1∧(fl4 ms)[i*4+2]? =some (ms.getD i m40).2.2.1∧(fl4 ms)[i*4+3]? =some (ms.getD i m40).2.2.2
 | [],i,h=>by simp at h
 |m :: ms,0,h=>⟨rfl,rfl,rfl,rfl⟩
 |m :: ms,i+1,h=>by
  have:=fl4_get ms i (by simpa using h)
  have e:(i+1)*4=i*4+4:=by omega
  have e1:i*4+4+1=i*4+1+4:=by omega
  have e2:i*4+4+2=i*4+2+4:=by omega
  have e3:i*4+4+3=i*4+3+4:=by omega
  rw[e,e1,e2,e3]
  exact this
theorem fl4_set: ∀(ms:List M4) (i:Nat) (p q r s:Int),((((fl4 ms).set (i*4) p).set (i*4+1) q).set (i*4+2) r).set (i*4+3) s=fl4 (ms.set i (p,q,r,s))
 | [],i,p,q,r,s=>by simp [fl4]
 |m :: ms,0,p,q,r,s=>rfl
 |m :: ms,i+1,p,q,r,s=>by
  have e:(i+1)*4=i*4+4:=by omega
  have e1:i*4+4+1=i*4+1+4:=by omega
  have e2:i*4+4+2=i*4+2+4:=by omega
  have e3:i*4+4+3=i*4+3+4:=by omega
  rw[e,e1,e2,e3]
  show m.1 :: m.2.1 :: m.2.2.1 :: m.2.2.2 :: ((((fl4 ms).set (i*4) p).set (i*4+1) q).set (i*4+2) r).set (i*4+3) s=_
  rw[fl4_set ms i p q r s]
  rfl
def ML (w:World) (lo:Nat) (v:Value) (ms:List M4):Prop:=MatrixL w lo v ms.length (fl4 ms)
theorem ML.nil (w:World) (lo:Nat):ML w lo (.slice none 0 0) []:=MatrixL.nil w lo
theorem ML.made (w:World) (lo:Nat) (h:lo≤w.heap.size):ML (w.alloc (.cells #[] 29)) lo (.slice (some ⟨w.heap.size,0,none⟩) 0 0) []:=MatrixL.made w lo h
theorem ML.alloc {w:World} {lo:Nat} {v:Value} {ms:List M4} (h:ML w lo v ms) (o:Obj):ML (w.alloc o) lo v ms:=MatrixL.alloc h o
theorem ML.kept {w w':World} {lo:Nat} {v:Value} {ms:List M4} {row:Option Nat} (h:ML w lo v ms) (hg:w.grownBy w' row) (hne:v.ownBlock=none∨v.ownBlock≠row):ML w' lo v ms:=MatrixL.kept h hg hne
theorem ML.lt {w:World} {lo:Nat} {v:Value} {ms:List M4} (h:ML w lo v ms): ∀k,v.ownBlock=some k→lo≤k∧k<w.heap.size:=MatrixL.lt h
theorem ML.below {w w':World} {lo:Nat} {v:Value} {ms:List M4} (h:ML w lo v ms) (hb:Below w.heap.size w w'):ML w' lo v ms:=MatrixL.below h hb
theorem ML.cells {w:World} {lo g n c:Nat} {ms:List M4} (h:ML w lo (.slice (some ⟨g,0,none⟩) n c) ms) {i:Nat} (hi:i<ms.length):
  w.cell? ⟨g,i*4,none⟩=some (.int .i64 (ms.getD i m40).1)∧w.cell? ⟨g,i*4+1,none⟩=some (.int .i64 (ms.getD i m40).2.1)∧w.cell? ⟨g,i*4+2,none⟩=some (.int .i64 (ms.getD i m40).2.2.1)∧w.cell? ⟨g,i*4+3,none⟩=some (.int .i64 (ms.getD i m40).2.2.2):=by
 obtain ⟨hn,-⟩:=MatrixL.at h
 subst hn
 obtain ⟨g0,g1,g2,g3⟩:=fl4_get ms i hi
 unfold ML MatrixL at h
 refine ⟨?_,?_,?_,?_⟩
 ·rw [World.ownsRow.cellAt h _ (by omega),List.getElem?_map,g0];rfl
 ·rw [World.ownsRow.cellAt h _ (by omega),List.getElem?_map,g1];rfl
 ·rw [World.ownsRow.cellAt h _ (by omega),List.getElem?_map,g2];rfl
 ·rw [World.ownsRow.cellAt h _ (by omega),List.getElem?_map,g3];rfl
theorem ML.frozen {w:World} {lo g n c:Nat} {ms:List M4} (h:ML w lo (.slice (some ⟨g,0,none⟩) n c) ms) (j:Nat):w.frozen? ⟨g,j,none⟩=false:=by
 obtain ⟨hn,-⟩:=MatrixL.at h
 subst hn
 unfold ML MatrixL at h
 exact World.ownsRow.frozenAt h j
theorem ML.stored {w:World} {lo g n c:Nat} {ms:List M4} (h:ML w lo (.slice (some ⟨g,0,none⟩) n c) ms) (i:Nat) (p q r s:Int):
  ML ((((w.setCell ⟨g,i*4,none⟩ (.int .i64 p)).setCell ⟨g,i*4+1,none⟩ (.int .i64 q)).setCell ⟨g,i*4+2,none⟩ (.int .i64 r)).setCell ⟨g,i*4+3,none⟩ (.int .i64 s)) lo (.slice (some ⟨g,0,none⟩) n c) (ms.set i (p,q,r,s)):=by
 obtain ⟨hn,-⟩:=MatrixL.at h
 subst hn
 unfold ML MatrixL at h ⊢
 have a:=(World.ownsRow.stored h (i*4) (.int .i64 p)).1
 have b:=(World.ownsRow.stored a (i*4+1) (.int .i64 q)).1
 have d:=(World.ownsRow.stored b (i*4+2) (.int .i64 r)).1
 have e:=(World.ownsRow.stored d (i*4+3) (.int .i64 s)).1
 rw[List.length_set,←fl4_set]
 simp only[List.map_set]
 exact e
def shM (ms:List M4) (k:Nat):List M4:=ms.take (k+1)++(ms.drop k).take (ms.length-(k+1))
theorem shM_len {ms:List M4} {k:Nat} (h:k<ms.length):(shM ms k).length=ms.length:=by
 unfold shM
 rw[List.length_append,List.length_take,List.length_take,List.length_drop]
 omega
set_option maxRecDepth 100000 in
theorem ML.copied {w:World} {lo g n c:Nat} {ms:List M4} (h:ML w lo (.slice (some ⟨g,0,none⟩) n c) ms) {k:Nat} (hk:k<ms.length)
  (dp:Option Addr) (dCap sCap:Nat) (ty:TypeId) (hd:k+1<ms.length→dp=some ⟨g,(k+1)*4,none⟩):
  ∃w',(Builtin.copy_ #[79,79] ty #[.slice dp (ms.length-(k+1)) dCap,.slice (some ⟨g,k*4,none⟩) (ms.length-k) sCap]).run Tryz.prog w= .ok (goInt (ms.length-(k+1):Nat)) w'∧
   ML w' lo (.slice (some ⟨g,0,none⟩) n c) (shM ms k)∧w.grownBy w' (some g):=by
 obtain ⟨hn,-⟩:=MatrixL.at h
 subst hn
 obtain ⟨i0,hi,hz0,hz1,hz2⟩:=info_parts Tryz.infoMatrix
 have hu:=run_underlying Tryz.underlying79
 have hmin:Nat.min (ms.length-k) (ms.length-(k+1))=ms.length-(k+1):=by simp only[Nat.min_def];split<;>omega
 by_cases h0:k+1<ms.length
 ·have hdp:=hd h0
  subst hdp
  obtain ⟨cs,hcs⟩: ∃cs,cs=(fl4 ((ms.drop k).take (ms.length-(k+1)))).map (Value.int .i64):=⟨_,rfl⟩
  have hcl:cs.length=(ms.length-(k+1))*4:=by rw[hcs,List.length_map,fl4_len,List.length_take,List.length_drop];omega
  have hsrc: ∀j v,cs[j]? =some v→w.cell? ((⟨g,k*4,none⟩:Addr).add j)=some v:=fun j v hj=>by
   have hjl:j<cs.length:=(List.getElem?_eq_some_iff.1 hj).1
   rw[Addr.add_lit,World.ownsRow.cellAt h _ (by omega),←hj,hcs,←fl4_take,←fl4_drop,List.getElem?_map,List.getElem?_map,List.getElem?_take,if_pos (by omega),List.getElem?_drop]
  have hl:=run_loadCells_list (P:=Tryz.prog) w ⟨g,k*4,none⟩ cs hsrc
  have h1: ∀v ∈ cs,v.oneCell'=true:=fun v hv=>by
   rw[hcs,List.mem_map] at hv
   obtain ⟨z,_,rfl⟩:=hv
   rfl
  rcases h.2 with ⟨h',_⟩|⟨g',cap',cur,h',hb,hg,hnc,hcm,hsz,htake⟩
  ·simp at h'
  ·simp only[Value.slice.injEq,Option.some.injEq,Addr.mk.injEq,and_true,true_and] at h'
   obtain ⟨rfl,rfl⟩:=h'
   have hst:=run_storeCells_at Tryz.prog g ((k+1)*4) 29 cs 0 cur w hg (by omega) h1
   simp only[Nat.add_zero] at hst
   obtain ⟨nx,hnx⟩: ∃nx,nx=cur.toList.take ((k+1)*4)++cs++cur.toList.drop ((k+1)*4+cs.length):=⟨_,rfl⟩
   rw[←hnx] at hst
   have hcur:cur.toList.length=c*4:=by simpa using hsz
   have hnl:nx.length=c*4:=by
    rw[hnx,List.length_append,List.length_append,List.length_take,List.length_drop]
    omega
   have htk:nx.take (ms.length*4)=(fl4 (shM ms k)).map (Value.int .i64):=by
    have e1:cur.toList.take ((k+1)*4)=(fl4 (ms.take (k+1))).map (Value.int .i64):=by
     rw[←fl4_take,List.map_take,←htake,List.take_take]
     congr 1
     omega
    rw[hnx,List.take_append_of_le_length (by rw[List.length_append,List.length_take];omega),List.take_of_length_le (by rw[List.length_append,List.length_take];omega),e1,hcs]
    unfold shM
    rw[fl4_app,List.map_append]
   refine ⟨w.setRow g nx.toArray,?_,?_,?_⟩
   ·rw [hcl] at hl
    simp [Builtin.copy_,hu,Builtin.lenOf,Builtin.firstCells,sizeOf,typeInfo,hi,hz1,hmin,hl,hst]
   ·unfold ML MatrixL World.ownsRow
    rw[shM_len hk]
    refine ⟨by rw[List.length_map,fl4_len,shM_len hk],.inr ⟨g,c,nx.toArray,rfl,hb,setRow_heap w g cur _ _ _ hg,hnc,hcm,by simpa using hnl,by simpa using htk⟩⟩
   ·exact ⟨rfl,rfl,rfl,by simp [World.setRow],fun j _ hj=>setRow_other w g j _ (fun e=>hj (by rw[e]))⟩
 ·refine ⟨w,?_,?_,?_⟩
  ·have e0:ms.length-(k+1)=0:=by omega
   have hl: ∀(x:Addr),(loadCells x 0).run Tryz.prog w= .ok #[] w:=fun x=>by simpa using run_loadCells_list (P:=Tryz.prog) w x [] (by simp)
   rw[e0] at hmin ⊢
   cases dp<;>simp [Builtin.copy_,hu,Builtin.lenOf,Builtin.firstCells,sizeOf,typeInfo,hi,hz1,hl,storeCells]
  ·have e0:ms.length-(k+1)=0:=by omega
   have e1:shM ms k=ms:=by unfold shM;rw [e0,List.take_of_length_le (by omega)];simp
   rw[e1]
   exact h
  ·exact ⟨rfl,rfl,rfl,Nat.le_refl _,fun _ _ _=>rfl⟩
end Go.Proofs.YtobkcnmlmmhpoaaGreat
