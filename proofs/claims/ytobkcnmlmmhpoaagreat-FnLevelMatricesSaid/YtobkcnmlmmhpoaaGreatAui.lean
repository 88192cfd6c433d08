/- Plain: insertion from behind. Determinants and inverses of matrices of determinant 1. -/
import Derived.Test.YtobkcnmlmmhpoaaGreatMl
import Derived.Test.YtobkcnmlmmhpoaaGreatLevel
namespace Go.Proofs.YtobkcnmlmmhpoaaGreat
open Go.RowKit
set_option linter.unusedVariables false
set_option linter.unusedSimpArgs false

def atB (m:M4) (L:List M4):Nat→Nat
 |0=>0
 |k+1=>if ltM m (L.getD k m40) then atB m L k else k+1
theorem atB_le (m:M4) (L:List M4): ∀k,atB m L k≤k
 |0=>Nat.le_refl _
 |k+1=>by
  unfold atB
  split
  ·have:=atB_le m L k;omega
  ·exact Nat.le_refl _
def insB (m:M4) (L:List M4):List M4:=L.take (atB m L L.length)++m :: L.drop (atB m L L.length)
def putB:List M4→List M4→List M4
 |L,[]=>L
 |L,m :: K=>putB (insB m L) K
theorem insB_len (m:M4) (L:List M4):(insB m L).length=L.length+1:=by
 have:=atB_le m L L.length
 unfold insB
 rw[List.length_append,List.length_cons,List.length_take,List.length_drop]
 omega
theorem putB_snoc (m:M4): ∀(K L:List M4),putB L (K++ [m])=insB m (putB L K)
 | [],L=>rfl
 |k :: K,L=>by rw[List.cons_append,putB,putB,putB_snoc m K]
theorem putB_len: ∀(K L:List M4),(putB L K).length=L.length+K.length
 | [],L=>rfl
 |k :: K,L=>by rw[putB,putB_len K,insB_len,List.length_cons];omega
theorem sh_set (L:List M4) (z m:M4) (k:Nat) (hk:k≤L.length):(shM (L++ [z]) k).set k m=L.take k++m :: L.drop k:=by
 unfold shM
 have e0:(L++ [z]).length=L.length+1:=by simp
 rw[e0,show L.length+1-(k+1)=L.length-k by omega]
 have e1:((L++ [z]).drop k).take (L.length-k)=L.drop k:=by
  rw[List.drop_append_of_le_length hk,List.take_append_of_le_length (by rw[List.length_drop];omega),List.take_of_length_le (by rw[List.length_drop];omega)]
 rw[e1]
 have e2: ∃y,(L++ [z]).take (k+1)=L.take k++ [y]:=by
  by_cases q:k<L.length
  ·exact ⟨L[k],by rw[List.take_append_of_le_length (by omega),List.take_succ_eq_append_getElem q]⟩
  ·have:k=L.length:=by omega
   subst this
   exact ⟨z,by rw[List.take_of_length_le (by simp),List.take_of_length_le (Nat.le_refl _)]⟩
 obtain ⟨y,hy⟩:=e2
 rw[hy,List.append_assoc,List.set_append_right _ _ (by rw[List.length_take];omega)]
 congr 1
 rw[List.length_take,show k-min k L.length=0 by omega]
 rfl
theorem sh_step (L:List M4) (x:M4) (k:Nat) (hk:k<L.length):(L.take (k+1)++x :: L.drop (k+1)).set (k+1) (L.getD k m40)=L.take k++L.getD k m40 :: L.drop k:=by
 rw[List.set_append_right _ _ (by rw[List.length_take];omega),List.length_take,show k+1-min (k+1) L.length=0 by omega]
 have e:L.getD k m40=L[k]:=by rw[List.getD_eq_getElem?_getD,List.getElem?_eq_getElem hk];rfl
 rw[e,List.take_succ_eq_append_getElem hk,List.drop_eq_getElem_cons hk,List.append_assoc]
 rfl
theorem sh_get (L:List M4) (x:M4) (k j:Nat) (hk:k≤L.length) (hj:j<k):(L.take k++x :: L.drop k).getD j m40=L.getD j m40:=by
 rw[List.getD_eq_getElem?_getD,List.getD_eq_getElem?_getD,List.getElem?_append_left (by rw[List.length_take];omega),List.getElem?_take,if_pos hj]
theorem sh_put (L:List M4) (x m:M4) (k:Nat) (hk:k≤L.length):(L.take k++x :: L.drop k).set k m=L.take k++m :: L.drop k:=by
 rw[List.set_append_right _ _ (by rw[List.length_take];omega),List.length_take,show k-min k L.length=0 by omega]
 rfl
theorem insM_at {m:M4} : ∀{L:List M4} {k:Nat},k≤L.length→(∀j,j<k→ltM m (L.getD j m40)=false)→(∀j,k≤j→j<L.length→ltM m (L.getD j m40)=true)→insM m L=L.take k++m :: L.drop k
 | [],k,_,_,_=>by simp [insM]
 |n :: L,0,_,_,h2=>by
  have:=h2 0 (Nat.le_refl _) (by simp)
  rw[show (n :: L).getD 0 m40=n from rfl] at this
  unfold insM
  rw[if_pos this]
  rfl
 |n :: L,k+1,hk,h1,h2=>by
  have:=h1 0 (by omega)
  rw[show (n :: L).getD 0 m40=n from rfl] at this
  unfold insM
  rw[if_neg (by rw[this];simp)]
  rw[insM_at (L:=L) (k:=k) (by simpa using hk) (fun j hj=>h1 (j+1) (by omega)) (fun j hj hl=>h2 (j+1) (by omega) (by simpa using hl))]
  rfl
theorem srt_get: ∀{L:List M4} {i j:Nat},SrtM L→i<j→j<L.length→ltM (L.getD i m40) (L.getD j m40)=true
 | [],_,_,_,_,h=>by simp at h
 |n :: L,_,0,_,h,_=>by omega
 |n :: L,0,j+1,hs,_,h=>by
  refine hs.1 _ ?_
  have hj:j<L.length:=by simpa using h
  show L.getD j m40 ∈ L
  rw[List.getD_eq_getElem?_getD,List.getElem?_eq_getElem hj]
  exact List.getElem_mem hj
 |n :: L,i+1,j+1,hs,h1,h2=>srt_get (L:=L) (i:=i) (j:=j) hs.2 (by omega) (by simpa using h2)
theorem atB_hi (m:M4) (L:List M4): ∀(k j:Nat),atB m L k≤j→j<k→ltM m (L.getD j m40)=true
 |0,j,_,h=>by omega
 |k+1,j,h1,h2=>by
  unfold atB at h1
  split at h1
  ·rename_i q
   by_cases e:j=k
   ·subst e;exact q
   ·exact atB_hi m L k j h1 (by omega)
  ·omega
theorem atB_lo (m:M4) (L:List M4): ∀(k:Nat),atB m L k=0∨ltM m (L.getD (atB m L k-1) m40)=false
 |0=> .inl rfl
 |k+1=>by
  unfold atB
  split
  ·exact atB_lo m L k
  ·rename_i q
   right
   simpa using q
theorem insB_eq {m:M4} {L:List M4} (hs:SrtM L):insB m L=insM m L:=by
 have hle:=atB_le m L L.length
 rw[insM_at hle ?_ (fun j h1 h2=>atB_hi m L _ j h1 h2)]
 ·rfl
 ·intro j hj
  rcases atB_lo m L L.length with h|h
  ·omega
  ·by_cases e:j=atB m L L.length-1
   ·rw [e];exact h
   ·have:=srt_get hs (show j<atB m L L.length-1 by omega) (by omega)
    cases q:ltM m (L.getD j m40)
    ·rfl
    ·have:=ltM_trans q this
     rw[h] at this;cases this
theorem putB_eq: ∀{K L:List M4},SrtM L→NewM L K→putB L K=putM L K
 | [],_,_,_=>rfl
 |m :: K,L,hs,hn=>by rw[putB,putM,insB_eq hs];exact putB_eq (insM_srt hs hn.1) hn.2
end Go.Proofs.YtobkcnmlmmhpoaaGreat
namespace Go.Proofs.YtobkcnmlmmhpoaaGreat
open Go.RowKit
set_option linter.unusedVariables false
set_option linter.unusedSimpArgs false
attribute [local go_sem] q2 q3 q4 q5 q6 q7 q8 q9 q10 q11 q12

structure OkM (p q r s:Int):Prop where
 p0: -200000000≤p∧p≤200000000
 q0: -200000000≤q∧q≤200000000
 r0: -200000000≤r∧r≤200000000
 s0: -200000000≤s∧s≤200000000
 det:p*s-q*r=1
 ps: -40000000000000000≤p*s∧p*s≤40000000000000000
 qr: -40000000000000000≤q*r∧q*r≤40000000000000000

set_option maxRecDepth 100000 in
set_option maxHeartbeats 1000000 in
theorem det_1 (p q r s:Int) (w:World) (h0:OkM p q r s):
  Calls Tryz.prog 37 #[.agg #[.int .i64 p,.int .i64 q,.int .i64 r,.int .i64 s]] w fun e w'=>e= .returned (.int .i64 1)∧Below w.heap.size w w':=by
 obtain ⟨p0,q0,r0,s0,hd,ps,qr⟩:=h0
 go_enter Tryz.func37,Tryz.ntmps37
 go_wp2
 go_returns
 refine ⟨rfl,?_⟩
 (repeat' first|with_reducible (first|exact Below.refl _ _|assumption|refine gr_alloc ?_ _|refine below_drewN ?_ _|refine below_drew ?_|refine gr_call ?_ (by assumption)|refine Below.setCell ?_ ?_ _)|go_size|omega|(simp;omega))

set_option maxRecDepth 100000 in
set_option maxHeartbeats 1000000 in
theorem foDet_1 (p q r s:Int) (w:World) (h0:OkM p q r s):
  Calls Tryz.prog 68 #[.agg #[.int .i64 p,.int .i64 q,.int .i64 r,.int .i64 s]] w fun e w'=>e= .returned (.int .i64 1)∧Below w.heap.size w w':=by
 obtain ⟨p0,q0,r0,s0,hd,ps,qr⟩:=h0
 go_enter Tryz.func68,Tryz.ntmps68
 go_wp2
 go_returns
 refine ⟨rfl,?_⟩
 (repeat' first|with_reducible (first|exact Below.refl _ _|assumption|refine gr_alloc ?_ _|refine below_drewN ?_ _|refine below_drew ?_|refine gr_call ?_ (by assumption)|refine Below.setCell ?_ ?_ _)|go_size|omega|(simp;omega))

set_option maxRecDepth 100000 in
set_option maxHeartbeats 2000000 in
theorem inverse_a (p q r s:Int) (w:World) (h0:OkM p q r s):
  Calls Tryz.prog 38 #[.agg #[.int .i64 p,.int .i64 q,.int .i64 r,.int .i64 s]] w fun e w'=>e= .returned (.agg #[.int .i64 s,.int .i64 (-q),.int .i64 (-r),.int .i64 p])∧Below w.heap.size w w':=by
 obtain ⟨p0,q0,r0,s0,hd,ps,qr⟩:=h0
 go_enter Tryz.func38,Tryz.ntmps38
 go_wp2_with (go_at_call 37;refine (det_1 _ _ _ _ _ (by exact ⟨p0,q0,r0,s0,hd,ps,qr⟩)).mono ?_;rintro e w1 ⟨rfl,hb⟩;have c00:=cell_call hb (a:=⟨w.heap.size,0,none⟩) (v:= .int .i64 p) (by first|assumption|go_simp);have c01:=cell_call hb (a:=⟨w.heap.size,1,none⟩) (v:= .int .i64 q) (by first|assumption|go_simp);have c02:=cell_call hb (a:=⟨w.heap.size,2,none⟩) (v:= .int .i64 r) (by first|assumption|go_simp);have c03:=cell_call hb (a:=⟨w.heap.size,3,none⟩) (v:= .int .i64 s) (by first|assumption|go_simp);have z0:=lt_keep hb (w.heap.size) (by first|assumption|(simp;omega)|(simp;done));have c10:=cell_call hb (a:=⟨w.heap.size+1,0,none⟩) (v:= .int .i64 0) (by first|assumption|go_simp);have f10:=frz_call hb (a:=⟨w.heap.size+1,0,none⟩) (by first|assumption|(simp;omega)|(simp;done)) (by first|assumption|go_simp);have c11:=cell_call hb (a:=⟨w.heap.size+1,1,none⟩) (v:= .int .i64 0) (by first|assumption|go_simp);have f11:=frz_call hb (a:=⟨w.heap.size+1,1,none⟩) (by first|assumption|(simp;omega)|(simp;done)) (by first|assumption|go_simp);have c12:=cell_call hb (a:=⟨w.heap.size+1,2,none⟩) (v:= .int .i64 0) (by first|assumption|go_simp);have f12:=frz_call hb (a:=⟨w.heap.size+1,2,none⟩) (by first|assumption|(simp;omega)|(simp;done)) (by first|assumption|go_simp);have c13:=cell_call hb (a:=⟨w.heap.size+1,3,none⟩) (v:= .int .i64 0) (by first|assumption|go_simp);have f13:=frz_call hb (a:=⟨w.heap.size+1,3,none⟩) (by first|assumption|(simp;omega)|(simp;done)) (by first|assumption|go_simp);have z1:=lt_keep hb (w.heap.size+1) (by first|assumption|(simp;omega)|(simp;done));have hs:=hb.size)
 first|go_returns|(refine bodyPost_ret (v:= .agg #[.int .i64 s,.int .i64 (-q),.int .i64 (-r),.int .i64 p]) (by simp [results,Tryz.results38,go_sem, *]) rfl ?_)
 refine ⟨rfl,?_⟩
 (repeat' first|with_reducible (first|exact Below.refl _ _|assumption|refine gr_alloc ?_ _|refine below_drewN ?_ _|refine below_drew ?_|refine gr_call ?_ (by assumption)|refine Below.setCell ?_ ?_ _)|go_size|omega|(simp;omega))

set_option maxRecDepth 100000 in
set_option maxHeartbeats 2000000 in
theorem foInverse_a (p q r s:Int) (w:World) (h0:OkM p q r s):
  Calls Tryz.prog 56 #[.agg #[.int .i64 p,.int .i64 q,.int .i64 r,.int .i64 s]] w fun e w'=>e= .returned (.agg #[.int .i64 s,.int .i64 (-q),.int .i64 (-r),.int .i64 p])∧Below w.heap.size w w':=by
 obtain ⟨p0,q0,r0,s0,hd,ps,qr⟩:=h0
 go_enter Tryz.func56,Tryz.ntmps56
 go_wp2_with (go_at_call 68;refine (foDet_1 _ _ _ _ _ (by exact ⟨p0,q0,r0,s0,hd,ps,qr⟩)).mono ?_;rintro e w1 ⟨rfl,hb⟩;have c00:=cell_call hb (a:=⟨w.heap.size,0,none⟩) (v:= .int .i64 p) (by first|assumption|go_simp);have c01:=cell_call hb (a:=⟨w.heap.size,1,none⟩) (v:= .int .i64 q) (by first|assumption|go_simp);have c02:=cell_call hb (a:=⟨w.heap.size,2,none⟩) (v:= .int .i64 r) (by first|assumption|go_simp);have c03:=cell_call hb (a:=⟨w.heap.size,3,none⟩) (v:= .int .i64 s) (by first|assumption|go_simp);have z0:=lt_keep hb (w.heap.size) (by first|assumption|(simp;omega)|(simp;done));have c10:=cell_call hb (a:=⟨w.heap.size+1,0,none⟩) (v:= .int .i64 0) (by first|assumption|go_simp);have f10:=frz_call hb (a:=⟨w.heap.size+1,0,none⟩) (by first|assumption|(simp;omega)|(simp;done)) (by first|assumption|go_simp);have c11:=cell_call hb (a:=⟨w.heap.size+1,1,none⟩) (v:= .int .i64 0) (by first|assumption|go_simp);have f11:=frz_call hb (a:=⟨w.heap.size+1,1,none⟩) (by first|assumption|(simp;omega)|(simp;done)) (by first|assumption|go_simp);have c12:=cell_call hb (a:=⟨w.heap.size+1,2,none⟩) (v:= .int .i64 0) (by first|assumption|go_simp);have f12:=frz_call hb (a:=⟨w.heap.size+1,2,none⟩) (by first|assumption|(simp;omega)|(simp;done)) (by first|assumption|go_simp);have c13:=cell_call hb (a:=⟨w.heap.size+1,3,none⟩) (v:= .int .i64 0) (by first|assumption|go_simp);have f13:=frz_call hb (a:=⟨w.heap.size+1,3,none⟩) (by first|assumption|(simp;omega)|(simp;done)) (by first|assumption|go_simp);have z1:=lt_keep hb (w.heap.size+1) (by first|assumption|(simp;omega)|(simp;done));have hs:=hb.size)
 first|go_returns|(refine bodyPost_ret (v:= .agg #[.int .i64 s,.int .i64 (-q),.int .i64 (-r),.int .i64 p]) (by simp [results,Tryz.results56,go_sem, *]) rfl ?_)
 refine ⟨rfl,?_⟩
 (repeat' first|with_reducible (first|exact Below.refl _ _|assumption|refine gr_alloc ?_ _|refine below_drewN ?_ _|refine below_drew ?_|refine gr_call ?_ (by assumption)|refine Below.setCell ?_ ?_ _)|go_size|omega|(simp;omega))
end Go.Proofs.YtobkcnmlmmhpoaaGreat
