/- The cursor that draws choices from bytes. -/
import Derived.Test.YtobkcnmlmmhpoaaGreatOwn
import Derived.Test.YtobkcnmlmmhpoaaGreatNum
import Derived.Deep.AppendLies
import Derived.Laws.BitsLemmas
import Derived.Laws.Bits64
namespace Go.Proofs.YtobkcnmlmmhpoaaGreat
open Go.RowKit
set_option linter.unusedVariables false
set_option linter.unusedSimpArgs false
attribute [local go_sem] q2 q3 q4 q5 q6 q7 q8 q9 q10 q11 q12

theorem _root_.Go.World.grownBy.setB {w w':World} {g:Nat} (h:w.grownBy w' (some g)) (o:Nat) (v:Value):w.grownBy (w'.setCell ⟨g,o,none⟩ v) (some g):=
 ⟨h.os,h.tape,h.output,by simpa [World.setCell] using h.size,fun j hj hne=>(Below.heap_setCell _ _ _ _ (fun e=>hne (by rw[e]))).trans (h.block j hj hne)⟩
theorem _root_.Go.World.grownBy.refl' (w:World) (r:Option Nat):w.grownBy w r:=⟨rfl,rfl,rfl,Nat.le_refl _,fun _ _ _=>rfl⟩
theorem _root_.Go.World.grownBy.trans' {w w' w'':World} {r:Option Nat} (h:w.grownBy w' r) (h2:w'.grownBy w'' r):w.grownBy w'' r:=
 ⟨h2.os.trans h.os,h2.tape.trans h.tape,h2.output.trans h.output,Nat.le_trans h.size h2.size,fun k hk hne=>(h2.block k (Nat.lt_of_lt_of_le hk h.size) hne).trans (h.block k hk hne)⟩
theorem _root_.Go.World.grownBy.drewN' {w w':World} {r:Option Nat} (h:w.grownBy w' r) (n:Nat):w.grownBy (w'.drewN n) r:=⟨h.os,h.tape,h.output,h.size,h.block⟩
theorem _root_.Go.World.grownBy.below' {w w' w'':World} {r:Option Nat} (h:w.grownBy w' r) (hb:Below w'.heap.size w' w''):w.grownBy w'' r:=
 ⟨hb.os.trans h.os,hb.tape.trans h.tape,hb.output.trans h.output,Nat.le_trans h.size hb.size,fun k hk hne=>(hb.block k (Nat.lt_of_lt_of_le hk h.size)).trans (h.block k hk hne)⟩
theorem _root_.Go.World.grownBy.alloc' {w w':World} {r:Option Nat} (h:w.grownBy w' r) (ob:Obj):w.grownBy (w'.alloc ob) r:=h.below' (below_alloc_self _ _)
theorem _root_.Go.World.grownBy.to_below {w w':World} {b B:Nat} (h:w.grownBy w' (some b)) (hb:B≤b) (hB:B≤w.heap.size):Below B w w':=
 ⟨h.os,h.tape,h.output,h.size,fun k hk=>h.block k (by omega) (fun e=>by have:=Option.some.inj e;omega)⟩
variable {B:Nat}
def BytesAt (B:Nat) (w:World) (b:Nat) (a:Option Addr) (n:Nat):Prop:=
 n=0∨ ∃g off,a=some ⟨g,off,none⟩∧(g<B∧B≤b)∧ ∀i,i<n→ ∃x:Int,w.cell? ⟨g,off+i,none⟩=some (.int .u8 x)∧0≤x∧x≤255
theorem BytesAt.grown {w w':World} {b:Nat} {a:Option Addr} {n:Nat} (h:BytesAt B w b a n) (hg:w.grownBy w' (some b)):BytesAt B w' b a n:=by
 rcases h with h|⟨g,off,h1,h2,h3⟩
 ·exact .inl h
 ·refine .inr ⟨g,off,h1,h2,fun i hi=> ?_⟩
  obtain ⟨x,hx,h4⟩:=h3 i hi
  exact ⟨x,by rw[hg.cell_far ⟨g,off+i,none⟩ (World.block_lt_of_cell? _ _ hx) (fun e=>(show g≠b by omega) (show g=b from (Option.some.inj e)))];exact hx,h4⟩
def Cur (B:Nat) (w:World) (b:Nat) (K:Int):Prop:= ∃(a:Option Addr) (n c:Nat) (t s:Int),w.cell? ⟨b,0,none⟩=some (.slice a n c)∧w.cell? ⟨b,1,none⟩=some (.int .i64 t)∧w.cell? ⟨b,2,none⟩=some (.int .u64 s)∧
 w.frozen? ⟨b,1,none⟩=false∧w.frozen? ⟨b,2,none⟩=false∧0≤t∧t≤K∧BytesAt B w b a n
theorem Cur.below {w w':World} {b:Nat} {K:Int} (h:Cur B w b K) (hb:Below w.heap.size w w'):Cur B w' b K:=by
 obtain ⟨a,n,c,t,s,h0,h1,h2,h3,h4,h5,h6,h7⟩:=h
 have hlt:=World.block_lt_of_cell? _ _ h0
 refine ⟨a,n,c,t,s,cell_call hb h0,cell_call hb h1,cell_call hb h2,frz_call hb hlt h3,frz_call hb hlt h4,h5,h6,?_⟩
 rcases h7 with h|⟨g,off,k1,k2,k3⟩
 ·exact .inl h
 ·exact .inr ⟨g,off,k1,k2,fun i hi=>by obtain ⟨x,hx,k4⟩:=k3 i hi;exact ⟨x,cell_call hb hx,k4⟩⟩
theorem Cur.le {w:World} {b:Nat} {K K':Int} (h:Cur B w b K) (hk:K≤K'):Cur B w b K':=by
 obtain ⟨a,n,c,t,s,h0,h1,h2,h3,h4,h5,h6,h7⟩:=h
 exact ⟨a,n,c,t,s,h0,h1,h2,h3,h4,h5,by omega,h7⟩
theorem Cur.lt {w:World} {b:Nat} {K:Int} (h:Cur B w b K):b<w.heap.size:=by
 obtain ⟨a,n,c,t,s,h0,h1⟩:=h
 exact World.block_lt_of_cell? _ _ h0
theorem seed_bd (x:Int):0≤wrap64 (bits BinOp.and IntKind.u64 (IntKind.u64.wrap x / 1099511627776) 255)∧wrap64 (bits BinOp.and IntKind.u64 (IntKind.u64.wrap x / 1099511627776) 255)≤255:=by
 obtain ⟨y,hy⟩: ∃y,y=IntKind.u64.wrap x / 1099511627776:=⟨_,rfl⟩
 rw[IntKind.wrap_u64] at hy
 have h0:0≤y:=by omega
 have h1:y<2 ^ 63:=by omega
 have h:=bits_mask .u64 63 (by decide) (fun n h₀ h₁=>by rw[IntKind.wrap_u64];omega) 8 (by decide) y h0 h1
 have e:((2:Int) ^ 8-1)=255:=by decide
 have e2:((2:Int) ^ 8)=256:=by decide
 rw[e,e2] at h
 rw[IntKind.wrap_u64,←hy,h]
 unfold wrap64
 omega
theorem cur_end {w W:World} {b:Nat} {a:Option Addr} {n c:Nat} {t K:Int} (hB:BytesAt B w b a n) (hg:w.grownBy W (some b)) (h0:W.cell? ⟨b,0,none⟩=some (.slice a n c)) (h1:W.cell? ⟨b,1,none⟩=some (.int .i64 t)) (h2': ∃s,W.cell? ⟨b,2,none⟩=some (.int .u64 s)) (h3:W.frozen? ⟨b,1,none⟩=false) (h4:W.frozen? ⟨b,2,none⟩=false) (h5:0≤t) (h6:t≤K):Cur B W b K∧w.grownBy W (some b):=
 have ⟨s,h2⟩:=h2'
 ⟨⟨a,n,c,t,s,h0,h1,h2,h3,h4,h5,h6,hB.grown hg⟩,hg⟩
set_option maxRecDepth 100000 in
set_option maxHeartbeats 4000000 in
theorem next_a (b:Nat) (K:Int) (w:World) (h:Cur B w b K) (hK:K≤1000000000000):
  Calls Tryz.prog 76 #[.pointer (some ⟨b,0,none⟩)] w fun e w'=> ∃v:Int,e= .returned (.int .i64 v)∧(0≤v∧v≤255)∧Cur B w' b (K+1)∧w.grownBy w' (some b):=by
 obtain ⟨a,n,c,t,s,h0,h1,h2,h3,h4,h5,h6,h7⟩:=h
 have hlt:b<w.heap.size:=World.block_lt_of_cell? _ _ h0
 have hB:=h7
 by_cases q:t<(n:Int)
 ·obtain ⟨k,rfl⟩:=Int.eq_ofNat_of_zero_le h5
  have hk:k<n:=by omega
  rcases h7 with h7|⟨g,off,rfl,hgb,h7⟩
  ·omega
  ·obtain ⟨x,hx,hx0,hx1⟩:=h7 k hk
   have hk1:(k:Int)+1≤(n:Int):=by omega
   go_enter Tryz.func76,Tryz.ntmps76
   go_wp2
   go_quiet (fail)
   go_wp2
   go_quiet (fail)
   go_wp2
   go_quiet (fail)
   go_wp2
   go_ret
   exact ⟨_,rfl,⟨hx0,hx1⟩,cur_end (c:=c) (t:=(k:Int)+1) hB (by repeat' first|exact World.grownBy.refl' _ _|refine World.grownBy.drewN' ?_ _|refine World.grownBy.setB ?_ _ _|refine World.grownBy.alloc' ?_ _) byCT byCT ⟨_,by first|(go_simp;done)|(go_simp;rfl)⟩ byFT byFT (by omega) (by omega)⟩
 ·have hk1: ¬(t+1≤(n:Int)):=by omega
  go_enter Tryz.func76,Tryz.ntmps76
  go_wp2
  go_quiet (fail)
  go_wp2
  go_quiet (fail)
  go_wp2
  go_ret
  refine ⟨_,rfl,?_,cur_end (c:=c) (t:=t+1) hB (by repeat' first|exact World.grownBy.refl' _ _|refine World.grownBy.drewN' ?_ _|refine World.grownBy.setB ?_ _ _|refine World.grownBy.alloc' ?_ _) byCT byCT ⟨_,by first|(go_simp;done)|(go_simp;rfl)⟩ byFT byFT (by omega) (by omega)⟩
  exact seed_bd _

def Drew (B:Nat) (w:World) (b:Nat) (K:Int) (P:Int→Prop) (e:Ending) (w':World):Prop:= ∃v:Int,e= .returned (.int .i64 v)∧P v∧Cur B w' b K∧w.grownBy w' (some b)
set_option maxRecDepth 100000 in
set_option maxHeartbeats 4000000 in
theorem pick_a (b:Nat) (K n:Int) (w:World) (h:Cur B w b K) (hK:K≤100000000000) (hn:1≤n∧n≤1000000000):
  Calls Tryz.prog 43 #[.pointer (some ⟨b,0,none⟩),.int .i64 n] w (Drew B w b (K+2) (fun v=>0≤v∧v<n)):=by
 by_cases q:n≤1
 ·go_enter Tryz.func43,Tryz.ntmps43
  go_wp2
  go_ret
  exact ⟨_,rfl,⟨by omega,by omega⟩,h.le (by omega),World.grownBy.refl' _ _⟩
 ·go_enter Tryz.func43,Tryz.ntmps43
  go_wp2_with fail
  refine (next_a b K w h (by omega)).mono ?_
  rintro e w1 ⟨v,rfl,⟨v0,v1⟩,h1,g1⟩
  have r1:=Int.emod_nonneg v (show n≠0 by omega)
  have r2:=Int.emod_lt_of_pos v (show 0<n by omega)
  by_cases q2:200<n
  ·go_wp2_with fail
   refine (next_a b (K+1) w1 h1 (by omega)).mono ?_
   rintro e w2 ⟨v2,rfl,⟨v20,v21⟩,h2,g2⟩
   have s1:=Int.emod_nonneg (v*256+v2) (show n≠0 by omega)
   have s2:=Int.emod_lt_of_pos (v*256+v2) (show 0<n by omega)
   have s3:(v*256+v2).tmod n=(v*256+v2)%n:=Int.tmod_eq_emod_of_nonneg (by omega)
   have hnz: ¬n=0:=by omega
   go_wp2
   go_ret
   refine ⟨_,rfl,?_,h2.le (by omega),g1.trans' g2⟩
   first|(rw [s3];exact ⟨s1,s2⟩)|exact ⟨s1,s2⟩|(simp only[s3];omega)
  ·have s3:v.tmod n=v%n:=Int.tmod_eq_emod_of_nonneg (by omega)
   have hnz: ¬n=0:=by omega
   go_wp2
   go_ret
   refine ⟨_,rfl,?_,h1.le (by omega),g1⟩
   first|(rw [s3];exact ⟨r1,r2⟩)|exact ⟨r1,r2⟩|(simp only[s3];omega)
theorem one_a (b:Nat) (K n:Int) (w:World) (h:Cur B w b K) (hK:K≤100000000000) (hn:1≤n∧n≤1000000000):
  Calls Tryz.prog 42 #[.pointer (some ⟨b,0,none⟩),.int .i64 n] w fun e w'=> ∃t:Bool,e= .returned (.bool t)∧Cur B w' b (K+2)∧w.grownBy w' (some b):=by
 go_enter Tryz.func42,Tryz.ntmps42
 go_wp2_with fail
 refine (pick_a b K n w h hK hn).mono ?_
 rintro e w1 ⟨v,rfl,⟨v0,v1⟩,h1,g1⟩
 go_wp2
 go_ret
 exact ⟨_,rfl,h1,g1⟩
def ListP (w:World) (b g off n:Nat) (P:Int→Prop):Prop:=g≠b∧ ∀i,i<n→ ∃x:Int,w.cell? ⟨g,off+i,none⟩=some (.int .i64 x)∧P x
set_option maxRecDepth 100000 in
set_option maxHeartbeats 4000000 in
theorem among_a (b:Nat) (K:Int) (g off n c:Nat) (P:Int→Prop) (w:World) (h:Cur B w b K) (hK:K≤100000000000) (hn:1≤n∧n≤1000000) (hl:ListP w b g off n P):
  Calls Tryz.prog 65 #[.pointer (some ⟨b,0,none⟩),.slice (some ⟨g,off,none⟩) n c] w (Drew B w b (K+2) P):=by
 go_enter Tryz.func65,Tryz.ntmps65
 go_wp2_with fail
 refine (pick_a b K (n:Int) w h hK (by omega)).mono ?_
 rintro e w1 ⟨v,rfl,⟨v0,v1⟩,h1,g1⟩
 obtain ⟨k,rfl⟩:=Int.eq_ofNat_of_zero_le v0
 have hk:k<n:=by omega
 obtain ⟨x,hx,hp⟩:=hl.2 k hk
 have hx1:w1.cell? ⟨g,off+k,none⟩=some (.int .i64 x):=by rw[g1.cell_far ⟨g,off+k,none⟩ (World.block_lt_of_cell? _ _ hx) (fun e=>hl.1 (show g=b from (Option.some.inj e)))];exact hx
 go_wp2
 go_ret
 exact ⟨_,rfl,hp,h1,g1⟩
end Go.Proofs.YtobkcnmlmmhpoaaGreat
