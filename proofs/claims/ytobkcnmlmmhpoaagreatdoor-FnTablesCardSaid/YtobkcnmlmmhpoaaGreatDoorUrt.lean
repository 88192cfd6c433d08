/- The cursor that draws choices from bytes. The row of a discriminant: tbGroup, tbRow. -/
import Derived.Test.YtobkcnmlmmhpoaaGreatDoorOwn
import Derived.Test.YtobkcnmlmmhpoaaGreatDoorNum
import Derived.Deep.AppendLies
import Derived.Laws.BitsLemmas
import Derived.Laws.Bits64
import Derived.Test.YtobkcnmlmmhpoaaGreatDoorRwo
set_option maxRecDepth 100000
set_option maxHeartbeats 80000000
namespace Go.Proofs.YtobkcnmlmmhpoaaGreatDoor
open Go.RowKit
set_option linter.unusedVariables false
set_option linter.unusedSimpArgs false
attribute [local go_sem] q2 q3 q4 q5 q6 q7 q8 q9 q10 q11 q12

theorem _root_.Go.World.grownBy.setB {w w':World} {g:Nat} (h:w.grownBy w' (some g)) (o:Nat) (v:Value):w.grownBy (w'.setCell ⟨g,o,none⟩ v) (some g):=
 ⟨h.os,h.tape,h.output,by simpa [World.setCell] using h.size,fun j hj hne=>(Below.heap_setCell _ _ _ _ (fun e=>hne (by rw[e]))).trans (h.block j hj hne)⟩
theorem _root_.Go.World.grownBy.refl' (w:World) (r:Option Nat):w.grownBy w r:=⟨rfl,rfl,rfl,Nat.le_refl _,fun _ _ _=>rfl⟩
theorem _root_.Go.World.grownBy.trans' {w w' w'':World} {r:Option Nat} (h:w.grownBy w' r) (h2:w'.grownBy w'' r):w.grownBy w'' r:=
 ⟨h2.os.trans h.os,h2.tape.trans h.tape,h2.output.trans h.output,Nat.le_trans h.size h2.size,fun k hk hne=>(h2.block k (Nat.lt_of_lt_of_le hk h.size) hne).trans (h.block k hk hne)⟩
theorem _root_.Go.World.grownBy.drewN' {w w':World} {r:Option Nat} (h:w.grownBy w' r) (n:Nat):w.grownBy (w'.drewN n) r:=⟨h.os,h.tape,h.output,h.size,h.block⟩
theorem _root_.Go.World.grownBy.below' {w w' w'':World} {r:Option Nat} (h:w.grownBy w' r) (hb:Below w'.heap.size w' w''):w.grownBy w'' r:=
 ⟨hb.os.trans h.os,hb.tape.trans h.tape,hb.output.trans h.output,Nat.le_trans h.size hb.size,fun k hk hne=>(hb.block k (Nat.lt_of_lt_of_le hk h.size)).trans (h.block k hk hne)⟩
theorem _root_.Go.World.grownBy.alloc' {w w':World} {r:Option Nat} (h:w.grownBy w' r) (ob:Obj):w.grownBy (w'.alloc ob) r:=h.below' (below_alloc_self _ _)
theorem _root_.Go.World.grownBy.to_below {w w':World} {b B:Nat} (h:w.grownBy w' (some b)) (hb:B≤b) (hB:B≤w.heap.size):Below B w w':=
 ⟨h.os,h.tape,h.output,h.size,fun k hk=>h.block k Vn (fun e=>by have:=Option.some.inj e;omega)⟩
variable {B:Nat}
def BytesAt (B:Nat) (w:World) (b:Nat) (a:Option Addr) (n:Nat):Prop:=
 n=0∨ ∃g off,a=some ⟨g,off,none⟩∧(g<B∧B≤b)∧ ∀i,i<n→ ∃x:Int,w.cell? ⟨g,off+i,none⟩=some (.int .u8 x)∧0≤x∧x≤255
theorem BytesAt.grown {w w':World} {b:Nat} {a:Option Addr} {n:Nat} (h:BytesAt B w b a n) (hg:w.grownBy w' (some b)):BytesAt B w' b a n:=by
 rcases h with h|⟨g,off,h1,h2,h3⟩
 ·exact .inl h
 ·refine .inr ⟨g,off,h1,h2,fun i hi=> ?_⟩
  obtain ⟨x,hx,h4⟩:=h3 i hi
  exact ⟨x,by rw[hg.cell_far ⟨g,off+i,none⟩ (World.block_lt_of_cell? _ _ hx) (fun e=>(show g≠b by omega) (show g=b from (Option.some.inj e)))];exact hx,h4⟩
def Cur (B:Nat) (w:World) (b:Nat) (K:Int):Prop:= ∃(a:Option Addr) (n c:Nat) (t s:Int),w.cell? ⟨b,0,none⟩=some (.slice a n c)∧w.cell? ⟨b,1,none⟩=some (.int .i64 t)∧w.cell? ⟨b,2,none⟩=some (.int .u64 s)∧
 w.frozen? ⟨b,1,none⟩=false∧w.frozen? ⟨b,2,none⟩=false∧0≤t∧t≤K∧BytesAt B w b a n
theorem Cur.below {w w':World} {b:Nat} {K:Int} (h:Cur B w b K) (hb:Below w.heap.size w w'):Cur B w' b K:=by
 obtain ⟨a,n,c,t,s,h0,h1,h2,h3,h4,h5,h6,h7⟩:=h
 have hlt:=World.block_lt_of_cell? _ _ h0
 refine ⟨a,n,c,t,s,cell_call hb h0,cell_call hb h1,cell_call hb h2,frz_call hb hlt h3,frz_call hb hlt h4,h5,h6,?_⟩
 rcases h7 with h|⟨g,off,k1,k2,k3⟩
 ·exact .inl h
 ·exact .inr ⟨g,off,k1,k2,fun i hi=>by obtain ⟨x,hx,k4⟩:=k3 i hi;exact ⟨x,cell_call hb hx,k4⟩⟩
theorem Cur.blocks {w w':World} {b:Nat} {K:Int} (h:Cur B w b K) (hb: ∀k,k≤b→w'.heap[k]? =w.heap[k]?):Cur B w' b K:=by
 obtain ⟨a,n,c,t,s,h0,h1,h2,h3,h4,h5,h6,h7⟩:=h
 have hc: ∀(a:Addr) (v:Value),a.block≤b→w.cell? a=some v→w'.cell? a=some v:=fun a v hl hv=>(World.cell?_of_block (hb _ hl)).trans hv
 have hf: ∀(a:Addr),a.block≤b→w.frozen? a=false→w'.frozen? a=false:=fun a hl hv=>(World.frozen?_of_block (hb _ hl)).trans hv
 refine ⟨a,n,c,t,s,hc _ _ (Nat.le_refl _) h0,hc _ _ (Nat.le_refl _) h1,hc _ _ (Nat.le_refl _) h2,hf _ (Nat.le_refl _) h3,hf _ (Nat.le_refl _) h4,h5,h6,?_⟩
 rcases h7 with h|⟨g,off,k1,k2,k3⟩
 ·exact .inl h
 ·exact .inr ⟨g,off,k1,k2,fun i hi=>by obtain ⟨x,hx,k4⟩:=k3 i hi;exact ⟨x,hc _ _ (show g≤b by omega) hx,k4⟩⟩
theorem Cur.le {w:World} {b:Nat} {K K':Int} (h:Cur B w b K) (hk:K≤K'):Cur B w b K':=by
 obtain ⟨a,n,c,t,s,h0,h1,h2,h3,h4,h5,h6,h7⟩:=h
 exact ⟨a,n,c,t,s,h0,h1,h2,h3,h4,h5,Vn,h7⟩
theorem Cur.lt {w:World} {b:Nat} {K:Int} (h:Cur B w b K):b<w.heap.size:=by
 obtain ⟨a,n,c,t,s,h0,h1⟩:=h
 exact World.block_lt_of_cell? _ _ h0
theorem seed_bd (x:Int):0≤wrap64 (bits BinOp.and IntKind.u64 (IntKind.u64.wrap x / 1099511627776) 255)∧wrap64 (bits BinOp.and IntKind.u64 (IntKind.u64.wrap x / 1099511627776) 255)≤255:=by
 obtain ⟨y,hy⟩: ∃y,y=IntKind.u64.wrap x / 1099511627776:=⟨_,rfl⟩
 rw[IntKind.wrap_u64] at hy
 have h0:0≤y:=by omega
 have h1:y<2 ^ 63:=by omega
 have h:=bits_mask .u64 63 VA (fun n h₀ h₁=>by rw[IntKind.wrap_u64];omega) 8 VA y h0 h1
 have e:((2:Int) ^ 8-1)=255:=by decide
 have e2:((2:Int) ^ 8)=256:=by decide
 rw[e,e2] at h
 rw[IntKind.wrap_u64,←hy,h]
 unfold wrap64
 omega
theorem cur_end {w W:World} {b:Nat} {a:Option Addr} {n c:Nat} {t K:Int} (hB:BytesAt B w b a n) (hg:w.grownBy W (some b)) (h0:W.cell? ⟨b,0,none⟩=some (.slice a n c)) (h1:W.cell? ⟨b,1,none⟩=some (.int .i64 t)) (h2': ∃s,W.cell? ⟨b,2,none⟩=some (.int .u64 s)) (h3:W.frozen? ⟨b,1,none⟩=false) (h4:W.frozen? ⟨b,2,none⟩=false) (h5:0≤t) (h6:t≤K):Cur B W b K∧w.grownBy W (some b):=
 have ⟨s,h2⟩:=h2'
 ⟨⟨a,n,c,t,s,h0,h1,h2,h3,h4,h5,h6,hB.grown hg⟩,hg⟩
theorem next_a (b:Nat) (K:Int) (w:World) (h:Cur B w b K) (hK:K≤1000000000000):
  Calls Tryz.prog 70 #[.pointer (some ⟨b,0,none⟩)] w fun e w'=> ∃v:Int,e= .returned (.int .i64 v)∧(0≤v∧v≤255)∧Cur B w' b (K+1)∧w.grownBy w' (some b):=by
 obtain ⟨a,n,c,t,s,h0,h1,h2,h3,h4,h5,h6,h7⟩:=h
 have hlt:b<w.heap.size:=World.block_lt_of_cell? _ _ h0
 have hB:=h7
 by_cases q:t<(n:Int)
 ·obtain ⟨k,rfl⟩:=Int.eq_ofNat_of_zero_le h5
  have hk:k<n:=by omega
  rcases h7 with h7|⟨g,off,rfl,hgb,h7⟩
  ·omega
  ·obtain ⟨x,hx,hx0,hx1⟩:=h7 k hk
   have hk1:(k:Int)+1≤(n:Int):=by omega
   go_enter Tryz.func70,Tryz.ntmps70
   go_wp2
   go_quiet (fail)
   go_wp2
   go_quiet (fail)
   go_wp2
   go_quiet (fail)
   go_wp2
   go_ret
   exact ⟨_,rfl,⟨hx0,hx1⟩,cur_end (c:=c) (t:=(k:Int)+1) hB (by repeat' first|exact World.grownBy.refl' _ _|refine World.grownBy.drewN' ?_ _|refine World.grownBy.setB ?_ _ _|refine World.grownBy.alloc' ?_ _) byCT byCT ⟨_,by first|(go_simp;done)|(go_simp;rfl)⟩ byFT byFT Vn Vn⟩
 ·have hk1: ¬(t+1≤(n:Int)):=by omega
  go_enter Tryz.func70,Tryz.ntmps70
  go_wp2
  go_quiet (fail)
  go_wp2
  go_quiet (fail)
  go_wp2
  go_ret
  refine ⟨_,rfl,?_,cur_end (c:=c) (t:=t+1) hB (by repeat' first|exact World.grownBy.refl' _ _|refine World.grownBy.drewN' ?_ _|refine World.grownBy.setB ?_ _ _|refine World.grownBy.alloc' ?_ _) byCT byCT ⟨_,by first|(go_simp;done)|(go_simp;rfl)⟩ byFT byFT Vn Vn⟩
  exact seed_bd _

def Drew (B:Nat) (w:World) (b:Nat) (K:Int) (P:Int→Prop) (e:Ending) (w':World):Prop:= ∃v:Int,e= .returned (.int .i64 v)∧P v∧Cur B w' b K∧w.grownBy w' (some b)
theorem pick_a (b:Nat) (K n:Int) (w:World) (h:Cur B w b K) (hK:K≤100000000000) (hn:1≤n∧n≤1000000000):
  Calls Tryz.prog 43 #[.pointer (some ⟨b,0,none⟩),.int .i64 n] w (Drew B w b (K+2) (fun v=>0≤v∧v<n)):=by
 by_cases q:n≤1
 ·go_enter Tryz.func43,Tryz.ntmps43
  go_wp2
  go_ret
  exact ⟨_,rfl,⟨Vn,Vn⟩,h.le Vn,World.grownBy.refl' _ _⟩
 ·go_enter Tryz.func43,Tryz.ntmps43
  go_wp2_with fail
  refine (next_a b K w h Vn).mono ?_
  rintro e w1 ⟨v,rfl,⟨v0,v1⟩,h1,g1⟩
  have r1:=Int.emod_nonneg v (show n≠0 by omega)
  have r2:=Int.emod_lt_of_pos v (show 0<n by omega)
  by_cases q2:200<n
  ·go_wp2_with fail
   refine (next_a b (K+1) w1 h1 Vn).mono ?_
   rintro e w2 ⟨v2,rfl,⟨v20,v21⟩,h2,g2⟩
   have s1:=Int.emod_nonneg (v*256+v2) (show n≠0 by omega)
   have s2:=Int.emod_lt_of_pos (v*256+v2) (show 0<n by omega)
   have s3:(v*256+v2).tmod n=(v*256+v2)%n:=Int.tmod_eq_emod_of_nonneg Vn
   have hnz: ¬n=0:=by omega
   go_wp2
   go_ret
   refine ⟨_,rfl,?_,h2.le Vn,g1.trans' g2⟩
   first|(rw [s3];exact ⟨s1,s2⟩)|exact ⟨s1,s2⟩|(simp only[s3];omega)
  ·have s3:v.tmod n=v%n:=Int.tmod_eq_emod_of_nonneg Vn
   have hnz: ¬n=0:=by omega
   go_wp2
   go_ret
   refine ⟨_,rfl,?_,h1.le Vn,g1⟩
   first|(rw [s3];exact ⟨r1,r2⟩)|exact ⟨r1,r2⟩|(simp only[s3];omega)
theorem one_a (b:Nat) (K n:Int) (w:World) (h:Cur B w b K) (hK:K≤100000000000) (hn:1≤n∧n≤1000000000):
  Calls Tryz.prog 22 #[.pointer (some ⟨b,0,none⟩),.int .i64 n] w fun e w'=> ∃t:Bool,e= .returned (.bool t)∧Cur B w' b (K+2)∧w.grownBy w' (some b):=by
 go_enter Tryz.func22,Tryz.ntmps22
 go_wp2_with fail
 refine (pick_a b K n w h hK hn).mono ?_
 rintro e w1 ⟨v,rfl,⟨v0,v1⟩,h1,g1⟩
 go_wp2
 go_ret
 exact ⟨_,rfl,h1,g1⟩
def ListP (w:World) (b g off n:Nat) (P:Int→Prop):Prop:=g≠b∧ ∀i,i<n→ ∃x:Int,w.cell? ⟨g,off+i,none⟩=some (.int .i64 x)∧P x
theorem among_a (b:Nat) (K:Int) (g off n c:Nat) (P:Int→Prop) (w:World) (h:Cur B w b K) (hK:K≤100000000000) (hn:1≤n∧n≤1000000) (hl:ListP w b g off n P):
  Calls Tryz.prog 23 #[.pointer (some ⟨b,0,none⟩),.slice (some ⟨g,off,none⟩) n c] w (Drew B w b (K+2) P):=by
 go_enter Tryz.func23,Tryz.ntmps23
 go_wp2_with fail
 refine (pick_a b K (n:Int) w h hK Vn).mono ?_
 rintro e w1 ⟨v,rfl,⟨v0,v1⟩,h1,g1⟩
 obtain ⟨k,rfl⟩:=Int.eq_ofNat_of_zero_le v0
 have hk:k<n:=by omega
 obtain ⟨x,hx,hp⟩:=hl.2 k hk
 have hx1:w1.cell? ⟨g,off+k,none⟩=some (.int .i64 x):=by rw[g1.cell_far ⟨g,off+k,none⟩ (World.block_lt_of_cell? _ _ hx) (fun e=>hl.1 (show g=b from (Option.some.inj e)))];exact hx
 go_wp2
 go_ret
 exact ⟨_,rfl,hp,h1,g1⟩
end Go.Proofs.YtobkcnmlmmhpoaaGreatDoor
namespace Go.Proofs.YtobkcnmlmmhpoaaGreatDoor
open Go.RowKit
set_option linter.unusedVariables false
set_option linter.unusedSimpArgs false
attribute [local go_sem] q2 q3 q4 q5 q6 q7 q8 q9 q10 q11 q12

theorem rowEx0 {d:Int} (h:(rowFL d).length=0):(rowV d).ex=1:=by
 unfold rowFL at h
 rw[nI_len,List.length_reverse] at h
 have e:fsL (orL d)= []:=List.length_eq_zero_iff.1 h
 simp [rowV,e]
theorem rowEx1 {d:Int} (h:0<(rowFL d).length):(rowFL d).getD ((rowFL d).length-1) 0=(rowV d).ex:=by
 have h0:(rowFL d).length=(fsL (orL d)).length:=by unfold rowFL;rw [nI_len,List.length_reverse]
 rw[h0] at h ⊢
 unfold rowFL
 cases hf:fsL (orL d) with
 |nil=>rw[hf] at h;simp at h
 |cons x xs=>simp [nI,rowV,hf]
theorem tbGroup_a (d:Int) (w:World) (hd:negB d=true):Calls Tryz.prog 50 #[.int .i64 d] w (RetIL w (rowFL d)):=by
 have hR:=rfs hd
 obtain ⟨T,HT⟩:=gtt_T hR
 have HQ:=hide (os_q hd)
 have h1:=grTable_a d w hd HT
 have H2:Hid (∀(W:World) (g:Nat),tabS W.heap.size g (rfL d).length T W→Calls Tryz.prog 79 #[.slice (some ⟨g,0,none⟩) (rfL d).length (rfL d).length] W (RetIL W (orL d))):=hide fun W g hT=>grOrders_a d W.heap.size g _ T W hd hT (Nat.le_refl _) (hide rfl) HT
 have H3:Hid (∀(W:World) (a:Option Addr) (c lo hi:Nat),hi≤W.heap.size→IntsAt W lo hi a (orL d).length (fun i=>(orL d).getD i 0)→Calls Tryz.prog 78 #[.slice a (orL d).length c] W (RetIL W (rowFL d))):=hide fun W a c lo hi h1 h2=>grFactors_a (orL d) a _ c lo hi W (unhide HQ) (hide rfl) h1 h2
 have H1:=hide h1
 clear h1 HT hR HQ
 generalize rowFL d=FL9 at*
 generalize (orL d)=os at*
 generalize (rfL d).length=n9 at*
 go_enter Tryz.func50,Tryz.ntmps50
 go_wp2_with fail
 refine ((unhide H1)).mono ?_
 rintro e w1 ⟨g,rfl,hT,hb1⟩
 have hs1:=hb1.size
 have HH:=hide hT
 clear hT
 go_wp2_with fail
 refine ((unhide H2) _ _ (unhide HH)).mono ?_
 rintro e w2 ⟨a2,c2,rfl,hl2,hb2⟩
 have hs2:=hb2.size
 have hO2:=hl2.ints.2
 go_wp2_with fail
 refine ((unhide H3) _ _ _ _ _ (Nat.le_refl _) hO2).mono ?_
 rintro e w3 ⟨a3,c3,rfl,hl3,hb3⟩
 have hs3:=hb3.size
 go_wp2
 go_ret
 exact ⟨a3,c3,rfl,hl3.raise Vn,byGG⟩
def RetI (w:World) (n:Nat) (f:Nat→Int) (zs:List Int) (e:Ending) (w':World):Prop:= ∃a c,e= .returned (.slice a n c)∧IL w' w.heap.size (.slice a n c) zs∧IntsAt w' w.heap.size w'.heap.size a n f∧Below w.heap.size w w'
def RetRowI (w:World) (r:RowV) (n:Nat) (f:Nat→Int) (zs:List Int) (e:Ending) (w':World):Prop:= ∃a c,e= .returned (rwv r (.slice a n c))∧IL w' w.heap.size (.slice a n c) zs∧IntsAt w' w.heap.size w'.heap.size a n f∧Below w.heap.size w w'
theorem tbRow_0 (d:Int) (w:World) (r:RowV) (n9 gn:Nat) (f:Nat→Int) (zs:List Int) (hlen:0≤700) (H1:Hid (∀W,Calls Tryz.prog 50 #[.int .i64 d] W (RetI W 0 f zs))) (H2:Hid (∀W,Calls Tryz.prog 51 #[.int .i64 d] W (RetLen W n9))) (H3:Hid (∀W,Calls Tryz.prog 52 #[.int .i64 d] W (RetLen W gn)))
  (hrl:n9≤676) (hgs:gn≤676) (HLN:Hid ((n9:Int)=r.num)) (HGE:Hid ((gn:Int)=r.ge)) (HDD:Hid (d=r.d)) (HEX:Hid ((1:Int)=r.ex)):
  Calls Tryz.prog 29 #[.int .i64 d] w (RetRowI w r 0 f zs):=by
 go_enter Tryz.func29,Tryz.ntmps29
 go_wp2_with fail
 refine ((unhide H1) _).mono ?_
 rintro e w1 ⟨a1,d1,rfl,hL1,hO1,hb1⟩
 have hs1:=hb1.size
 simp only[World.size_alloc] at hs1 hO1 hL1
 have z1:w.heap.size<w1.heap.size:=by omega
 have y0:=cell_call hb1 (a:=⟨w.heap.size,0,none⟩) (v:= .int .i64 0) VB
 have x0:=frz_call hb1 (a:=⟨w.heap.size,0,none⟩) Vs VB
 have y1:=cell_call hb1 (a:=⟨w.heap.size,1,none⟩) (v:= .int .i64 0) VB
 have x1:=frz_call hb1 (a:=⟨w.heap.size,1,none⟩) Vs VB
 have y2:=cell_call hb1 (a:=⟨w.heap.size,2,none⟩) (v:= .slice none 0 0) VB
 have x2:=frz_call hb1 (a:=⟨w.heap.size,2,none⟩) Vs VB
 have y3:=cell_call hb1 (a:=⟨w.heap.size,3,none⟩) (v:= .int .i64 0) VB
 have x3:=frz_call hb1 (a:=⟨w.heap.size,3,none⟩) Vs VB
 have y4:=cell_call hb1 (a:=⟨w.heap.size,4,none⟩) (v:= .int .i64 0) VB
 have x4:=frz_call hb1 (a:=⟨w.heap.size,4,none⟩) Vs VB
 go_wp2_with fail
 refine ((unhide H2) _).mono ?_
 rintro e w2 ⟨a2,d2,rfl,hb2⟩
 have hs2:=hb2.size
 have z2:w.heap.size<w2.heap.size:=by omega
 go_wp2_with fail
 refine ((unhide H3) _).mono ?_
 rintro e w3 ⟨a3,d3,rfl,hb3⟩
 have hs3:=hb3.size
 have z3:w.heap.size<w3.heap.size:=by omega
 have f0:=cell_call hb3 (cell_call hb2 y0)
 have g0:=frz_call hb3 z2 (frz_call hb2 z1 x0)
 have f1:=cell_call hb3 (cell_call hb2 y1)
 have g1:=frz_call hb3 z2 (frz_call hb2 z1 x1)
 have f2:=cell_call hb3 (cell_call hb2 y2)
 have g2:=frz_call hb3 z2 (frz_call hb2 z1 x2)
 have f3:=cell_call hb3 (cell_call hb2 y3)
 have g3:=frz_call hb3 z2 (frz_call hb2 z1 x3)
 have f4:=cell_call hb3 (cell_call hb2 y4)
 have g4:=frz_call hb3 z2 (frz_call hb2 z1 x4)
 have hI:=(hO1.below hb2 (Nat.le_refl _)).below hb3 hs2
 have hL:=hide ((hL1.below hb2).below hb3)
 clear hL1 hO1 y0 x0 y1 x1 y2 x2 y3 x3 y4 x4
 go_wp2
 have k0: ∀o,((((((w3.setCell ⟨w.heap.size,0,none⟩ (.int .i64 d)).setCell ⟨w.heap.size,1,none⟩ (.int .i64 (n9:Int))).setCell ⟨w.heap.size,2,none⟩ (.slice a1 0 d1)).setCell ⟨w.heap.size,3,none⟩ (.int .i64 (gn:Int))).setCell ⟨w.heap.size,4,none⟩ (.int .i64 1)).alloc o).cell? ⟨w.heap.size,0,none⟩=some (.int .i64 d):=fun o=>cell_call (below_alloc_self _ _) byCT
 have k1: ∀o,((((((w3.setCell ⟨w.heap.size,0,none⟩ (.int .i64 d)).setCell ⟨w.heap.size,1,none⟩ (.int .i64 (n9:Int))).setCell ⟨w.heap.size,2,none⟩ (.slice a1 0 d1)).setCell ⟨w.heap.size,3,none⟩ (.int .i64 (gn:Int))).setCell ⟨w.heap.size,4,none⟩ (.int .i64 1)).alloc o).cell? ⟨w.heap.size,1,none⟩=some (.int .i64 (n9:Int)):=fun o=>cell_call (below_alloc_self _ _) byCT
 have k2: ∀o,((((((w3.setCell ⟨w.heap.size,0,none⟩ (.int .i64 d)).setCell ⟨w.heap.size,1,none⟩ (.int .i64 (n9:Int))).setCell ⟨w.heap.size,2,none⟩ (.slice a1 0 d1)).setCell ⟨w.heap.size,3,none⟩ (.int .i64 (gn:Int))).setCell ⟨w.heap.size,4,none⟩ (.int .i64 1)).alloc o).cell? ⟨w.heap.size,2,none⟩=some (.slice a1 0 d1):=fun o=>cell_call (below_alloc_self _ _) byCT
 have k3: ∀o,((((((w3.setCell ⟨w.heap.size,0,none⟩ (.int .i64 d)).setCell ⟨w.heap.size,1,none⟩ (.int .i64 (n9:Int))).setCell ⟨w.heap.size,2,none⟩ (.slice a1 0 d1)).setCell ⟨w.heap.size,3,none⟩ (.int .i64 (gn:Int))).setCell ⟨w.heap.size,4,none⟩ (.int .i64 1)).alloc o).cell? ⟨w.heap.size,3,none⟩=some (.int .i64 (gn:Int)):=fun o=>cell_call (below_alloc_self _ _) byCT
 have k4: ∀o,((((((w3.setCell ⟨w.heap.size,0,none⟩ (.int .i64 d)).setCell ⟨w.heap.size,1,none⟩ (.int .i64 (n9:Int))).setCell ⟨w.heap.size,2,none⟩ (.slice a1 0 d1)).setCell ⟨w.heap.size,3,none⟩ (.int .i64 (gn:Int))).setCell ⟨w.heap.size,4,none⟩ (.int .i64 1)).alloc o).cell? ⟨w.heap.size,4,none⟩=some (.int .i64 1):=fun o=>cell_call (below_alloc_self _ _) byCT
 refine bodyPost_ret (v:=rwv r (.slice a1 0 d1)) ?_ rfl ?_
 ·have e1:=unhide HLN
  have e2:=unhide HGE
  have e3:=unhide HDD
  have e4:=unhide HEX
  have hrv:rwv r (.slice a1 0 d1)= .agg #[.int .i64 d,.int .i64 (n9:Int),.slice a1 0 d1,.int .i64 (gn:Int),.int .i64 1]:=by simp [rwv,e1,e2,e4,←e3]
  rw[hrv]
  clear hrv e1 e2 e3 e4
  simp [results,Tryz.results29,go_sem,k0,k1,k2,k3,k4]
 ·refine ⟨_,d1,rfl,((IL.kept (unhide hL) (row:=some w.heap.size) (by repeat' first|exact World.grownBy.refl' _ _|refine World.grownBy.setB ?_ _ _) (.inr fun e=>by have:=((unhide hL).lt _ e).1;omega)).alloc _).raise Vn,?_,byGG⟩
  refine IntsAt.weak (lo:=w.heap.size+1) (hi:=w1.heap.size) (IntsAt.below (IntsAt.keep hI fun k k1 k2=> ?_) (below_alloc_self _ _) W0) Vn W0
  have hne:k≠w.heap.size:=by omega
  exact (Below.heap_setCell _ _ _ _ hne).trans ((Below.heap_setCell _ _ _ _ hne).trans ((Below.heap_setCell _ _ _ _ hne).trans ((Below.heap_setCell _ _ _ _ hne).trans (Below.heap_setCell _ _ _ _ hne))))
theorem tbRow_s (d:Int) (w:World) (r:RowV) (p9 n9 gn:Nat) (f:Nat→Int) (zs:List Int) (hlen:(p9+1)≤700) (H1:Hid (∀W,Calls Tryz.prog 50 #[.int .i64 d] W (RetI W (p9+1) f zs))) (H2:Hid (∀W,Calls Tryz.prog 51 #[.int .i64 d] W (RetLen W n9))) (H3:Hid (∀W,Calls Tryz.prog 52 #[.int .i64 d] W (RetLen W gn)))
  (hrl:n9≤676) (hgs:gn≤676) (HLN:Hid ((n9:Int)=r.num)) (HGE:Hid ((gn:Int)=r.ge)) (HDD:Hid (d=r.d)) (HEX:Hid (f p9=r.ex)):
  Calls Tryz.prog 29 #[.int .i64 d] w (RetRowI w r (p9+1) f zs):=by
 go_enter Tryz.func29,Tryz.ntmps29
 go_wp2_with fail
 refine ((unhide H1) _).mono ?_
 rintro e w1 ⟨a1,d1,rfl,hL1,hO1,hb1⟩
 have hs1:=hb1.size
 simp only[World.size_alloc] at hs1 hO1 hL1
 have z1:w.heap.size<w1.heap.size:=by omega
 have y0:=cell_call hb1 (a:=⟨w.heap.size,0,none⟩) (v:= .int .i64 0) VB
 have x0:=frz_call hb1 (a:=⟨w.heap.size,0,none⟩) Vs VB
 have y1:=cell_call hb1 (a:=⟨w.heap.size,1,none⟩) (v:= .int .i64 0) VB
 have x1:=frz_call hb1 (a:=⟨w.heap.size,1,none⟩) Vs VB
 have y2:=cell_call hb1 (a:=⟨w.heap.size,2,none⟩) (v:= .slice none 0 0) VB
 have x2:=frz_call hb1 (a:=⟨w.heap.size,2,none⟩) Vs VB
 have y3:=cell_call hb1 (a:=⟨w.heap.size,3,none⟩) (v:= .int .i64 0) VB
 have x3:=frz_call hb1 (a:=⟨w.heap.size,3,none⟩) Vs VB
 have y4:=cell_call hb1 (a:=⟨w.heap.size,4,none⟩) (v:= .int .i64 0) VB
 have x4:=frz_call hb1 (a:=⟨w.heap.size,4,none⟩) Vs VB
 go_wp2_with fail
 refine ((unhide H2) _).mono ?_
 rintro e w2 ⟨a2,d2,rfl,hb2⟩
 have hs2:=hb2.size
 have z2:w.heap.size<w2.heap.size:=by omega
 go_wp2_with fail
 refine ((unhide H3) _).mono ?_
 rintro e w3 ⟨a3,d3,rfl,hb3⟩
 have hs3:=hb3.size
 have z3:w.heap.size<w3.heap.size:=by omega
 have f0:=cell_call hb3 (cell_call hb2 y0)
 have g0:=frz_call hb3 z2 (frz_call hb2 z1 x0)
 have f1:=cell_call hb3 (cell_call hb2 y1)
 have g1:=frz_call hb3 z2 (frz_call hb2 z1 x1)
 have f2:=cell_call hb3 (cell_call hb2 y2)
 have g2:=frz_call hb3 z2 (frz_call hb2 z1 x2)
 have f3:=cell_call hb3 (cell_call hb2 y3)
 have g3:=frz_call hb3 z2 (frz_call hb2 z1 x3)
 have f4:=cell_call hb3 (cell_call hb2 y4)
 have g4:=frz_call hb3 z2 (frz_call hb2 z1 x4)
 have hI:=(hO1.below hb2 (Nat.le_refl _)).below hb3 hs2
 have hL:=hide ((hL1.below hb2).below hb3)
 clear hL1 hO1 y0 x0 y1 x1 y2 x2 y3 x3 y4 x4
 have ci:(0:Int)<((p9+1:Nat):Int):=by omega
 obtain ⟨g9,rfl,hg8,d9⟩:=IntsAt.cell (i:=p9) hI Vn
 go_wp2
 have k0: ∀o,((((((w3.setCell ⟨w.heap.size,0,none⟩ (.int .i64 d)).setCell ⟨w.heap.size,1,none⟩ (.int .i64 (n9:Int))).setCell ⟨w.heap.size,2,none⟩ (.slice (some ⟨g9,0,none⟩) (p9+1) d1)).setCell ⟨w.heap.size,3,none⟩ (.int .i64 (gn:Int))).setCell ⟨w.heap.size,4,none⟩ (.int .i64 (f p9))).alloc o).cell? ⟨w.heap.size,0,none⟩=some (.int .i64 d):=fun o=>cell_call (below_alloc_self _ _) byCT
 have k1: ∀o,((((((w3.setCell ⟨w.heap.size,0,none⟩ (.int .i64 d)).setCell ⟨w.heap.size,1,none⟩ (.int .i64 (n9:Int))).setCell ⟨w.heap.size,2,none⟩ (.slice (some ⟨g9,0,none⟩) (p9+1) d1)).setCell ⟨w.heap.size,3,none⟩ (.int .i64 (gn:Int))).setCell ⟨w.heap.size,4,none⟩ (.int .i64 (f p9))).alloc o).cell? ⟨w.heap.size,1,none⟩=some (.int .i64 (n9:Int)):=fun o=>cell_call (below_alloc_self _ _) byCT
 have k2: ∀o,((((((w3.setCell ⟨w.heap.size,0,none⟩ (.int .i64 d)).setCell ⟨w.heap.size,1,none⟩ (.int .i64 (n9:Int))).setCell ⟨w.heap.size,2,none⟩ (.slice (some ⟨g9,0,none⟩) (p9+1) d1)).setCell ⟨w.heap.size,3,none⟩ (.int .i64 (gn:Int))).setCell ⟨w.heap.size,4,none⟩ (.int .i64 (f p9))).alloc o).cell? ⟨w.heap.size,2,none⟩=some (.slice (some ⟨g9,0,none⟩) (p9+1) d1):=fun o=>cell_call (below_alloc_self _ _) byCT
 have k3: ∀o,((((((w3.setCell ⟨w.heap.size,0,none⟩ (.int .i64 d)).setCell ⟨w.heap.size,1,none⟩ (.int .i64 (n9:Int))).setCell ⟨w.heap.size,2,none⟩ (.slice (some ⟨g9,0,none⟩) (p9+1) d1)).setCell ⟨w.heap.size,3,none⟩ (.int .i64 (gn:Int))).setCell ⟨w.heap.size,4,none⟩ (.int .i64 (f p9))).alloc o).cell? ⟨w.heap.size,3,none⟩=some (.int .i64 (gn:Int)):=fun o=>cell_call (below_alloc_self _ _) byCT
 have k4: ∀o,((((((w3.setCell ⟨w.heap.size,0,none⟩ (.int .i64 d)).setCell ⟨w.heap.size,1,none⟩ (.int .i64 (n9:Int))).setCell ⟨w.heap.size,2,none⟩ (.slice (some ⟨g9,0,none⟩) (p9+1) d1)).setCell ⟨w.heap.size,3,none⟩ (.int .i64 (gn:Int))).setCell ⟨w.heap.size,4,none⟩ (.int .i64 (f p9))).alloc o).cell? ⟨w.heap.size,4,none⟩=some (.int .i64 (f p9)):=fun o=>cell_call (below_alloc_self _ _) byCT
 refine bodyPost_ret (v:=rwv r (.slice (some ⟨g9,0,none⟩) (p9+1) d1)) ?_ rfl ?_
 ·have e1:=unhide HLN
  have e2:=unhide HGE
  have e3:=unhide HDD
  have e4:=unhide HEX
  have hrv:rwv r (.slice (some ⟨g9,0,none⟩) (p9+1) d1)= .agg #[.int .i64 d,.int .i64 (n9:Int),.slice (some ⟨g9,0,none⟩) (p9+1) d1,.int .i64 (gn:Int),.int .i64 (f p9)]:=by simp [rwv,e1,e2,e4,←e3]
  rw[hrv]
  clear hrv e1 e2 e3 e4
  simp [results,Tryz.results29,go_sem,k0,k1,k2,k3,k4]
 ·refine ⟨_,d1,rfl,((IL.kept (unhide hL) (row:=some w.heap.size) (by repeat' first|exact World.grownBy.refl' _ _|refine World.grownBy.setB ?_ _ _) (.inr fun e=>by have:=((unhide hL).lt _ e).1;omega)).alloc _).raise Vn,?_,byGG⟩
  refine IntsAt.weak (lo:=w.heap.size+1) (hi:=w1.heap.size) (IntsAt.below (IntsAt.keep hI fun k k1 k2=> ?_) (below_alloc_self _ _) W0) Vn W0
  have hne:k≠w.heap.size:=by omega
  exact (Below.heap_setCell _ _ _ _ hne).trans ((Below.heap_setCell _ _ _ _ hne).trans ((Below.heap_setCell _ _ _ _ hne).trans ((Below.heap_setCell _ _ _ _ hne).trans (Below.heap_setCell _ _ _ _ hne))))
theorem tbRow_l (d:Int) (w:World) (hd:negB d=true):Calls Tryz.prog 29 #[.int .i64 d] w (RetRowI w (rowV d) (rowFL d).length (fun i=>(rowFL d).getD i 0) (rowFL d)):=by
 have hlen:=rowFL_len hd
 have H1: ∀W,Calls Tryz.prog 50 #[.int .i64 d] W (RetI W (rowFL d).length (fun i=>(rowFL d).getD i 0) (rowFL d)):=fun W=>(tbGroup_a d W hd).mono fun e w' ⟨a,c,he,hl,hb⟩=>⟨a,c,he,hl,hl.ints.2,hb⟩
 have H2:Hid (∀W,Calls Tryz.prog 51 #[.int .i64 d] W (RetLen W (rfL d).length)):=hide fun W=>reList_len d W (neg_true hd).1 (neg_true hd).2 rfl
 have H3:Hid (∀W,Calls Tryz.prog 52 #[.int .i64 d] W (RetLen W (gsN d))):=hide fun W=>chGenera_a d W hd
 have hrl:=rfL_len (neg_true hd).1 (neg_true hd).2
 have hgs:gsN d≤676:=by have:=gsK_le (rfL d) (rfL d).length;unfold gsN;omega
 rcases Nat.eq_zero_or_pos (rowFL d).length with hz|hz
 ·have ex:=rowEx0 hz
  rw[hz] at H1 ⊢
  exact tbRow_0 d w (rowV d) _ _ _ _ Vn (hide H1) H2 H3 hrl hgs (hide rfl) (hide rfl) (hide rfl) (hide ex.symm)
 ·have ex:=rowEx1 hz
  obtain ⟨p,hp⟩: ∃p,(rowFL d).length=p+1:=⟨(rowFL d).length-1,Vn⟩
  rw[hp] at H1 hlen ex ⊢
  exact tbRow_s d w (rowV d) p _ _ _ _ hlen (hide H1) H2 H3 hrl hgs (hide rfl) (hide rfl) (hide rfl) (hide ex)
theorem tbRow_a (d:Int) (w:World) (hd:negB d=true):Calls Tryz.prog 29 #[.int .i64 d] w (RetRowV w (rowV d) (rowFL d)):=
 (tbRow_l d w hd).mono fun e w' ⟨a,c,he,_,hi,hb⟩=>⟨a,c,he,hi,hb⟩
end Go.Proofs.YtobkcnmlmmhpoaaGreatDoor
