/- Ranges and lists of rows drawn. Plain: texts taken apart: split at a byte, fields of digits, numbers read. -/
import Derived.Test.YtobkcnmlmmhpoaaGreatDoorFtd
import Derived.Test.YtobkcnmlmmhpoaaGreatDoorStrL
import Derived.Lib.Split
import Derived.Lib.Join
import Derived.Lib.FieldsP
import Derived.Lib.AtoiAll
import Derived.Laws.RangeString
set_option maxRecDepth 100000
set_option maxHeartbeats 80000000
namespace Go.Proofs.YtobkcnmlmmhpoaaGreatDoor
open Go.RowKit
set_option linter.unusedVariables false
set_option linter.unusedSimpArgs false
attribute [local go_sem] q2 q3 q4 q5 q6 q7 q8 q9 q10 q11 q12

variable {B:Nat}
structure GW (w:World) (b:Nat) (K:Int) (wr:World) (a:Option Addr) (n c:Nat) (ts:List TR):Prop where
 len:Hid (n=ts.length)
 own:wr.ownsRow (b+1) 31 5 (.slice a n c) n (cellsR ts)
 ok: ∀j,j<ts.length→RowOk (ts.getD j tr0).r∧(ts.getD j tr0).zs.length≤2000000
 inn: ∀j,j<ts.length→(ts.getD j tr0).ints wr
 low: ∀j,j<ts.length→b<(ts.getD j tr0).lo
 top: ∀j,j<ts.length→(ts.getD j tr0).hi≤wr.heap.size
 out: ∀g,(Value.slice a n c).ownBlock=some g→ ∀j,j<ts.length→g<(ts.getD j tr0).lo∨(ts.getD j tr0).hi≤g
 cur:Cur w.heap.size wr b K
 bel:Below w.heap.size w wr
theorem GW.start {w wr:World} {b:Nat} {K:Int} (hc:Cur w.heap.size wr b K) (hb:Below w.heap.size w wr):GW w b K wr none 0 0 []:=
 ⟨hide rfl,World.ownsRow_nil _ _ _ _,fun j hj=>absurd hj Vs,fun j hj=>absurd hj Vs,fun j hj=>absurd hj Vs,fun j hj=>absurd hj Vs,fun g h=>by simp [Value.ownBlock] at h,hc,hb⟩
theorem GW.draw {w wr w2:World} {b n c:Nat} {K K':Int} {a:Option Addr} {ts:List TR} (h:GW w b K wr a n c ts) (hwb:w.heap.size≤b) (hg:wr.grownBy w2 (some b)) (hc:Cur w.heap.size w2 b K'):GW w b K' w2 a n c ts:=
 ⟨h.len,World.ownsRow.kept h.own hg (.inr fun e=>by have:=(World.ownsRow.lt h.own _ e).1;omega),h.ok,
  fun j hj=>IntsAt.keep (h.inn j hj) (fun k k1 k2=>hg.block k (Nat.lt_of_lt_of_le k2 (h.top j hj)) (fun e=>by have:=Option.some.inj e;have:=h.low j hj;omega)),h.low,fun j hj=>Nat.le_trans (h.top j hj) hg.size,h.out,hc,
  h.bel.grown hg h.bel.size (fun k e=>by have:=Option.some.inj e;omega)⟩
theorem GW.alloc {w wr:World} {b n c:Nat} {K:Int} {a:Option Addr} {ts:List TR} (h:GW w b K wr a n c ts) (hwb:w.heap.size≤b) (o:Obj):GW w b K (wr.alloc o) a n c ts:=
 h.draw hwb ((World.grownBy.refl' wr (some b)).alloc' o) (h.cur.alc o)
theorem GW.new {w wr w2:World} {b n c g cap:Nat} {K:Int} {a:Option Addr} {ts:List TR} {t:TR} (h:GW w b K wr a n c ts) (hwb:w.heap.size≤b) (hok:RowOk t.r) (hl:t.zs.length≤2000000)
  (hi:t.ints wr) (hlo:b<t.lo) (hhi:t.hi≤wr.heap.size) (hno: ∀g',(Value.slice a n c).ownBlock=some g'→g'<t.lo∨t.hi≤g')
  (hown:w2.ownsRow (b+1) 31 5 (.slice (some ⟨g,0,none⟩) (n+1) cap) (n+1) (cellsR ts++t.cells)) (hgrow:wr.grownBy w2 (Value.slice a n c).ownBlock) (hat:(Value.slice a n c).ownBlock=some g∨g=wr.heap.size):
  GW w b K w2 (some ⟨g,0,none⟩) (n+1) cap (ts++ [t]):=by
 have hln:=unhide h.len
 have hlt: ∀k,(Value.slice a n c).ownBlock=some k→b+1≤k:=fun k e=>(World.ownsRow.lt h.own k e).1
 have hblt:=h.cur.lt
 have key: ∀s:TR,s.ints wr→s.hi≤wr.heap.size→(∀g',(Value.slice a n c).ownBlock=some g'→g'<s.lo∨s.hi≤g')→s.ints w2:=fun s h1 h2 h3=>IntsAt.grown h1 hgrow h3 h2
 have all: ∀{P:TR→Prop},(∀j,j<ts.length→P (ts.getD j tr0))→P t→ ∀j,j<(ts++ [t]).length→P ((ts++ [t]).getD j tr0):=fun {P} h1 h2 j hj=>by
  simp only[List.length_append,List.length_singleton] at hj
  rw[gdR]
  split
  ·exact h2
  ·rw [if_pos Vn];exact h1 j Vn
 refine ⟨hide (by simp [hln]),by rw[cellsR_app];exact hown,all (P:=fun s=>RowOk s.r∧s.zs.length≤2000000) h.ok ⟨hok,hl⟩,
  all (P:=fun s=>s.ints w2) (fun j hj=>key _ (h.inn j hj) (h.top j hj) (fun g' e=>h.out g' e j hj)) (key t hi hhi hno),all (P:=fun s=>b<s.lo) h.low hlo,
  all (P:=fun s=>s.hi≤w2.heap.size) (fun j hj=>Nat.le_trans (h.top j hj) hgrow.size) (Nat.le_trans hhi hgrow.size),fun g' e=> ?_,
  h.cur.blocks (fun k hk=>hgrow.block k Vn (fun e=>by have:=hlt k e.symm;omega)),h.bel.grown hgrow h.bel.size (fun k e=>by have:=hlt k e;omega)⟩
 have e9:g=g':=by simpa [Value.ownBlock] using e
 subst e9
 rcases hat with q|q
 ·exact all (P:=fun s=>g<s.lo∨s.hi≤g) (fun j hj=>h.out g q j hj) (hno g q)
 ·exact all (P:=fun s=>g<s.lo∨s.hi≤g) (fun j hj=> .inr (by have:=h.top j hj;omega)) (.inr Vn)
def DrewW (w:World) (e:Ending) (w':World):Prop:= ∃a n c t,e= .returned (.slice a n c)∧n≤41∧RowsAt w' 0 w'.heap.size a n t∧(∀i,i<n→RowOk (t i).r∧(t i).zs.length≤2000000)∧Below w.heap.size w w'
theorem GW.ret {w wr:World} {b n c:Nat} {K:Int} {a:Option Addr} {ts:List TR} (h:GW w b K wr a n c ts) (hn:n≤41) {e:Ending} (he:e= .returned (.slice a n c)):DrewW w e wr:=by
 have hl:=unhide h.len
 refine ⟨a,n,c,fun i=>ts.getD i tr0,he,hn,⟨?_,fun j hj=>h.inn j Vn,fun j hj=>h.top j Vn⟩,fun i hi=>h.ok i Vn,h.bel⟩
 by_cases z:n=0
 ·exact .inl z
 ·right
  obtain ⟨g,cap,e⟩: ∃g cap,Value.slice a n c= .slice (some ⟨g,0,none⟩) n cap:=by
   rcases h.own.2 with ⟨q1,q2⟩|⟨g,cap,cur,q1,_⟩
   ·omega
   ·exact ⟨g,cap,q1⟩
  simp only[Value.slice.injEq] at e
  obtain ⟨rfl,-,rfl⟩:=e
  have q:=World.ownsRow.lt h.own g rfl
  refine ⟨g,rfl,q.2,q.2,fun i j hi hj=> ?_⟩
  rw[World.ownsRow.cellAt h.own (i*5+j) Vn,cellsR_at ts i j Vn hj]
theorem GW.head {w wr:World} {b n c:Nat} {K:Int} {a:Option Addr} {ts:List TR} (h:GW w b K wr a n c ts) (hn:0<n): ∃g,a=some ⟨g,0,none⟩∧g<wr.heap.size∧b<g∧
  (wr.cell? ⟨g,0,none⟩=some (.int .i64 (ts.getD 0 tr0).r.d)∧wr.cell? ⟨g,1,none⟩=some (.int .i64 (ts.getD 0 tr0).r.num)∧wr.cell? ⟨g,2,none⟩=some (.slice (ts.getD 0 tr0).a (ts.getD 0 tr0).zs.length (ts.getD 0 tr0).c)∧wr.cell? ⟨g,3,none⟩=some (.int .i64 (ts.getD 0 tr0).r.ge)∧wr.cell? ⟨g,4,none⟩=some (.int .i64 (ts.getD 0 tr0).r.ex)):=by
 have hl:=unhide h.len
 obtain ⟨g,cap,e⟩: ∃g cap,Value.slice a n c= .slice (some ⟨g,0,none⟩) n cap:=by
  rcases h.own.2 with ⟨q1,q2⟩|⟨g,cap,cur,q1,_⟩
  ·omega
  ·exact ⟨g,cap,q1⟩
 simp only[Value.slice.injEq] at e
 obtain ⟨rfl,-,rfl⟩:=e
 have q:=World.ownsRow.lt h.own g rfl
 have k: ∀j,j<5→wr.cell? ⟨g,j,none⟩=(ts.getD 0 tr0).cells[j]? :=fun j hj=>by
  rw[World.ownsRow.cellAt h.own j Vn]
  have:=cellsR_at ts 0 j Vn hj
  simpa using this
 exact ⟨g,rfl,q.2,Vn,by simpa [TR.cells] using k 0 Vn,by simpa [TR.cells] using k 1 Vn,by simpa [TR.cells] using k 2 Vn,by simpa [TR.cells] using k 3 Vn,by simpa [TR.cells] using k 4 Vn⟩
theorem drawWr_a (v:Value) (n9:Nat) (w:World) (h:ArgB w v n9):Calls Tryz.prog 19 #[v] w (DrewW w):=by
 obtain ⟨a9,c9,rfl⟩:=h.len
 have h0:=cur_new h w (Below.refl _ _)
 clear h
 go_enter Tryz.func19,Tryz.ntmps19
 go_wp2_with fail
 refine (pick_a (B:=w.heap.size) w.heap.size 0 5 _ Vo Vn Vn).mono ?_
 rintro e1 w1 ⟨v1,rfl,p1,h1,g1⟩
 have hb1:Below w.heap.size w w1:=(gr_alloc (Below.refl _ _) _).trans (g1.to_below Vn Vs)
 obtain ⟨N,rfl⟩:=Int.eq_ofNat_of_zero_le p1.1
 have hN:N≤4:=by omega
 have hG:=GW.start h1 hb1
 clear h1 hb1 g1 h0 p1
 go_wp2
 go_loopw [4,5] (fun ls is wr=> ∃(k n c:Nat) (a:Option Addr) (l:List TR),is= .int .i64 (k:Int)∧ls= .slice a n c∧k+n≤4∧GW w w.heap.size (2+20*(n:Int)) wr a n c l) (fun _ is _=>(intOf is).toNat)
 case atStart=>exact ⟨N,0,0,none,[],rfl,rfl,Vn,hG⟩
 case round=>
  clear hG
  obtain ⟨k,n,c,a,l,rfl,rfl,hkn,hG⟩:=hrel
  obtain ⟨w2,rfl⟩: ∃w2:World,w2=wr:=⟨_,rfl⟩
  have hln:=hG.len
  have h2:=hG.cur
  have hs2:=h2.lt
  by_cases c9:0<k
  ·have hci:(0:Int)<(k:Int):=by omega
   go_wp2_with (first|(go_at_call 44;refine (row_d (B:=w.heap.size) w.heap.size (2+20*(n:Int)) _ h2 Vn).mono ?_;rintro e w3 ⟨t,rfl,hok,htl,hti,htlo,hthi,h3,g3⟩;have hG3:=hG.draw (Nat.le_refl _) g3 h3;have hz3:=g3.size;have hown3:=(hG3.alloc (Nat.le_refl _) (.cells #[.int .i64 t.r.d,.int .i64 t.r.num,.slice t.a t.zs.length t.c,.int .i64 t.r.ge,.int .i64 t.r.ex] 31)).own)|(at_builtin;refine app_row _ rfl (.tmp 15) (.tmp 18) rfl (w.heap.size+1) (.slice a n c) n (cellsR l) t w3.heap.size rfl rfl hown3 (five VE VE VE VE VE) Vn VW ?_;intro g cap w4 hown hgrow hat hlt))
   have hG4:=(hG3.alloc (Nat.le_refl _) _).new (Nat.le_refl _) hok Vn (hti.below (below_alloc_self _ _) Vn) Vn VO (fun g' e=> .inl (by have:=(World.ownsRow.lt hG.own g' e).2;omega)) hown hgrow hat
   go_roundw
   case rel=>exact ⟨k-1,n+1,cap,some ⟨g,0,none⟩,_,by first|(congr 1;omega)|go_num,rfl,Vn,hG4.draw (Nat.le_refl _) (World.grownBy.refl' _ _) (hG4.cur.le (by push_cast;omega))⟩
   case measure=>simp [intOf];omega
  ·obtain rfl:k=0:=by omega
   go_wp2_with fail
   refine (one_a (B:=w.heap.size) w.heap.size (2+20*(n:Int)) 20 _ Vo Vn Vn).mono ?_
   rintro e3 w3 ⟨t3,rfl,h3,g3⟩
   have hG3:=hG.draw (Nat.le_refl _) g3 h3
   clear hG h2 h3 g3
   by_cases c8:0<n∧t3=true
   ·obtain ⟨c8,rfl⟩:=c8
    have hci:(0:Int)<(n:Int):=by omega
    go_wp2
    go_loopw [4] (fun ls wr=> ∃(n c:Nat) (a:Option Addr) (l:List TR),ls= .slice a n c∧0<n∧n≤41∧GW w w.heap.size (200+20*(n:Int)) wr a n c l) (fun ls _=>41-lenOf ls)
    case atStart=>exact ⟨n,c,a,l,rfl,c8,Vn,hG3.draw (Nat.le_refl _) (World.grownBy.refl' _ _) (hG3.cur.le Vn)⟩
    case round=>
     clear hG3 hln
     obtain ⟨n,c,a,l,rfl,hn0,hn1,hG⟩:=hrel
     obtain ⟨w4,rfl⟩: ∃w4:World,w4=wr:=⟨_,rfl⟩
     have h4:=hG.cur
     have hs4:=h4.lt
     go_wp2_with fail
     refine (pick_a (B:=w.heap.size) w.heap.size (200+20*(n:Int)) 2 _ Vo Vn Vn).mono ?_
     rintro e5 w5 ⟨v5,rfl,p5,h5,g5⟩
     have hG5:=hG.draw (Nat.le_refl _) g5 h5
     clear hG h4 h5 g5
     by_cases c7:(n:Int)<40+v5
     ·obtain ⟨g,rfl,hgl,hbg,y0,y1,y2,y3,y4⟩:=hG5.head hn0
      have hln:=unhide hG5.len
      have f1:=hG5.ok 0 Vn
      have f2:=hG5.inn 0 Vn
      have f3:=hG5.low 0 Vn
      have f4:=hG5.top 0 Vn
      have f5:=fun g' e=>hG5.out g' e 0 Vn
      generalize l.getD 0 tr0=t at*
      clear hln
      have hown3:=(hG5.alloc (Nat.le_refl _) (.cells #[.int .i64 t.r.d,.int .i64 t.r.num,.slice t.a t.zs.length t.c,.int .i64 t.r.ge,.int .i64 t.r.ex] 31)).own
      have hn0i:(0:Int)<(n:Int):=by omega
      go_wp2_with (at_builtin;refine app_row _ rfl (.tmp 33) (.tmp 37) rfl (w.heap.size+1) (.slice (some ⟨g,0,none⟩) n c) n (cellsR l) t w5.heap.size rfl rfl hown3 (five VE VE VE VE VE) Vn VW ?_;intro g2 cap w6 hown hgrow hat hlt)
      have hG6:=(hG5.alloc (Nat.le_refl _) _).new (Nat.le_refl _) f1.1 f1.2 (f2.below (below_alloc_self _ _) f4) f3 VO f5 hown hgrow hat
      go_roundw
      case rel=>exact ⟨n+1,cap,some ⟨g2,0,none⟩,_,rfl,Vn,Vn,hG6.draw (Nat.le_refl _) (World.grownBy.refl' _ _) (hG6.cur.le (by push_cast;omega))⟩
      case measure=>simp [lenOf];omega
     ·go_wp2
      go_ret
      exact hG5.ret Vn rfl
   ·cases t3
    ·go_wp2
     go_ret
     exact hG3.ret Vn rfl
    ·have hci: ¬(0:Int)<(n:Int):=fun h=>c8 ⟨Vn,rfl⟩
     go_wp2
     go_ret
     exact hG3.ret Vn rfl
def DrewII (B:Nat) (w:World) (b:Nat) (K:Int) (e:Ending) (w':World):Prop:= ∃x y:Int,e= .returned (.tuple #[.int .i64 x,.int .i64 y])∧(-20000≤x∧x≤20000)∧(-20000≤y∧y≤20000)∧Cur B w' b K∧w.grownBy w' (some b)
theorem range2_d (b:Nat) (K:Int) (w:World) (h0:Cur B w b K) (hK:K≤1000000000):Calls Tryz.prog 21 #[.pointer (some ⟨b,0,none⟩)] w (DrewII B w b (K+10)):=by
 have hs0:=h0.lt
 go_enter Tryz.func21,Tryz.ntmps21
 go_wp2_with fail
 refine (pick_a (B:=B) b K 1990 _ Vo Vn Vn).mono ?_
 rintro e1 w1 ⟨v1,rfl,p1,h1,g1⟩
 have hs1:=h1.lt
 go_wp2_with fail
 refine (pick_a (B:=B) b (K+2) 300 _ Vo Vn Vn).mono ?_
 rintro e2 w2 ⟨v2,rfl,p2,h2,g2⟩
 have hs2:=h2.lt
 go_wp2_with fail
 refine (among_a (B:=B) b (K+2+2) _ 0 9 9 (fun x=> -5000≤x∧x≤5000) _ Vo Vn Vn ⟨Vn,fun i hi=>by rcases (show i=0∨i=1∨i=2∨i=3∨i=4∨i=5∨i=6∨i=7∨i=8 by omega) with rfl|rfl|rfl|rfl|rfl|rfl|rfl|rfl|rfl<;>exact ⟨_,by go_simp;rfl,by first|trivial|(constructor<;>omega)⟩⟩).mono ?_
 rintro e3 w3 ⟨v3,rfl,p3,h3,g3⟩
 have hs3:=h3.lt
 go_wp2_with fail
 refine (pick_a (B:=B) b (K+2+2+2) 60 _ Vo Vn Vn).mono ?_
 rintro e4 w4 ⟨v4,rfl,p4,h4,g4⟩
 have hs4:=h4.lt
 go_wp2_with fail
 refine (among_a (B:=B) b (K+2+2+2+2) _ 0 11 11 (fun x=> -5000≤x∧x≤5000) _ Vo Vn Vn ⟨Vn,fun i hi=>by rcases (show i=0∨i=1∨i=2∨i=3∨i=4∨i=5∨i=6∨i=7∨i=8∨i=9∨i=10 by omega) with rfl|rfl|rfl|rfl|rfl|rfl|rfl|rfl|rfl|rfl|rfl<;>exact ⟨_,by go_simp;rfl,by first|trivial|(constructor<;>omega)⟩⟩).mono ?_
 rintro e5 w5 ⟨v5,rfl,p5,h5,g5⟩
 go_wp2
 go_ret2
 exact ⟨_,_,rfl,Vn,Vn,h5.le Vn,((((g1.trans' g2).alloc' _).trans' g3).trans' g4 |>.alloc' _).trans' g5⟩
def DrawnR (w:World) (e:Ending) (w':World):Prop:= ∃x y:Int,e= .returned (.tuple #[.int .i64 x,.int .i64 y])∧Below w.heap.size w w'
theorem drawTb_a (v:Value) (n:Nat) (w:World) (h:ArgB w v n):Calls Tryz.prog 5 #[v] w (DrawnR w):=by
 obtain ⟨a,c,rfl⟩:=h.len
 have h0:=cur_new h w (Below.refl _ _)
 clear h
 go_enter Tryz.func5,Tryz.ntmps5
 go_wp2_with fail
 refine (range2_d (B:=w.heap.size) w.heap.size 0 _ h0 Vn).mono ?_
 rintro e1 w1 ⟨x,y,rfl,p1,p2,h1,g1⟩
 have hs1:=h1.lt
 go_wp2_with fail
 refine (one_a (B:=w.heap.size) w.heap.size (0+10) 6 _ Vo Vn Vn).mono ?_
 rintro e2 w2 ⟨t2,rfl,h2,g2⟩
 have hs2:=h2.lt
 cases t2
 ·go_wp2
  go_ret2
  exact ⟨_,_,rfl,(gr_alloc (Below.refl _ _) _).trans ((g1.trans' g2).to_below Vn Vs)⟩
 ·go_wp2_with fail
  refine (among_a (B:=w.heap.size) w.heap.size (0+10+2) _ 0 3 3 (fun _=>True) _ Vo Vn Vn ⟨Vn,fun i hi=>by rcases (show i=0∨i=1∨i=2 by omega) with rfl|rfl|rfl<;>exact ⟨_,by go_simp;rfl,by first|trivial|(constructor<;>omega)⟩⟩).mono ?_
  rintro e3 w3 ⟨v3,rfl,p3,h3,g3⟩
  go_wp2
  go_ret2
  exact ⟨_,_,rfl,(gr_alloc (Below.refl _ _) _).trans ((((g1.trans' g2).alloc' _).trans' g3).to_below Vn Vs)⟩
end Go.Proofs.YtobkcnmlmmhpoaaGreatDoor
namespace Go.Proofs.YtobkcnmlmmhpoaaGreatDoor
open Go.RowKit
set_option linter.unusedVariables false
set_option linter.unusedSimpArgs false

theorem pu_app: ∀(x y:List UInt8) (a v:Nat),Lib.parseUint10 a x= .ok v→Lib.parseUint10 a (x++y)=Lib.parseUint10 v y
 | [],y,a,v,h=>by
  simp only[Lib.parseUint10] at h
  injection h with h
  rw[h];rfl
 |c :: r,y,a,v,h=>by
  simp only[Lib.parseUint10,List.cons_append] at h ⊢
  split at h
  ·rename_i hc
   rw[if_pos hc]
   split at h
   ·cases h
   ·rename_i h1
    rw[if_neg h1]
    split at h
    ·cases h
    ·rename_i h2
     rw[if_neg h2]
     exact pu_app r y _ v h
  ·cases h
theorem dgb_nat {d:Nat} (h:d<10):(dgb d).toNat=48+d:=by
 unfold dgb
 simp only[UInt8.toNat_ofNat']
 omega
theorem pu_dec: ∀(u:Nat),u<18446744073709551616→Lib.parseUint10 0 (Lib.decDigits u)= .ok u:=by
 intro u
 induction u using Nat.strongRecOn with
 |_ u ih=>
  intro hu
  by_cases q:u<10
  ·rw [dg_small q]
   simp only[Lib.parseUint10,dgb_nat q]
   rw[if_pos Vn,if_neg Vn,if_neg Vn]
   congr 1
   omega
  ·rw [dg_next q rfl rfl,pu_app _ _ _ _ (ih (u / 10) Vn Vn)]
   simp only[Lib.parseUint10,dgb_nat (show u%10<10 by omega)]
   rw[if_pos Vn,if_neg Vn,if_neg Vn]
   congr 1
   omega
def DgC (c:UInt8):Prop:=48≤c.toNat∧c.toNat≤57
theorem dec_all: ∀(u:Nat),∀c ∈ Lib.decDigits u,DgC c:=by
 intro u
 induction u using Nat.strongRecOn with
 |_ u ih=>
  intro c hc
  by_cases q:u<10
  ·rw [dg_small q] at hc
   simp at hc
   subst hc
   have:=dgb_nat q
   exact ⟨Vn,Vn⟩
  ·rw [dg_next q rfl rfl] at hc
   rcases List.mem_append.1 hc with hc|hc
   ·exact ih _ Vn c hc
   ·simp at hc
    subst hc
    have:=dgb_nat (show u%10<10 by omega)
    exact ⟨Vn,Vn⟩
theorem dec_ne (u:Nat):Lib.decDigits u≠ []:=by
 by_cases q:u<10
 ·rw [dg_small q];simp
 ·rw [dg_next q rfl rfl];simp
def NmC (c:UInt8):Prop:=c.toNat=45∨DgC c
theorem itoa_all (x:Int): ∀c ∈ Lib.itoa x,NmC c:=by
 intro c hc
 by_cases q:0≤x
 ·rw [itoa_pos q] at hc;exact .inr (dec_all _ c hc)
 ·rw [itoa_neg' Vn] at hc
  rcases List.mem_cons.1 hc with rfl|hc
  ·exact .inl rfl
  ·exact .inr (dec_all _ c hc)
theorem itoa_ne (x:Int):Lib.itoa x≠ []:=by
 by_cases q:0≤x
 ·rw [itoa_pos q];exact dec_ne _
 ·rw [itoa_neg' Vn];simp
theorem atoi_itoa {x:Int} (h:I64 x):Lib.atoiAll (Lib.itoa x)= .ok x:=by
 obtain ⟨h0,h1⟩:=h
 by_cases q:0≤x
 ·rw [itoa_pos q]
  obtain ⟨c,r,hc⟩: ∃c r,Lib.decDigits x.toNat=c :: r:=by
   cases hd:Lib.decDigits x.toNat with
   |nil=>exact absurd hd (dec_ne _)
   |cons c r=>exact ⟨c,r,rfl⟩
  have hg:DgC c:=dec_all x.toNat c (by rw[hc];simp)
  have hp:Lib.parseMag (c :: r)= .ok x.toNat:=by
   unfold Lib.parseMag
   rw[if_neg Vs,←hc]
   exact pu_dec _ Vn
  unfold DgC at hg
  rw[hc]
  unfold Lib.atoiAll
  simp only
  rw[if_neg Vn,hp]
  simp only
  rw[if_neg Vn,if_neg Vn,if_neg Vn]
  congr 1
  omega
 ·rw [itoa_neg' Vn]
  unfold Lib.atoiAll
  simp only
  have hp:Lib.parseMag (Lib.decDigits x.natAbs)= .ok x.natAbs:=by
   unfold Lib.parseMag
   rw[if_neg (dec_ne _)]
   exact pu_dec _ Vn
  have e:(45:UInt8).toNat=45:=rfl
  rw[if_pos (.inr e),hp]
  simp only
  rw[if_neg (by rw[e];omega),if_neg Vn,if_pos e]
  congr 1
  omega
def jn (c:UInt8):List (List UInt8)→List UInt8
 | []=> []
 | [x]=>x
 |x :: y :: r=>x++c :: jn c (y :: r)
theorem jn_join (c:UInt8): ∀ws,Lib.join ws [c]=jn c ws
 | []=>rfl
 | [x]=>by simp [Lib.join,List.intercalate,jn]
 |x :: y :: r=>by
  have ih:=jn_join c (y :: r)
  rw[jn,←ih]
  simp [Lib.join,List.intercalate,List.intersperse]
theorem occ_no (c:UInt8): ∀(w:List UInt8) (j:Nat),c ∉ w→Lib.occAt w [c] j=false
 | [],j,_=>by simp [Lib.occAt]
 |b :: w,0,h=>by
  simp only[List.mem_cons,not_or] at h
  simp [Lib.occAt,List.isPrefixOf,h.1]
 |b :: w,j+1,h=>by
  simp only[List.mem_cons,not_or] at h
  have:=occ_no c w j h.2
  simpa [Lib.occAt] using this
theorem index_miss (c:UInt8) (w:List UInt8) (h:c ∉ w):Lib.index w [c]= -1:=Lib.index_none fun j _=>occ_no c w j h
theorem index_hit (c:UInt8) (w r:List UInt8) (h:c ∉ w):Lib.index (w++c :: r) [c]=w.length:=by
 refine Lib.index_first Vs (by simp [Lib.occAt]) fun j hj=> ?_
 unfold Lib.occAt
 rw[List.drop_append_of_le_length Vn]
 have:w.drop j≠ []:=fun e=>by have:=congrArg List.length e;simp at this;omega
 cases hd:w.drop j with
 |nil=>exact absurd hd this
 |cons b t=>
  have hb:b ∈ w:=List.mem_of_mem_drop (i:=j) (by rw[hd];simp)
  have:c≠b:=fun e=>h (e▸hb)
  simp [List.isPrefixOf,this]
theorem split_jn (c:UInt8): ∀(ws:List (List UInt8)),ws≠ []→(∀w ∈ ws,c ∉ w)→Lib.count (jn c ws) [c]+1=ws.length∧Lib.splitK [c] 0 (Lib.count (jn c ws) [c]) (jn c ws)=ws
 | [],h,_=>absurd rfl h
 | [x],_,h=>by
  have hm:=index_miss c x (h x Vs)
  rw[jn,Lib.count_miss hm]
  exact ⟨rfl,rfl⟩
 |x :: y :: r,_,h=>by
  have hx:=h x Vs
  have hi:=index_hit c x (jn c (y :: r)) hx
  obtain ⟨h1,h2⟩:=split_jn c (y :: r) Vs (fun w hw=>h w (by simp [hw]))
  have hd:(x++c :: jn c (y :: r)).drop (x.length+ [c].length)=jn c (y :: r):=by
   rw[List.drop_append];simp
  have hc:Lib.count (jn c (x :: y :: r)) [c]=Lib.count (jn c (y :: r)) [c]+1:=by
   rw[jn,Lib.count_hit Vs hi,hd];omega
  refine ⟨by rw[hc,h1];simp,?_⟩
  rw[hc,Lib.splitK,jn,hi,if_neg (by first|(simp;done)|(simp;omega))]
  have e:((x.length:Nat):Int).toNat=x.length:=by simp
  rw[e,hd,h2]
  simp
def spl (c:UInt8):List UInt8→List UInt8→List (List UInt8)
 |cur,[]=> [cur]
 |cur,b :: l=>if b=c then cur :: spl c [] l else spl c (cur++ [b]) l
theorem spl_word (c:UInt8): ∀(w cur r:List UInt8),c ∉ w→spl c cur (w++r)=spl c (cur++w) r
 | [],cur,r,_=>by simp
 |b :: w,cur,r,h=>by
  simp only[List.mem_cons,not_or] at h
  rw[List.cons_append,spl,if_neg (fun e=>h.1 e.symm),spl_word c w _ r h.2]
  simp
theorem spl_jn (c:UInt8): ∀(ws:List (List UInt8)),ws≠ []→(∀w ∈ ws,c ∉ w)→spl c [] (jn c ws)=ws
 | [],h,_=>absurd rfl h
 | [x],_,h=>by
  have:=spl_word c x [] [] (h x Vs)
  simpa [jn,spl] using this
 |x :: y :: r,_,h=>by
  rw[jn,spl_word c x [] _ (h x Vs),List.nil_append,spl,if_pos rfl,spl_jn c (y :: r) Vs (fun w hw=>h w (by simp [hw]))]
def nmP (x:Nat):Bool:= !(x==45)&&(decide (x<48) || decide (57<x))
theorem nmP_no {c:UInt8} (h:NmC c):nmP c.toNat=false:=by
 unfold NmC DgC at h
 unfold nmP
 rcases h with h|h
 ·simp [h]
 ·have e1: ¬c.toNat<48:=by omega
  have e2: ¬57<c.toNat:=by omega
  simp [e1,e2]
theorem get_at {s:ByteArray} {pre post:List UInt8} {c:UInt8} (h:s.data.toList=pre++c :: post): ∃hp:pre.length<s.size,s[pre.length]'hp=c:=by
 have hs:s.size=(pre++c :: post).length:=by rw[Lib.size_eq,h]
 have hp:pre.length<s.size:=by rw[hs];simp
 refine ⟨hp,?_⟩
 have h1:s[pre.length]'hp=s.data.toList[pre.length]'(by rw[h];simp):=rfl
 rw[h1]
 simp [h]
theorem dec_at {s:ByteArray} {pre post:List UInt8} {c:UInt8} (h:s.data.toList=pre++c :: post) (hc:c.toNat<128):pre.length<s.size∧Utf8.decode s pre.length=(c.toNat,1):=by
 obtain ⟨hp,e⟩:=get_at h
 refine ⟨hp,?_⟩
 have:=decode_ascii s pre.length hp (by rw[e];exact hc)
 rw[e] at this
 exact this
theorem nm_asc {c:UInt8} (h:NmC c):c.toNat<128:=by unfold NmC DgC at h;omega
theorem sp_word (s:ByteArray): ∀(w pre post:List UInt8) (f a:Nat) (acc:List (Nat × Nat)),s.data.toList=pre++w++post→(∀c ∈ w,NmC c)→
  Lib.spansFromP nmP s (w.length+f) pre.length (some a) acc=Lib.spansFromP nmP s f (pre.length+w.length) (some a) acc
 | [],pre,post,f,a,acc,_,_=>by simp
 |c :: w,pre,post,f,a,acc,h,hc=>by
  have hc0:=hc c Vs
  obtain ⟨hp,hd⟩:=dec_at (s:=s) (pre:=pre) (post:=w++post) W6 (nm_asc hc0)
  have ih:=sp_word s w (pre++ [c]) post f a acc W6 (fun x hx=>hc x W5)
  rw[show (c :: w).length+f=(w.length+f)+1 by simp;omega,Lib.spansFromP,if_pos hp,hd,nmP_no hc0]
  simp only[List.length_append,List.length_cons,List.length_nil] at ih
  rw[if_neg Vs]
  simp only
  rw[ih]
  congr 1
  simp;omega
theorem sp_first (s:ByteArray) (w pre post:List UInt8) (f:Nat) (acc:List (Nat × Nat)) (hw:w≠ []) (h:s.data.toList=pre++w++post) (hc: ∀c ∈ w,NmC c):
  Lib.spansFromP nmP s (w.length+f) pre.length none acc=Lib.spansFromP nmP s f (pre.length+w.length) (some pre.length) acc:=by
 cases w with
 |nil=>exact absurd rfl hw
 |cons c w=>
  have hc0:=hc c Vs
  obtain ⟨hp,hd⟩:=dec_at (s:=s) (pre:=pre) (post:=w++post) W6 (nm_asc hc0)
  have ih:=sp_word s w (pre++ [c]) post f pre.length acc W6 (fun x hx=>hc x W5)
  rw[show (c :: w).length+f=(w.length+f)+1 by simp;omega,Lib.spansFromP,if_pos hp,hd,nmP_no hc0]
  simp only[List.length_append,List.length_cons,List.length_nil] at ih
  rw[if_neg Vs]
  simp only
  rw[ih]
  congr 1
  simp;omega
def wPl (pos:Nat):List (List UInt8)→List (Nat × Nat)
 | []=> []
 |x :: r=>(pos,pos+x.length) :: wPl (pos+x.length+1) r
theorem sp_jn (s:ByteArray) (c:UInt8) (hc:c.toNat<128) (hp:nmP c.toNat=true): ∀(ws:List (List UInt8)) (pre:List UInt8) (f:Nat) (acc:List (Nat × Nat)),ws≠ []→(∀w ∈ ws,w≠ []∧ ∀x ∈ w,NmC x)→s.data.toList=pre++jn c ws→
  Lib.closeSpans s (Lib.spansFromP nmP s ((jn c ws).length+f) pre.length none acc)=acc++wPl pre.length ws
 | [],_,_,_,h,_,_=>absurd rfl h
 | [x],pre,f,acc,_,h,hs=>by
  have hs':s.data.toList=pre++x++ []:=by simpa [jn] using hs
  have hz:s.size=pre.length+x.length:=by rw[Lib.size_eq,hs'];simp
  rw[jn,sp_first s x pre [] f acc (h x Vs).1 hs' (h x Vs).2,Lib.spansFromP_end _ _ _ _ _ _ Vn]
  simp [Lib.closeSpans,wPl,hz]
 |x :: y :: r,pre,f,acc,_,h,hs=>by
  have hs':s.data.toList=pre++x++c :: jn c (y :: r):=by simpa [jn] using hs
  rw[jn,show (x++c :: jn c (y :: r)).length+f=x.length+(((jn c (y :: r)).length+f)+1) by simp;omega]
  rw[sp_first s x pre _ _ acc (h x Vs).1 hs' (h x Vs).2]
  obtain ⟨hq,hd⟩:=dec_at (s:=s) (pre:=pre++x) (post:=jn c (y :: r)) hs' hc
  rw[List.length_append] at hq hd
  rw[Lib.spansFromP,if_pos hq,hd,if_pos hp]
  simp only
  have ih:=sp_jn s c hc hp (y :: r) (pre++x++ [c]) f (acc++ [(pre.length,pre.length+x.length)]) Vs (fun w hw=>h w (by simp [hw])) (by simpa using hs')
  simp only[List.length_append,List.length_cons,List.length_nil] at ih
  rw[show pre.length+x.length+1=pre.length+x.length+(0+1) by omega,ih]
  show _=acc++((pre.length,pre.length+x.length) :: wPl (pre.length+x.length+1) (y :: r))
  simp
theorem wPl_ex (s:ByteArray) (c:UInt8): ∀(ws:List (List UInt8)) (pre:List UInt8),s.data.toList=pre++jn c ws→(wPl pre.length ws).map (fun x=>s.extract x.1 x.2)=ws.map tx
 | [],_,_=>rfl
 | [x],pre,h=>by
  have e:s.extract pre.length (pre.length+x.length)=tx x:=by
   rw[←tx_of (s.extract pre.length (pre.length+x.length)),Lib.extract_data,h]
   simp [jn]
  simp [wPl,e]
 |x :: y :: r,pre,h=>by
  have e:s.extract pre.length (pre.length+x.length)=tx x:=by
   rw[←tx_of (s.extract pre.length (pre.length+x.length)),Lib.extract_data,h]
   simp [jn]
  have ih:=wPl_ex s c (y :: r) (pre++x++ [c]) (by simpa [jn] using h)
  rw[wPl,List.map_cons,e,List.map_cons]
  simp only[List.length_append,List.length_cons,List.length_nil] at ih
  rw[show pre.length+x.length+1=pre.length+x.length+(0+1) by omega,ih]
theorem fields_jn (c:UInt8) (hc:c.toNat<128) (hp:nmP c.toNat=true) (ws:List (List UInt8)) (hn:ws≠ []) (h: ∀w ∈ ws,w≠ []∧ ∀x ∈ w,NmC x):Lib.goFieldsP nmP (tx (jn c ws))=ws.map tx:=by
 have hs:(tx (jn c ws)).data.toList= []++jn c ws:=by rw[tx_list];rfl
 have h1:=sp_jn (tx (jn c ws)) c hc hp ws [] 0 [] hn h hs
 unfold Lib.goFieldsP Lib.spansOfP
 rw[tx_size,show (jn c ws).length=(jn c ws).length+0 by rfl]
 simp only[List.length_nil] at h1
 rw[h1,List.nil_append]
 exact wPl_ex _ c ws [] hs
theorem closeSpans_len (s:ByteArray) (x:List (Nat × Nat) × Option Nat):(Lib.closeSpans s x).length≤x.1.length+1:=by
 unfold Lib.closeSpans
 split<;>simp
theorem spans_len (p:Nat→Bool) (s:ByteArray): ∀(f pos:Nat) (st:Option Nat) (acc:List (Nat × Nat)),(Lib.spansFromP p s f pos st acc).1.length≤acc.length+f
 |0,pos,st,acc=>by simp [Lib.spansFromP]
 |f+1,pos,st,acc=>by
  unfold Lib.spansFromP
  split
  ·split
   ·split
    ·have:=spans_len p s f (pos+(Utf8.decode s pos).2) none (acc++ [(‹Nat›,pos)])
     simp at this ⊢;omega
    ·have:=spans_len p s f (pos+(Utf8.decode s pos).2) none acc
     omega
   ·split
    ·have:=spans_len p s f (pos+(Utf8.decode s pos).2) (some ‹Nat›) acc
     omega
    ·have:=spans_len p s f (pos+(Utf8.decode s pos).2) (some pos) acc
     omega
  ·simp
theorem fields_len (p:Nat→Bool) (s:ByteArray):(Lib.goFieldsP p s).length≤s.size+1:=by
 unfold Lib.goFieldsP Lib.spansOfP
 rw[List.length_map]
 have h1:=closeSpans_len s (Lib.spansFromP p s s.size 0 none [])
 have h2:=spans_len p s s.size 0 none []
 simp at h2
 omega
end Go.Proofs.YtobkcnmlmmhpoaaGreatDoor
