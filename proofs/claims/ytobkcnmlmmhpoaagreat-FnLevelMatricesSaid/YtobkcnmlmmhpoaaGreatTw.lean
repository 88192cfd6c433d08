/- The turns of a reduced form, walked. -/
import Derived.Test.YtobkcnmlmmhpoaaGreatTn
namespace Go.Proofs.YtobkcnmlmmhpoaaGreat
open Go.RowKit
set_option linter.unusedVariables false
set_option linter.unusedSimpArgs false
attribute [local go_sem] q2 q3 q4 q5 q6 q7 q8 q9 q10 q11 q12

set_option maxRecDepth 100000 in
set_option maxHeartbeats 4000000 in
theorem turns_a (a b c:Int) (w:World):Calls Tryz.prog 88 #[.agg #[.int .i64 a,.int .i64 b,.int .i64 c]] w (RetML w (turnL a b c)):=by
 by_cases q1:a=c
 ·subst q1
  by_cases q2:b=0
  ·subst q2
   obtain ⟨K,hK⟩: ∃K:List M4,K= [(1,0,0,1),(0,-1,1,0)]:=⟨_,rfl⟩
   have HRES:Hid (turnL a 0 a=K++K.map nM):=hide (by rw[hK];simp [turnL,nM])
   have HK:=hide hK
   clear hK
   go_enter Tryz.func88,Tryz.ntmps88
   go_wp2_with (first|(go_at_call 84;refine (one_x  _).mono ?_;rintro e w' ⟨rfl,rfl⟩)|(at_builtin;refine app_ML _ rfl (.tmp 19) (.tmp 21) rfl w.heap.size (.slice (some ⟨w.heap.size+1+1,0,none⟩) 1 1) [(1,0,0,1)] (0) (-1) (1) (0) (w.heap.size+1+1+1) rfl rfl ((ML.oneAt (w:=((w.alloc (.cells #[.int .i64 a,.int .i64 0,.int .i64 a] 25)).alloc (.cells #[.int .i64 1,.int .i64 0,.int .i64 0,.int .i64 1] 29))) (lo:=w.heap.size) (B:=w.heap.size+1+1) 1 0 0 1 (by simp) (by simp;omega)).alloc _) byCT byCT byCT byCT (by simp) (by simp;omega) ?_;intro g7 c7 w7 hM9 hgrow hat hlt7;have hb9:Below w.heap.size w w7:=Below.grown ((Below.refl _ _).alloc (Nat.le_refl _) _ |>.alloc (by simp) _ |>.alloc (by simp;omega) _ |>.alloc (by simp;omega) _) hgrow (by simp;omega) (fun k hk=>by simp [Value.ownBlock] at hk;omega);have hcap:=(hM9.ptr (by simp));obtain ⟨g6,hg6,hg5,hg4,hcap9⟩:=hcap;have hcap8:2≤c7:=hcap9;clear hcap9 hg6 hg5 hg4 hgrow hat;have hM9:ML w7 w.heap.size (.slice (some ⟨g7,0,none⟩) 2 c7) K:=by rw[unhide HK];exact hM9))
   have hst:=TnRel.start (w0:=w) hM9 hb9
   obtain ⟨g8,h8⟩: ∃g8,g8=g7:=⟨_,rfl⟩
   subst h8
   have hkl:K.length=2:=by rw[unhide HK];rfl
   have HS: ∀i,i<K.length→Hid ((-1≤(K.getD i m40).1∧(K.getD i m40).1≤1)∧(-1≤(K.getD i m40).2.1∧(K.getD i m40).2.1≤1)∧(-1≤(K.getD i m40).2.2.1∧(K.getD i m40).2.2.1≤1)∧(-1≤(K.getD i m40).2.2.2∧(K.getD i m40).2.2.2≤1)):=by
    intro i hi
    rw[hkl] at hi
    rw[unhide HK]
    apply hide
    rcases (show i=0∨i=1 by omega) with rfl|rfl<;>(simp;done)
   have HS:=hide HS
   clear HK
   have HST:=hide hst
   clear hst
   have HKL:=hide hkl
   clear hkl
   go_loopw [3,48] (fun ls is wr=> ∃i:Nat,i≤2∧is= .int .i64 (i:Int)∧TnRel w wr g8 K 2 i ls) (fun _ is _=>2-(intOf is).toNat)
   case atStart=>exact ⟨0,by omega,rfl,unhide HST⟩
   case round=>
    clear HST
    obtain ⟨i,hi,rfl,g9,c9,rfl,hl,hk,hB,hb⟩:=hrel
    obtain ⟨wl,rfl⟩: ∃wl:World,wl=wr:=⟨_,rfl⟩
    have hzl:=hb.size
    by_cases q:i<2
    ·have hiK:i<K.length:=by rw[unhide HKL];exact q
     obtain ⟨d0,d1,d2,d3⟩:=hk i hiK
     obtain ⟨⟨b0,b1⟩,⟨b2,b3⟩,⟨b4,b5⟩,b6,b7⟩:=unhide (unhide HS i hiK)
     obtain ⟨m0,e0⟩: ∃x,x=(K.getD i m40).1:=⟨_,rfl⟩
     obtain ⟨m1,e1⟩: ∃x,x=(K.getD i m40).2.1:=⟨_,rfl⟩
     obtain ⟨m2,e2⟩: ∃x,x=(K.getD i m40).2.2.1:=⟨_,rfl⟩
     obtain ⟨m3,e3⟩: ∃x,x=(K.getD i m40).2.2.2:=⟨_,rfl⟩
     rw[←e0] at d0 b0 b1
     rw[←e1] at d1 b2 b3
     rw[←e2] at d2 b4 b5
     rw[←e3] at d3 b6 b7
     have HN:Hid (nM (K.getD i m40)=(-m0,-m1,-m2,-m3)):=hide (by rw[e0,e1,e2,e3];rfl)
     clear e0 e1 e2 e3
     have hi0:(i:Int)<2:=by omega
     have HKA:=hide hk
     have HL:=hide hl
     have HB:=hide hB
     have HI:=hide hiK
     have hlt9:=hl.lt g9 rfl
     have hne1: ¬wl.heap.size=g8:=by omega
     clear hk hl hiK
     go_wp2_with (at_builtin;refine app_turn _ rfl (.tmp 52) (.tmp 66) rfl w.heap.size K 2 i g9 c9 (-m0) (-m1) (-m2) (-m3) (wl.heap.size+1) rfl rfl (((unhide HL).alloc _).alloc _) (unhide HKL) q (by omega) byCT byCT byCT byCT (by simp;omega) ?_;intro g8 c8 w8 hown hgrow hat hlt8)
     go_roundw
     case rel=>first|exact ⟨i+1,by omega,by first|rfl|go_num,TnRel.next (unhide HL) (unhide HKA) (unhide HB) (by rw[heap_alloc_old _ _ (by simp;omega),heap_alloc_old _ _ (by omega)]) (by simp;omega) (unhide HI) (by rw[unhide HN];exact hown) hgrow hat (Below.grown ((hb.alloc hzl _).alloc (by simp;omega) _) hgrow (by simp;omega) (fun k hk=>by injection hk with hk;omega))⟩|((repeat apply Exists.intro);exact ⟨⟨i+1,by omega,by first|rfl|go_num,TnRel.next (unhide HL) (unhide HKA) (unhide HB) (by rw[heap_alloc_old _ _ (by simp;omega),heap_alloc_old _ _ (by omega)]) (by simp;omega) (unhide HI) (by rw[unhide HN];exact hown) hgrow hat (Below.grown ((hb.alloc hzl _).alloc (by simp;omega) _) hgrow (by simp;omega) (fun k hk=>by injection hk with hk;omega))⟩,rfl⟩)
     case measure=>simp [intOf];omega
    ·obtain rfl:i=2:=by omega
     go_wp2
     go_ret
     have hfin:turnL a 0 a=K++(K.take 2).map nM:=by rw[unhide HRES,List.take_of_length_le (by rw[unhide HKL];omega)]
     have hln:(turnL a 0 a).length=2+2:=by rw[hfin,neg_len _ _ (by rw[unhide HKL];omega),unhide HKL]
     refine ⟨some ⟨g9,0,none⟩,c9,by first|(rw [hln];done)|(rw [hln];rfl),?_,hb⟩
     rw[hln,hfin]
     exact hl
  ·by_cases q3:b=a
   ·subst q3
    obtain ⟨K,hK⟩: ∃K:List M4,K= [(1,0,0,1),(0,-1,1,1),(1,1,-1,0)]:=⟨_,rfl⟩
    have HRES:Hid (turnL b b b=K++K.map nM):=hide (by rw[hK];simp [turnL,nM,q2])
    have HK:=hide hK
    clear hK
    go_enter Tryz.func88,Tryz.ntmps88
    go_wp2_with (first|(go_at_call 84;refine (one_x  _).mono ?_;rintro e w' ⟨rfl,rfl⟩)|(at_builtin;refine app_ML2 _ rfl (.tmp 36) (.tmp 39) rfl w.heap.size (.slice (some ⟨w.heap.size+1+1,0,none⟩) 1 1) [(1,0,0,1)] (0) (-1) (1) (1) (1) (1) (-1) (0) (w.heap.size+1+1+1) rfl rfl ((ML.oneAt (w:=((w.alloc (.cells #[.int .i64 b,.int .i64 b,.int .i64 b] 25)).alloc (.cells #[.int .i64 1,.int .i64 0,.int .i64 0,.int .i64 1] 29))) (lo:=w.heap.size) (B:=w.heap.size+1+1) 1 0 0 1 (by simp) (by simp;omega)).alloc _) byCT byCT byCT byCT byCT byCT byCT byCT (by simp) (by simp;omega) ?_;intro g7 c7 w7 hM9 hgrow hat hlt7;have hb9:Below w.heap.size w w7:=Below.grown ((Below.refl _ _).alloc (Nat.le_refl _) _ |>.alloc (by simp) _ |>.alloc (by simp;omega) _ |>.alloc (by simp;omega) _) hgrow (by simp;omega) (fun k hk=>by simp [Value.ownBlock] at hk;omega);have hcap:=(hM9.ptr (by simp));obtain ⟨g6,hg6,hg5,hg4,hcap9⟩:=hcap;have hcap8:3≤c7:=hcap9;clear hcap9 hg6 hg5 hg4 hgrow hat;have hM9:ML w7 w.heap.size (.slice (some ⟨g7,0,none⟩) 3 c7) K:=by rw[unhide HK];exact hM9))
    have hst:=TnRel.start (w0:=w) hM9 hb9
    obtain ⟨g8,h8⟩: ∃g8,g8=g7:=⟨_,rfl⟩
    subst h8
    have hkl:K.length=3:=by rw[unhide HK];rfl
    have HS: ∀i,i<K.length→Hid ((-1≤(K.getD i m40).1∧(K.getD i m40).1≤1)∧(-1≤(K.getD i m40).2.1∧(K.getD i m40).2.1≤1)∧(-1≤(K.getD i m40).2.2.1∧(K.getD i m40).2.2.1≤1)∧(-1≤(K.getD i m40).2.2.2∧(K.getD i m40).2.2.2≤1)):=by
     intro i hi
     rw[hkl] at hi
     rw[unhide HK]
     apply hide
     rcases (show i=0∨i=1∨i=2 by omega) with rfl|rfl|rfl<;>(simp;done)
    have HS:=hide HS
    clear HK
    have HST:=hide hst
    clear hst
    have HKL:=hide hkl
    clear hkl
    go_loopw [3,48] (fun ls is wr=> ∃i:Nat,i≤3∧is= .int .i64 (i:Int)∧TnRel w wr g8 K 3 i ls) (fun _ is _=>3-(intOf is).toNat)
    case atStart=>exact ⟨0,by omega,rfl,unhide HST⟩
    case round=>
     clear HST
     obtain ⟨i,hi,rfl,g9,c9,rfl,hl,hk,hB,hb⟩:=hrel
     obtain ⟨wl,rfl⟩: ∃wl:World,wl=wr:=⟨_,rfl⟩
     have hzl:=hb.size
     by_cases q:i<3
     ·have hiK:i<K.length:=by rw[unhide HKL];exact q
      obtain ⟨d0,d1,d2,d3⟩:=hk i hiK
      obtain ⟨⟨b0,b1⟩,⟨b2,b3⟩,⟨b4,b5⟩,b6,b7⟩:=unhide (unhide HS i hiK)
      obtain ⟨m0,e0⟩: ∃x,x=(K.getD i m40).1:=⟨_,rfl⟩
      obtain ⟨m1,e1⟩: ∃x,x=(K.getD i m40).2.1:=⟨_,rfl⟩
      obtain ⟨m2,e2⟩: ∃x,x=(K.getD i m40).2.2.1:=⟨_,rfl⟩
      obtain ⟨m3,e3⟩: ∃x,x=(K.getD i m40).2.2.2:=⟨_,rfl⟩
      rw[←e0] at d0 b0 b1
      rw[←e1] at d1 b2 b3
      rw[←e2] at d2 b4 b5
      rw[←e3] at d3 b6 b7
      have HN:Hid (nM (K.getD i m40)=(-m0,-m1,-m2,-m3)):=hide (by rw[e0,e1,e2,e3];rfl)
      clear e0 e1 e2 e3
      have hi0:(i:Int)<3:=by omega
      have HKA:=hide hk
      have HL:=hide hl
      have HB:=hide hB
      have HI:=hide hiK
      have hlt9:=hl.lt g9 rfl
      have hne1: ¬wl.heap.size=g8:=by omega
      clear hk hl hiK
      go_wp2_with (at_builtin;refine app_turn _ rfl (.tmp 52) (.tmp 66) rfl w.heap.size K 3 i g9 c9 (-m0) (-m1) (-m2) (-m3) (wl.heap.size+1) rfl rfl (((unhide HL).alloc _).alloc _) (unhide HKL) q (by omega) byCT byCT byCT byCT (by simp;omega) ?_;intro g8 c8 w8 hown hgrow hat hlt8)
      go_roundw
      case rel=>first|exact ⟨i+1,by omega,by first|rfl|go_num,TnRel.next (unhide HL) (unhide HKA) (unhide HB) (by rw[heap_alloc_old _ _ (by simp;omega),heap_alloc_old _ _ (by omega)]) (by simp;omega) (unhide HI) (by rw[unhide HN];exact hown) hgrow hat (Below.grown ((hb.alloc hzl _).alloc (by simp;omega) _) hgrow (by simp;omega) (fun k hk=>by injection hk with hk;omega))⟩|((repeat apply Exists.intro);exact ⟨⟨i+1,by omega,by first|rfl|go_num,TnRel.next (unhide HL) (unhide HKA) (unhide HB) (by rw[heap_alloc_old _ _ (by simp;omega),heap_alloc_old _ _ (by omega)]) (by simp;omega) (unhide HI) (by rw[unhide HN];exact hown) hgrow hat (Below.grown ((hb.alloc hzl _).alloc (by simp;omega) _) hgrow (by simp;omega) (fun k hk=>by injection hk with hk;omega))⟩,rfl⟩)
      case measure=>simp [intOf];omega
     ·obtain rfl:i=3:=by omega
      go_wp2
      go_ret
      have hfin:turnL b b b=K++(K.take 3).map nM:=by rw[unhide HRES,List.take_of_length_le (by rw[unhide HKL];omega)]
      have hln:(turnL b b b).length=3+3:=by rw[hfin,neg_len _ _ (by rw[unhide HKL];omega),unhide HKL]
      refine ⟨some ⟨g9,0,none⟩,c9,by first|(rw [hln];done)|(rw [hln];rfl),?_,hb⟩
      rw[hln,hfin]
      exact hl
   ·skip
    have k2:(b==0)=false:=by simpa using q2
    have k3:(b==a)=false:=by simpa using q3
    obtain ⟨K,hK⟩: ∃K:List M4,K= [(1,0,0,1)]:=⟨_,rfl⟩
    have HRES:Hid (turnL a b a=K++K.map nM):=hide (by rw[hK];simp [turnL,nM,q2,q3])
    have HK:=hide hK
    clear hK
    go_enter Tryz.func88,Tryz.ntmps88
    go_wp2_with (go_at_call 84;refine (one_x  _).mono ?_;rintro e w' ⟨rfl,rfl⟩)
    have HM:=ML.one (w:=((w.alloc (.cells #[.int .i64 a,.int .i64 b,.int .i64 a] 25)).alloc (.cells #[.int .i64 1,.int .i64 0,.int .i64 0,.int .i64 1] 29))) (lo:=w.heap.size) 1 0 0 1 (by simp;omega)
    rw[←unhide HK] at HM
    have hst:=TnRel.start (w0:=w) HM byGG
    clear HM
    have e2:((w.alloc (.cells #[.int .i64 a,.int .i64 b,.int .i64 a] 25)).alloc (.cells #[.int .i64 1,.int .i64 0,.int .i64 0,.int .i64 1] 29)).heap.size=w.heap.size+1+1:=by simp
    rw[e2] at hst
    clear e2
    have hkl:K.length=1:=by rw[unhide HK];rfl
    have HS: ∀i,i<K.length→Hid ((-1≤(K.getD i m40).1∧(K.getD i m40).1≤1)∧(-1≤(K.getD i m40).2.1∧(K.getD i m40).2.1≤1)∧(-1≤(K.getD i m40).2.2.1∧(K.getD i m40).2.2.1≤1)∧(-1≤(K.getD i m40).2.2.2∧(K.getD i m40).2.2.2≤1)):=by
     intro i hi
     rw[hkl] at hi
     rw[unhide HK]
     apply hide
     rcases (show i=0 by omega) with rfl<;>(simp;done)
    have HS:=hide HS
    clear HK
    have HST:=hide hst
    clear hst
    have HKL:=hide hkl
    clear hkl
    go_loopw [3,48] (fun ls is wr=> ∃i:Nat,i≤1∧is= .int .i64 (i:Int)∧TnRel w wr (w.heap.size+1+1) K 1 i ls) (fun _ is _=>1-(intOf is).toNat)
    case atStart=>exact ⟨0,by omega,rfl,unhide HST⟩
    case round=>
     clear HST
     obtain ⟨i,hi,rfl,g9,c9,rfl,hl,hk,hB,hb⟩:=hrel
     obtain ⟨wl,rfl⟩: ∃wl:World,wl=wr:=⟨_,rfl⟩
     have hzl:=hb.size
     by_cases q:i<1
     ·have hiK:i<K.length:=by rw[unhide HKL];exact q
      obtain ⟨d0,d1,d2,d3⟩:=hk i hiK
      obtain ⟨⟨b0,b1⟩,⟨b2,b3⟩,⟨b4,b5⟩,b6,b7⟩:=unhide (unhide HS i hiK)
      obtain ⟨m0,e0⟩: ∃x,x=(K.getD i m40).1:=⟨_,rfl⟩
      obtain ⟨m1,e1⟩: ∃x,x=(K.getD i m40).2.1:=⟨_,rfl⟩
      obtain ⟨m2,e2⟩: ∃x,x=(K.getD i m40).2.2.1:=⟨_,rfl⟩
      obtain ⟨m3,e3⟩: ∃x,x=(K.getD i m40).2.2.2:=⟨_,rfl⟩
      rw[←e0] at d0 b0 b1
      rw[←e1] at d1 b2 b3
      rw[←e2] at d2 b4 b5
      rw[←e3] at d3 b6 b7
      have HN:Hid (nM (K.getD i m40)=(-m0,-m1,-m2,-m3)):=hide (by rw[e0,e1,e2,e3];rfl)
      clear e0 e1 e2 e3
      have hi0:(i:Int)<1:=by omega
      have HKA:=hide hk
      have HL:=hide hl
      have HB:=hide hB
      have HI:=hide hiK
      have hlt9:=hl.lt g9 rfl
      have hne1: ¬wl.heap.size=(w.heap.size+1+1):=by omega
      clear hk hl hiK
      go_wp2_with (at_builtin;refine app_turn _ rfl (.tmp 52) (.tmp 66) rfl w.heap.size K 1 i g9 c9 (-m0) (-m1) (-m2) (-m3) (wl.heap.size+1) rfl rfl (((unhide HL).alloc _).alloc _) (unhide HKL) q (by omega) byCT byCT byCT byCT (by simp;omega) ?_;intro g8 c8 w8 hown hgrow hat hlt8)
      go_roundw
      case rel=>first|exact ⟨i+1,by omega,by first|rfl|go_num,TnRel.next (unhide HL) (unhide HKA) (unhide HB) (by rw[heap_alloc_old _ _ (by simp;omega),heap_alloc_old _ _ (by omega)]) (by simp;omega) (unhide HI) (by rw[unhide HN];exact hown) hgrow hat (Below.grown ((hb.alloc hzl _).alloc (by simp;omega) _) hgrow (by simp;omega) (fun k hk=>by injection hk with hk;omega))⟩|((repeat apply Exists.intro);exact ⟨⟨i+1,by omega,by first|rfl|go_num,TnRel.next (unhide HL) (unhide HKA) (unhide HB) (by rw[heap_alloc_old _ _ (by simp;omega),heap_alloc_old _ _ (by omega)]) (by simp;omega) (unhide HI) (by rw[unhide HN];exact hown) hgrow hat (Below.grown ((hb.alloc hzl _).alloc (by simp;omega) _) hgrow (by simp;omega) (fun k hk=>by injection hk with hk;omega))⟩,rfl⟩)
      case measure=>simp [intOf];omega
     ·obtain rfl:i=1:=by omega
      go_wp2
      go_ret
      have hfin:turnL a b a=K++(K.take 1).map nM:=by rw[unhide HRES,List.take_of_length_le (by rw[unhide HKL];omega)]
      have hln:(turnL a b a).length=1+1:=by rw[hfin,neg_len _ _ (by rw[unhide HKL];omega),unhide HKL]
      refine ⟨some ⟨g9,0,none⟩,c9,by first|(rw [hln];done)|(rw [hln];rfl),?_,hb⟩
      rw[hln,hfin]
      exact hl
 ·skip
  obtain ⟨K,hK⟩: ∃K:List M4,K= [(1,0,0,1)]:=⟨_,rfl⟩
  have HRES:Hid (turnL a b c=K++K.map nM):=hide (by rw[hK];simp [turnL,nM,q1])
  have HK:=hide hK
  clear hK
  go_enter Tryz.func88,Tryz.ntmps88
  go_wp2_with (go_at_call 84;refine (one_x  _).mono ?_;rintro e w' ⟨rfl,rfl⟩)
  have HM:=ML.one (w:=((w.alloc (.cells #[.int .i64 a,.int .i64 b,.int .i64 c] 25)).alloc (.cells #[.int .i64 1,.int .i64 0,.int .i64 0,.int .i64 1] 29))) (lo:=w.heap.size) 1 0 0 1 (by simp;omega)
  rw[←unhide HK] at HM
  have hst:=TnRel.start (w0:=w) HM byGG
  clear HM
  have e2:((w.alloc (.cells #[.int .i64 a,.int .i64 b,.int .i64 c] 25)).alloc (.cells #[.int .i64 1,.int .i64 0,.int .i64 0,.int .i64 1] 29)).heap.size=w.heap.size+1+1:=by simp
  rw[e2] at hst
  clear e2
  have hkl:K.length=1:=by rw[unhide HK];rfl
  have HS: ∀i,i<K.length→Hid ((-1≤(K.getD i m40).1∧(K.getD i m40).1≤1)∧(-1≤(K.getD i m40).2.1∧(K.getD i m40).2.1≤1)∧(-1≤(K.getD i m40).2.2.1∧(K.getD i m40).2.2.1≤1)∧(-1≤(K.getD i m40).2.2.2∧(K.getD i m40).2.2.2≤1)):=by
   intro i hi
   rw[hkl] at hi
   rw[unhide HK]
   apply hide
   rcases (show i=0 by omega) with rfl<;>(simp;done)
  have HS:=hide HS
  clear HK
  have HST:=hide hst
  clear hst
  have HKL:=hide hkl
  clear hkl
  go_loopw [3,48] (fun ls is wr=> ∃i:Nat,i≤1∧is= .int .i64 (i:Int)∧TnRel w wr (w.heap.size+1+1) K 1 i ls) (fun _ is _=>1-(intOf is).toNat)
  case atStart=>exact ⟨0,by omega,rfl,unhide HST⟩
  case round=>
   clear HST
   obtain ⟨i,hi,rfl,g9,c9,rfl,hl,hk,hB,hb⟩:=hrel
   obtain ⟨wl,rfl⟩: ∃wl:World,wl=wr:=⟨_,rfl⟩
   have hzl:=hb.size
   by_cases q:i<1
   ·have hiK:i<K.length:=by rw[unhide HKL];exact q
    obtain ⟨d0,d1,d2,d3⟩:=hk i hiK
    obtain ⟨⟨b0,b1⟩,⟨b2,b3⟩,⟨b4,b5⟩,b6,b7⟩:=unhide (unhide HS i hiK)
    obtain ⟨m0,e0⟩: ∃x,x=(K.getD i m40).1:=⟨_,rfl⟩
    obtain ⟨m1,e1⟩: ∃x,x=(K.getD i m40).2.1:=⟨_,rfl⟩
    obtain ⟨m2,e2⟩: ∃x,x=(K.getD i m40).2.2.1:=⟨_,rfl⟩
    obtain ⟨m3,e3⟩: ∃x,x=(K.getD i m40).2.2.2:=⟨_,rfl⟩
    rw[←e0] at d0 b0 b1
    rw[←e1] at d1 b2 b3
    rw[←e2] at d2 b4 b5
    rw[←e3] at d3 b6 b7
    have HN:Hid (nM (K.getD i m40)=(-m0,-m1,-m2,-m3)):=hide (by rw[e0,e1,e2,e3];rfl)
    clear e0 e1 e2 e3
    have hi0:(i:Int)<1:=by omega
    have HKA:=hide hk
    have HL:=hide hl
    have HB:=hide hB
    have HI:=hide hiK
    have hlt9:=hl.lt g9 rfl
    have hne1: ¬wl.heap.size=(w.heap.size+1+1):=by omega
    clear hk hl hiK
    go_wp2_with (at_builtin;refine app_turn _ rfl (.tmp 52) (.tmp 66) rfl w.heap.size K 1 i g9 c9 (-m0) (-m1) (-m2) (-m3) (wl.heap.size+1) rfl rfl (((unhide HL).alloc _).alloc _) (unhide HKL) q (by omega) byCT byCT byCT byCT (by simp;omega) ?_;intro g8 c8 w8 hown hgrow hat hlt8)
    go_roundw
    case rel=>first|exact ⟨i+1,by omega,by first|rfl|go_num,TnRel.next (unhide HL) (unhide HKA) (unhide HB) (by rw[heap_alloc_old _ _ (by simp;omega),heap_alloc_old _ _ (by omega)]) (by simp;omega) (unhide HI) (by rw[unhide HN];exact hown) hgrow hat (Below.grown ((hb.alloc hzl _).alloc (by simp;omega) _) hgrow (by simp;omega) (fun k hk=>by injection hk with hk;omega))⟩|((repeat apply Exists.intro);exact ⟨⟨i+1,by omega,by first|rfl|go_num,TnRel.next (unhide HL) (unhide HKA) (unhide HB) (by rw[heap_alloc_old _ _ (by simp;omega),heap_alloc_old _ _ (by omega)]) (by simp;omega) (unhide HI) (by rw[unhide HN];exact hown) hgrow hat (Below.grown ((hb.alloc hzl _).alloc (by simp;omega) _) hgrow (by simp;omega) (fun k hk=>by injection hk with hk;omega))⟩,rfl⟩)
    case measure=>simp [intOf];omega
   ·obtain rfl:i=1:=by omega
    go_wp2
    go_ret
    have hfin:turnL a b c=K++(K.take 1).map nM:=by rw[unhide HRES,List.take_of_length_le (by rw[unhide HKL];omega)]
    have hln:(turnL a b c).length=1+1:=by rw[hfin,neg_len _ _ (by rw[unhide HKL];omega),unhide HKL]
    refine ⟨some ⟨g9,0,none⟩,c9,by first|(rw [hln];done)|(rw [hln];rfl),?_,hb⟩
    rw[hln,hfin]
    exact hl
end Go.Proofs.YtobkcnmlmmhpoaaGreat
