/- ProjectivePoints on both sides, and the law's walk. -/
import Derived.Test.YtobkcnmlmmhpoaaGreatLevel2
import Derived.Test.YtobkcnmlmmhpoaaGreatPointS
namespace Go.Proofs.YtobkcnmlmmhpoaaGreat
open Go.RowKit
set_option linter.unusedVariables false
set_option linter.unusedSimpArgs false
attribute [local go_sem] q2 q3 q4 q5 q6 q7 q8 q9 q10 q11 q12

def fpN (p:Nat→Bool) (e1 e2:Nat→Int):Nat→List Int
 |0=> []
 |k+1=>if p k then fpN p e1 e2 k++ [e1 k,e2 k] else fpN p e1 e2 k
def fcN (p:Nat→Bool):Nat→Nat
 |0=>0
 |k+1=>if p k then fcN p k+1 else fcN p k
theorem fpN_yes {p:Nat→Bool} {e1 e2:Nat→Int} {k:Nat} (h:p k=true):fpN p e1 e2 (k+1)=fpN p e1 e2 k++ [e1 k,e2 k]:=by rw[fpN,if_pos h]
theorem fpN_no {p:Nat→Bool} {e1 e2:Nat→Int} {k:Nat} (h:p k=false):fpN p e1 e2 (k+1)=fpN p e1 e2 k:=by rw[fpN,if_neg (by rw[h];simp)]
theorem fcN_yes {p:Nat→Bool} {k:Nat} (h:p k=true):fcN p (k+1)=fcN p k+1:=by rw[fcN,if_pos h]
theorem fcN_no {p:Nat→Bool} {k:Nat} (h:p k=false):fcN p (k+1)=fcN p k:=by rw[fcN,if_neg (by rw[h];simp)]
theorem fcN_le (p:Nat→Bool) (k:Nat):fcN p k≤k:=by
 induction k with
 |zero=>exact Nat.le_refl _
 |succ k ih=>rw[fcN];split<;>omega
def ppI (n x y:Int):Bool:=(contI x y n==1)&&(lpX x y n==x&&lpY x y n==y)
def ppP (m:Nat) (k:Nat):Bool:=ppI m ((k / m:Nat):Int) ((k%m:Nat):Int)
def ppE1 (m k:Nat):Int:=((k / m:Nat):Int)
def ppE2 (m k:Nat):Int:=((k%m:Nat):Int)
theorem ppP_at {m x y:Nat} (hy:y<m):ppP m (x*m+y)=ppI m x y∧ppE1 m (x*m+y)=(x:Int)∧ppE2 m (x*m+y)=(y:Int):=by
 have h1:(x*m+y) / m=x:=by rw[Nat.add_comm,Nat.add_mul_div_right _ _ (by omega),Nat.div_eq_of_lt hy];omega
 have h2:(x*m+y)%m=y:=by rw[Nat.add_comm,Nat.add_mul_mod_self_right];exact Nat.mod_eq_of_lt hy
 unfold ppP ppE1 ppE2
 rw[h1,h2]
 exact ⟨rfl,rfl,rfl⟩
def ppK (m x y:Nat):Nat:=x*m+y
def ppL (m k:Nat):List Int:=fpN (ppP m) (ppE1 m) (ppE2 m) k
def ppC (m k:Nat):Nat:=fcN (ppP m) k
theorem pp_no1 {m x y:Nat} (hy:y<m) (h:ppI m x y=false):ppL m (ppK m x (y+1))=ppL m (ppK m x y)∧ppC m (ppK m x (y+1))=ppC m (ppK m x y):=by
 obtain ⟨a,b,c⟩:=ppP_at (x:=x) hy
 exact ⟨fpN_no (k:=x*m+y) (a.trans h),fcN_no (k:=x*m+y) (a.trans h)⟩
theorem pp_yes1 {m x y:Nat} (hy:y<m) (h:ppI m x y=true):ppL m (ppK m x (y+1))=ppL m (ppK m x y)++ [(x:Int),(y:Int)]∧ppC m (ppK m x (y+1))=ppC m (ppK m x y)+1:=by
 obtain ⟨a,b,c⟩:=ppP_at (x:=x) hy
 have h1:=fpN_yes (e1:=ppE1 m) (e2:=ppE2 m) (k:=x*m+y) (a.trans h)
 rw[b,c] at h1
 exact ⟨h1,fcN_yes (k:=x*m+y) (a.trans h)⟩
theorem ppK_row {m x:Nat} :ppK m x m=ppK m (x+1) 0:=by unfold ppK;rw [Nat.add_mul];omega
theorem ppC_le {m x y:Nat} (hx:x≤m) (hy:y≤m) (hm:m≤30):ppC m (ppK m x y)≤930:=by
 have h1:=fcN_le (ppP m) (ppK m x y)
 have h2:x*m≤30*30:=Nat.mul_le_mul (by omega) hm
 unfold ppC;unfold ppK at *;omega
def ppN (n:Int):Nat:=if inB n 1 30 then ppC n.toNat (ppK n.toNat n.toNat 0) else 0
def ppF (n:Int) (i:Nat):Int:=(ppL n.toNat (ppK n.toNat n.toNat 0)).getD i 0
theorem ppN_le (n:Int):ppN n≤100000000:=by
 unfold ppN
 split
 ·rename_i h
  obtain ⟨h0,h1⟩:=inB_true h
  have:=ppC_le (m:=n.toNat) (x:=n.toNat) (y:=0) (Nat.le_refl _) (by omega) (by omega)
  omega
 ·omega
theorem ppN_no {n:Int} (h:inB n 1 30=false):ppN n=0:=by simp [ppN,h]
theorem ppN_yes {m:Nat} (h:inB (m:Int) 1 30=true):ppN (m:Int)=ppC m (ppK m m 0):=by simp [ppN,h]
theorem gcd_small {x n:Int} (h0:0≤n) (h1:n≤30) (hx:0≤x) (h2:x≤30):0≤igcd x n∧igcd x n≤30:=by
 refine ⟨igcd_nonneg _ _,?_⟩
 unfold igcd
 by_cases h:x=0
 ·subst h;simp;omega
 ·have:=Nat.le_of_dvd (by omega) (Int.gcd_dvd_natAbs_left x n);omega

set_option maxRecDepth 100000 in
set_option maxHeartbeats 4000000 in
theorem implProjectivePoints_a (n:Int) (w:World):
  Calls Tryz.prog 18 #[.int .i64 n] w (RetPoints w (ppN n) (ppF n) (inB n 1 30)):=by
 cases h:inB n 1 30
 ·rw [ppN_no h]
  have hh:=inB_false h
  by_cases q:n<1
  ·go_enter Tryz.func18,Tryz.ntmps18
   go_wp2_with fail
   go_ret2
   exact ⟨_,_,rfl,.inl rfl,(Below.refl _ _).alloc (Nat.le_refl _) _⟩
  ·have q2:30<n:=by omega
   go_enter Tryz.func18,Tryz.ntmps18
   go_wp2_with fail
   go_ret2
   exact ⟨_,_,rfl,.inl rfl,(Below.refl _ _).alloc (Nat.le_refl _) _⟩
 ·obtain ⟨h0,h1⟩:=inB_true h
  obtain ⟨m,rfl⟩:=Int.eq_ofNat_of_zero_le (by omega:0≤n)
  rw[ppN_yes h]
  have hm:m≤30:=by omega
  go_enter Tryz.func18,Tryz.ntmps18
  go_wp2_with fail
  go_loopw [4,5] (fun ls xs wr=> ∃(x:Nat),x≤m∧xs= .int .i64 (x:Int)∧ ∃(a:Option Addr) (c:Nat),ls= .slice a (ppC m (ppK m x 0)) c∧PointL wr w.heap.size (.slice a (ppC m (ppK m x 0)) c) (ppC m (ppK m x 0)) (ppL m (ppK m x 0))∧Below w.heap.size w wr) (fun _ xs _=>m-(intOf xs).toNat)
  case atStart=>exact ⟨0,by omega,rfl,some ⟨w.heap.size,0,none⟩,0,by simp [ppK,ppC,fcN],by simpa [ppK,ppC,fcN,ppL,fpN] using (PointL.made w _ (Nat.le_refl _)),(Below.refl _ _).alloc (Nat.le_refl _) _⟩
  case round=>
   obtain ⟨x,hx,rfl,a,c,rfl,hl,hb⟩:=hrel
   obtain ⟨wo,rfl⟩: ∃wo:World,wo=wr:=⟨_,rfl⟩
   by_cases c1:x<m
   ·have hlt:(x:Int)<(m:Int):=by omega
    go_wp2
    go_loopw [4,6,7] (fun ls ys _ wr=> ∃(y:Nat),y≤m∧ys= .int .i64 (y:Int)∧ ∃(a:Option Addr) (c:Nat),ls= .slice a (ppC m (ppK m x y)) c∧PointL wr w.heap.size (.slice a (ppC m (ppK m x y)) c) (ppC m (ppK m x y)) (ppL m (ppK m x y))∧Below w.heap.size w wr) (fun _ ys _ _=>m-(intOf ys).toNat)
    case atStart=>exact ⟨0,by omega,rfl,a,c,rfl,hl,hb⟩
    case round=>
     clear hl hb
     obtain ⟨y,hy,rfl,a,c,rfl,hl,hb⟩:=hrel
     obtain ⟨w1,rfl⟩: ∃w1:World,w1=wr:=⟨_,rfl⟩
     have hz:=hb.size
     have hC:=ppC_le (m:=m) (x:=x) (y:=y) (by omega) hy hm
     by_cases hym:y<m
     ·have hlt2:(y:Int)<(m:Int):=by omega
      have hgs:=gcd_small (x:=(y:Int)) (n:=(m:Int)) (by omega) (by omega) (by omega) (by omega)
      by_cases k1:contI (x:Int) (y:Int) (m:Int)=1
      ·by_cases k2:lpX (x:Int) (y:Int) (m:Int)=(x:Int)
       ·by_cases k3:lpY (x:Int) (y:Int) (m:Int)=(y:Int)
        ·obtain ⟨el,ec⟩:=pp_yes1 (x:=x) hym (by simp [ppI,k1,k2,k3])
         have EL:=hide el
         have EC:=hide ec
         clear el ec
         go_upto_region 11 with fail
         go_cut [41] (fun s41 wx=>s41= .bool true∧wx.cell? ⟨w1.heap.size,0,none⟩=some (.int .i64 ((x:Int)))∧wx.cell? ⟨w1.heap.size,1,none⟩=some (.int .i64 ((y:Int)))∧Below w1.heap.size w1 wx)
         case first=>
          rename_i Q1 K1 h1 J1 K2 h2 h3
          refine region_inv2 (by kernel_rfl) (fun j=> #[29,30,31,32,33,34,35,36,37,38,39,40,41].getD j 0) (fun j=>Kd.ok ((fun j=>match j with|0=>Kd.val (.int .i64 ((x:Int)))|1=>Kd.val (.int .i64 ((y:Int)))|2=>Kd.val (.int .i64 ((m:Int)))|3=>Kd.val (.int .i64 (igcd (y:Int) (m:Int)))|4=>Kd.val (.int .i64 (contI (x:Int) (y:Int) (m:Int)))|5=>Kd.val (.bool true)|6=>Kd.val (.bool true)|7=>Kd.val (.agg #[.int .i64 ((x:Int)),.int .i64 ((y:Int))])|8=>Kd.val (.int .i64 ((m:Int)))|9=>Kd.val (.agg #[.int .i64 (lpX (x:Int) (y:Int) (m:Int)),.int .i64 (lpY (x:Int) (y:Int) (m:Int))])|10=>Kd.val (.agg #[.int .i64 ((x:Int)),.int .i64 ((y:Int))])|11=>Kd.val (.bool true)|12=>Kd.val (.bool true)|_=>Kd.any:Nat→Kd) j)) (Sy w1 (w1.heap.size+1) [(⟨w1.heap.size,0,none⟩,.int .i64 ((x:Int))),(⟨w1.heap.size,1,none⟩,.int .i64 ((y:Int)))] []) (fun j=> #[true,true,true,true,true,true,true,true,true,true,true,true,true].getD j true) (by kernel_rfl) ?_ ?_ ?_ ?_ ?_ ?_
          ·intro j hj
           have hj2:j<13:=hj
           have: ∀j,j<13→(#[29,30,31,32,33,34,35,36,37,38,39,40,41]:Array Nat).getD j 0<47:=by decide
           exact this j hj2
          ·intro i o ho
           match i,ho with
           |0,ho=>cases ho;intro aq wq hd;exact wanted_free rfl
           |1,ho=>cases ho;intro aq wq hd;exact wanted_free rfl
           |2,ho=>cases ho;intro aq wq hd;exact wanted_free rfl
           |3,ho=>cases ho;intro aq wq hd;exact wanted_free rfl
           |4,ho=>cases ho;intro aq wq hd;exact wanted_free rfl
           |5,ho=>cases ho;intro aq wq hd;exact wanted_free rfl
           |6,ho=>cases ho;intro aq wq hd;exact wanted_free rfl
           |7,ho=>cases ho;intro aq wq hd;exact wanted_of (j:=6) (t:=35) (want:=true) (b:=true) rfl rfl (hd 6 (by decide +kernel))
           |8,ho=>cases ho;intro aq wq hd;exact wanted_of (j:=6) (t:=35) (want:=true) (b:=true) rfl rfl (hd 6 (by decide +kernel))
           |9,ho=>cases ho;intro aq wq hd;exact wanted_of (j:=6) (t:=35) (want:=true) (b:=true) rfl rfl (hd 6 (by decide +kernel))
           |10,ho=>cases ho;intro aq wq hd;exact wanted_of (j:=6) (t:=35) (want:=true) (b:=true) rfl rfl (hd 6 (by decide +kernel))
           |11,ho=>cases ho;intro aq wq hd;exact wanted_of (j:=6) (t:=35) (want:=true) (b:=true) rfl rfl (hd 6 (by decide +kernel))
           |12,ho=>cases ho;intro aq wq hd;exact wanted_free rfl
           |i+13,ho=>exact absurd ho (by simp)
          ·refine Sy.drew (Sy.mk_of ?_ ?_ ?_ ?_)
           ·first|rfl|(simp;done)|(simp;omega)
           ·intro c hc
            simp only[List.mem_cons,List.not_mem_nil,or_false] at hc
            rcases hc with rfl|rfl<;>first|assumption|(go_simp;done)
           ·intro p hp;cases hp
           ·(repeat' (first|(with_reducible exact Below.refl _ _)|(with_reducible assumption)|(with_reducible refine gr_alloc ?_ _)|(with_reducible refine below_drewN ?_ _)|(with_reducible refine below_drew ?_)|(with_reducible refine gr_call ?_ (by assumption))|(with_reducible refine Below.setCell ?_ ?_ _)|go_size|omega|(simp;omega)))
          ·clear h1 h2 h3
           intro i o ho
           match i,ho with
           |0,ho=>
            cases ho
            intro _ aq wx Kq hf hS hdep hw hK
            have F5:aq.eval (.tmp 5)= .int .i64 ((x:Int)):=hf 5 (by decide +kernel)
            clear hf hw hdep
            have ev1:=ev_const aq
            have ev2:=ev_func aq
            unfold Oper.wp
            generalize Act.eval _=ev at*
            go_simp
            refine hK _ _ hS ?_ (fun j u _ h=>h)
            rw[if_pos (by rfl)]
            show (_:Value)=_
            first|rfl|(refine congrArg (Value.int IntKind.i64) ?_;first|rfl|exact int_in (by omega)|exact quo_in (by omega) (by omega) (by omega)|exact rem_in (by omega) (by omega)|omega|exact cont_alt _ _ _)|(simp;done)|(simp [*];done)
           |1,ho=>
            cases ho
            intro _ aq wx Kq hf hS hdep hw hK
            have F6:aq.eval (.tmp 6)= .int .i64 ((y:Int)):=hf 6 (by decide +kernel)
            clear hf hw hdep
            have ev1:=ev_const aq
            have ev2:=ev_func aq
            unfold Oper.wp
            generalize Act.eval _=ev at*
            go_simp
            refine hK _ _ hS ?_ (fun j u _ h=>h)
            rw[if_pos (by rfl)]
            show (_:Value)=_
            first|rfl|(refine congrArg (Value.int IntKind.i64) ?_;first|rfl|exact int_in (by omega)|exact quo_in (by omega) (by omega) (by omega)|exact rem_in (by omega) (by omega)|omega|exact cont_alt _ _ _)|(simp;done)|(simp [*];done)
           |2,ho=>
            cases ho
            intro _ aq wx Kq hf hS hdep hw hK
            have F0:aq.eval (.tmp 0)= .int .i64 ((m:Int)):=hf 0 (by decide +kernel)
            clear hf hw hdep
            have ev1:=ev_const aq
            have ev2:=ev_func aq
            unfold Oper.wp
            generalize Act.eval _=ev at*
            go_simp
            refine hK _ _ hS ?_ (fun j u _ h=>h)
            rw[if_pos (by rfl)]
            show (_:Value)=_
            first|rfl|(refine congrArg (Value.int IntKind.i64) ?_;first|rfl|exact int_in (by omega)|exact quo_in (by omega) (by omega) (by omega)|exact rem_in (by omega) (by omega)|omega|exact cont_alt _ _ _)|(simp;done)|(simp [*];done)
           |3,ho=>
            cases ho
            intro _ aq wx Kq hf hS hdep hw hK
            have D1:aq.eval (.tmp 30)=_:=hdep 1 (by decide +kernel)
            have D2:aq.eval (.tmp 31)=_:=hdep 2 (by decide +kernel)
            clear hf hw hdep
            have ev1:=ev_const aq
            have ev2:=ev_func aq
            unfold Oper.wp
            generalize Act.eval _=ev at*
            go_simp
            refine ((gcd_a _ _ _ (by omega) (by omega))).mono ?_
            rintro e w2 ⟨rfl,nq,rfl⟩
            refine hK _ _ (hS.call (below_drewN_self _ _)) ?_ (fun j u _ h=>Kd.ok_below (below_drewN_self _ _) h)
            rw[if_pos (by rfl)]
            show (_:Value)=_
            first|rfl|(refine congrArg (Value.int IntKind.i64) ?_;first|rfl|exact int_in (by omega)|exact quo_in (by omega) (by omega) (by omega)|exact rem_in (by omega) (by omega)|omega|exact cont_alt _ _ _)|(simp;done)|(simp [*];done)
           |4,ho=>
            cases ho
            intro _ aq wx Kq hf hS hdep hw hK
            have D0:aq.eval (.tmp 29)=_:=hdep 0 (by decide +kernel)
            have D3:aq.eval (.tmp 32)=_:=hdep 3 (by decide +kernel)
            clear hf hw hdep
            have ev1:=ev_const aq
            have ev2:=ev_func aq
            unfold Oper.wp
            generalize Act.eval _=ev at*
            go_simp
            refine ((gcd_a _ _ _ (by omega) (by omega))).mono ?_
            rintro e w2 ⟨rfl,nq,rfl⟩
            refine hK _ _ (hS.call (below_drewN_self _ _)) ?_ (fun j u _ h=>Kd.ok_below (below_drewN_self _ _) h)
            rw[if_pos (by rfl)]
            show (_:Value)=_
            first|rfl|(refine congrArg (Value.int IntKind.i64) ?_;first|rfl|exact int_in (by omega)|exact quo_in (by omega) (by omega) (by omega)|exact rem_in (by omega) (by omega)|omega|exact cont_alt _ _ _)|(simp;done)|(simp [*];done)
           |5,ho=>
            cases ho
            intro _ aq wx Kq hf hS hdep hw hK
            have D4:aq.eval (.tmp 33)=_:=hdep 4 (by decide +kernel)
            clear hf hw hdep
            have ev1:=ev_const aq
            have ev2:=ev_func aq
            unfold Oper.wp
            generalize Act.eval _=ev at*
            go_simp
            refine hK _ _ hS ?_ (fun j u _ h=>h)
            rw[if_pos (by rfl)]
            show (_:Value)=_
            first|rfl|(refine congrArg (Value.int IntKind.i64) ?_;first|rfl|exact int_in (by omega)|exact quo_in (by omega) (by omega) (by omega)|exact rem_in (by omega) (by omega)|omega|exact cont_alt _ _ _)|(simp;done)|(simp [*];done)
           |6,ho=>
            cases ho
            intro _ aq wx Kq hf hS hdep hw hK
            have D5:aq.eval (.tmp 34)=_:=hdep 5 (by decide +kernel)
            clear hf hw hdep
            have ev1:=ev_const aq
            have ev2:=ev_func aq
            unfold Oper.wp
            generalize Act.eval _=ev at*
            go_simp
            refine hK _ _ hS ?_ (fun j u _ h=>h)
            rw[if_pos (by rfl)]
            show (_:Value)=_
            first|rfl|(refine congrArg (Value.int IntKind.i64) ?_;first|rfl|exact int_in (by omega)|exact quo_in (by omega) (by omega) (by omega)|exact rem_in (by omega) (by omega)|omega|exact cont_alt _ _ _)|(simp;done)|(simp [*];done)
           |7,ho=>
            cases ho
            intro _ aq wx Kq hf hS hdep hw hK
            have F7:aq.eval (.tmp 7)= .pointer (some ⟨w1.heap.size,0,none⟩):=hf 7 (by decide +kernel)
            have c0:=hS.cells (⟨w1.heap.size,0,none⟩,.int .i64 ((x:Int))) (by simp)
            have c1:=hS.cells (⟨w1.heap.size,1,none⟩,.int .i64 ((y:Int))) (by simp)
            clear hf hw hdep
            have ev1:=ev_const aq
            have ev2:=ev_func aq
            unfold Oper.wp
            generalize Act.eval _=ev at*
            go_simp
            refine hK _ _ hS ?_ (fun j u _ h=>h)
            rw[if_pos (by rfl)]
            show (_:Value)=_
            first|rfl|(refine congrArg (Value.int IntKind.i64) ?_;first|rfl|exact int_in (by omega)|exact quo_in (by omega) (by omega) (by omega)|exact rem_in (by omega) (by omega)|omega|exact cont_alt _ _ _)|(simp;done)|(simp [*];done)
           |8,ho=>
            cases ho
            intro _ aq wx Kq hf hS hdep hw hK
            have F0:aq.eval (.tmp 0)= .int .i64 ((m:Int)):=hf 0 (by decide +kernel)
            clear hf hw hdep
            have ev1:=ev_const aq
            have ev2:=ev_func aq
            unfold Oper.wp
            generalize Act.eval _=ev at*
            go_simp
            refine hK _ _ hS ?_ (fun j u _ h=>h)
            rw[if_pos (by rfl)]
            show (_:Value)=_
            first|rfl|(refine congrArg (Value.int IntKind.i64) ?_;first|rfl|exact int_in (by omega)|exact quo_in (by omega) (by omega) (by omega)|exact rem_in (by omega) (by omega)|omega|exact cont_alt _ _ _)|(simp;done)|(simp [*];done)
           |9,ho=>
            cases ho
            intro _ aq wx Kq hf hS hdep hw hK
            have D7:aq.eval (.tmp 36)=_:=hdep 7 (by decide +kernel)
            have D8:aq.eval (.tmp 37)=_:=hdep 8 (by decide +kernel)
            clear hf hw hdep
            have ev1:=ev_const aq
            have ev2:=ev_func aq
            unfold Oper.wp
            generalize Act.eval _=ev at*
            go_simp
            refine ((projective_a _ _ _ _ (by omega) (by omega) (by omega) (by omega))).mono ?_
            rintro e w2 ⟨rfl,hb⟩
            refine hK _ _ (hS.call hb) ?_ (fun j u _ h=>Kd.ok_below hb h)
            rw[if_pos (by rfl)]
            show (_:Value)=_
            first|rfl|(refine congrArg (Value.int IntKind.i64) ?_;first|rfl|exact int_in (by omega)|exact quo_in (by omega) (by omega) (by omega)|exact rem_in (by omega) (by omega)|omega|exact cont_alt _ _ _)|(simp;done)|(simp [*];done)
           |10,ho=>
            cases ho
            intro _ aq wx Kq hf hS hdep hw hK
            have F7:aq.eval (.tmp 7)= .pointer (some ⟨w1.heap.size,0,none⟩):=hf 7 (by decide +kernel)
            have c0:=hS.cells (⟨w1.heap.size,0,none⟩,.int .i64 ((x:Int))) (by simp)
            have c1:=hS.cells (⟨w1.heap.size,1,none⟩,.int .i64 ((y:Int))) (by simp)
            clear hf hw hdep
            have ev1:=ev_const aq
            have ev2:=ev_func aq
            unfold Oper.wp
            generalize Act.eval _=ev at*
            go_simp
            refine hK _ _ hS ?_ (fun j u _ h=>h)
            rw[if_pos (by rfl)]
            show (_:Value)=_
            first|rfl|(refine congrArg (Value.int IntKind.i64) ?_;first|rfl|exact int_in (by omega)|exact quo_in (by omega) (by omega) (by omega)|exact rem_in (by omega) (by omega)|omega|exact cont_alt _ _ _)|(simp;done)|(simp [*];done)
           |11,ho=>
            cases ho
            intro _ aq wx Kq hf hS hdep hw hK
            have D9:aq.eval (.tmp 38)=_:=hdep 9 (by decide +kernel)
            have D10:aq.eval (.tmp 39)=_:=hdep 10 (by decide +kernel)
            clear hf hw hdep
            have ev1:=ev_const aq
            have ev2:=ev_func aq
            unfold Oper.wp
            generalize Act.eval _=ev at*
            go_simp
            refine hK _ _ hS ?_ (fun j u _ h=>h)
            rw[if_pos (by rfl)]
            show (_:Value)=_
            first|rfl|(refine congrArg (Value.int IntKind.i64) ?_;first|rfl|exact int_in (by omega)|exact quo_in (by omega) (by omega) (by omega)|exact rem_in (by omega) (by omega)|omega|exact cont_alt _ _ _)|(simp;done)|(simp [*];done)
           |12,ho=>
            cases ho
            intro _ aq wx Kq hf hS hdep hw hK
            have D6:aq.eval (.tmp 35)=_:=hdep 6 (by decide +kernel)
            have D11:aq.eval (.tmp 40)=_:=hdep 11 (by decide +kernel)
            clear hf hw hdep
            have ev1:=ev_const aq
            have ev2:=ev_func aq
            unfold Oper.wp
            generalize Act.eval _=ev at*
            go_simp
            refine hK _ _ hS ?_ (fun j u _ h=>h)
            rw[if_pos (by rfl)]
            show (_:Value)=_
            first|rfl|(refine congrArg (Value.int IntKind.i64) ?_;first|rfl|exact int_in (by omega)|exact quo_in (by omega) (by omega) (by omega)|exact rem_in (by omega) (by omega)|omega|exact cont_alt _ _ _)|(simp;done)|(simp [*];done)
           |i+13,ho=>exact absurd ho (by simp)
          ·intro i o ho hr
           match i,ho with
           |0,ho=>exact absurd hr (by decide)
           |1,ho=>exact absurd hr (by decide)
           |2,ho=>exact absurd hr (by decide)
           |3,ho=>exact absurd hr (by decide)
           |4,ho=>exact absurd hr (by decide)
           |5,ho=>exact absurd hr (by decide)
           |6,ho=>exact absurd hr (by decide)
           |7,ho=>exact absurd hr (by decide)
           |8,ho=>exact absurd hr (by decide)
           |9,ho=>exact absurd hr (by decide)
           |10,ho=>exact absurd hr (by decide)
           |11,ho=>exact absurd hr (by decide)
           |12,ho=>exact absurd hr (by decide)
           |i+13,ho=>exact absurd ho (by simp)
          ·intro aq wx hd hw hf hS hg
           have F0:tau aq 0=_:=hf 0 (by decide +kernel)
           have F1:tau aq 1=_:=hf 1 (by decide +kernel)
           have F2:tau aq 2=_:=hf 2 (by decide +kernel)
           have F3:tau aq 3=_:=hf 3 (by decide +kernel)
           have F4:tau aq 4=_:=hf 4 (by decide +kernel)
           have F5:tau aq 5=_:=hf 5 (by decide +kernel)
           have F6:tau aq 6=_:=hf 6 (by decide +kernel)
           have F7:tau aq 7=_:=hf 7 (by decide +kernel)
           have F8:tau aq 8=_:=hf 8 (by decide +kernel)
           have F9:tau aq 9=_:=hf 9 (by decide +kernel)
           have F10:tau aq 10=_:=hf 10 (by decide +kernel)
           have F11:tau aq 11=_:=hf 11 (by decide +kernel)
           have F12:tau aq 12=_:=hf 12 (by decide +kernel)
           have F13:tau aq 13=_:=hf 13 (by decide +kernel)
           have F14:tau aq 14=_:=hf 14 (by decide +kernel)
           have F15:tau aq 15=_:=hf 15 (by decide +kernel)
           have F16:tau aq 16=_:=hf 16 (by decide +kernel)
           have F17:tau aq 17=_:=hf 17 (by decide +kernel)
           have F18:tau aq 18=_:=hf 18 (by decide +kernel)
           have F19:tau aq 19=_:=hf 19 (by decide +kernel)
           have F20:tau aq 20=_:=hf 20 (by decide +kernel)
           have F21:tau aq 21=_:=hf 21 (by decide +kernel)
           have F22:tau aq 22=_:=hf 22 (by decide +kernel)
           have F23:tau aq 23=_:=hf 23 (by decide +kernel)
           have F24:tau aq 24=_:=hf 24 (by decide +kernel)
           have F25:tau aq 25=_:=hf 25 (by decide +kernel)
           have F26:tau aq 26=_:=hf 26 (by decide +kernel)
           have F27:tau aq 27=_:=hf 27 (by decide +kernel)
           have F28:tau aq 28=_:=hf 28 (by decide +kernel)
           have F42:tau aq 42=_:=hf 42 (by decide +kernel)
           have F43:tau aq 43=_:=hf 43 (by decide +kernel)
           have F44:tau aq 44=_:=hf 44 (by decide +kernel)
           have F45:tau aq 45=_:=hf 45 (by decide +kernel)
           have F46:tau aq 46=_:=hf 46 (by decide +kernel)
           have G41:tau aq 41= .bool true:=hg 12 (by decide)
           have haq:aq=⟨#[tau aq 0,tau aq 1,tau aq 2,tau aq 3,tau aq 4,tau aq 5,tau aq 6,tau aq 7,tau aq 8,tau aq 9,tau aq 10,tau aq 11,tau aq 12,tau aq 13,tau aq 14,tau aq 15,tau aq 16,tau aq 17,tau aq 18,tau aq 19,tau aq 20,tau aq 21,tau aq 22,tau aq 23,tau aq 24,tau aq 25,tau aq 26,tau aq 27,tau aq 28,tau aq 29,tau aq 30,tau aq 31,tau aq 32,tau aq 33,tau aq 34,tau aq 35,tau aq 36,tau aq 37,tau aq 38,tau aq 39,tau aq 40,tau aq 41,tau aq 42,tau aq 43,tau aq 44,tau aq 45,tau aq 46],[]⟩:=by
            obtain ⟨tq,dq⟩:=aq
            have h5:=arr_eq (show tq.size=47 from hw)
            have h6:dq= []:=hd
            subst h6
            exact congrArg (fun z=>Act.mk z []) h5
           show K2 aq wx
           rw[haq,F0,F1,F2,F3,F4,F5,F6,F7,F8,F9,F10,F11,F12,F13,F14,F15,F16,F17,F18,F19,F20,F21,F22,F23,F24,F25,F26,F27,F28,F42,F43,F44,F45,F46,G41]
           clear haq hf hd hw
           try dsimp only
           refine h3 _ _ ?_
           go_meet
           exact ⟨rfl,hS.cells (⟨w1.heap.size,0,none⟩,.int .i64 ((x:Int))) (by simp),hS.cells (⟨w1.heap.size,1,none⟩,.int .i64 ((y:Int))) (by simp),hS.below⟩
         case rest=>
          obtain ⟨rfl,c00,c01,hb0⟩:=hcut
          have z0:=World.block_lt_of_cell? _ _ c00
          change _<wc.heap.size at z0
          have hl2:=hl.below hb0
          have hz2:=hb0.size
          have hb2:Below w.heap.size w wc:=hb.trans (hb0.mono hz)
          have hz3:w.heap.size≤wc.heap.size:=Nat.le_trans hz hz2
          go_wp2_with (at_builtin;refine app_Point _ rfl (.tmp 42) (.tmp 44) rfl w.heap.size (.slice a (ppC m (ppK m x y)) c) (ppC m (ppK m x y)) (ppL m (ppK m x y)) (x:Int) (y:Int) wc.heap.size rfl rfl (hl2.alloc _) (by simp) (by simp) (by omega) (by simp;omega) ?_;intro g cap w2 hown hgrow hat hlt)
          go_roundw
          case rel=>
           refine ⟨y+1,by omega,by go_num,some ⟨g,0,none⟩,cap,?_,?_,(hb2.alloc hz3 _).grown hgrow (by simp;omega) (fun k hk=>(hl2.lt k hk).1)⟩
           ·rw [unhide EC]
           ·rw [unhide EC,unhide EL];exact hown
          case measure=>simp [intOf];omega
        ·obtain ⟨el,ec⟩:=pp_no1 (x:=x) hym (by simp [ppI,k3])
         have EL:=hide el
         have EC:=hide ec
         clear el ec
         go_upto_region 11 with fail
         go_cut [41] (fun s41 wx=>s41= .bool false∧wx.cell? ⟨w1.heap.size,0,none⟩=some (.int .i64 ((x:Int)))∧wx.cell? ⟨w1.heap.size,1,none⟩=some (.int .i64 ((y:Int)))∧Below w1.heap.size w1 wx)
         case first=>
          rename_i Q1 K1 h1 J1 K2 h2 h3
          refine region_inv2 (by kernel_rfl) (fun j=> #[29,30,31,32,33,34,35,36,37,38,39,40,41].getD j 0) (fun j=>Kd.ok ((fun j=>match j with|0=>Kd.val (.int .i64 ((x:Int)))|1=>Kd.val (.int .i64 ((y:Int)))|2=>Kd.val (.int .i64 ((m:Int)))|3=>Kd.val (.int .i64 (igcd (y:Int) (m:Int)))|4=>Kd.val (.int .i64 (contI (x:Int) (y:Int) (m:Int)))|5=>Kd.val (.bool true)|6=>Kd.val (.bool true)|7=>Kd.val (.agg #[.int .i64 ((x:Int)),.int .i64 ((y:Int))])|8=>Kd.val (.int .i64 ((m:Int)))|9=>Kd.val (.agg #[.int .i64 (lpX (x:Int) (y:Int) (m:Int)),.int .i64 (lpY (x:Int) (y:Int) (m:Int))])|10=>Kd.val (.agg #[.int .i64 ((x:Int)),.int .i64 ((y:Int))])|11=>Kd.val (.bool false)|12=>Kd.val (.bool false)|_=>Kd.any:Nat→Kd) j)) (Sy w1 (w1.heap.size+1) [(⟨w1.heap.size,0,none⟩,.int .i64 ((x:Int))),(⟨w1.heap.size,1,none⟩,.int .i64 ((y:Int)))] []) (fun j=> #[true,true,true,true,true,true,true,true,true,true,true,true,true].getD j true) (by kernel_rfl) ?_ ?_ ?_ ?_ ?_ ?_
          ·intro j hj
           have hj2:j<13:=hj
           have: ∀j,j<13→(#[29,30,31,32,33,34,35,36,37,38,39,40,41]:Array Nat).getD j 0<47:=by decide
           exact this j hj2
          ·intro i o ho
           match i,ho with
           |0,ho=>cases ho;intro aq wq hd;exact wanted_free rfl
           |1,ho=>cases ho;intro aq wq hd;exact wanted_free rfl
           |2,ho=>cases ho;intro aq wq hd;exact wanted_free rfl
           |3,ho=>cases ho;intro aq wq hd;exact wanted_free rfl
           |4,ho=>cases ho;intro aq wq hd;exact wanted_free rfl
           |5,ho=>cases ho;intro aq wq hd;exact wanted_free rfl
           |6,ho=>cases ho;intro aq wq hd;exact wanted_free rfl
           |7,ho=>cases ho;intro aq wq hd;exact wanted_of (j:=6) (t:=35) (want:=true) (b:=true) rfl rfl (hd 6 (by decide +kernel))
           |8,ho=>cases ho;intro aq wq hd;exact wanted_of (j:=6) (t:=35) (want:=true) (b:=true) rfl rfl (hd 6 (by decide +kernel))
           |9,ho=>cases ho;intro aq wq hd;exact wanted_of (j:=6) (t:=35) (want:=true) (b:=true) rfl rfl (hd 6 (by decide +kernel))
           |10,ho=>cases ho;intro aq wq hd;exact wanted_of (j:=6) (t:=35) (want:=true) (b:=true) rfl rfl (hd 6 (by decide +kernel))
           |11,ho=>cases ho;intro aq wq hd;exact wanted_of (j:=6) (t:=35) (want:=true) (b:=true) rfl rfl (hd 6 (by decide +kernel))
           |12,ho=>cases ho;intro aq wq hd;exact wanted_free rfl
           |i+13,ho=>exact absurd ho (by simp)
          ·refine Sy.drew (Sy.mk_of ?_ ?_ ?_ ?_)
           ·first|rfl|(simp;done)|(simp;omega)
           ·intro c hc
            simp only[List.mem_cons,List.not_mem_nil,or_false] at hc
            rcases hc with rfl|rfl<;>first|assumption|(go_simp;done)
           ·intro p hp;cases hp
           ·(repeat' (first|(with_reducible exact Below.refl _ _)|(with_reducible assumption)|(with_reducible refine gr_alloc ?_ _)|(with_reducible refine below_drewN ?_ _)|(with_reducible refine below_drew ?_)|(with_reducible refine gr_call ?_ (by assumption))|(with_reducible refine Below.setCell ?_ ?_ _)|go_size|omega|(simp;omega)))
          ·clear h1 h2 h3
           intro i o ho
           match i,ho with
           |0,ho=>
            cases ho
            intro _ aq wx Kq hf hS hdep hw hK
            have F5:aq.eval (.tmp 5)= .int .i64 ((x:Int)):=hf 5 (by decide +kernel)
            clear hf hw hdep
            have ev1:=ev_const aq
            have ev2:=ev_func aq
            unfold Oper.wp
            generalize Act.eval _=ev at*
            go_simp
            refine hK _ _ hS ?_ (fun j u _ h=>h)
            rw[if_pos (by rfl)]
            show (_:Value)=_
            first|rfl|(refine congrArg (Value.int IntKind.i64) ?_;first|rfl|exact int_in (by omega)|exact quo_in (by omega) (by omega) (by omega)|exact rem_in (by omega) (by omega)|omega|exact cont_alt _ _ _)|(simp;done)|(simp [*];done)
           |1,ho=>
            cases ho
            intro _ aq wx Kq hf hS hdep hw hK
            have F6:aq.eval (.tmp 6)= .int .i64 ((y:Int)):=hf 6 (by decide +kernel)
            clear hf hw hdep
            have ev1:=ev_const aq
            have ev2:=ev_func aq
            unfold Oper.wp
            generalize Act.eval _=ev at*
            go_simp
            refine hK _ _ hS ?_ (fun j u _ h=>h)
            rw[if_pos (by rfl)]
            show (_:Value)=_
            first|rfl|(refine congrArg (Value.int IntKind.i64) ?_;first|rfl|exact int_in (by omega)|exact quo_in (by omega) (by omega) (by omega)|exact rem_in (by omega) (by omega)|omega|exact cont_alt _ _ _)|(simp;done)|(simp [*];done)
           |2,ho=>
            cases ho
            intro _ aq wx Kq hf hS hdep hw hK
            have F0:aq.eval (.tmp 0)= .int .i64 ((m:Int)):=hf 0 (by decide +kernel)
            clear hf hw hdep
            have ev1:=ev_const aq
            have ev2:=ev_func aq
            unfold Oper.wp
            generalize Act.eval _=ev at*
            go_simp
            refine hK _ _ hS ?_ (fun j u _ h=>h)
            rw[if_pos (by rfl)]
            show (_:Value)=_
            first|rfl|(refine congrArg (Value.int IntKind.i64) ?_;first|rfl|exact int_in (by omega)|exact quo_in (by omega) (by omega) (by omega)|exact rem_in (by omega) (by omega)|omega|exact cont_alt _ _ _)|(simp;done)|(simp [*];done)
           |3,ho=>
            cases ho
            intro _ aq wx Kq hf hS hdep hw hK
            have D1:aq.eval (.tmp 30)=_:=hdep 1 (by decide +kernel)
            have D2:aq.eval (.tmp 31)=_:=hdep 2 (by decide +kernel)
            clear hf hw hdep
            have ev1:=ev_const aq
            have ev2:=ev_func aq
            unfold Oper.wp
            generalize Act.eval _=ev at*
            go_simp
            refine ((gcd_a _ _ _ (by omega) (by omega))).mono ?_
            rintro e w2 ⟨rfl,nq,rfl⟩
            refine hK _ _ (hS.call (below_drewN_self _ _)) ?_ (fun j u _ h=>Kd.ok_below (below_drewN_self _ _) h)
            rw[if_pos (by rfl)]
            show (_:Value)=_
            first|rfl|(refine congrArg (Value.int IntKind.i64) ?_;first|rfl|exact int_in (by omega)|exact quo_in (by omega) (by omega) (by omega)|exact rem_in (by omega) (by omega)|omega|exact cont_alt _ _ _)|(simp;done)|(simp [*];done)
           |4,ho=>
            cases ho
            intro _ aq wx Kq hf hS hdep hw hK
            have D0:aq.eval (.tmp 29)=_:=hdep 0 (by decide +kernel)
            have D3:aq.eval (.tmp 32)=_:=hdep 3 (by decide +kernel)
            clear hf hw hdep
            have ev1:=ev_const aq
            have ev2:=ev_func aq
            unfold Oper.wp
            generalize Act.eval _=ev at*
            go_simp
            refine ((gcd_a _ _ _ (by omega) (by omega))).mono ?_
            rintro e w2 ⟨rfl,nq,rfl⟩
            refine hK _ _ (hS.call (below_drewN_self _ _)) ?_ (fun j u _ h=>Kd.ok_below (below_drewN_self _ _) h)
            rw[if_pos (by rfl)]
            show (_:Value)=_
            first|rfl|(refine congrArg (Value.int IntKind.i64) ?_;first|rfl|exact int_in (by omega)|exact quo_in (by omega) (by omega) (by omega)|exact rem_in (by omega) (by omega)|omega|exact cont_alt _ _ _)|(simp;done)|(simp [*];done)
           |5,ho=>
            cases ho
            intro _ aq wx Kq hf hS hdep hw hK
            have D4:aq.eval (.tmp 33)=_:=hdep 4 (by decide +kernel)
            clear hf hw hdep
            have ev1:=ev_const aq
            have ev2:=ev_func aq
            unfold Oper.wp
            generalize Act.eval _=ev at*
            go_simp
            refine hK _ _ hS ?_ (fun j u _ h=>h)
            rw[if_pos (by rfl)]
            show (_:Value)=_
            first|rfl|(refine congrArg (Value.int IntKind.i64) ?_;first|rfl|exact int_in (by omega)|exact quo_in (by omega) (by omega) (by omega)|exact rem_in (by omega) (by omega)|omega|exact cont_alt _ _ _)|(simp;done)|(simp [*];done)
           |6,ho=>
            cases ho
            intro _ aq wx Kq hf hS hdep hw hK
            have D5:aq.eval (.tmp 34)=_:=hdep 5 (by decide +kernel)
            clear hf hw hdep
            have ev1:=ev_const aq
            have ev2:=ev_func aq
            unfold Oper.wp
            generalize Act.eval _=ev at*
            go_simp
            refine hK _ _ hS ?_ (fun j u _ h=>h)
            rw[if_pos (by rfl)]
            show (_:Value)=_
            first|rfl|(refine congrArg (Value.int IntKind.i64) ?_;first|rfl|exact int_in (by omega)|exact quo_in (by omega) (by omega) (by omega)|exact rem_in (by omega) (by omega)|omega|exact cont_alt _ _ _)|(simp;done)|(simp [*];done)
           |7,ho=>
            cases ho
            intro _ aq wx Kq hf hS hdep hw hK
            have F7:aq.eval (.tmp 7)= .pointer (some ⟨w1.heap.size,0,none⟩):=hf 7 (by decide +kernel)
            have c0:=hS.cells (⟨w1.heap.size,0,none⟩,.int .i64 ((x:Int))) (by simp)
            have c1:=hS.cells (⟨w1.heap.size,1,none⟩,.int .i64 ((y:Int))) (by simp)
            clear hf hw hdep
            have ev1:=ev_const aq
            have ev2:=ev_func aq
            unfold Oper.wp
            generalize Act.eval _=ev at*
            go_simp
            refine hK _ _ hS ?_ (fun j u _ h=>h)
            rw[if_pos (by rfl)]
            show (_:Value)=_
            first|rfl|(refine congrArg (Value.int IntKind.i64) ?_;first|rfl|exact int_in (by omega)|exact quo_in (by omega) (by omega) (by omega)|exact rem_in (by omega) (by omega)|omega|exact cont_alt _ _ _)|(simp;done)|(simp [*];done)
           |8,ho=>
            cases ho
            intro _ aq wx Kq hf hS hdep hw hK
            have F0:aq.eval (.tmp 0)= .int .i64 ((m:Int)):=hf 0 (by decide +kernel)
            clear hf hw hdep
            have ev1:=ev_const aq
            have ev2:=ev_func aq
            unfold Oper.wp
            generalize Act.eval _=ev at*
            go_simp
            refine hK _ _ hS ?_ (fun j u _ h=>h)
            rw[if_pos (by rfl)]
            show (_:Value)=_
            first|rfl|(refine congrArg (Value.int IntKind.i64) ?_;first|rfl|exact int_in (by omega)|exact quo_in (by omega) (by omega) (by omega)|exact rem_in (by omega) (by omega)|omega|exact cont_alt _ _ _)|(simp;done)|(simp [*];done)
           |9,ho=>
            cases ho
            intro _ aq wx Kq hf hS hdep hw hK
            have D7:aq.eval (.tmp 36)=_:=hdep 7 (by decide +kernel)
            have D8:aq.eval (.tmp 37)=_:=hdep 8 (by decide +kernel)
            clear hf hw hdep
            have ev1:=ev_const aq
            have ev2:=ev_func aq
            unfold Oper.wp
            generalize Act.eval _=ev at*
            go_simp
            refine ((projective_a _ _ _ _ (by omega) (by omega) (by omega) (by omega))).mono ?_
            rintro e w2 ⟨rfl,hb⟩
            refine hK _ _ (hS.call hb) ?_ (fun j u _ h=>Kd.ok_below hb h)
            rw[if_pos (by rfl)]
            show (_:Value)=_
            first|rfl|(refine congrArg (Value.int IntKind.i64) ?_;first|rfl|exact int_in (by omega)|exact quo_in (by omega) (by omega) (by omega)|exact rem_in (by omega) (by omega)|omega|exact cont_alt _ _ _)|(simp;done)|(simp [*];done)
           |10,ho=>
            cases ho
            intro _ aq wx Kq hf hS hdep hw hK
            have F7:aq.eval (.tmp 7)= .pointer (some ⟨w1.heap.size,0,none⟩):=hf 7 (by decide +kernel)
            have c0:=hS.cells (⟨w1.heap.size,0,none⟩,.int .i64 ((x:Int))) (by simp)
            have c1:=hS.cells (⟨w1.heap.size,1,none⟩,.int .i64 ((y:Int))) (by simp)
            clear hf hw hdep
            have ev1:=ev_const aq
            have ev2:=ev_func aq
            unfold Oper.wp
            generalize Act.eval _=ev at*
            go_simp
            refine hK _ _ hS ?_ (fun j u _ h=>h)
            rw[if_pos (by rfl)]
            show (_:Value)=_
            first|rfl|(refine congrArg (Value.int IntKind.i64) ?_;first|rfl|exact int_in (by omega)|exact quo_in (by omega) (by omega) (by omega)|exact rem_in (by omega) (by omega)|omega|exact cont_alt _ _ _)|(simp;done)|(simp [*];done)
           |11,ho=>
            cases ho
            intro _ aq wx Kq hf hS hdep hw hK
            have D9:aq.eval (.tmp 38)=_:=hdep 9 (by decide +kernel)
            have D10:aq.eval (.tmp 39)=_:=hdep 10 (by decide +kernel)
            clear hf hw hdep
            have ev1:=ev_const aq
            have ev2:=ev_func aq
            unfold Oper.wp
            generalize Act.eval _=ev at*
            go_simp
            refine hK _ _ hS ?_ (fun j u _ h=>h)
            rw[if_pos (by rfl)]
            show (_:Value)=_
            first|rfl|(refine congrArg (Value.int IntKind.i64) ?_;first|rfl|exact int_in (by omega)|exact quo_in (by omega) (by omega) (by omega)|exact rem_in (by omega) (by omega)|omega|exact cont_alt _ _ _)|(simp;done)|(simp [*];done)
           |12,ho=>
            cases ho
            intro _ aq wx Kq hf hS hdep hw hK
            have D6:aq.eval (.tmp 35)=_:=hdep 6 (by decide +kernel)
            have D11:aq.eval (.tmp 40)=_:=hdep 11 (by decide +kernel)
            clear hf hw hdep
            have ev1:=ev_const aq
            have ev2:=ev_func aq
            unfold Oper.wp
            generalize Act.eval _=ev at*
            go_simp
            refine hK _ _ hS ?_ (fun j u _ h=>h)
            rw[if_pos (by rfl)]
            show (_:Value)=_
            first|rfl|(refine congrArg (Value.int IntKind.i64) ?_;first|rfl|exact int_in (by omega)|exact quo_in (by omega) (by omega) (by omega)|exact rem_in (by omega) (by omega)|omega|exact cont_alt _ _ _)|(simp;done)|(simp [*];done)
           |i+13,ho=>exact absurd ho (by simp)
          ·intro i o ho hr
           match i,ho with
           |0,ho=>exact absurd hr (by decide)
           |1,ho=>exact absurd hr (by decide)
           |2,ho=>exact absurd hr (by decide)
           |3,ho=>exact absurd hr (by decide)
           |4,ho=>exact absurd hr (by decide)
           |5,ho=>exact absurd hr (by decide)
           |6,ho=>exact absurd hr (by decide)
           |7,ho=>exact absurd hr (by decide)
           |8,ho=>exact absurd hr (by decide)
           |9,ho=>exact absurd hr (by decide)
           |10,ho=>exact absurd hr (by decide)
           |11,ho=>exact absurd hr (by decide)
           |12,ho=>exact absurd hr (by decide)
           |i+13,ho=>exact absurd ho (by simp)
          ·intro aq wx hd hw hf hS hg
           have F0:tau aq 0=_:=hf 0 (by decide +kernel)
           have F1:tau aq 1=_:=hf 1 (by decide +kernel)
           have F2:tau aq 2=_:=hf 2 (by decide +kernel)
           have F3:tau aq 3=_:=hf 3 (by decide +kernel)
           have F4:tau aq 4=_:=hf 4 (by decide +kernel)
           have F5:tau aq 5=_:=hf 5 (by decide +kernel)
           have F6:tau aq 6=_:=hf 6 (by decide +kernel)
           have F7:tau aq 7=_:=hf 7 (by decide +kernel)
           have F8:tau aq 8=_:=hf 8 (by decide +kernel)
           have F9:tau aq 9=_:=hf 9 (by decide +kernel)
           have F10:tau aq 10=_:=hf 10 (by decide +kernel)
           have F11:tau aq 11=_:=hf 11 (by decide +kernel)
           have F12:tau aq 12=_:=hf 12 (by decide +kernel)
           have F13:tau aq 13=_:=hf 13 (by decide +kernel)
           have F14:tau aq 14=_:=hf 14 (by decide +kernel)
           have F15:tau aq 15=_:=hf 15 (by decide +kernel)
           have F16:tau aq 16=_:=hf 16 (by decide +kernel)
           have F17:tau aq 17=_:=hf 17 (by decide +kernel)
           have F18:tau aq 18=_:=hf 18 (by decide +kernel)
           have F19:tau aq 19=_:=hf 19 (by decide +kernel)
           have F20:tau aq 20=_:=hf 20 (by decide +kernel)
           have F21:tau aq 21=_:=hf 21 (by decide +kernel)
           have F22:tau aq 22=_:=hf 22 (by decide +kernel)
           have F23:tau aq 23=_:=hf 23 (by decide +kernel)
           have F24:tau aq 24=_:=hf 24 (by decide +kernel)
           have F25:tau aq 25=_:=hf 25 (by decide +kernel)
           have F26:tau aq 26=_:=hf 26 (by decide +kernel)
           have F27:tau aq 27=_:=hf 27 (by decide +kernel)
           have F28:tau aq 28=_:=hf 28 (by decide +kernel)
           have F42:tau aq 42=_:=hf 42 (by decide +kernel)
           have F43:tau aq 43=_:=hf 43 (by decide +kernel)
           have F44:tau aq 44=_:=hf 44 (by decide +kernel)
           have F45:tau aq 45=_:=hf 45 (by decide +kernel)
           have F46:tau aq 46=_:=hf 46 (by decide +kernel)
           have G41:tau aq 41= .bool false:=hg 12 (by decide)
           have haq:aq=⟨#[tau aq 0,tau aq 1,tau aq 2,tau aq 3,tau aq 4,tau aq 5,tau aq 6,tau aq 7,tau aq 8,tau aq 9,tau aq 10,tau aq 11,tau aq 12,tau aq 13,tau aq 14,tau aq 15,tau aq 16,tau aq 17,tau aq 18,tau aq 19,tau aq 20,tau aq 21,tau aq 22,tau aq 23,tau aq 24,tau aq 25,tau aq 26,tau aq 27,tau aq 28,tau aq 29,tau aq 30,tau aq 31,tau aq 32,tau aq 33,tau aq 34,tau aq 35,tau aq 36,tau aq 37,tau aq 38,tau aq 39,tau aq 40,tau aq 41,tau aq 42,tau aq 43,tau aq 44,tau aq 45,tau aq 46],[]⟩:=by
            obtain ⟨tq,dq⟩:=aq
            have h5:=arr_eq (show tq.size=47 from hw)
            have h6:dq= []:=hd
            subst h6
            exact congrArg (fun z=>Act.mk z []) h5
           show K2 aq wx
           rw[haq,F0,F1,F2,F3,F4,F5,F6,F7,F8,F9,F10,F11,F12,F13,F14,F15,F16,F17,F18,F19,F20,F21,F22,F23,F24,F25,F26,F27,F28,F42,F43,F44,F45,F46,G41]
           clear haq hf hd hw
           try dsimp only
           refine h3 _ _ ?_
           go_meet
           exact ⟨rfl,hS.cells (⟨w1.heap.size,0,none⟩,.int .i64 ((x:Int))) (by simp),hS.cells (⟨w1.heap.size,1,none⟩,.int .i64 ((y:Int))) (by simp),hS.below⟩
         case rest=>
          obtain ⟨rfl,c00,c01,hb0⟩:=hcut
          have z0:=World.block_lt_of_cell? _ _ c00
          change _<wc.heap.size at z0
          have hl2:=hl.below hb0
          have hz2:=hb0.size
          have hb2:Below w.heap.size w wc:=hb.trans (hb0.mono hz)
          have hz3:w.heap.size≤wc.heap.size:=Nat.le_trans hz hz2
          go_wp2
          go_roundw
          case rel=>first|exact ⟨y+1,by omega,by first|rfl|go_num,a,c,by rw[unhide EC],by rw[unhide EC,unhide EL];exact hl2,hb2⟩|((repeat apply Exists.intro);exact ⟨⟨y+1,by omega,by first|rfl|go_num,a,c,by rw[unhide EC],by rw[unhide EC,unhide EL];exact hl2,hb2⟩,rfl⟩)
          case measure=>simp [intOf];omega
       ·obtain ⟨el,ec⟩:=pp_no1 (x:=x) hym (by simp [ppI,k2])
        have EL:=hide el
        have EC:=hide ec
        clear el ec
        go_upto_region 11 with fail
        go_cut [41] (fun s41 wx=>s41= .bool false∧wx.cell? ⟨w1.heap.size,0,none⟩=some (.int .i64 ((x:Int)))∧wx.cell? ⟨w1.heap.size,1,none⟩=some (.int .i64 ((y:Int)))∧Below w1.heap.size w1 wx)
        case first=>
         rename_i Q1 K1 h1 J1 K2 h2 h3
         refine region_inv2 (by kernel_rfl) (fun j=> #[29,30,31,32,33,34,35,36,37,38,39,40,41].getD j 0) (fun j=>Kd.ok ((fun j=>match j with|0=>Kd.val (.int .i64 ((x:Int)))|1=>Kd.val (.int .i64 ((y:Int)))|2=>Kd.val (.int .i64 ((m:Int)))|3=>Kd.val (.int .i64 (igcd (y:Int) (m:Int)))|4=>Kd.val (.int .i64 (contI (x:Int) (y:Int) (m:Int)))|5=>Kd.val (.bool true)|6=>Kd.val (.bool true)|7=>Kd.val (.agg #[.int .i64 ((x:Int)),.int .i64 ((y:Int))])|8=>Kd.val (.int .i64 ((m:Int)))|9=>Kd.val (.agg #[.int .i64 (lpX (x:Int) (y:Int) (m:Int)),.int .i64 (lpY (x:Int) (y:Int) (m:Int))])|10=>Kd.val (.agg #[.int .i64 ((x:Int)),.int .i64 ((y:Int))])|11=>Kd.val (.bool false)|12=>Kd.val (.bool false)|_=>Kd.any:Nat→Kd) j)) (Sy w1 (w1.heap.size+1) [(⟨w1.heap.size,0,none⟩,.int .i64 ((x:Int))),(⟨w1.heap.size,1,none⟩,.int .i64 ((y:Int)))] []) (fun j=> #[true,true,true,true,true,true,true,true,true,true,true,true,true].getD j true) (by kernel_rfl) ?_ ?_ ?_ ?_ ?_ ?_
         ·intro j hj
          have hj2:j<13:=hj
          have: ∀j,j<13→(#[29,30,31,32,33,34,35,36,37,38,39,40,41]:Array Nat).getD j 0<47:=by decide
          exact this j hj2
         ·intro i o ho
          match i,ho with
          |0,ho=>cases ho;intro aq wq hd;exact wanted_free rfl
          |1,ho=>cases ho;intro aq wq hd;exact wanted_free rfl
          |2,ho=>cases ho;intro aq wq hd;exact wanted_free rfl
          |3,ho=>cases ho;intro aq wq hd;exact wanted_free rfl
          |4,ho=>cases ho;intro aq wq hd;exact wanted_free rfl
          |5,ho=>cases ho;intro aq wq hd;exact wanted_free rfl
          |6,ho=>cases ho;intro aq wq hd;exact wanted_free rfl
          |7,ho=>cases ho;intro aq wq hd;exact wanted_of (j:=6) (t:=35) (want:=true) (b:=true) rfl rfl (hd 6 (by decide +kernel))
          |8,ho=>cases ho;intro aq wq hd;exact wanted_of (j:=6) (t:=35) (want:=true) (b:=true) rfl rfl (hd 6 (by decide +kernel))
          |9,ho=>cases ho;intro aq wq hd;exact wanted_of (j:=6) (t:=35) (want:=true) (b:=true) rfl rfl (hd 6 (by decide +kernel))
          |10,ho=>cases ho;intro aq wq hd;exact wanted_of (j:=6) (t:=35) (want:=true) (b:=true) rfl rfl (hd 6 (by decide +kernel))
          |11,ho=>cases ho;intro aq wq hd;exact wanted_of (j:=6) (t:=35) (want:=true) (b:=true) rfl rfl (hd 6 (by decide +kernel))
          |12,ho=>cases ho;intro aq wq hd;exact wanted_free rfl
          |i+13,ho=>exact absurd ho (by simp)
         ·refine Sy.drew (Sy.mk_of ?_ ?_ ?_ ?_)
          ·first|rfl|(simp;done)|(simp;omega)
          ·intro c hc
           simp only[List.mem_cons,List.not_mem_nil,or_false] at hc
           rcases hc with rfl|rfl<;>first|assumption|(go_simp;done)
          ·intro p hp;cases hp
          ·(repeat' (first|(with_reducible exact Below.refl _ _)|(with_reducible assumption)|(with_reducible refine gr_alloc ?_ _)|(with_reducible refine below_drewN ?_ _)|(with_reducible refine below_drew ?_)|(with_reducible refine gr_call ?_ (by assumption))|(with_reducible refine Below.setCell ?_ ?_ _)|go_size|omega|(simp;omega)))
         ·clear h1 h2 h3
          intro i o ho
          match i,ho with
          |0,ho=>
           cases ho
           intro _ aq wx Kq hf hS hdep hw hK
           have F5:aq.eval (.tmp 5)= .int .i64 ((x:Int)):=hf 5 (by decide +kernel)
           clear hf hw hdep
           have ev1:=ev_const aq
           have ev2:=ev_func aq
           unfold Oper.wp
           generalize Act.eval _=ev at*
           go_simp
           refine hK _ _ hS ?_ (fun j u _ h=>h)
           rw[if_pos (by rfl)]
           show (_:Value)=_
           first|rfl|(refine congrArg (Value.int IntKind.i64) ?_;first|rfl|exact int_in (by omega)|exact quo_in (by omega) (by omega) (by omega)|exact rem_in (by omega) (by omega)|omega|exact cont_alt _ _ _)|(simp;done)|(simp [*];done)
          |1,ho=>
           cases ho
           intro _ aq wx Kq hf hS hdep hw hK
           have F6:aq.eval (.tmp 6)= .int .i64 ((y:Int)):=hf 6 (by decide +kernel)
           clear hf hw hdep
           have ev1:=ev_const aq
           have ev2:=ev_func aq
           unfold Oper.wp
           generalize Act.eval _=ev at*
           go_simp
           refine hK _ _ hS ?_ (fun j u _ h=>h)
           rw[if_pos (by rfl)]
           show (_:Value)=_
           first|rfl|(refine congrArg (Value.int IntKind.i64) ?_;first|rfl|exact int_in (by omega)|exact quo_in (by omega) (by omega) (by omega)|exact rem_in (by omega) (by omega)|omega|exact cont_alt _ _ _)|(simp;done)|(simp [*];done)
          |2,ho=>
           cases ho
           intro _ aq wx Kq hf hS hdep hw hK
           have F0:aq.eval (.tmp 0)= .int .i64 ((m:Int)):=hf 0 (by decide +kernel)
           clear hf hw hdep
           have ev1:=ev_const aq
           have ev2:=ev_func aq
           unfold Oper.wp
           generalize Act.eval _=ev at*
           go_simp
           refine hK _ _ hS ?_ (fun j u _ h=>h)
           rw[if_pos (by rfl)]
           show (_:Value)=_
           first|rfl|(refine congrArg (Value.int IntKind.i64) ?_;first|rfl|exact int_in (by omega)|exact quo_in (by omega) (by omega) (by omega)|exact rem_in (by omega) (by omega)|omega|exact cont_alt _ _ _)|(simp;done)|(simp [*];done)
          |3,ho=>
           cases ho
           intro _ aq wx Kq hf hS hdep hw hK
           have D1:aq.eval (.tmp 30)=_:=hdep 1 (by decide +kernel)
           have D2:aq.eval (.tmp 31)=_:=hdep 2 (by decide +kernel)
           clear hf hw hdep
           have ev1:=ev_const aq
           have ev2:=ev_func aq
           unfold Oper.wp
           generalize Act.eval _=ev at*
           go_simp
           refine ((gcd_a _ _ _ (by omega) (by omega))).mono ?_
           rintro e w2 ⟨rfl,nq,rfl⟩
           refine hK _ _ (hS.call (below_drewN_self _ _)) ?_ (fun j u _ h=>Kd.ok_below (below_drewN_self _ _) h)
           rw[if_pos (by rfl)]
           show (_:Value)=_
           first|rfl|(refine congrArg (Value.int IntKind.i64) ?_;first|rfl|exact int_in (by omega)|exact quo_in (by omega) (by omega) (by omega)|exact rem_in (by omega) (by omega)|omega|exact cont_alt _ _ _)|(simp;done)|(simp [*];done)
          |4,ho=>
           cases ho
           intro _ aq wx Kq hf hS hdep hw hK
           have D0:aq.eval (.tmp 29)=_:=hdep 0 (by decide +kernel)
           have D3:aq.eval (.tmp 32)=_:=hdep 3 (by decide +kernel)
           clear hf hw hdep
           have ev1:=ev_const aq
           have ev2:=ev_func aq
           unfold Oper.wp
           generalize Act.eval _=ev at*
           go_simp
           refine ((gcd_a _ _ _ (by omega) (by omega))).mono ?_
           rintro e w2 ⟨rfl,nq,rfl⟩
           refine hK _ _ (hS.call (below_drewN_self _ _)) ?_ (fun j u _ h=>Kd.ok_below (below_drewN_self _ _) h)
           rw[if_pos (by rfl)]
           show (_:Value)=_
           first|rfl|(refine congrArg (Value.int IntKind.i64) ?_;first|rfl|exact int_in (by omega)|exact quo_in (by omega) (by omega) (by omega)|exact rem_in (by omega) (by omega)|omega|exact cont_alt _ _ _)|(simp;done)|(simp [*];done)
          |5,ho=>
           cases ho
           intro _ aq wx Kq hf hS hdep hw hK
           have D4:aq.eval (.tmp 33)=_:=hdep 4 (by decide +kernel)
           clear hf hw hdep
           have ev1:=ev_const aq
           have ev2:=ev_func aq
           unfold Oper.wp
           generalize Act.eval _=ev at*
           go_simp
           refine hK _ _ hS ?_ (fun j u _ h=>h)
           rw[if_pos (by rfl)]
           show (_:Value)=_
           first|rfl|(refine congrArg (Value.int IntKind.i64) ?_;first|rfl|exact int_in (by omega)|exact quo_in (by omega) (by omega) (by omega)|exact rem_in (by omega) (by omega)|omega|exact cont_alt _ _ _)|(simp;done)|(simp [*];done)
          |6,ho=>
           cases ho
           intro _ aq wx Kq hf hS hdep hw hK
           have D5:aq.eval (.tmp 34)=_:=hdep 5 (by decide +kernel)
           clear hf hw hdep
           have ev1:=ev_const aq
           have ev2:=ev_func aq
           unfold Oper.wp
           generalize Act.eval _=ev at*
           go_simp
           refine hK _ _ hS ?_ (fun j u _ h=>h)
           rw[if_pos (by rfl)]
           show (_:Value)=_
           first|rfl|(refine congrArg (Value.int IntKind.i64) ?_;first|rfl|exact int_in (by omega)|exact quo_in (by omega) (by omega) (by omega)|exact rem_in (by omega) (by omega)|omega|exact cont_alt _ _ _)|(simp;done)|(simp [*];done)
          |7,ho=>
           cases ho
           intro _ aq wx Kq hf hS hdep hw hK
           have F7:aq.eval (.tmp 7)= .pointer (some ⟨w1.heap.size,0,none⟩):=hf 7 (by decide +kernel)
           have c0:=hS.cells (⟨w1.heap.size,0,none⟩,.int .i64 ((x:Int))) (by simp)
           have c1:=hS.cells (⟨w1.heap.size,1,none⟩,.int .i64 ((y:Int))) (by simp)
           clear hf hw hdep
           have ev1:=ev_const aq
           have ev2:=ev_func aq
           unfold Oper.wp
           generalize Act.eval _=ev at*
           go_simp
           refine hK _ _ hS ?_ (fun j u _ h=>h)
           rw[if_pos (by rfl)]
           show (_:Value)=_
           first|rfl|(refine congrArg (Value.int IntKind.i64) ?_;first|rfl|exact int_in (by omega)|exact quo_in (by omega) (by omega) (by omega)|exact rem_in (by omega) (by omega)|omega|exact cont_alt _ _ _)|(simp;done)|(simp [*];done)
          |8,ho=>
           cases ho
           intro _ aq wx Kq hf hS hdep hw hK
           have F0:aq.eval (.tmp 0)= .int .i64 ((m:Int)):=hf 0 (by decide +kernel)
           clear hf hw hdep
           have ev1:=ev_const aq
           have ev2:=ev_func aq
           unfold Oper.wp
           generalize Act.eval _=ev at*
           go_simp
           refine hK _ _ hS ?_ (fun j u _ h=>h)
           rw[if_pos (by rfl)]
           show (_:Value)=_
           first|rfl|(refine congrArg (Value.int IntKind.i64) ?_;first|rfl|exact int_in (by omega)|exact quo_in (by omega) (by omega) (by omega)|exact rem_in (by omega) (by omega)|omega|exact cont_alt _ _ _)|(simp;done)|(simp [*];done)
          |9,ho=>
           cases ho
           intro _ aq wx Kq hf hS hdep hw hK
           have D7:aq.eval (.tmp 36)=_:=hdep 7 (by decide +kernel)
           have D8:aq.eval (.tmp 37)=_:=hdep 8 (by decide +kernel)
           clear hf hw hdep
           have ev1:=ev_const aq
           have ev2:=ev_func aq
           unfold Oper.wp
           generalize Act.eval _=ev at*
           go_simp
           refine ((projective_a _ _ _ _ (by omega) (by omega) (by omega) (by omega))).mono ?_
           rintro e w2 ⟨rfl,hb⟩
           refine hK _ _ (hS.call hb) ?_ (fun j u _ h=>Kd.ok_below hb h)
           rw[if_pos (by rfl)]
           show (_:Value)=_
           first|rfl|(refine congrArg (Value.int IntKind.i64) ?_;first|rfl|exact int_in (by omega)|exact quo_in (by omega) (by omega) (by omega)|exact rem_in (by omega) (by omega)|omega|exact cont_alt _ _ _)|(simp;done)|(simp [*];done)
          |10,ho=>
           cases ho
           intro _ aq wx Kq hf hS hdep hw hK
           have F7:aq.eval (.tmp 7)= .pointer (some ⟨w1.heap.size,0,none⟩):=hf 7 (by decide +kernel)
           have c0:=hS.cells (⟨w1.heap.size,0,none⟩,.int .i64 ((x:Int))) (by simp)
           have c1:=hS.cells (⟨w1.heap.size,1,none⟩,.int .i64 ((y:Int))) (by simp)
           clear hf hw hdep
           have ev1:=ev_const aq
           have ev2:=ev_func aq
           unfold Oper.wp
           generalize Act.eval _=ev at*
           go_simp
           refine hK _ _ hS ?_ (fun j u _ h=>h)
           rw[if_pos (by rfl)]
           show (_:Value)=_
           first|rfl|(refine congrArg (Value.int IntKind.i64) ?_;first|rfl|exact int_in (by omega)|exact quo_in (by omega) (by omega) (by omega)|exact rem_in (by omega) (by omega)|omega|exact cont_alt _ _ _)|(simp;done)|(simp [*];done)
          |11,ho=>
           cases ho
           intro _ aq wx Kq hf hS hdep hw hK
           have D9:aq.eval (.tmp 38)=_:=hdep 9 (by decide +kernel)
           have D10:aq.eval (.tmp 39)=_:=hdep 10 (by decide +kernel)
           clear hf hw hdep
           have ev1:=ev_const aq
           have ev2:=ev_func aq
           unfold Oper.wp
           generalize Act.eval _=ev at*
           go_simp
           refine hK _ _ hS ?_ (fun j u _ h=>h)
           rw[if_pos (by rfl)]
           show (_:Value)=_
           first|rfl|(refine congrArg (Value.int IntKind.i64) ?_;first|rfl|exact int_in (by omega)|exact quo_in (by omega) (by omega) (by omega)|exact rem_in (by omega) (by omega)|omega|exact cont_alt _ _ _)|(simp;done)|(simp [*];done)
          |12,ho=>
           cases ho
           intro _ aq wx Kq hf hS hdep hw hK
           have D6:aq.eval (.tmp 35)=_:=hdep 6 (by decide +kernel)
           have D11:aq.eval (.tmp 40)=_:=hdep 11 (by decide +kernel)
           clear hf hw hdep
           have ev1:=ev_const aq
           have ev2:=ev_func aq
           unfold Oper.wp
           generalize Act.eval _=ev at*
           go_simp
           refine hK _ _ hS ?_ (fun j u _ h=>h)
           rw[if_pos (by rfl)]
           show (_:Value)=_
           first|rfl|(refine congrArg (Value.int IntKind.i64) ?_;first|rfl|exact int_in (by omega)|exact quo_in (by omega) (by omega) (by omega)|exact rem_in (by omega) (by omega)|omega|exact cont_alt _ _ _)|(simp;done)|(simp [*];done)
          |i+13,ho=>exact absurd ho (by simp)
         ·intro i o ho hr
          match i,ho with
          |0,ho=>exact absurd hr (by decide)
          |1,ho=>exact absurd hr (by decide)
          |2,ho=>exact absurd hr (by decide)
          |3,ho=>exact absurd hr (by decide)
          |4,ho=>exact absurd hr (by decide)
          |5,ho=>exact absurd hr (by decide)
          |6,ho=>exact absurd hr (by decide)
          |7,ho=>exact absurd hr (by decide)
          |8,ho=>exact absurd hr (by decide)
          |9,ho=>exact absurd hr (by decide)
          |10,ho=>exact absurd hr (by decide)
          |11,ho=>exact absurd hr (by decide)
          |12,ho=>exact absurd hr (by decide)
          |i+13,ho=>exact absurd ho (by simp)
         ·intro aq wx hd hw hf hS hg
          have F0:tau aq 0=_:=hf 0 (by decide +kernel)
          have F1:tau aq 1=_:=hf 1 (by decide +kernel)
          have F2:tau aq 2=_:=hf 2 (by decide +kernel)
          have F3:tau aq 3=_:=hf 3 (by decide +kernel)
          have F4:tau aq 4=_:=hf 4 (by decide +kernel)
          have F5:tau aq 5=_:=hf 5 (by decide +kernel)
          have F6:tau aq 6=_:=hf 6 (by decide +kernel)
          have F7:tau aq 7=_:=hf 7 (by decide +kernel)
          have F8:tau aq 8=_:=hf 8 (by decide +kernel)
          have F9:tau aq 9=_:=hf 9 (by decide +kernel)
          have F10:tau aq 10=_:=hf 10 (by decide +kernel)
          have F11:tau aq 11=_:=hf 11 (by decide +kernel)
          have F12:tau aq 12=_:=hf 12 (by decide +kernel)
          have F13:tau aq 13=_:=hf 13 (by decide +kernel)
          have F14:tau aq 14=_:=hf 14 (by decide +kernel)
          have F15:tau aq 15=_:=hf 15 (by decide +kernel)
          have F16:tau aq 16=_:=hf 16 (by decide +kernel)
          have F17:tau aq 17=_:=hf 17 (by decide +kernel)
          have F18:tau aq 18=_:=hf 18 (by decide +kernel)
          have F19:tau aq 19=_:=hf 19 (by decide +kernel)
          have F20:tau aq 20=_:=hf 20 (by decide +kernel)
          have F21:tau aq 21=_:=hf 21 (by decide +kernel)
          have F22:tau aq 22=_:=hf 22 (by decide +kernel)
          have F23:tau aq 23=_:=hf 23 (by decide +kernel)
          have F24:tau aq 24=_:=hf 24 (by decide +kernel)
          have F25:tau aq 25=_:=hf 25 (by decide +kernel)
          have F26:tau aq 26=_:=hf 26 (by decide +kernel)
          have F27:tau aq 27=_:=hf 27 (by decide +kernel)
          have F28:tau aq 28=_:=hf 28 (by decide +kernel)
          have F42:tau aq 42=_:=hf 42 (by decide +kernel)
          have F43:tau aq 43=_:=hf 43 (by decide +kernel)
          have F44:tau aq 44=_:=hf 44 (by decide +kernel)
          have F45:tau aq 45=_:=hf 45 (by decide +kernel)
          have F46:tau aq 46=_:=hf 46 (by decide +kernel)
          have G41:tau aq 41= .bool false:=hg 12 (by decide)
          have haq:aq=⟨#[tau aq 0,tau aq 1,tau aq 2,tau aq 3,tau aq 4,tau aq 5,tau aq 6,tau aq 7,tau aq 8,tau aq 9,tau aq 10,tau aq 11,tau aq 12,tau aq 13,tau aq 14,tau aq 15,tau aq 16,tau aq 17,tau aq 18,tau aq 19,tau aq 20,tau aq 21,tau aq 22,tau aq 23,tau aq 24,tau aq 25,tau aq 26,tau aq 27,tau aq 28,tau aq 29,tau aq 30,tau aq 31,tau aq 32,tau aq 33,tau aq 34,tau aq 35,tau aq 36,tau aq 37,tau aq 38,tau aq 39,tau aq 40,tau aq 41,tau aq 42,tau aq 43,tau aq 44,tau aq 45,tau aq 46],[]⟩:=by
           obtain ⟨tq,dq⟩:=aq
           have h5:=arr_eq (show tq.size=47 from hw)
           have h6:dq= []:=hd
           subst h6
           exact congrArg (fun z=>Act.mk z []) h5
          show K2 aq wx
          rw[haq,F0,F1,F2,F3,F4,F5,F6,F7,F8,F9,F10,F11,F12,F13,F14,F15,F16,F17,F18,F19,F20,F21,F22,F23,F24,F25,F26,F27,F28,F42,F43,F44,F45,F46,G41]
          clear haq hf hd hw
          try dsimp only
          refine h3 _ _ ?_
          go_meet
          exact ⟨rfl,hS.cells (⟨w1.heap.size,0,none⟩,.int .i64 ((x:Int))) (by simp),hS.cells (⟨w1.heap.size,1,none⟩,.int .i64 ((y:Int))) (by simp),hS.below⟩
        case rest=>
         obtain ⟨rfl,c00,c01,hb0⟩:=hcut
         have z0:=World.block_lt_of_cell? _ _ c00
         change _<wc.heap.size at z0
         have hl2:=hl.below hb0
         have hz2:=hb0.size
         have hb2:Below w.heap.size w wc:=hb.trans (hb0.mono hz)
         have hz3:w.heap.size≤wc.heap.size:=Nat.le_trans hz hz2
         go_wp2
         go_roundw
         case rel=>first|exact ⟨y+1,by omega,by first|rfl|go_num,a,c,by rw[unhide EC],by rw[unhide EC,unhide EL];exact hl2,hb2⟩|((repeat apply Exists.intro);exact ⟨⟨y+1,by omega,by first|rfl|go_num,a,c,by rw[unhide EC],by rw[unhide EC,unhide EL];exact hl2,hb2⟩,rfl⟩)
         case measure=>simp [intOf];omega
      ·obtain ⟨el,ec⟩:=pp_no1 (x:=x) hym (by simp [ppI,k1])
       have EL:=hide el
       have EC:=hide ec
       clear el ec
       go_upto_region 11 with fail
       go_cut [41] (fun s41 wx=>s41= .bool false∧wx.cell? ⟨w1.heap.size,0,none⟩=some (.int .i64 ((x:Int)))∧wx.cell? ⟨w1.heap.size,1,none⟩=some (.int .i64 ((y:Int)))∧Below w1.heap.size w1 wx)
       case first=>
        rename_i Q1 K1 h1 J1 K2 h2 h3
        refine region_inv2 (by kernel_rfl) (fun j=> #[29,30,31,32,33,34,35,36,37,38,39,40,41].getD j 0) (fun j=>Kd.ok ((fun j=>match j with|0=>Kd.val (.int .i64 ((x:Int)))|1=>Kd.val (.int .i64 ((y:Int)))|2=>Kd.val (.int .i64 ((m:Int)))|3=>Kd.val (.int .i64 (igcd (y:Int) (m:Int)))|4=>Kd.val (.int .i64 (contI (x:Int) (y:Int) (m:Int)))|5=>Kd.val (.bool false)|6=>Kd.val (.bool false)|7=>Kd.val undef|8=>Kd.val undef|9=>Kd.val undef|10=>Kd.val undef|11=>Kd.val undef|12=>Kd.val (.bool false)|_=>Kd.any:Nat→Kd) j)) (Sy w1 (w1.heap.size+1) [(⟨w1.heap.size,0,none⟩,.int .i64 ((x:Int))),(⟨w1.heap.size,1,none⟩,.int .i64 ((y:Int)))] []) (fun j=> #[true,true,true,true,true,true,true,false,false,false,false,false,true].getD j true) (by kernel_rfl) ?_ ?_ ?_ ?_ ?_ ?_
        ·intro j hj
         have hj2:j<13:=hj
         have: ∀j,j<13→(#[29,30,31,32,33,34,35,36,37,38,39,40,41]:Array Nat).getD j 0<47:=by decide
         exact this j hj2
        ·intro i o ho
         match i,ho with
         |0,ho=>cases ho;intro aq wq hd;exact wanted_free rfl
         |1,ho=>cases ho;intro aq wq hd;exact wanted_free rfl
         |2,ho=>cases ho;intro aq wq hd;exact wanted_free rfl
         |3,ho=>cases ho;intro aq wq hd;exact wanted_free rfl
         |4,ho=>cases ho;intro aq wq hd;exact wanted_free rfl
         |5,ho=>cases ho;intro aq wq hd;exact wanted_free rfl
         |6,ho=>cases ho;intro aq wq hd;exact wanted_free rfl
         |7,ho=>cases ho;intro aq wq hd;exact wanted_of (j:=6) (t:=35) (want:=true) (b:=false) rfl rfl (hd 6 (by decide +kernel))
         |8,ho=>cases ho;intro aq wq hd;exact wanted_of (j:=6) (t:=35) (want:=true) (b:=false) rfl rfl (hd 6 (by decide +kernel))
         |9,ho=>cases ho;intro aq wq hd;exact wanted_of (j:=6) (t:=35) (want:=true) (b:=false) rfl rfl (hd 6 (by decide +kernel))
         |10,ho=>cases ho;intro aq wq hd;exact wanted_of (j:=6) (t:=35) (want:=true) (b:=false) rfl rfl (hd 6 (by decide +kernel))
         |11,ho=>cases ho;intro aq wq hd;exact wanted_of (j:=6) (t:=35) (want:=true) (b:=false) rfl rfl (hd 6 (by decide +kernel))
         |12,ho=>cases ho;intro aq wq hd;exact wanted_free rfl
         |i+13,ho=>exact absurd ho (by simp)
        ·refine Sy.drew (Sy.mk_of ?_ ?_ ?_ ?_)
         ·first|rfl|(simp;done)|(simp;omega)
         ·intro c hc
          simp only[List.mem_cons,List.not_mem_nil,or_false] at hc
          rcases hc with rfl|rfl<;>first|assumption|(go_simp;done)
         ·intro p hp;cases hp
         ·(repeat' (first|(with_reducible exact Below.refl _ _)|(with_reducible assumption)|(with_reducible refine gr_alloc ?_ _)|(with_reducible refine below_drewN ?_ _)|(with_reducible refine below_drew ?_)|(with_reducible refine gr_call ?_ (by assumption))|(with_reducible refine Below.setCell ?_ ?_ _)|go_size|omega|(simp;omega)))
        ·clear h1 h2 h3
         intro i o ho
         match i,ho with
         |0,ho=>
          cases ho
          intro _ aq wx Kq hf hS hdep hw hK
          have F5:aq.eval (.tmp 5)= .int .i64 ((x:Int)):=hf 5 (by decide +kernel)
          clear hf hw hdep
          have ev1:=ev_const aq
          have ev2:=ev_func aq
          unfold Oper.wp
          generalize Act.eval _=ev at*
          go_simp
          refine hK _ _ hS ?_ (fun j u _ h=>h)
          rw[if_pos (by rfl)]
          show (_:Value)=_
          first|rfl|(refine congrArg (Value.int IntKind.i64) ?_;first|rfl|exact int_in (by omega)|exact quo_in (by omega) (by omega) (by omega)|exact rem_in (by omega) (by omega)|omega|exact cont_alt _ _ _)|(simp;done)|(simp [*];done)
         |1,ho=>
          cases ho
          intro _ aq wx Kq hf hS hdep hw hK
          have F6:aq.eval (.tmp 6)= .int .i64 ((y:Int)):=hf 6 (by decide +kernel)
          clear hf hw hdep
          have ev1:=ev_const aq
          have ev2:=ev_func aq
          unfold Oper.wp
          generalize Act.eval _=ev at*
          go_simp
          refine hK _ _ hS ?_ (fun j u _ h=>h)
          rw[if_pos (by rfl)]
          show (_:Value)=_
          first|rfl|(refine congrArg (Value.int IntKind.i64) ?_;first|rfl|exact int_in (by omega)|exact quo_in (by omega) (by omega) (by omega)|exact rem_in (by omega) (by omega)|omega|exact cont_alt _ _ _)|(simp;done)|(simp [*];done)
         |2,ho=>
          cases ho
          intro _ aq wx Kq hf hS hdep hw hK
          have F0:aq.eval (.tmp 0)= .int .i64 ((m:Int)):=hf 0 (by decide +kernel)
          clear hf hw hdep
          have ev1:=ev_const aq
          have ev2:=ev_func aq
          unfold Oper.wp
          generalize Act.eval _=ev at*
          go_simp
          refine hK _ _ hS ?_ (fun j u _ h=>h)
          rw[if_pos (by rfl)]
          show (_:Value)=_
          first|rfl|(refine congrArg (Value.int IntKind.i64) ?_;first|rfl|exact int_in (by omega)|exact quo_in (by omega) (by omega) (by omega)|exact rem_in (by omega) (by omega)|omega|exact cont_alt _ _ _)|(simp;done)|(simp [*];done)
         |3,ho=>
          cases ho
          intro _ aq wx Kq hf hS hdep hw hK
          have D1:aq.eval (.tmp 30)=_:=hdep 1 (by decide +kernel)
          have D2:aq.eval (.tmp 31)=_:=hdep 2 (by decide +kernel)
          clear hf hw hdep
          have ev1:=ev_const aq
          have ev2:=ev_func aq
          unfold Oper.wp
          generalize Act.eval _=ev at*
          go_simp
          refine ((gcd_a _ _ _ (by omega) (by omega))).mono ?_
          rintro e w2 ⟨rfl,nq,rfl⟩
          refine hK _ _ (hS.call (below_drewN_self _ _)) ?_ (fun j u _ h=>Kd.ok_below (below_drewN_self _ _) h)
          rw[if_pos (by rfl)]
          show (_:Value)=_
          first|rfl|(refine congrArg (Value.int IntKind.i64) ?_;first|rfl|exact int_in (by omega)|exact quo_in (by omega) (by omega) (by omega)|exact rem_in (by omega) (by omega)|omega|exact cont_alt _ _ _)|(simp;done)|(simp [*];done)
         |4,ho=>
          cases ho
          intro _ aq wx Kq hf hS hdep hw hK
          have D0:aq.eval (.tmp 29)=_:=hdep 0 (by decide +kernel)
          have D3:aq.eval (.tmp 32)=_:=hdep 3 (by decide +kernel)
          clear hf hw hdep
          have ev1:=ev_const aq
          have ev2:=ev_func aq
          unfold Oper.wp
          generalize Act.eval _=ev at*
          go_simp
          refine ((gcd_a _ _ _ (by omega) (by omega))).mono ?_
          rintro e w2 ⟨rfl,nq,rfl⟩
          refine hK _ _ (hS.call (below_drewN_self _ _)) ?_ (fun j u _ h=>Kd.ok_below (below_drewN_self _ _) h)
          rw[if_pos (by rfl)]
          show (_:Value)=_
          first|rfl|(refine congrArg (Value.int IntKind.i64) ?_;first|rfl|exact int_in (by omega)|exact quo_in (by omega) (by omega) (by omega)|exact rem_in (by omega) (by omega)|omega|exact cont_alt _ _ _)|(simp;done)|(simp [*];done)
         |5,ho=>
          cases ho
          intro _ aq wx Kq hf hS hdep hw hK
          have D4:aq.eval (.tmp 33)=_:=hdep 4 (by decide +kernel)
          clear hf hw hdep
          have ev1:=ev_const aq
          have ev2:=ev_func aq
          unfold Oper.wp
          generalize Act.eval _=ev at*
          go_simp
          refine hK _ _ hS ?_ (fun j u _ h=>h)
          rw[if_pos (by rfl)]
          show (_:Value)=_
          first|rfl|(refine congrArg (Value.int IntKind.i64) ?_;first|rfl|exact int_in (by omega)|exact quo_in (by omega) (by omega) (by omega)|exact rem_in (by omega) (by omega)|omega|exact cont_alt _ _ _)|(simp;done)|(simp [*];done)
         |6,ho=>
          cases ho
          intro _ aq wx Kq hf hS hdep hw hK
          have D5:aq.eval (.tmp 34)=_:=hdep 5 (by decide +kernel)
          clear hf hw hdep
          have ev1:=ev_const aq
          have ev2:=ev_func aq
          unfold Oper.wp
          generalize Act.eval _=ev at*
          go_simp
          refine hK _ _ hS ?_ (fun j u _ h=>h)
          rw[if_pos (by rfl)]
          show (_:Value)=_
          first|rfl|(refine congrArg (Value.int IntKind.i64) ?_;first|rfl|exact int_in (by omega)|exact quo_in (by omega) (by omega) (by omega)|exact rem_in (by omega) (by omega)|omega|exact cont_alt _ _ _)|(simp;done)|(simp [*];done)
         |7,ho=>intro hr;exact absurd hr (by decide)
         |8,ho=>intro hr;exact absurd hr (by decide)
         |9,ho=>intro hr;exact absurd hr (by decide)
         |10,ho=>intro hr;exact absurd hr (by decide)
         |11,ho=>intro hr;exact absurd hr (by decide)
         |12,ho=>
          cases ho
          intro _ aq wx Kq hf hS hdep hw hK
          have D6:aq.eval (.tmp 35)=_:=hdep 6 (by decide +kernel)
          have D11:aq.eval (.tmp 40)=_:=hdep 11 (by decide +kernel)
          clear hf hw hdep
          have ev1:=ev_const aq
          have ev2:=ev_func aq
          unfold Oper.wp
          generalize Act.eval _=ev at*
          go_simp
          refine hK _ _ hS ?_ (fun j u _ h=>h)
          rw[if_pos (by rfl)]
          show (_:Value)=_
          first|rfl|(refine congrArg (Value.int IntKind.i64) ?_;first|rfl|exact int_in (by omega)|exact quo_in (by omega) (by omega) (by omega)|exact rem_in (by omega) (by omega)|omega|exact cont_alt _ _ _)|(simp;done)|(simp [*];done)
         |i+13,ho=>exact absurd ho (by simp)
        ·intro i o ho hr
         match i,ho with
         |0,ho=>exact absurd hr (by decide)
         |1,ho=>exact absurd hr (by decide)
         |2,ho=>exact absurd hr (by decide)
         |3,ho=>exact absurd hr (by decide)
         |4,ho=>exact absurd hr (by decide)
         |5,ho=>exact absurd hr (by decide)
         |6,ho=>exact absurd hr (by decide)
         |7,ho=>cases ho;exact ⟨rfl,fun _ _=>rfl⟩
         |8,ho=>cases ho;exact ⟨rfl,fun _ _=>rfl⟩
         |9,ho=>cases ho;exact ⟨rfl,fun _ _=>rfl⟩
         |10,ho=>cases ho;exact ⟨rfl,fun _ _=>rfl⟩
         |11,ho=>cases ho;exact ⟨rfl,fun _ _=>rfl⟩
         |12,ho=>exact absurd hr (by decide)
         |i+13,ho=>exact absurd ho (by simp)
        ·intro aq wx hd hw hf hS hg
         have F0:tau aq 0=_:=hf 0 (by decide +kernel)
         have F1:tau aq 1=_:=hf 1 (by decide +kernel)
         have F2:tau aq 2=_:=hf 2 (by decide +kernel)
         have F3:tau aq 3=_:=hf 3 (by decide +kernel)
         have F4:tau aq 4=_:=hf 4 (by decide +kernel)
         have F5:tau aq 5=_:=hf 5 (by decide +kernel)
         have F6:tau aq 6=_:=hf 6 (by decide +kernel)
         have F7:tau aq 7=_:=hf 7 (by decide +kernel)
         have F8:tau aq 8=_:=hf 8 (by decide +kernel)
         have F9:tau aq 9=_:=hf 9 (by decide +kernel)
         have F10:tau aq 10=_:=hf 10 (by decide +kernel)
         have F11:tau aq 11=_:=hf 11 (by decide +kernel)
         have F12:tau aq 12=_:=hf 12 (by decide +kernel)
         have F13:tau aq 13=_:=hf 13 (by decide +kernel)
         have F14:tau aq 14=_:=hf 14 (by decide +kernel)
         have F15:tau aq 15=_:=hf 15 (by decide +kernel)
         have F16:tau aq 16=_:=hf 16 (by decide +kernel)
         have F17:tau aq 17=_:=hf 17 (by decide +kernel)
         have F18:tau aq 18=_:=hf 18 (by decide +kernel)
         have F19:tau aq 19=_:=hf 19 (by decide +kernel)
         have F20:tau aq 20=_:=hf 20 (by decide +kernel)
         have F21:tau aq 21=_:=hf 21 (by decide +kernel)
         have F22:tau aq 22=_:=hf 22 (by decide +kernel)
         have F23:tau aq 23=_:=hf 23 (by decide +kernel)
         have F24:tau aq 24=_:=hf 24 (by decide +kernel)
         have F25:tau aq 25=_:=hf 25 (by decide +kernel)
         have F26:tau aq 26=_:=hf 26 (by decide +kernel)
         have F27:tau aq 27=_:=hf 27 (by decide +kernel)
         have F28:tau aq 28=_:=hf 28 (by decide +kernel)
         have F42:tau aq 42=_:=hf 42 (by decide +kernel)
         have F43:tau aq 43=_:=hf 43 (by decide +kernel)
         have F44:tau aq 44=_:=hf 44 (by decide +kernel)
         have F45:tau aq 45=_:=hf 45 (by decide +kernel)
         have F46:tau aq 46=_:=hf 46 (by decide +kernel)
         have G41:tau aq 41= .bool false:=hg 12 (by decide)
         have haq:aq=⟨#[tau aq 0,tau aq 1,tau aq 2,tau aq 3,tau aq 4,tau aq 5,tau aq 6,tau aq 7,tau aq 8,tau aq 9,tau aq 10,tau aq 11,tau aq 12,tau aq 13,tau aq 14,tau aq 15,tau aq 16,tau aq 17,tau aq 18,tau aq 19,tau aq 20,tau aq 21,tau aq 22,tau aq 23,tau aq 24,tau aq 25,tau aq 26,tau aq 27,tau aq 28,tau aq 29,tau aq 30,tau aq 31,tau aq 32,tau aq 33,tau aq 34,tau aq 35,tau aq 36,tau aq 37,tau aq 38,tau aq 39,tau aq 40,tau aq 41,tau aq 42,tau aq 43,tau aq 44,tau aq 45,tau aq 46],[]⟩:=by
          obtain ⟨tq,dq⟩:=aq
          have h5:=arr_eq (show tq.size=47 from hw)
          have h6:dq= []:=hd
          subst h6
          exact congrArg (fun z=>Act.mk z []) h5
         show K2 aq wx
         rw[haq,F0,F1,F2,F3,F4,F5,F6,F7,F8,F9,F10,F11,F12,F13,F14,F15,F16,F17,F18,F19,F20,F21,F22,F23,F24,F25,F26,F27,F28,F42,F43,F44,F45,F46,G41]
         clear haq hf hd hw
         try dsimp only
         refine h3 _ _ ?_
         go_meet
         exact ⟨rfl,hS.cells (⟨w1.heap.size,0,none⟩,.int .i64 ((x:Int))) (by simp),hS.cells (⟨w1.heap.size,1,none⟩,.int .i64 ((y:Int))) (by simp),hS.below⟩
       case rest=>
        obtain ⟨rfl,c00,c01,hb0⟩:=hcut
        have z0:=World.block_lt_of_cell? _ _ c00
        change _<wc.heap.size at z0
        have hl2:=hl.below hb0
        have hz2:=hb0.size
        have hb2:Below w.heap.size w wc:=hb.trans (hb0.mono hz)
        have hz3:w.heap.size≤wc.heap.size:=Nat.le_trans hz hz2
        go_wp2
        go_roundw
        case rel=>first|exact ⟨y+1,by omega,by first|rfl|go_num,a,c,by rw[unhide EC],by rw[unhide EC,unhide EL];exact hl2,hb2⟩|((repeat apply Exists.intro);exact ⟨⟨y+1,by omega,by first|rfl|go_num,a,c,by rw[unhide EC],by rw[unhide EC,unhide EL];exact hl2,hb2⟩,rfl⟩)
        case measure=>simp [intOf];omega
     ·obtain rfl:y=m:=by omega
      go_wp2
      go_roundw
      case rel=>first|exact ⟨x+1,by omega,by first|rfl|go_num,a,c,by rw[←ppK_row],by rw[←ppK_row];exact hl,hb⟩|((repeat apply Exists.intro);exact ⟨⟨x+1,by omega,by first|rfl|go_num,a,c,by rw[←ppK_row],by rw[←ppK_row];exact hl,hb⟩,rfl⟩)
      case measure=>simp [intOf];omega
   ·obtain rfl:x=m:=by omega
    go_wp2
    go_ret2
    exact ⟨a,c,rfl,hl.at.2.keep (fun _ _ _=>rfl),hb⟩

end Go.Proofs.YtobkcnmlmmhpoaaGreat
