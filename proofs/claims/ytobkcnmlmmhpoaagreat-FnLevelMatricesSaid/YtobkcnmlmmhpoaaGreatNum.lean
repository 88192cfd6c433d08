/- Plain arithmetic: integer square roots, with no program in sight. Small lemmas on walks that every later text uses. The walks of impl.root and spec.nuRoot, isSquare and nuSquare: both return the integer square root. Slices of integers that lie in blocks of the call's own, and the laws' helpers over them: equal, mark, held. impl.abs, and the tests that all integers of a slice lie in a range. Worlds that have grown, and sums that are less. abs, mod, gcd on both sides. -/
import Derived.WalkKit
import Derived.WalkSpells
import Derived.WalkLawsBesides
import Derived.Test.YtobkcnmlmmhpoaaGreatProg
import Derived.Deep.OwnRows
import Derived.Deep.Draws
import Derived.Deep.QuietTactic
import Derived.BigQuiet
import Derived.Handy
import Derived.Outline
import Derived.Deep.DeepFit
namespace Go.Proofs.YtobkcnmlmmhpoaaGreat

def isqN:Nat→Nat
 |0=>0
 |n+1=>if (isqN n+1)*(isqN n+1)≤n+1 then isqN n+1 else isqN n

theorem isqN_spec (n:Nat):isqN n*isqN n≤n∧n<(isqN n+1)*(isqN n+1):=by
 induction n with
 |zero=>simp [isqN]
 |succ n ih=>
  obtain ⟨h1,h2⟩:=ih
  unfold isqN
  split
  ·rename_i h
   refine ⟨h,?_⟩
   have:(isqN n+1+1)*(isqN n+1+1)=(isqN n+1)*(isqN n+1)+2*(isqN n+1)+1:=by
    rw[Nat.add_mul,Nat.mul_add (isqN n+1)];omega
   omega
  ·rename_i h
   exact ⟨by omega,by omega⟩

theorem sq_mono {a b:Int} (ha:0≤a) (h:a≤b):a*a≤b*b:=
 Int.mul_le_mul h h ha (by omega)

end Go.Proofs.YtobkcnmlmmhpoaaGreat
namespace Go.Proofs.YtobkcnmlmmhpoaaGreat
open Go.RowKit
set_option linter.unusedVariables false
set_option linter.unusedSimpArgs false

theorem hide {p:Prop} (h:p):Hid p:=h
theorem unhide {p:Prop} (h:Hid p):p:=h
theorem ret_int {k:IntKind} {a b:Int} (h:a=b):Ending.returned (.int k a)= .returned (.int k b):=by rw[h]
theorem ret_bb {a b c d:Bool} (h:a=b) (h2:c=d):Ending.returned (.tuple #[.bool a,.bool c])= .returned (.tuple #[.bool b,.bool d]):=by rw[h,h2]
theorem ret_bool {a b:Bool} (h:a=b):Ending.returned (.bool a)= .returned (.bool b):=by rw[h]
theorem bcell {W w1:World} (hb:Below W.heap.size W w1):(∀b o,b<W.heap.size→w1.cell? ⟨b,o,none⟩=W.cell? ⟨b,o,none⟩)∧(∀b o,b<W.heap.size→w1.frozen? ⟨b,o,none⟩=W.frozen? ⟨b,o,none⟩):=
 ⟨fun b o h=>hb.cell (p:=⟨b,o,none⟩) h,fun b o h=>hb.frozen (p:=⟨b,o,none⟩) h⟩
def inB (n lo hi:Int):Bool:=decide (lo≤n)&&decide (n≤hi)
theorem inB_true {n lo hi:Int} (h:inB n lo hi=true):lo≤n∧n≤hi:=by unfold inB at h;simpa using h
theorem inB_false {n lo hi:Int} (h:inB n lo hi=false): ¬(lo≤n∧n≤hi):=by unfold inB at h;simpa using h

end Go.Proofs.YtobkcnmlmmhpoaaGreat
namespace Go.Proofs.YtobkcnmlmmhpoaaGreat
open Go.RowKit
set_option linter.unusedVariables false
set_option linter.unusedSimpArgs false

set_option maxHeartbeats 400000 in
theorem l1In_any (n lo hi:Int) (w:World):
  Calls Tryz.prog 34 #[.int .i64 n,.int .i64 lo,.int .i64 hi] w fun e w'=>e= .returned (.bool (inB n lo hi))∧w=w':=by
 go_enter Tryz.func34,Tryz.ntmps34
 go_wp2
 all_goals (go_ret;exact ⟨ret_bool (by simp [inB];try omega),rfl⟩)

end Go.Proofs.YtobkcnmlmmhpoaaGreat
namespace Go.Proofs.YtobkcnmlmmhpoaaGreat
open Go.RowKit
set_option linter.unusedVariables false
set_option linter.unusedSimpArgs false

def IntsAt (w:World) (lo hi:Nat) (a:Option Addr) (n:Nat) (f:Nat→Int):Prop:=
 n=0∨ ∃g cap F,a=some ⟨g,0,none⟩∧lo≤g∧g<hi∧n≤cap∧w.rowIs g 3 cap F∧ ∀i,i<n→F i= .int .i64 (f i)

theorem IntsAt.keep {w w':World} {lo hi:Nat} {a:Option Addr} {n:Nat} {f:Nat→Int} (h:IntsAt w lo hi a n f) (hk: ∀k,lo≤k→k<hi→w'.heap[k]? =w.heap[k]?):IntsAt w' lo hi a n f:=by
 rcases h with h|⟨g,cap,F,ha,h1,h2,h3,h4,h5⟩
 ·exact .inl h
 ·exact .inr ⟨g,cap,F,ha,h1,h2,h3,h4.of_block (hk g h1 h2),h5⟩
theorem IntsAt.below {w w':World} {lo hi B:Nat} {a:Option Addr} {n:Nat} {f:Nat→Int} (h:IntsAt w lo hi a n f) (hb:Below B w w') (hB:hi≤B):IntsAt w' lo hi a n f:=
 h.keep fun k _ h2=>hb.block k (by omega)
theorem IntsAt.weak {w:World} {lo hi lo' hi':Nat} {a:Option Addr} {n:Nat} {f:Nat→Int} (h:IntsAt w lo hi a n f) (h1:lo'≤lo) (h2:hi≤hi'):IntsAt w lo' hi' a n f:=by
 rcases h with h|⟨g,cap,F,ha,g1,g2,r⟩
 ·exact .inl h
 ·exact .inr ⟨g,cap,F,ha,by omega,by omega,r⟩
theorem below_drewN {B:Nat} {a w:World} (h:Below B a w) (n:Nat):Below B a (w.drewN n):=⟨h.os,h.tape,h.output,h.size,h.block⟩

end Go.Proofs.YtobkcnmlmmhpoaaGreat
namespace Go.Proofs.YtobkcnmlmmhpoaaGreat
open Go.RowKit
set_option linter.unusedVariables false
set_option linter.unusedSimpArgs false

def I64 (n:Int):Prop:= -9223372036854775808≤n∧n≤9223372036854775807
def allB (zs:List Int) (lo hi:Int):Bool:=zs.all (fun z=>inB z lo hi)
theorem allB_no {zs:List Int} {lo hi:Int} {k:Nat} (hk:k<zs.length) (h:inB (zs.getD k 0) lo hi=false):allB zs lo hi=false:=by
 rw[List.getD_eq_getElem?_getD,List.getElem?_eq_getElem hk] at h
 unfold allB
 rw[List.all_eq_false]
 exact ⟨zs[k],List.getElem_mem hk,by simpa using h⟩
theorem allB_yes {zs:List Int} {lo hi:Int} (h: ∀k,k<zs.length→inB (zs.getD k 0) lo hi=true):allB zs lo hi=true:=by
 unfold allB
 rw[List.all_eq_true]
 intro z hz
 obtain ⟨k,hk,rfl⟩:=List.mem_iff_getElem.1 hz
 have:=h k hk
 rwa [List.getD_eq_getElem?_getD,List.getElem?_eq_getElem hk] at this
def Cells (w:World) (g:Nat) (zs:List Int):Prop:= ∀i,i<zs.length→w.cell? ⟨g,i,none⟩=some (.int .i64 (zs.getD i 0))
theorem Cells.keep {w w':World} {g:Nat} {zs:List Int} (h:Cells w g zs) (e:w'.heap[g]? =w.heap[g]?):Cells w' g zs:=fun i hi=>(World.cell?_of_block (a:=⟨g,i,none⟩) e).trans (h i hi)


set_option maxHeartbeats 1000000 in
theorem areNumbers_any (zs:List Int)  (g c:Nat) (w:World) (hw: ∀i,i<zs.length→I64 (zs.getD i 0)) (hl:zs.length≤1000000) (hc:Cells w g zs):
  Calls Tryz.prog 58 #[.slice (some ⟨g,0,none⟩) zs.length c] w fun e w'=>e= .returned (.bool (allB zs (-1000000) 1000000))∧w=w':=by
 have HC:=hide hc
 have HW:=hide hw
 clear hc hw
 go_enter Tryz.func58,Tryz.ntmps58
 go_wp2
 go_loop [7] (fun ks=> ∃k:Nat,k≤zs.length∧ks= .int .i64 (k:Int)∧(∀j,j<k→inB (zs.getD j 0) (-1000000) 1000000=true)) (fun ks=>zs.length-(intOf ks).toNat)
 case atStart=>exact ⟨0,by omega,rfl,fun j hj=>by omega⟩
 case round=>
  obtain ⟨k,hk,rfl,hall⟩:=hrel
  have HA:=hide hall
  clear hall
  by_cases c1:k<zs.length
  ·have hci:(k:Int)<(zs.length:Int):=by omega
   have hcell:=unhide HC k c1
   have hz:=unhide HW k c1
   cases hb:inB (zs.getD k 0) (-1000000) 1000000
   ·have hfin:=allB_no c1 hb
    have HF:=hide hfin
    generalize hZ:zs.getD k 0=z at*
    have hd:=inB_false hb
    have HZ:=hide hZ
    have HB:=hide hb
    have HI:=hide hz
    clear hfin hZ hz
    go_wp2_with fail
    all_goals (go_ret;exact ⟨ret_bool (unhide HF).symm,rfl⟩)
   ·have hall2: ∀j,j<k+1→inB (zs.getD j 0) (-1000000) 1000000=true:=fun j hj=>by
     by_cases e:j=k
     ·rw [e];exact hb
     ·exact unhide HA j (by omega)
    have HA2:=hide hall2
    generalize hZ:zs.getD k 0=z at*
    obtain ⟨hd1,hd2⟩:=inB_true hb
    have HZ:=hide hZ
    have HB:=hide hb
    have HI:=hide hz
    clear hall2 hZ hz
    go_wp2_with fail
    go_round
    case rel=>exact ⟨k+1,by omega,by go_num,unhide HA2⟩
    case measure=>simp [intOf];omega
  ·have hk2:k=zs.length:=by omega
   have hfin:allB zs (-1000000) 1000000=true:=allB_yes (by rw[←hk2];exact unhide HA)
   have HF:=hide hfin
   clear hk2 hfin
   go_wp2
   go_ret
   exact ⟨ret_bool (unhide HF).symm,rfl⟩

end Go.Proofs.YtobkcnmlmmhpoaaGreat
namespace Go.Proofs.YtobkcnmlmmhpoaaGreat
open Go.RowKit
set_option linter.unusedVariables false
set_option linter.unusedSimpArgs false
theorem gr_alloc {w W:World} (h:Below w.heap.size w W) (o:Obj):Below w.heap.size w (W.alloc o):=h.alloc h.size o
theorem gr_call {w W w2:World} (h:Below w.heap.size w W) (h2:Below W.heap.size W w2):Below w.heap.size w w2:=h.trans (h2.mono h.size)
theorem below_drew {B:Nat} {a w:World} (h:Below B a w):Below B a w.drew:=⟨h.os,h.tape,h.output,h.size,h.block⟩
theorem cell_call {W w':World} {a:Addr} {v:Value} (hb:Below W.heap.size W w') (h:W.cell? a=some v):w'.cell? a=some v:=by
 rw[hb.cell (World.block_lt_of_cell? W a h)];exact h
theorem frz_call {W w':World} {a:Addr} (hb:Below W.heap.size W w') (hl:a.block<W.heap.size) (h:W.frozen? a=false):w'.frozen? a=false:=by
 rw[hb.frozen hl];exact h
theorem lt_keep {W w':World} (hb:Below W.heap.size W w'): ∀k,k<W.heap.size→k<w'.heap.size:=fun k h=>Nat.lt_of_lt_of_le h hb.size
theorem q2 (n:Nat):n<n+1+1:=by omega
theorem q3 (n:Nat):n<n+1+1+1:=by omega
theorem q4 (n:Nat):n<n+1+1+1+1:=by omega
theorem q5 (n:Nat):n<n+1+1+1+1+1:=by omega
theorem q6 (n:Nat):n<n+1+1+1+1+1+1:=by omega
theorem q7 (n:Nat):n<n+1+1+1+1+1+1+1:=by omega
theorem q8 (n:Nat):n<n+1+1+1+1+1+1+1+1:=by omega
theorem q9 (n:Nat):n<n+1+1+1+1+1+1+1+1+1:=by omega
theorem q10 (n:Nat):n<n+1+1+1+1+1+1+1+1+1+1:=by omega
theorem q11 (n:Nat):n<n+1+1+1+1+1+1+1+1+1+1+1:=by omega
theorem q12 (n:Nat):n<n+1+1+1+1+1+1+1+1+1+1+1+1:=by omega
theorem cells_new (W:World) (cs:Array Value) (t:TypeId) (zs:List Int) (B:Nat) (h:cs.toList=zs.map (Value.int .i64)) (hB:B=W.heap.size):Cells (W.alloc (.cells cs t)) B zs:=by
 intro i hi
 subst hB
 have hn:=heap_alloc_new W (.cells cs t)
 rw[cell_of_row _ _ i cs t (0,0) hn]
 have:cs[i]? =cs.toList[i]? :=by simp
 rw[this,h,List.getElem?_map,List.getElem?_eq_getElem hi,List.getD_eq_getElem?_getD,List.getElem?_eq_getElem hi]
 rfl
theorem i64_list {zs:List Int} (h: ∀z ∈ zs,I64 z): ∀i,i<zs.length→I64 (zs.getD i 0):=fun i hi=>by
 rw[List.getD_eq_getElem?_getD,List.getElem?_eq_getElem hi];exact h _ (List.getElem_mem hi)
theorem allB_mem {zs:List Int} {lo hi:Int} (h:allB zs lo hi=true): ∀z ∈ zs,lo≤z∧z≤hi:=by
 intro z hz
 unfold allB at h
 rw[List.all_eq_true] at h
 exact inB_true (h z hz)
end Go.Proofs.YtobkcnmlmmhpoaaGreat
namespace Go.Proofs.YtobkcnmlmmhpoaaGreat
open Go.RowKit
set_option linter.unusedVariables false
set_option linter.unusedSimpArgs false
theorem mod_tmod {a m:Int} (hm:0<m):(if a.tmod m<0 then a.tmod m+m else a.tmod m)=a%m:=by
 have h1:=Int.tmod_add_mul_tdiv a m
 have h2:(a.tmod m).natAbs<m.natAbs:=by rw[Int.natAbs_tmod];exact Nat.mod_lt _ (by omega)
 have h3:a%m=(a.tmod m)%m:=by
  conv=>lhs;rw [←h1]
  rw[Int.add_mul_emod_self_left]
 rw[h3]
 split
 ·rw [←Int.add_emod_right (a.tmod m) m]
  exact (Int.emod_eq_of_lt (by omega) (by omega)).symm
 ·exact (Int.emod_eq_of_lt (by omega) (by omega)).symm
theorem tmod_bd {a m:Int} (hm:m≠0): -m.natAbs<a.tmod m∧a.tmod m<m.natAbs:=by
 have h2:(a.tmod m).natAbs<m.natAbs:=by rw[Int.natAbs_tmod];exact Nat.mod_lt _ (by omega)
 omega
theorem gcd_step {a b:Int} :Int.gcd b (a.tmod b)=Int.gcd a b:=by
 unfold Int.gcd
 rw[Int.natAbs_tmod,Nat.gcd_comm b.natAbs,←Nat.gcd_rec,Nat.gcd_comm]
def igcd (a b:Int):Int:=(Int.gcd a b:Int)
theorem igcd_nonneg (a b:Int):0≤igcd a b:=by unfold igcd;omega
theorem gcd_le_bd {a b:Int} (ha: -4611686018427387904≤a∧a≤4611686018427387904) (hb: -4611686018427387904≤b∧b≤4611686018427387904):0≤igcd a b∧igcd a b≤4611686018427387904:=by
 refine ⟨igcd_nonneg a b,?_⟩
 unfold igcd
 by_cases h:a=0
 ·subst h;simp;omega
 ·have:=Nat.le_of_dvd (by omega) (Int.gcd_dvd_natAbs_left a b);omega

set_option maxRecDepth 100000 in
set_option maxHeartbeats 400000 in
theorem abs_a (n:Int) (w:World) (h0: -4611686018427387904≤n∧n≤4611686018427387904):
  Calls Tryz.prog 36 #[.int .i64 n] w fun e w'=>e= .returned (.int .i64 ((n.natAbs:Int)))∧w=w':=by
 go_enter Tryz.func36,Tryz.ntmps36
 go_wp2
 all_goals (go_ret;exact ⟨ret_int (by omega),rfl⟩)

set_option maxRecDepth 100000 in
set_option maxHeartbeats 400000 in
theorem l1Most_a (a b:Int) (w:World):
  Calls Tryz.prog 105 #[.int .i64 a,.int .i64 b] w fun e w'=>e= .returned (.int .i64 (max a b))∧w=w':=by
 go_enter Tryz.func105,Tryz.ntmps105
 go_wp2
 all_goals (go_ret;exact ⟨ret_int (by omega),rfl⟩)

set_option maxRecDepth 100000 in
set_option maxHeartbeats 400000 in
theorem l1Abs_a (n:Int) (w:World) (h0: -4611686018427387904≤n∧n≤4611686018427387904):
  Calls Tryz.prog 99 #[.int .i64 n] w fun e w'=>e= .returned (.int .i64 ((n.natAbs:Int)))∧w=w':=by
 go_enter Tryz.func99,Tryz.ntmps99
 go_wp2_with (go_at_call 105;refine (l1Most_a _ _ _).mono ?_;rintro e w' ⟨rfl,rfl⟩)
 go_ret
 exact ⟨ret_int (by omega),rfl⟩

set_option maxRecDepth 100000 in
set_option maxHeartbeats 400000 in
theorem mod_a (a m:Int) (w:World) (h0: -4611686018427387904≤a∧a≤4611686018427387904) (h1:0<m) (h2:m≤4611686018427387904):
  Calls Tryz.prog 66 #[.int .i64 a,.int .i64 m] w fun e w'=>e= .returned (.int .i64 (a%m))∧w=w':=by
 have hr:=mod_tmod (a:=a) h1
 obtain ⟨b1,b2⟩:=tmod_bd (a:=a) (m:=m) (by omega)
 have b3: -m<a.tmod m:=by omega
 have b4:a.tmod m<m:=by omega
 clear b1 b2
 have HR:=hide hr
 clear hr
 by_cases c:a.tmod m<0
 ·by_cases ha:0≤a
  ·exfalso;rw [Int.tmod_eq_emod_of_nonneg ha] at c;have:=Int.emod_nonneg a (show m≠0 by omega);omega
  ·have hq:(decide (a.tmod m<0))=true:=by simpa using c
   go_enter Tryz.func66,Tryz.ntmps66
   go_wp2
   all_goals (go_ret;exact ⟨ret_int (by rw[←unhide HR];first|rw[if_pos c]|omega),rfl⟩)
 ·by_cases ha:0≤a
  ·rw [Int.tmod_eq_emod_of_nonneg ha] at c b3 b4
   have HA:=Int.tmod_eq_emod_of_nonneg (b:=m) ha
   have HA2:=hide HA
   clear HA
   go_enter Tryz.func66,Tryz.ntmps66
   go_wp2
   all_goals (go_ret;exact ⟨ret_int rfl,rfl⟩)
  ·go_enter Tryz.func66,Tryz.ntmps66
   go_wp2
   all_goals (go_ret;exact ⟨ret_int (by rw[←unhide HR];first|rw[if_neg c]|omega),rfl⟩)

set_option maxRecDepth 100000 in
set_option maxHeartbeats 400000 in
theorem nuMod_a (a m:Int) (w:World) (h0: -4611686018427387904≤a∧a≤4611686018427387904) (h1:0<m) (h2:m≤4611686018427387904):
  Calls Tryz.prog 69 #[.int .i64 a,.int .i64 m] w fun e w'=>e= .returned (.int .i64 (a%m))∧w=w':=by
 have hr:=mod_tmod (a:=a) h1
 obtain ⟨b1,b2⟩:=tmod_bd (a:=a) (m:=m) (by omega)
 have b3: -m<a.tmod m:=by omega
 have b4:a.tmod m<m:=by omega
 clear b1 b2
 have HR:=hide hr
 clear hr
 by_cases c:a.tmod m<0
 ·by_cases ha:0≤a
  ·exfalso;rw [Int.tmod_eq_emod_of_nonneg ha] at c;have:=Int.emod_nonneg a (show m≠0 by omega);omega
  ·have hq:(decide (a.tmod m<0))=true:=by simpa using c
   go_enter Tryz.func69,Tryz.ntmps69
   go_wp2
   all_goals (go_ret;exact ⟨ret_int (by rw[←unhide HR];first|rw[if_pos c]|omega),rfl⟩)
 ·by_cases ha:0≤a
  ·rw [Int.tmod_eq_emod_of_nonneg ha] at c b3 b4
   have HA:=Int.tmod_eq_emod_of_nonneg (b:=m) ha
   have HA2:=hide HA
   clear HA
   go_enter Tryz.func69,Tryz.ntmps69
   go_wp2
   all_goals (go_ret;exact ⟨ret_int rfl,rfl⟩)
  ·go_enter Tryz.func69,Tryz.ntmps69
   go_wp2
   all_goals (go_ret;exact ⟨ret_int (by rw[←unhide HR];first|rw[if_neg c]|omega),rfl⟩)

set_option maxRecDepth 100000 in
set_option maxHeartbeats 1000000 in
theorem gcd_a (a b:Int) (w:World) (h0: -4611686018427387904≤a∧a≤4611686018427387904) (h1: -4611686018427387904≤b∧b≤4611686018427387904):
  Calls Tryz.prog 40 #[.int .i64 a,.int .i64 b] w fun e w'=>e= .returned (.int .i64 (igcd a b))∧ ∃n,w'=w.drewN n:=by
 go_enter Tryz.func40,Tryz.ntmps40
 go_wp2
 go_loopw [0,1] (fun sx sy wr=> ∃(x y:Int) (k:Nat),(-4611686018427387904≤x∧x≤4611686018427387904)∧(-4611686018427387904≤y∧y≤4611686018427387904)∧Int.gcd x y=Int.gcd a b∧sx= .int .i64 x∧sy= .int .i64 y∧wr=w.drewN k) (fun _ sy _=>(intOf sy).natAbs)
 case atStart=>exact ⟨a,b,0,h0,h1,rfl,rfl,rfl,rfl⟩
 case round=>
  obtain ⟨x,y,k,hx,hy,hg,rfl,rfl,rfl⟩:=hrel
  by_cases c:y=0
  ·subst c
   have hg2:(x.natAbs:Int)=(Int.gcd a b:Int):=by rw[←hg];simp [Int.gcd]
   have HG:=hide hg2
   clear hg hg2
   go_wp2_with (go_at_call 36;refine (abs_a _ _ (by first|assumption|omega)).mono ?_;rintro e w' ⟨rfl,rfl⟩)
   go_ret
   exact ⟨ret_int (by have:=unhide HG;unfold igcd;omega),k,rfl⟩
  ·obtain ⟨b1,b2⟩:=tmod_bd (a:=x) (m:=y) c
   have b3:(x.tmod y).natAbs<y.natAbs:=by omega
   have hs:=(gcd_step (a:=x) (b:=y)).trans hg
   have HS:=hide hs
   have HC:=hide b3
   clear hs hg b3
   go_wp2
   go_quiet (fail)
   go_roundw
   case rel=>first|exact ⟨y,x.tmod y,_,hy,by omega,unhide HS,rfl,rfl,World.drewN_drewN _ _ _⟩|((repeat apply Exists.intro);exact ⟨⟨y,x.tmod y,_,hy,by omega,unhide HS,rfl,rfl,World.drewN_drewN _ _ _⟩,rfl⟩)
   case measure=>simp only[intOf];exact unhide HC

set_option maxRecDepth 100000 in
set_option maxHeartbeats 1000000 in
theorem nuGcd_a (a b:Int) (w:World) (h0: -4611686018427387904≤a∧a≤4611686018427387904) (h1: -4611686018427387904≤b∧b≤4611686018427387904):
  Calls Tryz.prog 70 #[.int .i64 a,.int .i64 b] w fun e w'=>e= .returned (.int .i64 (igcd a b))∧ ∃n,w'=w.drewN n:=by
 go_enter Tryz.func70,Tryz.ntmps70
 go_wp2_with (go_at_call 99;refine (l1Abs_a _ _ (by first|assumption|omega)).mono ?_;rintro e w' ⟨rfl,rfl⟩)
 go_loopw [0,1] (fun sx sy wr=> ∃(x y:Int) (k:Nat),(-4611686018427387904≤x∧x≤4611686018427387904)∧(-4611686018427387904≤y∧y≤4611686018427387904)∧Int.gcd x y=Int.gcd a b∧sx= .int .i64 x∧sy= .int .i64 y∧wr=w.drewN k∧0≤x∧0≤y) (fun _ sy _=>(intOf sy).natAbs)
 case atStart=>exact ⟨(a.natAbs:Int),(b.natAbs:Int),0,by omega,by omega,by simp [Int.gcd],rfl,rfl,rfl,by omega,by omega⟩
 case round=>
  obtain ⟨x,y,k,hx,hy,hg,rfl,rfl,rfl,px,py⟩:=hrel
  by_cases c:y=0
  ·subst c
   have hg2:(x.natAbs:Int)=(Int.gcd a b:Int):=by rw[←hg];simp [Int.gcd]
   have HG:=hide hg2
   clear hg hg2
   go_wp2
   go_ret
   exact ⟨ret_int (by have:=unhide HG;unfold igcd;omega),k,rfl⟩
  ·obtain ⟨b1,b2⟩:=tmod_bd (a:=x) (m:=y) c
   rw[Int.tmod_eq_emod_of_nonneg px] at b1 b2
   have b3:(x%y).natAbs<y.natAbs:=by omega
   have hs:=(gcd_step (a:=x) (b:=y)).trans hg
   rw[Int.tmod_eq_emod_of_nonneg px] at hs
   have HS:=hide hs
   have HC:=hide b3
   clear hs hg b3
   go_wp2
   go_quiet (fail)
   go_roundw
   case rel=>first|exact ⟨y,x%y,_,hy,by omega,unhide HS,rfl,rfl,World.drewN_drewN _ _ _,py,Int.emod_nonneg _ c⟩|((repeat apply Exists.intro);exact ⟨⟨y,x%y,_,hy,by omega,unhide HS,rfl,rfl,World.drewN_drewN _ _ _,py,Int.emod_nonneg _ c⟩,rfl⟩)
   case measure=>simp only[intOf];exact unhide HC
end Go.Proofs.YtobkcnmlmmhpoaaGreat
