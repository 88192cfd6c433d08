/- Plain arithmetic: integer square roots, with no program in sight. Small lemmas on walks that every later text uses. The walks of impl.root and spec.nuRoot, isSquare and nuSquare: both return the integer square root. Slices of integers that lie in blocks of the call's own, and the laws' helpers over them: equal, mark, held. impl.abs, and the tests that all integers of a slice lie in a range. Worlds that have grown, and sums that are less. abs, mod, gcd on both sides. -/
import Derived.WalkKit
import Derived.WalkSpells
import Derived.WalkLawsBesides
import Derived.Test.YtobkcnmlmmhpoaaGreatDoorProg
import Derived.Deep.OwnRows
import Derived.Deep.Draws
import Derived.Deep.QuietTactic
import Derived.BigQuiet
import Derived.Handy
import Derived.Outline
import Derived.Deep.DeepFit
namespace Go.Proofs.YtobkcnmlmmhpoaaGreatDoor
theorem Vm {p:Prop} (h:p:=by first|(with_reducible assumption)|omega):p:=h
theorem Vn {p:Prop} (h:p:=by omega):p:=h
theorem Vo {p:Prop} (h:p:=by repeat' with_reducible first|assumption|refine Cur.alc ?_ _|refine Cur.drw ?_|refine Cur.setN ?_ (by first|with_reducible assumption|omega)):p:=h
theorem Vp {p:Prop} (h:p:=by first|assumption|omega):p:=h
theorem Vq {p:Prop} (h:p:=by first|assumption|go_simp):p:=h
theorem Vr {p:Prop} (h:p:=by first|omega|(simp;omega)|(simp;done)):p:=h
theorem Vs {p:Prop} (h:p:=by simp):p:=h
theorem Vt {p:Prop} (h:p:=by repeat' first|exact World.grownBy.refl' _ _|refine World.grownBy.setNew ?_ (by first|omega|(simp;omega)) _ _|refine World.grownBy.alloc' ?_ _|refine World.grownBy.drewN' ?_ _|refine World.grownBy.drew' ?_|refine World.grownBy.trans' ?_ (by assumption)|refine World.grownBy.below' ?_ (by assumption)):p:=h
theorem Vu {p:Prop} (h:p:=by refine ⟨?_,?_,?_,?_,?_,?_,?_,?_,?_,?_,trivial⟩<;>first|with_reducible assumption|omega|(simp;omega)|(simp;done)):p:=h
theorem Vv {p:Prop} (h:p:=by refine ⟨?_,?_,trivial⟩<;>first|with_reducible assumption|omega|(simp;omega)|(simp;done)):p:=h
theorem Vw {p:Prop} (h:p:=by kernel_rfl):p:=h
theorem Vx {p:Prop} (h:p:=by first|assumption|(simp;omega)|(simp;done)):p:=h
theorem Vy {p:Prop} (h:p:=by refine ⟨?_,?_,?_,?_,?_,?_,?_,?_,?_,?_,trivial⟩<;>exact byFT):p:=h
theorem Vz {p:Prop} (h:p:=by refine ⟨?_,?_,?_,?_,?_,?_,?_,?_,?_,?_,trivial⟩<;>exact byCT):p:=h
theorem VA {p:Prop} (h:p:=by decide):p:=h
theorem VB {p:Prop} (h:p:=by go_simp):p:=h
theorem VC {p:Prop} (h:p:=by first|exact Nat.le_refl _|with_reducible assumption|(simp;done)|(simp;omega)):p:=h
theorem VD {p:Prop} (h:p:=by refine ⟨?_,trivial⟩<;>first|with_reducible assumption|omega|(simp;omega)|(simp;done)):p:=h
theorem VE {p:Prop} (h:p:=by unfold TR.cells;go_simp):p:=h
theorem VF {p:Prop} (h:p:=by refine ⟨?_,?_,?_,?_,?_,trivial⟩<;>first|with_reducible assumption|omega|(simp;omega)|(simp;done)):p:=h
theorem VG {p:Prop} (h:p:=by first|(simp [results,Tryz.results14,go_sem,k09,k19,k29,k39,k49];done)|(simp [results,Tryz.results14,go_sem,k09,k19,k29,k39,k49];rfl)):p:=h
theorem VH {p:Prop} (h:p:=by rfl):p:=h
theorem VI {p:Prop} (h:p:=by refine ⟨?_,?_,?_,?_,?_,trivial⟩<;>exact byCT):p:=h
theorem VJ {p:Prop} (h:p:=by first|rfl|trivial):p:=h
theorem VK {p:Prop} (h:p:=by unfold maxLen;omega):p:=h
theorem VL {p:Prop} (h:p:=by have:=unhide HB;omega):p:=h
theorem VM {p:Prop} (h:p:=by refine ⟨?_,?_,?_,?_,?_,trivial⟩<;>exact byFT):p:=h
theorem VN {p:Prop} (h:p:=by first|(simp;done)|(simp;omega)|go_size):p:=h
theorem VO {p:Prop} (h:p:=by rw[World.size_alloc];omega):p:=h
theorem VP {p:Prop} (h:p:=by injection e2 with _ e3;exact e3.symm):p:=h
theorem VR {p:Prop} (h:p:=by rw[unhide HX];omega):p:=h
theorem VS {p:Prop} (h:p:=by rw[unhide HX];right;right;right;omega):p:=h
theorem VT {p:Prop} (h:p:=by have:=hbW.size;omega):p:=h
theorem VU {p:Prop} (h:p:=by simp only[tx_size,ByteArray.size_mk',List.size_toArray,List.length_append,List.length_cons,List.length_nil];omega):p:=h
theorem VV {p:Prop} (h:p:=by assumption):p:=h
theorem VW {p:Prop} (h:p:=by first|omega|(simp;omega)):p:=h
theorem VX {p:Prop} (h:p:=by simp;omega):p:=h
theorem VY {p:Prop} (h:p:=by simp [results,Tryz.results14,go_sem, *]):p:=h
theorem VZ {p:Prop} (h:p:=by decide +kernel):p:=h
theorem W0 {p:Prop} (h:p:=by simp [World.setCell];omega):p:=h
theorem W2 {p:Prop} (h:p:=by simp [results,Tryz.results187,go_sem, *]):p:=h
theorem W3 {p:Prop} (h:p:=by simp [sRB, *]):p:=h
theorem W4 {p:Prop} (h:p:=by first|assumption|(simp;omega)):p:=h
theorem W5 {p:Prop} (h:p:=by simp [hx]):p:=h
theorem W6 {p:Prop} (h:p:=by simpa using h):p:=h
theorem W7 {p:Prop} (h:p:=by simp [World.setCell]):p:=h
set_option maxRecDepth 100000
set_option maxHeartbeats 80000000

def isqN:Nat→Nat
 |0=>0
 |n+1=>if (isqN n+1)*(isqN n+1)≤n+1 then isqN n+1 else isqN n

theorem isqN_spec (n:Nat):isqN n*isqN n≤n∧n<(isqN n+1)*(isqN n+1):=by
 induction n with
 |zero=>simp [isqN]
 |succ n ih=>
  obtain ⟨h1,h2⟩:=ih
  unfold isqN
  split
  ·rename_i h
   refine ⟨h,?_⟩
   have:(isqN n+1+1)*(isqN n+1+1)=(isqN n+1)*(isqN n+1)+2*(isqN n+1)+1:=by
    rw[Nat.add_mul,Nat.mul_add (isqN n+1)];omega
   omega
  ·rename_i h
   exact ⟨Vn,Vn⟩

theorem sq_mono {a b:Int} (ha:0≤a) (h:a≤b):a*a≤b*b:=
 Int.mul_le_mul h h ha Vn

end Go.Proofs.YtobkcnmlmmhpoaaGreatDoor
namespace Go.Proofs.YtobkcnmlmmhpoaaGreatDoor
open Go.RowKit
set_option linter.unusedVariables false
set_option linter.unusedSimpArgs false

theorem hide {p:Prop} (h:p):Hid p:=h
theorem unhide {p:Prop} (h:Hid p):p:=h
theorem ret_int {k:IntKind} {a b:Int} (h:a=b):Ending.returned (.int k a)= .returned (.int k b):=by rw[h]
theorem ret_bool {a b:Bool} (h:a=b):Ending.returned (.bool a)= .returned (.bool b):=by rw[h]
def inB (n lo hi:Int):Bool:=decide (lo≤n)&&decide (n≤hi)
theorem inB_true {n lo hi:Int} (h:inB n lo hi=true):lo≤n∧n≤hi:=by unfold inB at h;simpa using h
end Go.Proofs.YtobkcnmlmmhpoaaGreatDoor
namespace Go.Proofs.YtobkcnmlmmhpoaaGreatDoor
open Go.RowKit
set_option linter.unusedVariables false
set_option linter.unusedSimpArgs false

theorem l1In_any (n lo hi:Int) (w:World):
  Calls Tryz.prog 48 #[.int .i64 n,.int .i64 lo,.int .i64 hi] w fun e w'=>e= .returned (.bool (inB n lo hi))∧w=w':=by
 go_enter Tryz.func48,Tryz.ntmps48
 go_wp2
 all_goals (go_ret;exact ⟨ret_bool (by simp [inB];try omega),rfl⟩)

end Go.Proofs.YtobkcnmlmmhpoaaGreatDoor
namespace Go.Proofs.YtobkcnmlmmhpoaaGreatDoor
open Go.RowKit
set_option linter.unusedVariables false
set_option linter.unusedSimpArgs false

def IntsAt (w:World) (lo hi:Nat) (a:Option Addr) (n:Nat) (f:Nat→Int):Prop:=
 n=0∨ ∃g cap F,a=some ⟨g,0,none⟩∧lo≤g∧g<hi∧n≤cap∧w.rowIs g 3 cap F∧ ∀i,i<n→F i= .int .i64 (f i)

theorem IntsAt.keep {w w':World} {lo hi:Nat} {a:Option Addr} {n:Nat} {f:Nat→Int} (h:IntsAt w lo hi a n f) (hk: ∀k,lo≤k→k<hi→w'.heap[k]? =w.heap[k]?):IntsAt w' lo hi a n f:=by
 rcases h with h|⟨g,cap,F,ha,h1,h2,h3,h4,h5⟩
 ·exact .inl h
 ·exact .inr ⟨g,cap,F,ha,h1,h2,h3,h4.of_block (hk g h1 h2),h5⟩
theorem IntsAt.below {w w':World} {lo hi B:Nat} {a:Option Addr} {n:Nat} {f:Nat→Int} (h:IntsAt w lo hi a n f) (hb:Below B w w') (hB:hi≤B):IntsAt w' lo hi a n f:=
 h.keep fun k _ h2=>hb.block k Vn
theorem IntsAt.weak {w:World} {lo hi lo' hi':Nat} {a:Option Addr} {n:Nat} {f:Nat→Int} (h:IntsAt w lo hi a n f) (h1:lo'≤lo) (h2:hi≤hi'):IntsAt w lo' hi' a n f:=by
 rcases h with h|⟨g,cap,F,ha,g1,g2,r⟩
 ·exact .inl h
 ·exact .inr ⟨g,cap,F,ha,Vn,Vn,r⟩
theorem IntsAt.congr {w:World} {lo hi:Nat} {a:Option Addr} {n:Nat} {f f':Nat→Int} (h:IntsAt w lo hi a n f) (e: ∀i,i<n→f i=f' i):IntsAt w lo hi a n f':=by
 rcases h with h|⟨g,cap,F,ha,h1,h2,h3,h4,h5⟩
 ·exact .inl h
 ·exact .inr ⟨g,cap,F,ha,h1,h2,h3,h4,fun i hi=>by rw[h5 i hi,e i hi]⟩

theorem below_drewN {B:Nat} {a w:World} (h:Below B a w) (n:Nat):Below B a (w.drewN n):=⟨h.os,h.tape,h.output,h.size,h.block⟩

def RetInts (w:World) (n:Nat) (f:Nat→Int) (ok:Bool) (e:Ending) (w':World):Prop:=
 ∃a c,e= .returned (.tuple #[.slice a n c,.bool ok])∧IntsAt w' w.heap.size w'.heap.size a n f∧Below w.heap.size w w'
end Go.Proofs.YtobkcnmlmmhpoaaGreatDoor
namespace Go.Proofs.YtobkcnmlmmhpoaaGreatDoor
open Go.RowKit
set_option linter.unusedVariables false
set_option linter.unusedSimpArgs false

def I64 (n:Int):Prop:= -9223372036854775808≤n∧n≤9223372036854775807
def allB (zs:List Int) (lo hi:Int):Bool:=zs.all (fun z=>inB z lo hi)
def Cells (w:World) (g:Nat) (zs:List Int):Prop:= ∀i,i<zs.length→w.cell? ⟨g,i,none⟩=some (.int .i64 (zs.getD i 0))
theorem Cells.keep {w w':World} {g:Nat} {zs:List Int} (h:Cells w g zs) (e:w'.heap[g]? =w.heap[g]?):Cells w' g zs:=fun i hi=>(World.cell?_of_block (a:=⟨g,i,none⟩) e).trans (h i hi)



end Go.Proofs.YtobkcnmlmmhpoaaGreatDoor
namespace Go.Proofs.YtobkcnmlmmhpoaaGreatDoor
open Go.RowKit
set_option linter.unusedVariables false
set_option linter.unusedSimpArgs false
theorem gr_alloc {w W:World} (h:Below w.heap.size w W) (o:Obj):Below w.heap.size w (W.alloc o):=h.alloc h.size o
theorem gr_call {w W w2:World} (h:Below w.heap.size w W) (h2:Below W.heap.size W w2):Below w.heap.size w w2:=h.trans (h2.mono h.size)
theorem below_drew {B:Nat} {a w:World} (h:Below B a w):Below B a w.drew:=⟨h.os,h.tape,h.output,h.size,h.block⟩
theorem cell_call {W w':World} {a:Addr} {v:Value} (hb:Below W.heap.size W w') (h:W.cell? a=some v):w'.cell? a=some v:=by
 rw[hb.cell (World.block_lt_of_cell? W a h)];exact h
theorem frz_call {W w':World} {a:Addr} (hb:Below W.heap.size W w') (hl:a.block<W.heap.size) (h:W.frozen? a=false):w'.frozen? a=false:=by
 rw[hb.frozen hl];exact h
theorem lt_keep {W w':World} (hb:Below W.heap.size W w'): ∀k,k<W.heap.size→k<w'.heap.size:=fun k h=>Nat.lt_of_lt_of_le h hb.size
theorem q2 (n:Nat):n<n+1+1:=by omega
theorem q3 (n:Nat):n<n+1+1+1:=by omega
theorem q4 (n:Nat):n<n+1+1+1+1:=by omega
theorem q5 (n:Nat):n<n+1+1+1+1+1:=by omega
theorem q6 (n:Nat):n<n+1+1+1+1+1+1:=by omega
theorem q7 (n:Nat):n<n+1+1+1+1+1+1+1:=by omega
theorem q8 (n:Nat):n<n+1+1+1+1+1+1+1+1:=by omega
theorem q9 (n:Nat):n<n+1+1+1+1+1+1+1+1+1:=by omega
theorem q10 (n:Nat):n<n+1+1+1+1+1+1+1+1+1+1:=by omega
theorem q11 (n:Nat):n<n+1+1+1+1+1+1+1+1+1+1+1:=by omega
theorem q12 (n:Nat):n<n+1+1+1+1+1+1+1+1+1+1+1+1:=by omega
theorem allB_mem {zs:List Int} {lo hi:Int} (h:allB zs lo hi=true): ∀z ∈ zs,lo≤z∧z≤hi:=by
 intro z hz
 unfold allB at h
 rw[List.all_eq_true] at h
 exact inB_true (h z hz)
end Go.Proofs.YtobkcnmlmmhpoaaGreatDoor
namespace Go.Proofs.YtobkcnmlmmhpoaaGreatDoor
open Go.RowKit
set_option linter.unusedVariables false
set_option linter.unusedSimpArgs false
theorem mod_tmod {a m:Int} (hm:0<m):(if a.tmod m<0 then a.tmod m+m else a.tmod m)=a%m:=by
 have h1:=Int.tmod_add_mul_tdiv a m
 have h2:(a.tmod m).natAbs<m.natAbs:=by rw[Int.natAbs_tmod];exact Nat.mod_lt _ Vn
 have h3:a%m=(a.tmod m)%m:=by
  conv=>lhs;rw [←h1]
  rw[Int.add_mul_emod_self_left]
 rw[h3]
 split
 ·rw [←Int.add_emod_right (a.tmod m) m]
  exact (Int.emod_eq_of_lt Vn Vn).symm
 ·exact (Int.emod_eq_of_lt Vn Vn).symm
theorem tmod_bd {a m:Int} (hm:m≠0): -m.natAbs<a.tmod m∧a.tmod m<m.natAbs:=by
 have h2:(a.tmod m).natAbs<m.natAbs:=by rw[Int.natAbs_tmod];exact Nat.mod_lt _ Vn
 omega
theorem gcd_step {a b:Int} :Int.gcd b (a.tmod b)=Int.gcd a b:=by
 unfold Int.gcd
 rw[Int.natAbs_tmod,Nat.gcd_comm b.natAbs,←Nat.gcd_rec,Nat.gcd_comm]
def igcd (a b:Int):Int:=(Int.gcd a b:Int)
theorem igcd_nonneg (a b:Int):0≤igcd a b:=by unfold igcd;omega
theorem gcd_le_bd {a b:Int} (ha: -4611686018427387904≤a∧a≤4611686018427387904) (hb: -4611686018427387904≤b∧b≤4611686018427387904):0≤igcd a b∧igcd a b≤4611686018427387904:=by
 refine ⟨igcd_nonneg a b,?_⟩
 unfold igcd
 by_cases h:a=0
 ·subst h;simp;omega
 ·have:=Nat.le_of_dvd Vn (Int.gcd_dvd_natAbs_left a b);omega

theorem abs_a (n:Int) (w:World) (h0: -4611686018427387904≤n∧n≤4611686018427387904):
  Calls Tryz.prog 58 #[.int .i64 n] w fun e w'=>e= .returned (.int .i64 ((n.natAbs:Int)))∧w=w':=by
 go_enter Tryz.func58,Tryz.ntmps58
 go_wp2
 all_goals (go_ret;exact ⟨ret_int Vn,rfl⟩)

theorem l1Most_a (a b:Int) (w:World):
  Calls Tryz.prog 97 #[.int .i64 a,.int .i64 b] w fun e w'=>e= .returned (.int .i64 (max a b))∧w=w':=by
 go_enter Tryz.func97,Tryz.ntmps97
 go_wp2
 all_goals (go_ret;exact ⟨ret_int Vn,rfl⟩)

theorem l1Abs_a (n:Int) (w:World) (h0: -4611686018427387904≤n∧n≤4611686018427387904):
  Calls Tryz.prog 135 #[.int .i64 n] w fun e w'=>e= .returned (.int .i64 ((n.natAbs:Int)))∧w=w':=by
 go_enter Tryz.func135,Tryz.ntmps135
 go_wp2_with (go_at_call 97;refine (l1Most_a _ _ _).mono ?_;rintro e w' ⟨rfl,rfl⟩)
 go_ret
 exact ⟨ret_int Vn,rfl⟩

theorem mod_a (a m:Int) (w:World) (h0: -4611686018427387904≤a∧a≤4611686018427387904) (h1:0<m) (h2:m≤4611686018427387904):
  Calls Tryz.prog 53 #[.int .i64 a,.int .i64 m] w fun e w'=>e= .returned (.int .i64 (a%m))∧w=w':=by
 have hr:=mod_tmod (a:=a) h1
 obtain ⟨b1,b2⟩:=tmod_bd (a:=a) (m:=m) Vn
 have b3: -m<a.tmod m:=by omega
 have b4:a.tmod m<m:=by omega
 clear b1 b2
 have HR:=hide hr
 clear hr
 by_cases c:a.tmod m<0
 ·by_cases ha:0≤a
  ·exfalso;rw [Int.tmod_eq_emod_of_nonneg ha] at c;have:=Int.emod_nonneg a (show m≠0 by omega);omega
  ·have hq:(decide (a.tmod m<0))=true:=by simpa using c
   go_enter Tryz.func53,Tryz.ntmps53
   go_wp2
   all_goals (go_ret;exact ⟨ret_int (by rw[←unhide HR];first|rw[if_pos c]|omega),rfl⟩)
 ·by_cases ha:0≤a
  ·rw [Int.tmod_eq_emod_of_nonneg ha] at c b3 b4
   have HA:=Int.tmod_eq_emod_of_nonneg (b:=m) ha
   have HA2:=hide HA
   clear HA
   go_enter Tryz.func53,Tryz.ntmps53
   go_wp2
   all_goals (go_ret;exact ⟨ret_int rfl,rfl⟩)
  ·go_enter Tryz.func53,Tryz.ntmps53
   go_wp2
   all_goals (go_ret;exact ⟨ret_int (by rw[←unhide HR];first|rw[if_neg c]|omega),rfl⟩)

theorem nuMod_a (a m:Int) (w:World) (h0: -4611686018427387904≤a∧a≤4611686018427387904) (h1:0<m) (h2:m≤4611686018427387904):
  Calls Tryz.prog 77 #[.int .i64 a,.int .i64 m] w fun e w'=>e= .returned (.int .i64 (a%m))∧w=w':=by
 have hr:=mod_tmod (a:=a) h1
 obtain ⟨b1,b2⟩:=tmod_bd (a:=a) (m:=m) Vn
 have b3: -m<a.tmod m:=by omega
 have b4:a.tmod m<m:=by omega
 clear b1 b2
 have HR:=hide hr
 clear hr
 by_cases c:a.tmod m<0
 ·by_cases ha:0≤a
  ·exfalso;rw [Int.tmod_eq_emod_of_nonneg ha] at c;have:=Int.emod_nonneg a (show m≠0 by omega);omega
  ·have hq:(decide (a.tmod m<0))=true:=by simpa using c
   go_enter Tryz.func77,Tryz.ntmps77
   go_wp2
   all_goals (go_ret;exact ⟨ret_int (by rw[←unhide HR];first|rw[if_pos c]|omega),rfl⟩)
 ·by_cases ha:0≤a
  ·rw [Int.tmod_eq_emod_of_nonneg ha] at c b3 b4
   have HA:=Int.tmod_eq_emod_of_nonneg (b:=m) ha
   have HA2:=hide HA
   clear HA
   go_enter Tryz.func77,Tryz.ntmps77
   go_wp2
   all_goals (go_ret;exact ⟨ret_int rfl,rfl⟩)
  ·go_enter Tryz.func77,Tryz.ntmps77
   go_wp2
   all_goals (go_ret;exact ⟨ret_int (by rw[←unhide HR];first|rw[if_neg c]|omega),rfl⟩)

theorem gcd_a (a b:Int) (w:World) (h0: -4611686018427387904≤a∧a≤4611686018427387904) (h1: -4611686018427387904≤b∧b≤4611686018427387904):
  Calls Tryz.prog 36 #[.int .i64 a,.int .i64 b] w fun e w'=>e= .returned (.int .i64 (igcd a b))∧ ∃n,w'=w.drewN n:=by
 go_enter Tryz.func36,Tryz.ntmps36
 go_wp2
 go_loopw [0,1] (fun sx sy wr=> ∃(x y:Int) (k:Nat),(-4611686018427387904≤x∧x≤4611686018427387904)∧(-4611686018427387904≤y∧y≤4611686018427387904)∧Int.gcd x y=Int.gcd a b∧sx= .int .i64 x∧sy= .int .i64 y∧wr=w.drewN k) (fun _ sy _=>(intOf sy).natAbs)
 case atStart=>exact ⟨a,b,0,h0,h1,rfl,rfl,rfl,rfl⟩
 case round=>
  obtain ⟨x,y,k,hx,hy,hg,rfl,rfl,rfl⟩:=hrel
  by_cases c:y=0
  ·subst c
   have hg2:(x.natAbs:Int)=(Int.gcd a b:Int):=by rw[←hg];simp [Int.gcd]
   have HG:=hide hg2
   clear hg hg2
   go_wp2_with (go_at_call 58;refine (abs_a _ _ Vp).mono ?_;rintro e w' ⟨rfl,rfl⟩)
   go_ret
   exact ⟨ret_int (by have:=unhide HG;unfold igcd;omega),k,rfl⟩
  ·obtain ⟨b1,b2⟩:=tmod_bd (a:=x) (m:=y) c
   have b3:(x.tmod y).natAbs<y.natAbs:=by omega
   have hs:=(gcd_step (a:=x) (b:=y)).trans hg
   have HS:=hide hs
   have HC:=hide b3
   clear hs hg b3
   go_wp2
   go_quiet (fail)
   go_roundw
   case rel=>first|exact ⟨y,x.tmod y,_,hy,Vn,unhide HS,rfl,rfl,World.drewN_drewN _ _ _⟩|((repeat apply Exists.intro);exact ⟨⟨y,x.tmod y,_,hy,Vn,unhide HS,rfl,rfl,World.drewN_drewN _ _ _⟩,rfl⟩)
   case measure=>simp only[intOf];exact unhide HC

theorem nuGcd_a (a b:Int) (w:World) (h0: -4611686018427387904≤a∧a≤4611686018427387904) (h1: -4611686018427387904≤b∧b≤4611686018427387904):
  Calls Tryz.prog 110 #[.int .i64 a,.int .i64 b] w fun e w'=>e= .returned (.int .i64 (igcd a b))∧ ∃n,w'=w.drewN n:=by
 go_enter Tryz.func110,Tryz.ntmps110
 go_wp2_with (go_at_call 135;refine (l1Abs_a _ _ Vp).mono ?_;rintro e w' ⟨rfl,rfl⟩)
 go_loopw [0,1] (fun sx sy wr=> ∃(x y:Int) (k:Nat),(-4611686018427387904≤x∧x≤4611686018427387904)∧(-4611686018427387904≤y∧y≤4611686018427387904)∧Int.gcd x y=Int.gcd a b∧sx= .int .i64 x∧sy= .int .i64 y∧wr=w.drewN k∧0≤x∧0≤y) (fun _ sy _=>(intOf sy).natAbs)
 case atStart=>exact ⟨(a.natAbs:Int),(b.natAbs:Int),0,Vn,Vn,by simp [Int.gcd],rfl,rfl,rfl,Vn,Vn⟩
 case round=>
  obtain ⟨x,y,k,hx,hy,hg,rfl,rfl,rfl,px,py⟩:=hrel
  by_cases c:y=0
  ·subst c
   have hg2:(x.natAbs:Int)=(Int.gcd a b:Int):=by rw[←hg];simp [Int.gcd]
   have HG:=hide hg2
   clear hg hg2
   go_wp2
   go_ret
   exact ⟨ret_int (by have:=unhide HG;unfold igcd;omega),k,rfl⟩
  ·obtain ⟨b1,b2⟩:=tmod_bd (a:=x) (m:=y) c
   rw[Int.tmod_eq_emod_of_nonneg px] at b1 b2
   have b3:(x%y).natAbs<y.natAbs:=by omega
   have hs:=(gcd_step (a:=x) (b:=y)).trans hg
   rw[Int.tmod_eq_emod_of_nonneg px] at hs
   have HS:=hide hs
   have HC:=hide b3
   clear hs hg b3
   go_wp2
   go_quiet (fail)
   go_roundw
   case rel=>first|exact ⟨y,x%y,_,hy,Vn,unhide HS,rfl,rfl,World.drewN_drewN _ _ _,py,Int.emod_nonneg _ c⟩|((repeat apply Exists.intro);exact ⟨⟨y,x%y,_,hy,Vn,unhide HS,rfl,rfl,World.drewN_drewN _ _ _,py,Int.emod_nonneg _ c⟩,rfl⟩)
   case measure=>simp only[intOf];exact unhide HC
end Go.Proofs.YtobkcnmlmmhpoaaGreatDoor
