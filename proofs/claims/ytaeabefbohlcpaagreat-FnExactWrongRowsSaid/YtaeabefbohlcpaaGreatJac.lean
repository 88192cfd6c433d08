/- Lists of characters. The Jacobi symbol, the program's side. -/
import Derived.Test.YtaeabefbohlcpaaGreatFan
import Derived.Test.YtaeabefbohlcpaaGreatLevel
import Derived.Test.YtaeabefbohlcpaaGreatNum
import Derived.Test.YtaeabefbohlcpaaGreatOwn
namespace Go.Proofs.YtaeabefbohlcpaaGreat
open Go.RowKit
set_option linter.unusedVariables false
set_option linter.unusedSimpArgs false
attribute [local go_sem] q2 q3 q4 q5 q6 q7 q8 q9 q10 q11 q12

def srcV (LO HI : Nat) (a : Option Addr) (vs : List Value) (W : World) : Prop := vs = [] ∨ ∃ g, a = some ⟨g, 0, none⟩ ∧ LO ≤ g ∧ g < HI ∧ ∀ j, j < vs.length → W.cell? ⟨g, j, none⟩ = some (vs.getD j undef)
theorem srcV_kept {LO HI : Nat} {a : Option Addr} {vs : List Value} : Kept LO HI (srcV LO HI a vs) := by
 intro w w' hk h
 rcases h with h | ⟨g, ha, h1, h2, h3⟩
 ·exact .inl h
 ·exact .inr ⟨g, ha, h1, h2, fun j hj => (World.cell?_of_block (hk g h1 h2)).trans (h3 j hj)⟩
theorem srcV_of {w : World} {lo n c sz : Nat} {T : TypeId} {a : Option Addr} {vs : List Value} (h : w.ownsRow lo T sz (.slice a n c) n vs) : srcV lo w.heap.size a vs w := by
 have hl := h.1
 by_cases q : vs = []
 ·exact .inl q
 ·have hn : 0 < n := by
   rcases Nat.eq_zero_or_pos n with z | z
   ·subst z; rw [Nat.zero_mul] at hl; exact absurd (List.eq_nil_of_length_eq_zero hl) q
   ·exact z
  obtain ⟨g, cap, e⟩ : ∃ g cap, Value.slice a n c = .slice (some ⟨g, 0, none⟩) n cap := by
   rcases h.2 with ⟨h1, h2⟩ | ⟨g, cap, cur, h1, _⟩
   ·omega
   ·exact ⟨g, cap, h1⟩
  simp only [Value.slice.injEq] at e
  obtain ⟨rfl, -, rfl⟩ := e
  refine .inr ⟨g, rfl, (World.ownsRow.lt h g rfl).1, (World.ownsRow.lt h g rfl).2, fun j hj => ?_⟩
  rw [World.ownsRow.cellAt h j (by omega), List.getElem?_eq_getElem hj, List.getD_eq_getElem?_getD, List.getElem?_eq_getElem hj]; rfl
theorem srcV_at {LO HI : Nat} {a : Option Addr} {vs : List Value} {W : World} (h : srcV LO HI a vs W) (hn : 0 < vs.length) : ∃ g, a = some ⟨g, 0, none⟩ ∧ LO ≤ g ∧ g < HI ∧ ∀ j, j < vs.length → W.cell? ⟨g, j, none⟩ = some (vs.getD j undef) := by
 rcases h with h | h
 ·subst h; exact absurd hn (by simp)
 ·exact h
def RetV (T : TypeId) (sz : Nat) (w : World) (n : Nat) (vs : List Value) (e : Ending) (w' : World) : Prop := ∃ a c, e = .returned (.slice a n c) ∧ w'.ownsRow w.heap.size T sz (.slice a n c) n vs ∧ Below w.heap.size w w'
theorem SD.ret {T : TypeId} {sz n c LO HI : Nat} {w wr : World} {S : World → Prop} {a : Option Addr} {vs : List Value} (h : SD T sz w LO HI S wr (.slice a n c) n vs) {en : Ending} (he : en = .returned (.slice a n c)) : RetV T sz w n vs en wr := ⟨a, c, he, h.own, h.bel⟩
def chV (zs : List (Int × Int)) : List Value := zs.flatMap fun z => [.int .i64 z.1, .int .i64 z.2]
theorem chV_len (zs : List (Int × Int)) : (chV zs).length = zs.length * 2 := by
 induction zs with
 | nil => rfl
 | cons z zs ih =>
  have e : chV (z :: zs) = .int .i64 z.1 :: .int .i64 z.2 :: chV zs := rfl
  rw [e, List.length_cons, List.length_cons, ih, List.length_cons]; omega
theorem chV_app (zs ys : List (Int × Int)) : chV (zs ++ ys) = chV zs ++ chV ys := by unfold chV; rw [List.flatMap_append]
theorem chV_at : ∀ (zs : List (Int × Int)) (i : Nat), i < zs.length → (chV zs).getD (i * 2) undef = .int .i64 (zs.getD i (0, 0)).1 ∧ (chV zs).getD (i * 2 + 1) undef = .int .i64 (zs.getD i (0, 0)).2
 | [], i, h => by simp at h
 | z :: zs, 0, h => ⟨rfl, rfl⟩
 | z :: zs, i + 1, h => by
  have := chV_at zs i (by simp at h; omega)
  have e : (chV (z :: zs)) = .int .i64 z.1 :: .int .i64 z.2 :: chV zs := rfl
  rw [e, show (i + 1) * 2 = i * 2 + 1 + 1 by omega]
  exact this
theorem chV_one (zs : List (Int × Int)) : ∀ u ∈ chV zs, u.oneCell' = true := by
 intro u hu
 unfold chV at hu
 rw [List.mem_flatMap] at hu
 obtain ⟨e, _, he⟩ := hu
 simp only [List.mem_cons, List.not_mem_nil, or_false] at he
 rcases he with rfl | rfl <;> rfl
theorem Tryz.infoCh : (Tryz.prog.info? 92).map (fun i => (i.zero, i.size, i.bytes)) = some (some (.agg #[.int .i64 0, .int .i64 0]), 2, 16) := by kernel_rfl
theorem news_ch1 {w : World} {B : Nat} {k p : Int} (h0 : w.cell? ⟨B, 0, none⟩ = some (.int .i64 k)) (h1 : w.cell? ⟨B, 1, none⟩ = some (.int .i64 p)) : ∀ j u, (chV [(k, p)])[j]? = some u → w.cell? ((⟨B, 0, none⟩ : Addr).add j) = some u := by
 intro j u hu
 match j with
 | 0 => simp [chV] at hu; subst hu; simpa [Addr.add] using h0
 | 1 => simp [chV] at hu; subst hu; simpa [Addr.add] using h1
 | j + 2 => simp [chV] at hu
theorem news_ch2 {w : World} {B : Nat} {k p k2 p2 : Int} (h0 : w.cell? ⟨B, 0, none⟩ = some (.int .i64 k)) (h1 : w.cell? ⟨B, 1, none⟩ = some (.int .i64 p)) (h2 : w.cell? ⟨B, 2, none⟩ = some (.int .i64 k2)) (h3 : w.cell? ⟨B, 3, none⟩ = some (.int .i64 p2)) : ∀ j u, (chV [(k, p), (k2, p2)])[j]? = some u → w.cell? ((⟨B, 0, none⟩ : Addr).add j) = some u := by
 intro j u hu
 match j with
 | 0 => simp [chV] at hu; subst hu; simpa [Addr.add] using h0
 | 1 => simp [chV] at hu; subst hu; simpa [Addr.add] using h1
 | 2 => simp [chV] at hu; subst hu; simpa [Addr.add] using h2
 | 3 => simp [chV] at hu; subst hu; simpa [Addr.add] using h3
 | j + 4 => simp [chV] at hu
theorem app_ch (w : World) {ops : Array Oper} {rest : List Oper} {o : Oper} {a : Act} {Q : Exit → Act → World → Prop} (hgd : o.guard = none) (s x : Operand)
  (ho : o.op = .call { callee := .builtin .append, args := #[s, x], argTypes := #[89, 89] })
  (lo : Nat) (v : Value) (n m : Nat) (zs news : List (Int × Int)) (B : Nat) (hs : a.eval s = v) (hx : a.eval x = .slice (some ⟨B, 0, none⟩) m m)
  (hown : w.ownsRow lo 92 2 v n (chV zs)) (hm : news.length = m) (hm0 : m ≤ 10) (hB : ∀ j u, (chV news)[j]? = some u → w.cell? ((⟨B, 0, none⟩ : Addr).add j) = some u) (hlen : n ≤ 1000000000) (hlo : lo ≤ w.heap.size)
  (h : ∀ g cap w', w'.ownsRow lo 92 2 (.slice (some ⟨g, 0, none⟩) (n + m) cap) (n + m) (chV (zs ++ news)) → w.grownBy w' v.ownBlock → (v.ownBlock = some g ∨ g = w.heap.size) → g < w'.heap.size →
   wpList Tryz.prog ops Q rest (a.put o.dst (.slice (some ⟨g, 0, none⟩) (n + m) cap)) w') (hm1 : 1 ≤ m) : wpList Tryz.prog ops Q (o :: rest) a w := by
 obtain ⟨i0, hi, hz0, hz1, hz2⟩ := info_parts Tryz.infoCh
 refine wpList_append_lies w hgd s x 89 ho lo 92 i0 (.agg #[.int .i64 0, .int .i64 0]) 2 16 Tryz.underlying89 hi hz0 hz1 hz2 rfl (by decide) v n _ hs hown ⟨B, 0, none⟩ m m (chV news) hx (by rw [chV_len, hm]) hB (chV_one _) hm1 (by unfold maxLen; omega) (by omega) hlo _ rfl ?_
 intro g cap w' h1 h2 h3 h4
 refine h g cap w' ?_ h2 h3 h4
 rw [chV_app]; exact h1
theorem neg_mod {d : Int} (h : negB d = true) : d % 4 ≤ 1 := by
 unfold negB at h; simp at h; exact h.2
def chP (ps : List Nat) : Nat → List (Int × Int)
 | 0 => []
 | k + 1 => if 2 < ps.getD k 0 then chP ps k ++ [(1, (ps.getD k 0 : Int))] else chP ps k
theorem chP_len (ps : List Nat) : ∀ k, (chP ps k).length ≤ k
 | 0 => Nat.le_refl _
 | k + 1 => by
  have := chP_len ps k
  rw [chP]; split
  ·rw [List.length_append]; simp; omega
  ·omega
def chT (d : Int) : List (Int × Int) := if d % 2 ≠ 0 then [] else if (-d / 4) % 8 = 1 ∨ (-d / 4) % 8 = 5 ∨ (-d / 4) % 8 = 4 then [(2, 0)] else if (-d / 4) % 8 = 2 then [(4, 0)] else if (-d / 4) % 8 = 6 then [(3, 0)] else if (-d / 4) % 8 = 0 then [(2, 0), (3, 0)] else []
def chL (d : Int) : List (Int × Int) := chP (psL (-d).toNat) (psL (-d).toNat).length ++ chT d
theorem chL_len {d : Int} (h : -2000 ≤ d) (h1 : d ≤ -3) : (chL d).length ≤ 2002 := by
 unfold chL
 rw [List.length_append]
 have h2 := chP_len (psL (-d).toNat) (psL (-d).toNat).length
 have h3 : (psL (-d).toNat).length ≤ 2000 := by
  have q1 := (ps_dd (n := (-d).toNat) (by omega) _ (Nat.le_refl _)).len
  have q2 := fc_len (n := (-d).toNat) (by omega)
  unfold psL; omega
 have h4 : (chT d).length ≤ 2 := by unfold chT; (repeat' split) <;> simp
 omega
end Go.Proofs.YtaeabefbohlcpaaGreat
namespace Go.Proofs.YtaeabefbohlcpaaGreat
open Go.RowKit
set_option linter.unusedVariables false
set_option linter.unusedSimpArgs false
attribute [local go_sem] q2 q3 q4 q5 q6 q7 q8 q9 q10 q11 q12

def two8 (n : Int) : Int := if n % 8 = 1 ∨ n % 8 = 7 then 1 else -1
def sg4 (a n : Nat) : Int := if a % 4 = 3 ∧ n % 4 = 3 then -1 else 1
def jcb (a n : Nat) : Int := if h : a = 0 then (if n = 1 then 1 else 0) else if a % 2 = 0 then two8 n * jcb (a / 2) n else sg4 a n * jcb (n % a) a
termination_by a
decreasing_by
 ·omega
 ·exact Nat.mod_lt _ (by omega)
theorem jcb_zero (n : Nat) : jcb 0 n = if n = 1 then 1 else 0 := by rw [jcb]; simp
theorem jcb_even {a n : Nat} (h : 1 ≤ a) (h2 : a % 2 = 0) : jcb a n = two8 n * jcb (a / 2) n := by rw [jcb, dif_neg (by omega), if_pos h2]
theorem jcb_odd {a n : Nat} (h2 : a % 2 = 1) : jcb a n = sg4 a n * jcb (n % a) a := by rw [jcb, dif_neg (by omega), if_neg (by omega)]
theorem jcb_one (n : Nat) : jcb 1 n = 1 := by
 rw [jcb_odd (by decide), Nat.mod_one, jcb_zero, if_pos rfl]; rfl
theorem two8_pm (n : Int) : two8 n = 1 ∨ two8 n = -1 := by unfold two8; split <;> simp
theorem pm_mul {s t : Int} (h : s = 1 ∨ s = -1) (k : t = 1 ∨ t = -1) : s * t = 1 ∨ s * t = -1 := by rcases h with rfl | rfl <;> rcases k with rfl | rfl <;> simp

theorem symbolOfTwo_a (n : Int) (w : World) (h0 : -4611686018427387904 ≤ n ∧ n ≤ 4611686018427387904) : Calls Tryz.prog 122 #[.int .i64 n] w fun e w' => e = .returned (.int .i64 (two8 n)) ∧ w = w' := by
 obtain ⟨r, hr⟩ : ∃ r, n % 8 = r := ⟨_, rfl⟩
 have hE : Hid (two8 n = if r = 1 ∨ r = 7 then 1 else -1) := hide (by unfold two8; rw [hr])
 have HM : ∀ W, Calls Tryz.prog 42 #[.int .i64 n, .int .i64 8] W fun e w' => e = .returned (.int .i64 r) ∧ W = w' := fun W => by rw [← hr]; exact mod_a n 8 W h0 (by omega) (by omega)
 have HM := hide HM
 by_cases c1 : r = 1
 ·have HV : Hid (two8 n = 1) := hide (by rw [unhide hE, if_pos (.inl c1)])
  subst c1
  go_enter Tryz.func122, Tryz.ntmps122
  go_wp2_with (go_at_call 42; refine ((unhide HM) _).mono ?_; rintro e w' ⟨rfl, rfl⟩)
  go_ret
  exact ⟨by rw [unhide HV]; rfl, rfl⟩
 ·by_cases c7 : r = 7
  ·have HV : Hid (two8 n = 1) := hide (by rw [unhide hE, if_pos (.inr c7)])
   subst c7
   go_enter Tryz.func122, Tryz.ntmps122
   go_wp2_with (go_at_call 42; refine ((unhide HM) _).mono ?_; rintro e w' ⟨rfl, rfl⟩)
   go_ret
   exact ⟨by rw [unhide HV]; rfl, rfl⟩
  ·have HV : Hid (two8 n = -1) := hide (by rw [unhide hE, if_neg (by omega)])
   have e1 : (r == 1) = false := by simpa using c1
   have e7 : (r == 7) = false := by simpa using c7
   go_enter Tryz.func122, Tryz.ntmps122
   go_wp2_with (go_at_call 42; refine ((unhide HM) _).mono ?_; rintro e w' ⟨rfl, rfl⟩)
   go_ret
   exact ⟨by rw [unhide HV]; rfl, rfl⟩

set_option maxRecDepth 100000 in
set_option maxHeartbeats 4000000 in
theorem jacobi_a (a : Int) (N : Nat) (w : World) (h0 : -4611686018427387904 ≤ a ∧ a ≤ 4611686018427387904) (h1 : 1 ≤ N) (h2 : N ≤ 1000000) :
  Calls Tryz.prog 121 #[.int .i64 a, .int .i64 (N : Int)] w fun e w' => e = .returned (.int .i64 (jcb (a % (N : Int)).toNat N)) ∧ w = w' := by
 obtain ⟨u0, hu0⟩ : ∃ u : Nat, a % (N : Int) = (u : Int) := ⟨(a % (N : Int)).toNat, by have := Int.emod_nonneg a (show (N : Int) ≠ 0 by omega); omega⟩
 have hul : u0 < N := by have := Int.emod_lt_of_pos a (show 0 < (N : Int) by omega); omega
 obtain ⟨R, hR⟩ : ∃ R, jcb (a % (N : Int)).toNat N = R := ⟨_, rfl⟩
 have HR0 : Hid (1 * jcb u0 N = R) := hide (by rw [← hR, hu0, Int.one_mul]; rfl)
 have HM : ∀ W, Calls Tryz.prog 42 #[.int .i64 a, .int .i64 (N : Int)] W fun e w' => e = .returned (.int .i64 (u0 : Int)) ∧ W = w' := fun W => by rw [← hu0]; exact mod_a a N W h0 (by omega) (by omega)
 have HM := hide HM
 have HRR := hide hR
 clear hR hu0
 go_enter Tryz.func121, Tryz.ntmps121
 go_wp2_with (go_at_call 42; refine ((unhide HM) _).mono ?_; rintro e w' ⟨rfl, rfl⟩)
 go_loop [0, 1, 5] (fun au ns ss => ∃ (u m : Nat) (s : Int), au = .int .i64 (u : Int) ∧ ns = .int .i64 (m : Int) ∧ ss = .int .i64 s ∧ (s = 1 ∨ s = -1) ∧ u < m ∧ m ≤ N ∧ Hid (s * jcb u m = R)) (fun au _ _ => (intOf au).toNat)
 case atStart => exact ⟨u0, N, 1, rfl, rfl, rfl, .inl rfl, hul, Nat.le_refl _, HR0⟩
 case round =>
  obtain ⟨u, m, s, rfl, rfl, rfl, hs, hum, hmN, hR1⟩ := hrel
  by_cases c : u = 0
  ·subst c
   by_cases c1 : m = 1
   ·have HV : Hid (R = s) := hide (by rw [← unhide hR1, jcb_zero, if_pos c1, Int.mul_one])
    subst c1
    clear hs
    go_wp2
    go_ret
    exact ⟨by rw [unhide HRR, unhide HV]; rfl, rfl⟩
   ·have HV : Hid (R = 0) := hide (by rw [← unhide hR1, jcb_zero, if_neg c1, Int.mul_zero])
    have c1' : ¬ (m : Int) = 1 := by omega
    clear hs
    go_wp2
    go_ret
    exact ⟨by rw [unhide HRR, unhide HV]; rfl, rfl⟩
  ·have c' : ¬ (u : Int) = 0 := by omega
   have HS := hide hs
   clear hs
   go_wp2
   go_loop [0, 5] (fun au ss => ∃ (v : Nat) (t : Int), au = .int .i64 (v : Int) ∧ ss = .int .i64 t ∧ Hid (t = 1 ∨ t = -1) ∧ 1 ≤ v ∧ v ≤ u ∧ Hid (t * jcb v m = R)) (fun au _ => (intOf au).toNat)
   case atStart => exact ⟨u, s, rfl, rfl, HS, by omega, Nat.le_refl _, hR1⟩
   case round =>
    obtain ⟨v, t, rfl, rfl, hT, hv1, hvu, hR2⟩ := hrel
    by_cases c2 : v % 2 = 0
    ·have h2' : Int.tmod (v : Int) 2 = 0 := by rw [Int.tmod_eq_emod_of_nonneg (by omega)]; omega
     have h3 : Int.tdiv (v : Int) 2 = ((v / 2 : Nat) : Int) := by rw [Int.tdiv_eq_ediv_of_nonneg (by omega)]; omega
     obtain ⟨y, hy⟩ : ∃ y, two8 (m : Int) = y := ⟨_, rfl⟩
     have hy1 := two8_pm (m : Int)
     rw [hy] at hy1
     have HN : Hid (t * y * jcb (v / 2) m = R) := hide (by rw [← unhide hR2, jcb_even hv1 c2, hy, Int.mul_assoc])
     have HT2 : Hid (t * y = 1 ∨ t * y = -1) := hide (pm_mul (unhide hT) hy1)
     have HY : ∀ W, Calls Tryz.prog 122 #[.int .i64 (m : Int)] W fun e w' => e = .returned (.int .i64 y) ∧ W = w' := fun W => by rw [← hy]; exact symbolOfTwo_a m W (by omega)
     have HY := hide HY
     obtain ⟨z, hz⟩ : ∃ z, t * y = z := ⟨_, rfl⟩
     have hz1 := unhide HT2
     rw [hz] at hz1
     have hz0 : -1 ≤ z ∧ z ≤ 1 := by omega
     have hv2 : 1 ≤ v / 2 := by omega
     clear hy hy1 c2
     go_wp2_with (go_at_call 122; refine ((unhide HY) _).mono ?_; rintro e w' ⟨rfl, rfl⟩)
     go_round
     case rel => exact ⟨v / 2, t * y, by first | rfl | go_num, by first | rfl | (rw [hz]; done) | go_num, HT2, by omega, by omega, HN⟩
     case measure => simp [intOf]; omega
    ·have h2' : Int.tmod (v : Int) 2 = 1 := by rw [Int.tmod_eq_emod_of_nonneg (by omega)]; omega
     have ht := unhide hT
     by_cases c4 : v % 4 = 3
     ·by_cases d4 : m % 4 = 3
      ·have h4 : Int.tmod (v : Int) 4 = 3 := by rw [Int.tmod_eq_emod_of_nonneg (by omega)]; omega
       have h5 : Int.tmod (m : Int) 4 = 3 := by rw [Int.tmod_eq_emod_of_nonneg (by omega)]; omega
       have HN : Hid (-t * jcb (m % v) v = R) := hide (by rw [← unhide hR2, jcb_odd (a := v) (n := m) (by omega)]; unfold sg4; rw [if_pos ⟨c4, d4⟩]; rw [Int.neg_mul, Int.neg_mul, Int.one_mul, Int.mul_neg])
       have h6 : Int.tmod (m : Int) (v : Int) = ((m % v : Nat) : Int) := by rw [Int.tmod_eq_emod_of_nonneg (by omega)]; rfl
       have h7 := Nat.mod_lt m (show 0 < v by omega)
       have h8 : ¬ (v : Int) = 0 := by omega
       have ht0 : -1 ≤ t ∧ t ≤ 1 := by omega
       have HT : Hid (-t = 1 ∨ -t = -1) := hide (by omega)
       clear c4 d4 ht
       go_wp2
       go_round
       case rel => exact ⟨m % v, v, -t, by first | rfl | go_num, rfl, by first | rfl | go_num, unhide HT, by omega, by omega, HN⟩
       case measure => simp [intOf]; omega
      ·have h4 : Int.tmod (v : Int) 4 = 3 := by rw [Int.tmod_eq_emod_of_nonneg (by omega)]; omega
       obtain ⟨r5, hr5⟩ : ∃ r : Int, Int.tmod (m : Int) 4 = r := ⟨_, rfl⟩
       have h5 : ¬ r5 = 3 := by rw [Int.tmod_eq_emod_of_nonneg (by omega)] at hr5; omega
       have HN : Hid (t * jcb (m % v) v = R) := hide (by rw [← unhide hR2, jcb_odd (a := v) (n := m) (by omega)]; unfold sg4; rw [if_neg (by omega)]; rw [Int.one_mul])
       have h6 : Int.tmod (m : Int) (v : Int) = ((m % v : Nat) : Int) := by rw [Int.tmod_eq_emod_of_nonneg (by omega)]; rfl
       have h7 := Nat.mod_lt m (show 0 < v by omega)
       have h8 : ¬ (v : Int) = 0 := by omega
       have ht0 : -1 ≤ t ∧ t ≤ 1 := by omega
       have HT : Hid (t = 1 ∨ t = -1) := hide (by omega)
       clear c4 d4 ht
       go_wp2
       go_round
       case rel => exact ⟨m % v, v, t, by first | rfl | go_num, rfl, by first | rfl | go_num, unhide HT, by omega, by omega, HN⟩
       case measure => simp [intOf]; omega
     ·obtain ⟨r4, hr4⟩ : ∃ r : Int, Int.tmod (v : Int) 4 = r := ⟨_, rfl⟩
      have h4 : ¬ r4 = 3 := by rw [Int.tmod_eq_emod_of_nonneg (by omega)] at hr4; omega
      have HN : Hid (t * jcb (m % v) v = R) := hide (by rw [← unhide hR2, jcb_odd (a := v) (n := m) (by omega)]; unfold sg4; rw [if_neg (by omega)]; rw [Int.one_mul])
      have h6 : Int.tmod (m : Int) (v : Int) = ((m % v : Nat) : Int) := by rw [Int.tmod_eq_emod_of_nonneg (by omega)]; rfl
      have h7 := Nat.mod_lt m (show 0 < v by omega)
      have h8 : ¬ (v : Int) = 0 := by omega
      have ht0 : -1 ≤ t ∧ t ≤ 1 := by omega
      have HT : Hid (t = 1 ∨ t = -1) := hide (by omega)
      clear c4  ht
      go_wp2
      go_round
      case rel => exact ⟨m % v, v, t, by first | rfl | go_num, rfl, by first | rfl | go_num, unhide HT, by omega, by omega, HN⟩
      case measure => simp [intOf]; omega
end Go.Proofs.YtaeabefbohlcpaaGreat
