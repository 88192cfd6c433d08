/- Plain: the orders of the classes of a discriminant, their counts, and the exponent. -/
import Derived.Test.YtaeabefbohlcpaaGreatRfl
import Derived.Test.YtaeabefbohlcpaaGreatFac
namespace Go.Proofs.YtaeabefbohlcpaaGreat
set_option linter.unusedVariables false
set_option linter.unusedSimpArgs false

def IsOr (D : Int) (W : T3) (n : Nat) : Prop := 1 ≤ n ∧ n ≤ 2000 ∧ poN D W n = onT D ∧ ∀ k, 1 ≤ k → k < n → poN D W k ≠ onT D
theorem isOr_ex {D : Int} {W : T3} (h : InD D W) : ∃ n, IsOr D W n := by
 obtain ⟨n, h1, h2, h3⟩ := ord_ex h
 obtain ⟨m, ⟨m1, m2, m3⟩, hm⟩ := least1 (P := fun n => 1 ≤ n ∧ n ≤ 2000 ∧ poN D W n = onT D) n ⟨h1, h2, h3⟩
 exact ⟨m, m1, m2, m3, fun k hk hlt he => hm k hlt ⟨hk, by omega, he⟩⟩
open Classical in
noncomputable def orN (D : Int) (W : T3) : Nat := if h : ∃ n, IsOr D W n then h.choose else 0
theorem or_is {D : Int} {W : T3} (h : InD D W) : IsOr D W (orN D W) := by
 unfold orN
 rw [dif_pos (isOr_ex h)]
 exact (isOr_ex h).choose_spec
theorem or_here {D : Int} {W : T3} (h : InD D W) {n : Nat} (h1 : 1 ≤ n) (h2 : n ≤ orN D W) (h3 : poN D W n = onT D) : n = orN D W := by
 rcases Nat.lt_or_ge n (orN D W) with q | q
 ·exact absurd h3 ((or_is h).2.2.2 n h1 q)
 ·omega
noncomputable def orL (d : Int) : List Int := (rfL d).map fun F => (orN d F : Int)
theorem cg_one {d : Int} (hd : negB d = true) (x : {F : T3 // F ∈ rfL d}) (n : Nat) : (cg d hd).pw x n = (cg d hd).one ↔ poN d x.1 n = onT d := by
 rw [← cg_pw hd x n]
 exact ⟨fun h => congrArg Subtype.val h, fun h => Subtype.ext h⟩
theorem cg_ord {d : Int} (hd : negB d = true) (x : {F : T3 // F ∈ rfL d}) : (cg d hd).IsOrd x (orN d x.1) := by
 obtain ⟨h1, _, h3, h4⟩ := or_is (rf_in hd x.2).1
 exact ⟨h1, (cg_one hd x _).2 h3, fun e he hl q => h4 e he hl ((cg_one hd x _).1 q)⟩
theorem cg_os {d : Int} (hd : negB d = true) : OsOk (cg d hd) (orL d) := by
 refine ⟨by rw [cg_len]; exact List.length_map _, fun o ho => ?_, fun q hq => ?_, fun T => ?_, facN 2000, fac_pos _, cg_exp hd⟩
 ·obtain ⟨F, hF, rfl⟩ := List.mem_map.1 ho
  have := (or_is (rf_in hd hF).1).1
  omega
 ·have h1 : ((cg d hd).tor q).length = ((rfL d).attach).countP (fun x => decide (poN d x.1 q = onT d)) := by
   unfold Fab.tor
   rw [← List.countP_eq_length_filter]
   refine List.countP_congr fun x _ => ?_
   rw [decide_eq_true_eq, decide_eq_true_eq]; exact cg_one hd x q
  have h2 : ((rfL d).attach).countP (fun x => decide (poN d x.1 q = onT d)) = (rfL d).countP (fun F => decide (poN d F q = onT d)) := List.countP_attach (p := fun F => decide (poN d F q = onT d))
  rw [h1, h2]
  unfold cntI orL
  rw [← List.countP_eq_length_filter, List.countP_map]
  refine List.countP_congr fun F hF => ?_
  rw [decide_eq_true_eq, ← cg_one hd ⟨F, hF⟩, (cg_ord hd ⟨F, hF⟩).iff]
  show ((q : Int) % (orN d F : Int) == 0) = true ↔ _
  rw [beq_iff_eq]
  constructor
  ·intro e; exact Int.natCast_dvd_natCast.1 (Int.dvd_of_emod_eq_zero e)
  ·intro e; exact Int.emod_eq_zero_of_dvd (Int.natCast_dvd_natCast.2 e)
 ·constructor
  ·intro h x
   have := h (orN d x.1 : Int) (List.mem_map.2 ⟨x.1, x.2, rfl⟩)
   exact (cg_ord hd x).iff.2 (Int.natCast_dvd_natCast.1 this)
  ·intro h o ho
   obtain ⟨F, hF, rfl⟩ := List.mem_map.1 ho
   exact Int.natCast_dvd_natCast.2 ((cg_ord hd ⟨F, hF⟩).iff.1 (h ⟨F, hF⟩))
def lcK (os : List Int) : Nat → Int
 | 0 => 1
 | k + 1 => lcK os k / igcd (lcK os k) (os.getD k 0) * os.getD k 0
theorem lc_step {a b : Int} (ha : 1 ≤ a) (hb : 1 ≤ b) : 1 ≤ a / igcd a b * b ∧ ∀ T : Int, a / igcd a b * b ∣ T ↔ a ∣ T ∧ b ∣ T := by
 obtain ⟨m, rfl⟩ := Int.eq_ofNat_of_zero_le (show 0 ≤ a by omega)
 obtain ⟨n, rfl⟩ := Int.eq_ofNat_of_zero_le (show 0 ≤ b by omega)
 have e : (m : Int) / igcd m n * (n : Int) = ((Nat.lcm m n : Nat) : Int) := by
  unfold igcd
  rw [Int.gcd_natCast_natCast, ← Int.natCast_ediv, ← Int.natCast_mul]
  congr 1
  have hg := Nat.gcd_dvd_left m n
  rw [Nat.lcm, Nat.div_mul_right_comm hg]
 rw [e]
 refine ⟨?_, fun T => ⟨fun h => ⟨Int.dvd_trans (Int.natCast_dvd_natCast.2 (Nat.dvd_lcm_left m n)) h, Int.dvd_trans (Int.natCast_dvd_natCast.2 (Nat.dvd_lcm_right m n)) h⟩, fun ⟨h1, h2⟩ => ?_⟩⟩
 ·have := Nat.lcm_pos (m := m) (n := n) (by omega) (by omega)
  omega
 ·have h3 := Int.ofNat_dvd_left.1 h1
  have h4 := Int.ofNat_dvd_left.1 h2
  exact Int.ofNat_dvd_left.2 (Nat.lcm_dvd h3 h4)
theorem lcK_ok {os : List Int} (hp : ∀ o ∈ os, 1 ≤ o) : ∀ k, k ≤ os.length → 1 ≤ lcK os k ∧ ∀ T : Int, lcK os k ∣ T ↔ ∀ i, i < k → os.getD i 0 ∣ T
 | 0, _ => ⟨Int.le_refl 1, fun T => ⟨fun _ i hi => absurd hi (Nat.not_lt_zero _), fun _ => Int.one_dvd T⟩⟩
 | k + 1, hk => by
  obtain ⟨h1, h2⟩ := lcK_ok hp k (by omega)
  have hm : os.getD k 0 ∈ os := by rw [List.getD_eq_getElem?_getD, List.getElem?_eq_getElem (show k < os.length by omega)]; exact List.getElem_mem _
  obtain ⟨h3, h4⟩ := lc_step h1 (hp _ hm)
  refine ⟨h3, fun T => ?_⟩
  rw [lcK, h4 T, h2 T]
  constructor
  ·rintro ⟨a, b⟩ i hi
   by_cases q : i = k
   ·rw [q]; exact b
   ·exact a i (by omega)
  ·intro a
   exact ⟨fun i hi => a i (by omega), a k (by omega)⟩
theorem lc_top {d : Int} (hd : negB d = true) : lcK (orL d) (orL d).length = (((fsL (orL d)).getD 0 1 : Nat) : Int) := by
 have h := cg_os hd
 obtain ⟨h1, h2⟩ := lcK_ok h.pos _ (Nat.le_refl _)
 have hi : ∀ T : Int, (∀ i, i < (orL d).length → (orL d).getD i 0 ∣ T) ↔ ∀ o ∈ orL d, o ∣ T := fun T => ⟨fun a o ho => by
  obtain ⟨i, hi, he⟩ := List.getElem_of_mem ho
  have := a i hi
  rw [List.getD_eq_getElem?_getD, List.getElem?_eq_getElem hi, Option.getD_some, he] at this
  exact this, fun a i hi => a _ (by rw [List.getD_eq_getElem?_getD, List.getElem?_eq_getElem hi]; exact List.getElem_mem _)⟩
 obtain ⟨m, hm⟩ := Int.eq_ofNat_of_zero_le (show 0 ≤ lcK (orL d) (orL d).length by omega)
 have a1 : (fsL (orL d)).getD 0 1 ∣ m := (h.greatest m).1 ((hi _).1 ((h2 _).1 (by rw [hm]; exact Int.dvd_refl _)))
 have a2 : (m : Int) ∣ (((fsL (orL d)).getD 0 1 : Nat) : Int) := by
  rw [← hm]
  exact (h2 _).2 ((hi _).2 ((h.greatest _).2 (Nat.dvd_refl _)))
 rw [hm]
 congr 1
 exact Nat.dvd_antisymm (Int.natCast_dvd_natCast.1 a2) a1
theorem lc_bd {d : Int} (hd : negB d = true) {k : Nat} (hk : k ≤ (orL d).length) : 1 ≤ lcK (orL d) k ∧ lcK (orL d) k ≤ (((fsL (orL d)).getD 0 1 : Nat) : Int) := by
 have h := cg_os hd
 obtain ⟨h1, h2⟩ := lcK_ok h.pos k hk
 obtain ⟨t1, t2⟩ := lcK_ok h.pos _ (Nat.le_refl (orL d).length)
 refine ⟨h1, ?_⟩
 rw [← lc_top hd]
 have : lcK (orL d) k ∣ lcK (orL d) (orL d).length := (h2 _).2 fun i hi => (t2 _).1 (Int.dvd_refl _) i (by omega)
 exact Int.le_of_dvd (by omega) this
theorem fs_bd {d : Int} (hd : negB d = true) : ∀ x ∈ fsL (orL d), 1 ≤ x ∧ x ≤ (orL d).length := by
 have h := cg_os hd
 obtain ⟨p1, p2, p3, p4⟩ := ps_ok h.pos1
 intro x hx
 unfold fsL fsK at hx
 rw [List.take_length] at hx
 have := h.fsP_bd p2 (l := []) (M := 1) (Nat.le_refl _) (fun y hy => by cases hy) x hx
 rw [Nat.mul_one, Fab.prd_all h.pos1 p1 p2 p4 (fun p hp => ex_spec (p2 p hp).1 _ h.pos1)] at this
 exact this
end Go.Proofs.YtaeabefbohlcpaaGreat
