/- Plain: the orders of the classes of a discriminant, their counts, and the exponent. -/
import Derived.Test.YtaeabefbohlcpaaRfl
import Derived.Test.YtaeabefbohlcpaaFac
namespace Go.Proofs.Ytaeabefbohlcpaa
set_option linter.unusedVariables false
set_option linter.unusedSimpArgs false

def IsOr (D : Int) (W : T3) (n : Nat) : Prop := 1 ≤ n ∧ n ≤ 2000 ∧ poN D W n = onT D ∧ ∀ k, 1 ≤ k → k < n → poN D W k ≠ onT D
theorem isOr_ex {D : Int} {W : T3} (h : InD D W) : ∃ n, IsOr D W n := by
 obtain ⟨n, h1, h2, h3⟩ := ord_ex h
 obtain ⟨m, ⟨m1, m2, m3⟩, hm⟩ := least1 (P := fun n => 1 ≤ n ∧ n ≤ 2000 ∧ poN D W n = onT D) n ⟨h1, h2, h3⟩
 exact ⟨m, m1, m2, m3, fun k hk hlt he => hm k hlt ⟨hk, by omega, he⟩⟩
open Classical in
noncomputable def orN (D : Int) (W : T3) : Nat := if h : ∃ n, IsOr D W n then h.choose else 0
theorem or_is {D : Int} {W : T3} (h : InD D W) : IsOr D W (orN D W) := by
 unfold orN
 rw [dif_pos (isOr_ex h)]
 exact (isOr_ex h).choose_spec
theorem or_here {D : Int} {W : T3} (h : InD D W) {n : Nat} (h1 : 1 ≤ n) (h2 : n ≤ orN D W) (h3 : poN D W n = onT D) : n = orN D W := by
 rcases Nat.lt_or_ge n (orN D W) with q | q
 ·exact absurd h3 ((or_is h).2.2.2 n h1 q)
 ·omega
noncomputable def orL (d : Int) : List Int := (rfL d).map fun F => (orN d F : Int)
theorem cg_one {d : Int} (hd : negB d = true) (x : {F : T3 // F ∈ rfL d}) (n : Nat) : (cg d hd).pw x n = (cg d hd).one ↔ poN d x.1 n = onT d := by
 rw [← cg_pw hd x n]
 exact ⟨fun h => congrArg Subtype.val h, fun h => Subtype.ext h⟩
theorem cg_ord {d : Int} (hd : negB d = true) (x : {F : T3 // F ∈ rfL d}) : (cg d hd).IsOrd x (orN d x.1) := by
 obtain ⟨h1, _, h3, h4⟩ := or_is (rf_in hd x.2).1
 exact ⟨h1, (cg_one hd x _).2 h3, fun e he hl q => h4 e he hl ((cg_one hd x _).1 q)⟩
theorem cg_os {d : Int} (hd : negB d = true) : OsOk (cg d hd) (orL d) := by
 refine ⟨by rw [cg_len]; exact List.length_map _, fun o ho => ?_, fun q hq => ?_, fun T => ?_, facN 2000, fac_pos _, cg_exp hd⟩
 ·obtain ⟨F, hF, rfl⟩ := List.mem_map.1 ho
  have := (or_is (rf_in hd hF).1).1
  omega
 ·have h1 : ((cg d hd).tor q).length = ((rfL d).attach).countP (fun x => decide (poN d x.1 q = onT d)) := by
   unfold Fab.tor
   rw [← List.countP_eq_length_filter]
   refine List.countP_congr fun x _ => ?_
   rw [decide_eq_true_eq, decide_eq_true_eq]; exact cg_one hd x q
  have h2 : ((rfL d).attach).countP (fun x => decide (poN d x.1 q = onT d)) = (rfL d).countP (fun F => decide (poN d F q = onT d)) := List.countP_attach (p := fun F => decide (poN d F q = onT d))
  rw [h1, h2]
  unfold cntI orL
  rw [← List.countP_eq_length_filter, List.countP_map]
  refine List.countP_congr fun F hF => ?_
  rw [decide_eq_true_eq, ← cg_one hd ⟨F, hF⟩, (cg_ord hd ⟨F, hF⟩).iff]
  show ((q : Int) % (orN d F : Int) == 0) = true ↔ _
  rw [beq_iff_eq]
  constructor
  ·intro e; exact Int.natCast_dvd_natCast.1 (Int.dvd_of_emod_eq_zero e)
  ·intro e; exact Int.emod_eq_zero_of_dvd (Int.natCast_dvd_natCast.2 e)
 ·constructor
  ·intro h x
   have := h (orN d x.1 : Int) (List.mem_map.2 ⟨x.1, x.2, rfl⟩)
   exact (cg_ord hd x).iff.2 (Int.natCast_dvd_natCast.1 this)
  ·intro h o ho
   obtain ⟨F, hF, rfl⟩ := List.mem_map.1 ho
   exact Int.natCast_dvd_natCast.2 ((cg_ord hd ⟨F, hF⟩).iff.1 (h ⟨F, hF⟩))
end Go.Proofs.Ytaeabefbohlcpaa
