/- The values of a class: genusValues, chOf. -/
import Derived.Test.YtaeabefbohlcpaaGreatPtg
import Derived.Test.YtaeabefbohlcpaaGreatFpg
import Derived.Test.YtaeabefbohlcpaaGreatCmpI
import Derived.Test.YtaeabefbohlcpaaGreatGp
import Derived.Deep.RegionWith
namespace Go.Proofs.YtaeabefbohlcpaaGreat
open Go.RowKit
set_option linter.unusedVariables false
set_option linter.unusedSimpArgs false
attribute [local go_sem] q2 q3 q4 q5 q6 q7 q8 q9 q10 q11 q12

theorem sqn (z : Int) : 0 ≤ z * z := by
 rcases Int.le_total 0 z with h | h
 ·exact Int.mul_nonneg h h
 ·have := Int.mul_nonneg (show 0 ≤ -z by omega) (show 0 ≤ -z by omega)
  rw [Int.neg_mul_neg] at this; exact this
theorem first_ex {a b c m : Int} (h1 : -4000 ≤ m) (h2 : m ≤ -2) (hp : Prim a b c) : ∃ k x y, IsFirst a b c m k x y := by
 obtain ⟨x', y', hx', hy', hg, hv⟩ := point_ex hp (m := m.natAbs) (by omega)
 have h3 : hitB a b c m (max x' y') x' y' = true := by
  have hv2 : Int.gcd (valI a b c x' y') m = 1 := by
   rw [← hv]; unfold valI
   show _ = Nat.gcd _ _
   rfl
  simp [hitB, igcd, hv2]; omega
 obtain ⟨k, ⟨x1, y1, hx1, hy1, hh⟩, hk⟩ := least (P := fun k => ∃ x y, x ≤ k ∧ y ≤ k ∧ hitB a b c m k x y = true) ⟨max x' y', x', y', by omega, by omega, h3⟩
 obtain ⟨x, ⟨y2, hy2, hh2⟩, hx⟩ := least (P := fun x => ∃ y, y ≤ k ∧ hitB a b c m k x y = true) ⟨x1, y1, hy1, hh⟩
 obtain ⟨y, hh3, hy⟩ := least (P := fun y => hitB a b c m k x y = true) ⟨y2, hh2⟩
 have hmx := (hit_facts hh3).1
 have nf : ∀ b : Bool, ¬ b = true → b = false := fun b h => by cases b <;> simp at h ⊢
 exact ⟨k, x, y, hh3, by omega, by omega, fun k' h' x' y' hx' hy' => nf _ (fun q => hk k' h' ⟨x', y', hx', hy', q⟩), fun x' h' y' hy' => nf _ (fun q => hx x' h' ⟨y', hy', q⟩), fun y' h' => nf _ (hy y' h')⟩
theorem val_pos {a b c x y : Int} (a0 : 0 < a) (hd : discI a b c < 0) : 0 ≤ valI a b c x y := by
 have h1 : 4 * a * valI a b c x y = (2 * a * x + b * y) * (2 * a * x + b * y) + (-discI a b c) * (y * y) := by unfold valI discI; grind
 have h2 : 0 ≤ (2 * a * x + b * y) * (2 * a * x + b * y) := sqn _
 have h3 : 0 ≤ (-discI a b c) * (y * y) := Int.mul_nonneg (by omega) (sqn _)
 rcases Int.lt_or_le (valI a b c x y) 0 with q | q
 ·have := Int.mul_neg_of_pos_of_neg (show 0 < 4 * a by omega) q
  omega
 ·exact q
noncomputable def fvI (a b c : Int) : Int := open Classical in if h : ∃ v, ∃ k x y : Nat, IsFirst a b c (2 * discI a b c) k x y ∧ v = valI a b c x y then h.choose else 0
theorem fv_is {a b c : Int} {k x y : Nat} (h : IsFirst a b c (2 * discI a b c) k x y) : valI a b c x y = fvI a b c := by
 have hx : ∃ v, ∃ k x y : Nat, IsFirst a b c (2 * discI a b c) k x y ∧ v = valI a b c x y := ⟨_, k, x, y, h, rfl⟩
 have e : fvI a b c = hx.choose := by unfold fvI; rw [dif_pos hx]
 obtain ⟨k', x', y', h', hv⟩ := hx.choose_spec
 obtain ⟨rfl, rfl, rfl⟩ := h.same h'
 rw [e, hv]
theorem fv_ok {a b c d : Int} {k x y : Nat} (h0 : RedC a b c) (hd : discI a b c = d) (d0 : -2000 ≤ d) (d1 : d ≤ -3) (h : IsFirst a b c (2 * d) k x y) : x ≤ 4000 ∧ y ≤ 4000 ∧ 1 ≤ valI a b c x y ∧ valI a b c x y ≤ 1000000000000 ∧ valI a b c x y % 2 = 1 := by
 have hk := sz_le_g (by omega) (by omega) h0.cls.pr h.sizes
 have h1 := h.xk
 have h2 := h.yk
 obtain ⟨v0, v1⟩ := val_g (x := x) (y := y) h0 (by omega) (by omega)
 have hp := val_pos (x := x) (y := y) (b := b) h0.cls.ok.a0 (by rw [hd]; omega)
 obtain ⟨f1, f2, f3⟩ := hit_facts h.hit
 have ho : valI a b c x y % 2 = 1 := by
  rcases (show valI a b c x y % 2 = 0 ∨ valI a b c x y % 2 = 1 by omega) with e | e
  ·have q : (2 : Int) ∣ ((Int.gcd (valI a b c x y) (2 * d) : Nat) : Int) := Int.dvd_coe_gcd (Int.dvd_of_emod_eq_zero e) (Int.dvd_mul_right _ _)
   rw [f3] at q; omega
  ·exact e
 omega
noncomputable def gvL (F : Int × Int × Int) : List Int := vlL (discI F.1 F.2.1 F.2.2) (fvI F.1 F.2.1 F.2.2)

set_option maxRecDepth 100000 in
set_option maxHeartbeats 4000000 in
theorem genusValues_a (a b c d : Int) (w : World) (h0 : RedC a b c) (hd : negB d = true) (hdd : discI a b c = d) :
  Calls Tryz.prog 68 #[.agg #[.int .i64 a, .int .i64 b, .int .i64 c]] w (RetIL w (gvL (a, b, c))) := by
 obtain ⟨d0, d1⟩ := neg_true hd
 have hf := red_form h0
 have hS := h0.same
 have HG : Hid (gvL (a, b, c) = vlL d (fvI a b c)) := hide (by unfold gvL; rw [hdd])
 obtain ⟨G, hG⟩ : ∃ G, gvL (a, b, c) = G := ⟨_, rfl⟩
 rw [hG]
 have HG : Hid (vlL d (fvI a b c) = G) := hide (by rw [← hG]; exact (unhide HG).symm)
 clear hG
 have HR : ∀ W, Calls Tryz.prog 84 #[.agg #[.int .i64 a, .int .i64 b, .int .i64 c]] W fun e w' => e = .returned (.agg #[.int .i64 a, .int .i64 b, .int .i64 c]) ∧ Below W.heap.size W w' := fun W => reduced_rw a b c a b c h0.cls.ok (by unfold rfA; rw [hS]) (by unfold rfB; rw [hS]) (by unfold rfC; rw [hS]) W
 have HR := hide HR
 have HF : ∀ (W : World) (k x y : Nat), IsFirst a b c (2 * d) k x y → Calls Tryz.prog 87 #[.int .i64 d, .int .i64 (valI a b c (x : Int) (y : Int))] W (RetIL W G) := fun W k x y h => by
  obtain ⟨v1, v2, v3, v4, v5⟩ := fv_ok h0 hdd d0 d1 h
  have := valuesAt_a d (valI a b c x y) W hd v3 v4 v5
  rw [fv_is (by rw [hdd]; exact h), unhide HG] at this
  rw [fv_is (by rw [hdd]; exact h)]
  exact this
 have HF := hide HF
 have HA : ∀ (W : World) (k x y : Nat), IsFirst a b c (2 * d) k x y → Calls Tryz.prog 88 #[.agg #[.int .i64 a, .int .i64 b, .int .i64 c], .int .i64 (x : Int), .int .i64 (y : Int)] W fun e w' => e = .returned (.int .i64 (valI a b c (x : Int) (y : Int))) ∧ Below W.heap.size W w' := fun W k x y h => by
  obtain ⟨v1, v2, v3, v4, v5⟩ := fv_ok h0 hdd d0 d1 h
  exact at_a a b c x y W (at_g h0 (by omega) (by omega))
 have HA := hide HA
 have HD : ∀ (W : World), Calls Tryz.prog 85 #[.agg #[.int .i64 a, .int .i64 b, .int .i64 c]] W fun e w' => e = .returned (.int .i64 d) ∧ Below W.heap.size W w' := fun W => by
  have := disc_a a b c W hf; rw [hdd] at this; exact this
 have HD := hide HD
 have hd2 : 2 * d ≤ -2 := by omega
 have hd3 : -4000 ≤ 2 * d := by omega
 clear hdd hS
 go_enter Tryz.func68, Tryz.ntmps68
 go_wp2_with fail
 refine ((unhide HR) _).mono ?_
 rintro e w2 ⟨rfl, hb2⟩
 have hs2 := hb2.size
 simp only [World.size_alloc] at hs2
 go_wp2_with fail
 refine ((unhide HD) _).mono ?_
 rintro e w3 ⟨rfl, hb3⟩
 have tq0 := Ri3.c hb3 w2.heap.size a b c
 obtain ⟨c00, c01, c02, z0⟩ := tq0
 have hs3 := hb3.size
 simp only [World.size_alloc] at hs3
 go_wp2_with fail
 refine (firstPoint_g a b c (2 * d) _ h0 hd3 hd2).mono ?_
 rintro e w4 ⟨k, x, y, rfl, hF, hb4⟩
 have tq0 := Ri3.c hb4 w2.heap.size a b c
 clear c00 c01 c02 z0
 obtain ⟨c00, c01, c02, z0⟩ := tq0
 have hs4 := hb4.size
 go_wp2_with fail
 refine ((unhide HA) _ k x y hF).mono ?_
 rintro e w5 ⟨rfl, hb5⟩
 have hs5 := hb5.size
 go_wp2_with fail
 refine ((unhide HF) _ k x y hF).mono ?_
 rintro e w6 ⟨a6, c6, rfl, hl6, hb6⟩
 have hs6 := hb6.size
 go_wp2
 go_ret
 exact ⟨a6, c6, rfl, hl6.raise (by omega), byGG⟩

set_option maxRecDepth 100000 in
set_option maxHeartbeats 4000000 in
theorem chOf_a (a b c d : Int) (w : World) (h0 : RedC a b c) (hd : negB d = true) (hdd : discI a b c = d) :
  Calls Tryz.prog 60 #[.agg #[.int .i64 a, .int .i64 b, .int .i64 c]] w (RetIL w (gvL (a, b, c))) := by
 obtain ⟨d0, d1⟩ := neg_true hd
 have hf := red_form h0
 have hS := h0.same
 have HG : Hid (gvL (a, b, c) = vlL d (fvI a b c)) := hide (by unfold gvL; rw [hdd])
 obtain ⟨G, hG⟩ : ∃ G, gvL (a, b, c) = G := ⟨_, rfl⟩
 rw [hG]
 have HG : Hid (vlL d (fvI a b c) = G) := hide (by rw [← hG]; exact (unhide HG).symm)
 clear hG
 have HR : ∀ W, Calls Tryz.prog 79 #[.agg #[.int .i64 a, .int .i64 b, .int .i64 c]] W fun e w' => e = .returned (.agg #[.int .i64 a, .int .i64 b, .int .i64 c]) ∧ Below W.heap.size W w' := fun W => reClass_rw a b c a b c h0.cls.ok ⟨by unfold rfA; rw [hS], by unfold rfB; rw [hS], by unfold rfC; rw [hS]⟩ W
 have HR := hide HR
 have HV : ∀ (W : World), Calls Tryz.prog 78 #[.agg #[.int .i64 a, .int .i64 b, .int .i64 c]] W fun e w' => e = .returned (.int .i64 (fvI a b c)) ∧ Below W.heap.size W w' := fun W => (chValue_g a b c d W h0 hdd d0 d1).mono fun e w' ⟨k, x, y, he, hF, hb⟩ => ⟨by rw [← fv_is (by rw [hdd]; exact hF)]; exact he, hb⟩
 have HV := hide HV
 have HX : ∃ k x y : Nat, IsFirst a b c (2 * d) k x y := by
  exact first_ex (by omega) (by omega) h0.cls.pr
 have HF : ∀ (W : World), Calls Tryz.prog 77 #[.int .i64 d, .int .i64 (fvI a b c)] W (RetIL W G) := fun W => by
  obtain ⟨k, x, y, h⟩ := HX
  obtain ⟨v1, v2, v3, v4, v5⟩ := fv_ok h0 hdd d0 d1 h
  have := chList_a d (valI a b c x y) W hd v3 v4 v5
  rw [fv_is (by rw [hdd]; exact h), unhide HG] at this
  exact this
 have HF := hide HF
 have HD : ∀ (W : World), Calls Tryz.prog 74 #[.agg #[.int .i64 a, .int .i64 b, .int .i64 c]] W fun e w' => e = .returned (.int .i64 d) ∧ Below W.heap.size W w' := fun W => by
  have := foDisc_a a b c W hf; rw [hdd] at this; exact this
 have HD := hide HD
 clear hdd hS HX
 generalize fvI a b c = v at *
 go_enter Tryz.func60, Tryz.ntmps60
 go_wp2
 go_region_with (first | (go_at_call 79; refine ((unhide HR) _).mono ?_; rintro e w2 ⟨rfl, hb2⟩; have c00 := cell_call hb2 (a := ⟨w.heap.size, 0, none⟩) (v := .int .i64 a) (by first | assumption | go_simp); have c01 := cell_call hb2 (a := ⟨w.heap.size, 1, none⟩) (v := .int .i64 b) (by first | assumption | go_simp); have c02 := cell_call hb2 (a := ⟨w.heap.size, 2, none⟩) (v := .int .i64 c) (by first | assumption | go_simp); have hsz := hb2.size; (try simp only [World.size_alloc] at hsz)) | (go_at_call 74; refine ((unhide HD) _).mono ?_; rintro e w3 ⟨rfl, hb3⟩; have c00 := cell_call hb3 (a := ⟨w.heap.size, 0, none⟩) (v := .int .i64 a) (by first | assumption | go_simp); have c01 := cell_call hb3 (a := ⟨w.heap.size, 1, none⟩) (v := .int .i64 b) (by first | assumption | go_simp); have c02 := cell_call hb3 (a := ⟨w.heap.size, 2, none⟩) (v := .int .i64 c) (by first | assumption | go_simp); have hsz := hb3.size; (try simp only [World.size_alloc] at hsz)) | (go_at_call 78; refine ((unhide HV) _).mono ?_; rintro e w4 ⟨rfl, hb4⟩; have c00 := cell_call hb4 (a := ⟨w.heap.size, 0, none⟩) (v := .int .i64 a) (by first | assumption | go_simp); have c01 := cell_call hb4 (a := ⟨w.heap.size, 1, none⟩) (v := .int .i64 b) (by first | assumption | go_simp); have c02 := cell_call hb4 (a := ⟨w.heap.size, 2, none⟩) (v := .int .i64 c) (by first | assumption | go_simp); have hsz := hb4.size; (try simp only [World.size_alloc] at hsz)) | (go_at_call 77; refine ((unhide HF) _).mono ?_; rintro e w6 ⟨a6, c6, rfl, hl6, hb6⟩))
 all_goals
  go_wp2
  go_ret
  refine ⟨a6, c6, rfl, hl6.raise (Below.size (B := w.heap.size) ?_), ?_⟩ <;> exact byGG
end Go.Proofs.YtaeabefbohlcpaaGreat
