/- A point at which the value of a primitive form is prime to m, with both numbers at most m. Plain. -/
import Derived.Test.YtaeabefbohlcpaaFac
import Derived.Test.YtaeabefbohlcpaaCmp
namespace Go.Proofs.Ytaeabefbohlcpaa
open Go.RowKit
set_option linter.unusedVariables false
set_option linter.unusedSimpArgs false

theorem Pr.not1 {p : Nat} (h : Pr p) (h1 : p ∣ 1) : False := by have := Nat.le_of_dvd (by omega) h1; have := h.1; omega
theorem prd_mem {q : Nat} (hq : Pr q) : ∀ {l : List Nat}, (∀ p ∈ l, Pr p) → ∀ {r : Nat → Nat}, q ∣ Fab.prd (fun p => p ^ r p) l → q ∈ l ∧ 1 ≤ r q
 | [], _, r, h => absurd h (fun h => hq.not1 h)
 | p :: l, hp, r, h => by
  rw [Fab.prd] at h
  rcases hq.mul h with h | h
  ·have e : q = p := by
    rcases (hp p (by simp)).2 q (hq.pow h) with e | e
    ·have := hq.1; omega
    ·exact e
   subst e
   refine ⟨by simp, ?_⟩
   by_cases k : r q = 0
   ·rw [k] at h; exact absurd h (fun h => hq.not1 h)
   ·omega
  ·obtain ⟨h1, h2⟩ := prd_mem hq (fun x hx => hp x (by simp [hx])) h
   exact ⟨by simp [h1], h2⟩
theorem mem_prd {q : Nat} : ∀ {l : List Nat} {r : Nat → Nat}, q ∈ l → 1 ≤ r q → q ∣ Fab.prd (fun p => p ^ r p) l
 | p :: l, r, hq, h1 => by
  rw [Fab.prd]
  by_cases e : q = p
  ·subst e
   exact Nat.dvd_trans (by obtain ⟨k, hk⟩ : ∃ k, r q = k + 1 := ⟨r q - 1, by omega⟩; rw [hk, Nat.pow_succ]; exact Nat.dvd_mul_left _ _) (Nat.dvd_mul_right _ _)
  ·exact Nat.dvd_trans (mem_prd (by simpa [e] using hq) h1) (Nat.dvd_mul_left _ _)
theorem prI {q : Nat} (hq : Pr q) {a b : Int} (h : (q : Int) ∣ a * b) : (q : Int) ∣ a ∨ (q : Int) ∣ b := by
 rw [Int.ofNat_dvd_left] at h
 rw [Int.natAbs_mul] at h
 rcases hq.mul h with h | h
 ·exact .inl (Int.ofNat_dvd_left.2 h)
 ·exact .inr (Int.ofNat_dvd_left.2 h)
theorem point_ex {a b c : Int} (hp : Prim a b c) {m : Nat} (hm : 1 ≤ m) : ∃ x y : Nat, x ≤ m ∧ y ≤ m ∧ Nat.gcd x y = 1 ∧ Int.gcd (a * (x : Int) * (x : Int) + b * (x : Int) * (y : Int) + c * (y : Int) * (y : Int)) (m : Int) = 1 := by
 classical
 have ps := ps_ok hm
 obtain ⟨l, hl⟩ : ∃ l, psL m = l := ⟨_, rfl⟩
 rw [hl] at ps
 obtain ⟨rv, hrv⟩ : ∃ r : Nat → Nat, ∀ p, r p = (if (p : Int) ∣ a ∧ ¬ (p : Int) ∣ c then 1 else 0) := ⟨fun p => if (p : Int) ∣ a ∧ ¬ (p : Int) ∣ c then 1 else 0, fun _ => rfl⟩
 obtain ⟨ru, hru⟩ : ∃ r : Nat → Nat, ∀ p, r p = (if (p : Int) ∣ a then 0 else 1) := ⟨fun p => if (p : Int) ∣ a then 0 else 1, fun _ => rfl⟩
 have hv : ∀ q, 1 ≤ rv q ↔ (q : Int) ∣ a ∧ ¬ (q : Int) ∣ c := fun q => by rw [hrv]; split <;> simp_all
 have hu : ∀ q, 1 ≤ ru q ↔ ¬ (q : Int) ∣ a := fun q => by rw [hru]; split <;> simp_all
 have dv : ∀ (r : Nat → Nat), (∀ q, r q ≤ 1) → Fab.prd (fun p => p ^ r p) l ∣ m := fun r h1 => Fab.prd_dvd ps.nd ps.pr r (fun p hpl => by
  have h2 := h1 p
  rcases (show r p = 0 ∨ r p = 1 by omega) with h | h
  ·rw [h]; exact Nat.one_dvd _
  ·rw [h, Nat.pow_one]; exact ps.dv p hpl)
 have d1 := dv rv (fun q => by rw [hrv]; split <;> omega)
 have d2 := dv ru (fun q => by rw [hru]; split <;> omega)
 obtain ⟨x, hx⟩ : ∃ x, Fab.prd (fun p => p ^ rv p) l = x := ⟨_, rfl⟩
 obtain ⟨y, hy⟩ : ∃ y, Fab.prd (fun p => p ^ ru p) l = y := ⟨_, rfl⟩
 have qx : ∀ q, Pr q → q ∣ x → (q : Int) ∣ a ∧ ¬ (q : Int) ∣ c := fun q hq h => (hv q).1 (prd_mem hq ps.pr (by rw [hx]; exact h)).2
 have qy : ∀ q, Pr q → q ∣ y → ¬ (q : Int) ∣ a := fun q hq h => (hu q).1 (prd_mem hq ps.pr (by rw [hy]; exact h)).2
 have xq : ∀ q, q ∈ l → (q : Int) ∣ a → ¬ (q : Int) ∣ c → q ∣ x := fun q h h1 h2 => by rw [← hx]; exact mem_prd h ((hv q).2 ⟨h1, h2⟩)
 have yq : ∀ q, q ∈ l → ¬ (q : Int) ∣ a → q ∣ y := fun q h h1 => by rw [← hy]; exact mem_prd h ((hu q).2 h1)
 rw [hx] at d1
 rw [hy] at d2
 refine ⟨x, y, Nat.le_of_dvd hm d1, Nat.le_of_dvd hm d2, ?_, ?_⟩
 ·have hx0 : 0 < x := Nat.pos_of_dvd_of_pos d1 hm
  by_cases g : Nat.gcd x y = 1
  ·exact g
  ·have g0 : 0 < Nat.gcd x y := Nat.gcd_pos_of_pos_left _ hx0
   obtain ⟨q, hq, hqd⟩ := Pr.ex (n := Nat.gcd x y) (by omega)
   exact absurd (qx q hq (Nat.dvd_trans hqd (Nat.gcd_dvd_left _ _))).1 (qy q hq (Nat.dvd_trans hqd (Nat.gcd_dvd_right _ _)))
 ·obtain ⟨f, hf⟩ : ∃ f, a * (x : Int) * (x : Int) + b * (x : Int) * (y : Int) + c * (y : Int) * (y : Int) = f := ⟨_, rfl⟩
  rw [hf]
  by_cases g : Int.gcd f (m : Int) = 1
  ·exact g
  ·exfalso
   have g0 : 0 < Int.gcd f (m : Int) := Int.gcd_pos_of_ne_zero_right _ (by omega)
   obtain ⟨q, hq, hqd⟩ := Pr.ex (n := Int.gcd f (m : Int)) (by omega)
   have qf : (q : Int) ∣ f := Int.dvd_trans (Int.natCast_dvd_natCast.2 hqd) (Int.gcd_dvd_left ..)
   have qm : q ∣ m := Int.natCast_dvd_natCast.1 (Int.dvd_trans (Int.natCast_dvd_natCast.2 hqd) (Int.gcd_dvd_right ..))
   have ql := ps.all q hq qm
   have cast : ∀ {z : Nat}, q ∣ z → (q : Int) ∣ (z : Int) := fun h => Int.natCast_dvd_natCast.2 h
   have back : ∀ {z : Nat}, (q : Int) ∣ (z : Int) → q ∣ z := fun h => Int.natCast_dvd_natCast.1 h
   by_cases ha : (q : Int) ∣ a
   ·by_cases hc : (q : Int) ∣ c
    ·have h1 : (q : Int) ∣ b * (x : Int) * (y : Int) := by
      have e : b * (x : Int) * (y : Int) = f - a * ((x : Int) * (x : Int)) - c * ((y : Int) * (y : Int)) := by rw [← hf, Int.mul_assoc a, Int.mul_assoc c]; omega
      rw [e]
      exact Int.dvd_sub (Int.dvd_sub qf (Int.dvd_trans ha (Int.dvd_mul_right _ _))) (Int.dvd_trans hc (Int.dvd_mul_right _ _))
     rcases prI hq h1 with h1 | h1
     ·rcases prI hq h1 with h1 | h1
      ·have := hp _ ha h1 hc
       have h3 : q ∣ 1 := Int.natCast_dvd_natCast.1 this
       exact hq.not1 h3
      ·exact (qx q hq (back h1)).2 hc
     ·exact qy q hq (back h1) ha
    ·have hqx := xq q ql ha hc
     have h1 : (q : Int) ∣ c * (y : Int) * (y : Int) := by
      have e : c * (y : Int) * (y : Int) = f - (x : Int) * (a * (x : Int)) - (x : Int) * (b * (y : Int)) := by rw [← hf, Int.mul_comm (x : Int) (a * x), ← Int.mul_assoc (x : Int), Int.mul_comm (x : Int) b]; omega
      rw [e]
      exact Int.dvd_sub (Int.dvd_sub qf (Int.dvd_trans (cast hqx) (Int.dvd_mul_right _ _))) (Int.dvd_trans (cast hqx) (Int.dvd_mul_right _ _))
     rcases prI hq h1 with h1 | h1
     ·rcases prI hq h1 with h1 | h1
      ·exact hc h1
      ·exact qy q hq (back h1) ha
     ·exact qy q hq (back h1) ha
   ·have hqy := yq q ql ha
    have h1 : (q : Int) ∣ a * (x : Int) * (x : Int) := by
     have e : a * (x : Int) * (x : Int) = f - (y : Int) * (b * (x : Int)) - (y : Int) * (c * (y : Int)) := by rw [← hf, Int.mul_comm (y : Int) (b * x), Int.mul_comm (y : Int) (c * y)]; omega
     rw [e]
     exact Int.dvd_sub (Int.dvd_sub qf (Int.dvd_trans (cast hqy) (Int.dvd_mul_right _ _))) (Int.dvd_trans (cast hqy) (Int.dvd_mul_right _ _))
    rcases prI hq h1 with h1 | h1
    ·rcases prI hq h1 with h1 | h1
     ·exact ha h1
     ·exact ha (qx q hq (back h1)).1
    ·exact ha (qx q hq (back h1)).1
end Go.Proofs.Ytaeabefbohlcpaa
