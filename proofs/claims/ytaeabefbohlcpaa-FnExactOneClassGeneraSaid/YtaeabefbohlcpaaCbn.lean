/- GreatestNumber on both sides, and the law's walk. CountByNumber on both sides, and the law's walk. -/
import Derived.Test.YtaeabefbohlcpaaPrim
namespace Go.Proofs.Ytaeabefbohlcpaa
open Go.RowKit
set_option linter.unusedVariables false
set_option linter.unusedSimpArgs false
attribute [local go_sem] q2 q3 q4 q5 q6 q7 q8 q9 q10 q11 q12

theorem IntsAt.cell {w : World} {lo hi n : Nat} {a : Option Addr} {f : Nat → Int} (h : IntsAt w lo hi a n f) {i : Nat} (hi' : i < n) : ∃ g, a = some ⟨g, 0, none⟩ ∧ g < w.heap.size ∧ w.cell? ⟨g, i, none⟩ = some (.int .i64 (f i)) := by
 rcases h with h | ⟨g, cap, F, ha, h1, h2, h3, r, e⟩
 ·omega
 ·exact ⟨g, ha, r.lt, by rw [r.cell (i := i) (by omega), e i hi']⟩
def rgB (lo hi : Int) : Bool := inB lo (-2000) hi && decide (hi ≤ -3)
theorem rg_true {lo hi : Int} (h : rgB lo hi = true) : -2000 ≤ lo ∧ lo ≤ hi ∧ hi ≤ -3 := by
 unfold rgB at h; simp at h
 have := inB_true h.1
 exact ⟨this.1, this.2, h.2⟩
def hN (d : Int) : Int := ((rfL d).length : Int)
set_option maxRecDepth 100000 in
set_option maxHeartbeats 1000000 in
theorem isRange_a (lo hi : Int) (w : World) :
  Calls Try.prog 17 #[.int .i64 lo, .int .i64 hi] w fun e w' => e = .returned (.bool (rgB lo hi)) ∧ w = w' := by
 by_cases k0 : -2000 ≤ lo
 ·by_cases k1 : lo ≤ hi
  ·by_cases k2 : hi ≤ -3
   ·go_enter Try.func17, Try.ntmps17
    go_wp2
    go_returns
    exact ⟨ret_bool (by simp [rgB, inB, k0, k1, k2] <;> (try (intros; omega))), rfl⟩
   ·go_enter Try.func17, Try.ntmps17
    go_wp2
    go_returns
    exact ⟨ret_bool (by simp [rgB, inB, k0, k1, k2] <;> (try (intros; omega))), rfl⟩
  ·go_enter Try.func17, Try.ntmps17
   go_wp2
   go_returns
   exact ⟨ret_bool (by simp [rgB, inB, k0, k1] <;> (try (intros; omega))), rfl⟩
 ·go_enter Try.func17, Try.ntmps17
  go_wp2
  go_returns
  exact ⟨ret_bool (by simp [rgB, inB, k0] <;> (try (intros; omega))), rfl⟩

set_option maxRecDepth 100000 in
set_option maxHeartbeats 1000000 in
theorem tbRange_a (lo hi : Int) (w : World) :
  Calls Try.prog 13 #[.int .i64 lo, .int .i64 hi] w fun e w' => e = .returned (.bool (rgB lo hi)) ∧ w = w' := by
 cases k0 : inB lo (-2000) hi
 ·go_enter Try.func13, Try.ntmps13
  go_wp2_with (go_at_call 31; refine (l1In_any _ _ _ _).mono ?_; rintro e w' ⟨rfl, rfl⟩)
  go_returns
  exact ⟨ret_bool (by simp [rgB, k0] <;> (try (intros; omega))), rfl⟩
 ·by_cases k1 : hi ≤ -3
  ·go_enter Try.func13, Try.ntmps13
   go_wp2_with (go_at_call 31; refine (l1In_any _ _ _ _).mono ?_; rintro e w' ⟨rfl, rfl⟩)
   go_returns
   exact ⟨ret_bool (by simp [rgB, k0, k1] <;> (try (intros; omega))), rfl⟩
  ·go_enter Try.func13, Try.ntmps13
   go_wp2_with (go_at_call 31; refine (l1In_any _ _ _ _).mono ?_; rintro e w' ⟨rfl, rfl⟩)
   go_returns
   exact ⟨ret_bool (by simp [rgB, k0, k1] <;> (try (intros; omega))), rfl⟩

end Go.Proofs.Ytaeabefbohlcpaa
namespace Go.Proofs.Ytaeabefbohlcpaa
open Go.RowKit
set_option linter.unusedVariables false
set_option linter.unusedSimpArgs false
attribute [local go_sem] q2 q3 q4 q5 q6 q7 q8 q9 q10 q11 q12

def RetLen (w : World) (n : Nat) (e : Ending) (w' : World) : Prop := ∃ a c, e = .returned (.slice a n c) ∧ Below w.heap.size w w'
theorem reducedForms_len (d : Int) (w : World) (h0 : -2000 ≤ d) (h1 : d ≤ -3) {h : Nat} (hh : h = (rfL d).length) :
  Calls Try.prog 21 #[.int .i64 d] w (RetLen w h) :=
 (reducedForms_a d w h0 h1).mono fun e w' ⟨a, c, he, _, hb⟩ => ⟨a, c, by rw [hh]; exact he, hb⟩
theorem reList_len (d : Int) (w : World) (h0 : -2000 ≤ d) (h1 : d ≤ -3) {h : Nat} (hh : h = (rfL d).length) :
  Calls Try.prog 16 #[.int .i64 d] w (RetLen w h) :=
 (reList_a d w h0 h1).mono fun e w' ⟨a, c, he, _, hb⟩ => ⟨a, c, by rw [hh]; exact he, hb⟩
theorem IL.cellAt {w : World} {lo g n c : Nat} {zs : List Int} (h : IL w lo (.slice (some ⟨g, 0, none⟩) n c) zs) {j : Nat} (hj : j < zs.length) : w.cell? ⟨g, j, none⟩ = some (.int .i64 (zs.getD j 0)) := by
 have hn : n = zs.length := h.ints.1
 subst hn
 rw [World.ownsRow.cellAt h j (by omega), List.getElem?_map, List.getElem?_eq_getElem hj, List.getD_eq_getElem?_getD, List.getElem?_eq_getElem hj]
 rfl
theorem IL.frozenAt {w : World} {lo g n c : Nat} {zs : List Int} (h : IL w lo (.slice (some ⟨g, 0, none⟩) n c) zs) (j : Nat) : w.frozen? ⟨g, j, none⟩ = false := by
 have hn : n = zs.length := h.ints.1
 subst hn
 exact World.ownsRow.frozenAt h j
theorem IL.stored {w : World} {lo g n c : Nat} {zs : List Int} (h : IL w lo (.slice (some ⟨g, 0, none⟩) n c) zs) (j : Nat) (z : Int) :
  IL (w.setCell ⟨g, j, none⟩ (.int .i64 z)) lo (.slice (some ⟨g, 0, none⟩) n c) (zs.set j z) ∧ w.grownBy (w.setCell ⟨g, j, none⟩ (.int .i64 z)) (some g) := by
 have hn : n = zs.length := h.ints.1
 subst hn
 have := World.ownsRow.stored h j (.int .i64 z)
 rw [← List.map_set] at this
 unfold IL
 rw [List.length_set]
 exact this
theorem IL.some_of {w : World} {lo n c : Nat} {a : Option Addr} {zs : List Int} (h : IL w lo (.slice a n c) zs) (hz : 0 < zs.length) : ∃ g, a = some ⟨g, 0, none⟩ ∧ lo ≤ g := by
 rcases h.2 with ⟨h1, h2⟩ | ⟨g, cap, cur, h1, h2, _⟩
 ·omega
 ·simp only [Value.slice.injEq] at h1
  exact ⟨g, h1.1, h2⟩
theorem IntsAt.grown {w w' : World} {lo hi n : Nat} {a : Option Addr} {f : Nat → Int} {row : Option Nat} (h : IntsAt w lo hi a n f) (hg : w.grownBy w' row) (hr : ∀ k, row = some k → k < lo ∨ hi ≤ k) (hB : hi ≤ w.heap.size) : IntsAt w' lo hi a n f :=
 h.keep fun k h1 h2 => hg.block k (by omega) (fun e => by have := hr k e.symm; omega)
end Go.Proofs.Ytaeabefbohlcpaa
