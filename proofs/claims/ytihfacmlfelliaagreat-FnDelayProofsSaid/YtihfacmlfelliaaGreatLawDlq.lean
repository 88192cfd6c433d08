/- What the law of delay proofs calls. -/
import Derived.Test.YtihfacmlfelliaaGreatLevel
import Derived.Test.YtihfacmlfelliaaGreatQf
import Derived.Test.YtihfacmlfelliaaGreatDp
namespace Go.Proofs.YtihfacmlfelliaaGreat
open Go.RowKit
set_option linter.unusedVariables false
set_option linter.unusedSimpArgs false
attribute [local go_sem] q2 q3 q4 q5 q6 q7 q8 q9 q10 q11 q12

theorem FormsAt.bl {w w' : World} {lo hi : Nat} {a : Option Addr} {n : Nat} {f : Nat → Int} (h : FormsAt w lo hi a n f) (hh : hi ≤ w.heap.size) (hb : Below w.heap.size w w') : FormsAt w' lo hi a n f := h.keep (fun k _ hk => hb.block k (by omega))
theorem FormsAt.bl' {w w' : World} {lo hi : Nat} {g : Nat} {n : Nat} {f : Nat → Int} (h : FormsAt w lo hi (some ⟨g, 0, none⟩) n f) (hg : g < w.heap.size) (hb : Below w.heap.size w w') : FormsAt w' lo hi (some ⟨g, 0, none⟩) n f := by
 rcases h with h | ⟨g1, cap, F, h1, h2, h3, h4, h5, h6⟩
 ·exact .inl h
 ·obtain ⟨rfl⟩ : g = g1 := by injection h1 with h1; injection h1
  exact .inr ⟨g, cap, F, rfl, h2, h3, h4, h5.of_block (hb.block g hg), h6⟩
def unf (f : Nat → Int) (i : Nat) : T3 := (f (i * 3), f (i * 3 + 1), f (i * 3 + 2))
theorem fs_of {w w' : World} {lo hi : Nat} {g : Nat} {n : Nat} {f : Nat → Int} (h : FormsAt w lo hi (some ⟨g, 0, none⟩) n f) (hg : g < w.heap.size) (hb : Below w.heap.size w w') : FsAt w' g n (unf f) := by
 rcases h with rfl | ⟨g1, cap, F, h1, h2, h3, h4, h5, h6⟩
 ·intro i hi; omega
 ·obtain ⟨rfl⟩ : g = g1 := by injection h1 with h1; injection h1
  have r := h5.of_block (hb.block g hg)
  intro i hi
  have c0 := r.cell (i := i * 3) (by omega)
  have c1 := r.cell (i := i * 3 + 1) (by omega)
  have c2 := r.cell (i := i * 3 + 2) (by omega)
  rw [h6 _ (by omega)] at c0 c1 c2
  exact ⟨c0, c1, c2⟩
theorem dlI (F G P : T3) (t : Int) (b : Bool) (w : World) (i0 : I64T F) (hG : srV F t = G) (hP : dpV F t = P) (hb : srB F t = b) : Calls Tryz.prog 14 #[frm F, .int .i64 t] w fun e w' => e = .returned (.tuple #[frm G, frm P, .bool b]) ∧ Below w.heap.size w w' := by
 subst hG hP hb; exact implDelayProof F t w i0
theorem dlS (F G P : T3) (t : Int) (b : Bool) (w : World) (hG : srV F t = G) (hP : dpV F t = P) (hb : srB F t = b) : Calls Tryz.prog 15 #[frm F, .int .i64 t] w fun e w' => e = .returned (.tuple #[frm G, frm P, .bool b]) ∧ Below w.heap.size w w' := by
 subst hG hP hb; exact specDelayProof F t w
theorem vdI (F G P : T3) (t : Int) (u v : Bool) (w : World) (i0 : I64T F) (i1 : I64T G) (i2 : I64T P) (h : vdV F G t P = u) (h2 : vdB F G t P = v) : Calls Tryz.prog 9 #[frm F, frm G, .int .i64 t, frm P] w fun e w' => e = .returned (.tuple #[.bool u, .bool v]) ∧ Below w.heap.size w w' := by
 subst h h2; exact implVerifyDelay F G t P w i0 i1 i2
theorem vdS (F G P : T3) (t : Int) (u v : Bool) (w : World) (h : vdV F G t P = u) (h2 : vdB F G t P = v) : Calls Tryz.prog 18 #[frm F, frm G, .int .i64 t, frm P] w fun e w' => e = .returned (.tuple #[.bool u, .bool v]) ∧ Below w.heap.size w w' := by
 subst h h2; exact specVerifyDelay F G t P w
theorem hpI (F X : T3) (k : Int) (N : Nat) (f : Nat → Int) (b : Bool) (w : World) (i0 : I64T F) (hX : hpV F k = X) (hN : hpN F k = N) (hF : hpF F k = f) (hB : hpB F k = b) : Calls Tryz.prog 20 #[frm F, .int .i64 k] w (RetFFormsI w X N f b) := by
 subst hX hN hF hB; exact implHalvingProofA F k w i0
theorem hpS_ (F X : T3) (k : Int) (N : Nat) (f : Nat → Int) (b : Bool) (w : World) (hX : hpV F k = X) (hN : hpN F k = N) (hF : hpF F k = f) (hB : hpB F k = b) : Calls Tryz.prog 21 #[frm F, .int .i64 k] w (RetFForms w X N f b) := by
 subst hX hN hF hB; exact specHalvingProof F k w
theorem vh_y (F G : T3) (k : Int) (n : Nat) (P : Nat → T3) (B c : Nat) (w : World) (hn : n ≤ 1100000) (hF : FsAt w B n P) (hBw : B < w.heap.size) (i0 : I64T F) (i1 : I64T G) (i2 : ∀ i, i < n → I64T (P i)) (h : vhV F G n P k = true) (h2 : vhB F G n P k = true) :
  Calls Tryz.prog 23 #[frm F, frm G, .int .i64 k, .slice (some ⟨B, 0, none⟩) n c] w fun e w' => e = .returned (.tuple #[.bool true, .bool true]) ∧ Below w.heap.size w w' := by
 have := implVerifyHalving F G k n P B c w hn hF hBw i0 i1 i2
 rw [h, h2] at this
 exact this
theorem sr_e (F S : T3) (t E : Int) (w : World) (he : t = E) (i0 : I64T F) (h : srV F E = S) (h2 : srB F E = true) : Calls Tryz.prog 10 #[frm F, .int .i64 t] w fun e w' => e = .returned (.tuple #[frm S, .bool true]) ∧ Below w.heap.size w w' := by
 subst he
 have := implSquareRepeatedly F t w i0
 rw [h, h2] at this
 exact this
theorem st_y (F G : T3) (tn : Nat) (w : World) (i0 : I64T F) (h : srB F (tn : Int) = true) (hG : srV F (tn : Int) = G) : Calls Tryz.prog 16 #[frm F, .int .i64 (tn : Int)] w fun e w' => ∃ g c : Nat, e = .returned (.tuple #[.slice (some ⟨g, 0, none⟩) (tn + 1) c, .bool true]) ∧ (w'.cell? ⟨g, tn * 3, none⟩ = some (.int .i64 G.1) ∧ w'.cell? ⟨g, tn * 3 + 1, none⟩ = some (.int .i64 G.2.1) ∧ w'.cell? ⟨g, tn * 3 + 2, none⟩ = some (.int .i64 G.2.2)) ∧ Below w.heap.size w w' := by
 refine (implSquareTrail F tn w i0).mono ?_
 rintro e w' ⟨a, c, rfl, hf, hb⟩
 have k := trail_end h
 have e1 : stN F (tn : Int) = tn + 1 := k.2.2.1
 have e2 : (tn : Int).toNat = tn := rfl
 rw [e2, hG] at k
 rw [e1] at hf ⊢
 rw [h]
 rcases hf with hf | ⟨g, cap, Ff, rfl, h1, h2, h3, h4, h5⟩
 ·omega
 ·refine ⟨g, c, rfl, ⟨?_, ?_, ?_⟩, hb⟩
  ·rw [h4.cell (i := tn * 3) (by omega), h5 _ (by omega), k.2.2.2.1]
  ·rw [h4.cell (i := tn * 3 + 1) (by omega), h5 _ (by omega), k.2.2.2.2.1]
  ·rw [h4.cell (i := tn * 3 + 2) (by omega), h5 _ (by omega), k.2.2.2.2.2]
end Go.Proofs.YtihfacmlfelliaaGreat
