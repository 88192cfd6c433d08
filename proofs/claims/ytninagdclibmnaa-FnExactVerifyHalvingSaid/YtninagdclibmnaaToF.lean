/-
  Slices of forms that come in: szFormS, toFormS.
-/
import Derived.Test.YtninagdclibmnaaTo
import Derived.Test.YtninagdclibmnaaFormS
import Derived.Test.YtninagdclibmnaaRw
namespace Go.Proofs.Ytninagdclibmnaa
open Go.RowKit
set_option linter.unusedVariables false
set_option linter.unusedSimpArgs false
attribute [local go_sem] q2 q3 q4 q5 q6 q7 q8 q9 q10 q11 q12

/-- A slice of n forms that came in. -/
def ArgF (w : World) (v : Value) (n : Nat) (P : Nat → T3) : Prop :=
  (n = 0 ∧ ∃ a c, v = .slice a 0 c) ∨ ∃ b off c : Nat, v = .slice (some ⟨b, off, none⟩) n c ∧ b < w.heap.size ∧
    ∀ i, i < n → w.cell? ⟨b, off + i * 3, none⟩ = some (.int .i64 (P i).1) ∧ w.cell? ⟨b, off + i * 3 + 1, none⟩ = some (.int .i64 (P i).2.1) ∧ w.cell? ⟨b, off + i * 3 + 2, none⟩ = some (.int .i64 (P i).2.2)
theorem ArgF.below {w w' : World} {v : Value} {n : Nat} {P : Nat → T3} (h : ArgF w v n P) (hb : Below w.heap.size w w') : ArgF w' v n P := by
  rcases h with h | ⟨b, off, c, h1, h2, h3⟩
  · exact .inl h
  · exact .inr ⟨b, off, c, h1, Nat.lt_of_lt_of_le h2 hb.size, fun i hi => ⟨cell_call hb (h3 i hi).1, cell_call hb (h3 i hi).2.1, cell_call hb (h3 i hi).2.2⟩⟩
theorem ArgF.len {w : World} {v : Value} {n : Nat} {P : Nat → T3} (h : ArgF w v n P) : ∃ a c, v = .slice a n c := by
  rcases h with ⟨h, a, c, h2⟩ | ⟨b, off, c, h1, _⟩
  · exact ⟨a, c, by rw [h]; exact h2⟩
  · exact ⟨_, _, h1⟩
def flP (P : Nat → T3) (i : Nat) : Int := if i % 3 = 0 then (P (i / 3)).1 else if i % 3 = 1 then (P (i / 3)).2.1 else (P (i / 3)).2.2
theorem flP_at (P : Nat → T3) (i : Nat) : flP P (i * 3) = (P i).1 ∧ flP P (i * 3 + 1) = (P i).2.1 ∧ flP P (i * 3 + 2) = (P i).2.2 := by
  have e0 : i * 3 / 3 = i := by omega
  have e1 : (i * 3 + 1) / 3 = i := by omega
  have e2 : (i * 3 + 2) / 3 = i := by omega
  have m0 : i * 3 % 3 = 0 := by omega
  have m1 : (i * 3 + 1) % 3 = 1 := by omega
  have m2 : (i * 3 + 2) % 3 = 2 := by omega
  unfold flP
  rw [e0, e1, e2, m0, m1, m2]
  simp
/-- A row of n forms in a block of its own. -/
def RowF (w : World) (g n : Nat) (P : Nat → T3) : Prop := w.rowIs g 26 (n * 3) (fun i => .int .i64 (flP P i))
theorem RowF.below {w w' : World} {g n : Nat} {P : Nat → T3} (h : RowF w g n P) (hb : Below w.heap.size w w') : RowF w' g n P := World.rowIs.of_block h (hb.block g (World.rowIs.lt h))
theorem RowF.fs {w : World} {g n : Nat} {P : Nat → T3} (h : RowF w g n P) : FsAt w g n P := by
  intro i hi
  obtain ⟨e0, e1, e2⟩ := flP_at P i
  have h' : w.rowIs g 26 (n * 3) (fun i => .int .i64 (flP P i)) := h
  have c0 := h'.cell (i := i * 3) (by omega)
  have c1 := h'.cell (i := i * 3 + 1) (by omega)
  have c2 := h'.cell (i := i * 3 + 2) (by omega)
  rw [e0] at c0
  rw [e1] at c1
  rw [e2] at c2
  exact ⟨c0, c1, c2⟩
theorem RowF.at {w : World} {g n lo : Nat} {P : Nat → T3} (h : RowF w g n P) (hl : lo ≤ g) : FormsAt w lo w.heap.size (some ⟨g, 0, none⟩) n (flP P) :=
  .inr ⟨g, n, _, rfl, hl, World.rowIs.lt h, Nat.le_refl _, h, fun i hi => rfl⟩
theorem make_forms (n : Nat) (hn : n ≤ 2000000) (w : World) :
    (Instr.makeSlice 35 (.int .i64 (n : Int)) (.int .i64 (n : Int))).run Try.prog w = .ok (.slice (some ⟨w.heap.size, 0, none⟩) n n) (w.alloc (.cells (madeCells #[.int .i64 0, .int .i64 0, .int .i64 0] (n * 3)) 26)) := by
  obtain ⟨i0, hi, hz0, hz1, hz2⟩ := info_parts Try.infoForm
  have h := run_makeSlice (P := Try.prog) (w := w) 35 26 i0 (.agg #[.int .i64 0, .int .i64 0, .int .i64 0]) Try.underlying35 hi hz0 .i64 .i64 (n : Int) (n : Int) (by omega) (Int.le_refl _) (by rw [hz1, Int.toNat_natCast]; omega) (by rw [hz2]; omega) (by omega)
  rw [Int.toNat_natCast, hz1] at h
  exact h
theorem made_forms (w : World) (n : Nat) : (w.alloc (.cells (madeCells #[.int .i64 0, .int .i64 0, .int .i64 0] (n * 3)) 26)).rowIs w.heap.size 26 (n * 3) (fun _ => .int .i64 0) := by
  refine ⟨_, Go.Deep.blk_alloc_new _ _, by simp [size_madeCells], fun j hj => ?_⟩
  have h3 : j % 3 = 0 ∨ j % 3 = 1 ∨ j % 3 = 2 := by omega
  rcases h3 with h | h | h <;> simp [madeCells, hj, h]

set_option maxRecDepth 100000 in
set_option maxHeartbeats 2000000 in
theorem szFormS_a (v : Value) (n : Nat) (l : Int) (P : Nat → T3) (w : World) (h : ArgF w v n P) (hn : n ≤ 9223372036854775807) (hl : 0 ≤ l ∧ l ≤ 1000000000) :
    Calls Try.prog 35 #[v, .int .i64 l] w fun e w' => e = .returned (.int .i64 (if l < n then -1 else l - n)) ∧ w = w' := by
  obtain ⟨a, c, rfl⟩ := h.len
  by_cases q : l < (n : Int)
  · have q2 : l - (n : Int) < 0 := by omega
    have HV : Hid ((if l < (n : Int) then (-1 : Int) else l - n) = -1) := hide (if_pos q)
    go_enter Try.func35, Try.ntmps35
    go_wp2
    go_ret
    exact ⟨ret_int (by first | rfl | rw [unhide HV]), rfl⟩
  · have q2 : 0 ≤ l - (n : Int) := by omega
    have HV : Hid ((if l < (n : Int) then (-1 : Int) else l - n) = l - n) := hide (if_neg q)
    go_enter Try.func35, Try.ntmps35
    go_wp2
    go_ret
    exact ⟨ret_int (by first | rfl | rw [unhide HV]), rfl⟩

set_option maxRecDepth 100000 in
set_option maxHeartbeats 4000000 in
theorem toFormS_a (v : Value) (n : Nat) (P : Nat → T3) (w : World) (h : ArgF w v n P) (hn : n ≤ 2000000) :
    Calls Try.prog 37 #[v] w fun e w' => e = .returned (.slice (some ⟨w.heap.size, 0, none⟩) n n) ∧ RowF w' w.heap.size n P ∧ Below w.heap.size w w' := by
  have hmk := make_forms n hn
  have HA := hide h
  obtain ⟨a, c, rfl⟩ := h.len
  clear h
  go_enter Try.func37, Try.ntmps37
  go_wp2
  clear hmk
  go_loopw [4] (fun is wr => ∃ ix : Nat, ix ≤ n ∧ is = .int .i64 (ix : Int) ∧ wr.rowIs w.heap.size 26 (n * 3) (fun i => if i < ix * 3 then .int .i64 (flP P i) else .int .i64 0) ∧ Below w.heap.size w wr) (fun is _ => n - (intOf is).toNat)
  case atStart => exact ⟨0, by omega, rfl, (made_forms w n).congr (fun i _ => by simp), byGG⟩
  case round =>
    obtain ⟨ix, hi, rfl, hr, hb⟩ := hrel
    obtain ⟨wl, rfl⟩ : ∃ wl : World, wl = wr := ⟨_, rfl⟩
    have hz := hb.size
    by_cases q : ix < n
    · have hci : (ix : Int) < (n : Int) := by omega
      rcases (unhide HA).below hb with ⟨h0, _⟩ | ⟨b, off, c', hv, hbl, hcs⟩
      · omega
      · obtain ⟨c0, c1, c2⟩ := hcs ix q
        simp only [Value.slice.injEq] at hv
        obtain ⟨rfl, -, rfl⟩ := hv
        clear hcs
        obtain ⟨x, hx⟩ : ∃ x, P ix = x := ⟨_, rfl⟩
        rw [hx] at c0 c1 c2
        have HX := hide hx
        clear hx
        go_wp2_with fail
        refine (toForm_w x _).mono ?_
        rintro en w1 ⟨rfl, hb1⟩
        have hr1 := hr.of_block (hb1.block w.heap.size (World.rowIs.lt hr))
        have hb2 : Below w.heap.size w w1 := hb.trans (hb1.mono hz)
        clear hr
        have d0 := hr1.cell (i := ix * 3) (by omega)
        have f0 := hr1.frozen (ix * 3)
        have d1 := hr1.cell (i := ix * 3 + 1) (by omega)
        have f1 := hr1.frozen (ix * 3 + 1)
        have d2 := hr1.cell (i := ix * 3 + 2) (by omega)
        have f2 := hr1.frozen (ix * 3 + 2)
        go_wp2
        go_roundw
        case rel =>
          refine ⟨ix + 1, by omega, by go_num, ((((hr1.set _ _).set _ _).set _ _)).congr (fun i _ => ?_), byGG⟩
          obtain ⟨e0, e1, e2⟩ := flP_at P ix
          rw [unhide HX] at e0 e1 e2
          by_cases k0 : i < ix * 3
          · rw [if_pos (show i < (ix + 1) * 3 by omega)]
            simp only [if_neg (show ¬ i = ix * 3 by omega), if_neg (show ¬ i = ix * 3 + 1 by omega), if_neg (show ¬ i = ix * 3 + 2 by omega), if_pos k0]
          · by_cases k1 : i < (ix + 1) * 3
            · rw [if_pos k1]
              have : i = ix * 3 ∨ i = ix * 3 + 1 ∨ i = ix * 3 + 2 := by omega
              rcases this with k | k | k
              · subst k; rw [e0]; simp
              · subst k; rw [e1]; simp
              · subst k; rw [e2]; simp
            · rw [if_neg k1]
              simp only [if_neg (show ¬ i = ix * 3 by omega), if_neg (show ¬ i = ix * 3 + 1 by omega), if_neg (show ¬ i = ix * 3 + 2 by omega), if_neg k0]
        case measure => simp [intOf]; omega
    · obtain rfl : ix = n := by omega
      go_wp2
      go_ret
      exact ⟨rfl, hr.congr (fun i hi => by rw [if_pos hi]), hb⟩
end Go.Proofs.Ytninagdclibmnaa
