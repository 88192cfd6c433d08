/-
  Slices of Forms in blocks of the call's own, and the laws' helpers over them.
-/
import Derived.Test.YtninagdclibmnaaWorld
import Derived.Deep.RegionHeld3
import Derived.Deep.DeepCutAuto
import Derived.Deep.AppendLies
namespace Go.Proofs.Ytninagdclibmnaa
open Go.RowKit
set_option linter.unusedVariables false
set_option linter.unusedSimpArgs false

/-- A slice of n Forms at the head of an own block in lo .. hi-1: its cells, one behind the other, are f 0, f 1, .. -/
def FormsAt (w : World) (lo hi : Nat) (a : Option Addr) (n : Nat) (f : Nat → Int) : Prop :=
  n = 0 ∨ ∃ g cap F, a = some ⟨g, 0, none⟩ ∧ lo ≤ g ∧ g < hi ∧ n ≤ cap ∧ w.rowIs g 26 (cap * 3) F ∧ ∀ i, i < n * 3 → F i = .int .i64 (f i)
theorem FormsAt.keep {w w' : World} {lo hi : Nat} {a : Option Addr} {n : Nat} {f : Nat → Int} (h : FormsAt w lo hi a n f) (hk : ∀ k, lo ≤ k → k < hi → w'.heap[k]? = w.heap[k]?) : FormsAt w' lo hi a n f := by
  rcases h with h | ⟨g, cap, F, ha, h1, h2, h3, h4, h5⟩
  · exact .inl h
  · exact .inr ⟨g, cap, F, ha, h1, h2, h3, h4.of_block (hk g h1 h2), h5⟩
theorem FormsAt.below {w w' : World} {lo hi B : Nat} {a : Option Addr} {n : Nat} {f : Nat → Int} (h : FormsAt w lo hi a n f) (hb : Below B w w') (hB : hi ≤ B) : FormsAt w' lo hi a n f :=
  h.keep fun k _ h2 => hb.block k (by omega)

set_option maxHeartbeats 1000000 in
theorem eqForm_same (x0 x1 x2 : Int) (w : World) :
    Calls Try.prog 23 #[.agg #[.int .i64 (x0), .int .i64 (x1), .int .i64 (x2)], .agg #[.int .i64 (x0), .int .i64 (x1), .int .i64 (x2)]] w fun e w' => e = .returned (.bool true) ∧ Below w.heap.size w w' := by
  go_enter Try.func23, Try.ntmps23
  go_wp2
  go_ret
  exact ⟨rfl, by go_grown⟩

set_option maxHeartbeats 1000000 in
theorem heldFormS_row (g n c cap k : Nat) (F : Nat → Value) (w : World) (hn : n ≤ 100000000) (hk : k ≤ 1000000000) (h1 : n ≤ cap) (r : w.rowIs g 26 (cap * 3) F) (e : ∀ i, i < n * 3 → F i = .int .i64 ((k : Int) + i)) :
    Calls Try.prog 28 #[.slice (some ⟨g, 0, none⟩) n c, .int .i64 (k : Int)] w fun e w' => e = .returned (.int .i64 ((k : Int) + n * 3)) ∧ w = w' := by
  have E := hide e
  clear e
  go_enter Try.func28, Try.ntmps28
  go_wp2
  go_loop [1, 5] (fun ks is => ∃ i : Nat, i ≤ n ∧ is = .int .i64 (i : Int) ∧ ks = .int .i64 ((k : Int) + i * 3)) (fun _ is => n - (intOf is).toNat)
  case atStart => exact ⟨0, by omega, rfl, congrArg (Value.int .i64) (by omega)⟩
  case round =>
    obtain ⟨i, hi, rfl, rfl⟩ := hrel
    by_cases c : i < n
    · have hci : (i : Int) < (n : Int) := by omega
      have hc0 := r.cell (i := i * 3) (by omega)
      rw [unhide E (i * 3) (by omega)] at hc0
      have hv0 : (k : Int) + ((i * 3 : Nat) : Int) = (k : Int) + i * 3 := by omega
      rw [hv0] at hc0
      clear hv0
      have hc1 := r.cell (i := i * 3 + 1) (by omega)
      rw [unhide E (i * 3 + 1) (by omega)] at hc1
      have hv1 : (k : Int) + ((i * 3 + 1 : Nat) : Int) = (k : Int) + i * 3 + 1 := by omega
      rw [hv1] at hc1
      clear hv1
      have hc2 := r.cell (i := i * 3 + 2) (by omega)
      rw [unhide E (i * 3 + 2) (by omega)] at hc2
      have hv2 : (k : Int) + ((i * 3 + 2 : Nat) : Int) = (k : Int) + i * 3 + 2 := by omega
      rw [hv2] at hc2
      clear hv2
      go_wp2
      go_round
      case rel => exact ⟨i + 1, by omega, by go_num, congrArg (Value.int .i64) (by omega)⟩
      case measure => simp [intOf]; omega
    · have hin : i = n := by omega
      have HN := hide hin
      clear hin
      go_wp2
      go_ret
      exact ⟨ret_int (by rw [unhide HN]), rfl⟩
set_option maxHeartbeats 1000000 in
theorem heldFormS_nil (a : Option Addr) (c : Nat) (k : Int) (w : World) :
    Calls Try.prog 28 #[.slice a 0 c, .int .i64 k] w fun e w' => e = .returned (.int .i64 k) ∧ w = w' := by
  go_enter Try.func28, Try.ntmps28
  go_wp2
  refine wp_loop_rounds 1 ?_
  rw [rounds_succ]
  go_wp2
  go_ret
  exact ⟨rfl, rfl⟩
theorem heldFormS_any (a : Option Addr) (lo hi n c k : Nat) (w : World) (hn : n ≤ 100000000) (hk : k ≤ 1000000000) (h : FormsAt w lo hi a n (fun i => (k : Int) + i)) :
    Calls Try.prog 28 #[.slice a n c, .int .i64 (k : Int)] w fun e w' => e = .returned (.int .i64 ((k : Int) + n * 3)) ∧ w = w' := by
  rcases h with rfl | ⟨g, cap, F, rfl, hlo, hhi, q, r, e⟩
  · refine (heldFormS_nil a c k w).mono ?_
    rintro e w' ⟨rfl, rfl⟩
    exact ⟨ret_int (by omega), rfl⟩
  · exact heldFormS_row g n c cap k F w hn hk q r e

set_option maxHeartbeats 2000000 in
theorem markFormS_row (g n c cap k : Nat) (F : Nat → Value) (w : World) (hn : n ≤ 100000000) (hk : k ≤ 1000000000) (h1 : n ≤ cap) (r : w.rowIs g 26 (cap * 3) F) :
    Calls Try.prog 27 #[.slice (some ⟨g, 0, none⟩) n c, .int .i64 (k : Int)] w fun e w' => e = .returned (.int .i64 ((k : Int) + n * 3)) ∧ w'.rowIs g 26 (cap * 3) (fun i => if i < n * 3 then .int .i64 ((k : Int) + i) else F i) ∧ w.grownBy w' (some g) ∧ w'.heap.size = w.heap.size := by
  go_enter Try.func27, Try.ntmps27
  go_wp2
  go_loopw [1, 5] (fun ks is wr => ∃ i : Nat, i ≤ n ∧ is = .int .i64 (i : Int) ∧ ks = .int .i64 ((k : Int) + i * 3) ∧ wr.rowIs g 26 (cap * 3) (fun j => if j < i * 3 then .int .i64 ((k : Int) + j) else F j) ∧ w.grownBy wr (some g) ∧ wr.heap.size = w.heap.size) (fun _ is _ => n - (intOf is).toNat)
  case atStart => exact ⟨0, by omega, rfl, congrArg (Value.int .i64) (by omega), r.congr (fun j _ => by simp), ⟨rfl, rfl, rfl, Nat.le_refl _, fun _ _ _ => rfl⟩, rfl⟩
  case round =>
    obtain ⟨i, hi, rfl, rfl, hr, hg, hs⟩ := hrel
    by_cases c : i < n
    · have hci : (i : Int) < (n : Int) := by omega
      have hc0 := hr.cell (i := i * 3) (by omega)
      have hf0 := hr.frozen (i * 3)
      have hc1 := hr.cell (i := i * 3 + 1) (by omega)
      have hf1 := hr.frozen (i * 3 + 1)
      have hc2 := hr.cell (i := i * 3 + 2) (by omega)
      have hf2 := hr.frozen (i * 3 + 2)
      have HS := hide hs
      clear hs
      go_wp2
      go_roundw
      case rel =>
        refine ⟨i + 1, by omega, by go_num, congrArg (Value.int .i64) (by omega), ((((hr.set _ _).set _ _).set _ _)).congr (fun j _ => ?_), ?_, by simpa [World.setCell] using unhide HS⟩
        · by_cases e0 : j < i * 3
          · rw [if_pos (show j < (i + 1) * 3 by omega)]
            simp only [if_neg (show ¬ j = i * 3 by omega), if_neg (show ¬ j = i * 3 + 1 by omega), if_neg (show ¬ j = i * 3 + 2 by omega), if_pos e0]
          · by_cases e1 : j < (i + 1) * 3
            · rw [if_pos e1]
              have : j = i * 3 ∨ j = i * 3 + 1 ∨ j = i * 3 + 2 := by omega
              rcases this with e | e | e
              all_goals (subst e; simp; try omega)
            · rw [if_neg e1]
              simp only [if_neg (show ¬ j = i * 3 by omega), if_neg (show ¬ j = i * 3 + 1 by omega), if_neg (show ¬ j = i * 3 + 2 by omega), if_neg e0]
        · refine ⟨hg.os, hg.tape, hg.output, by simpa [World.setCell] using hg.size, fun j hj hne => ?_⟩
          have hjg : j ≠ g := fun e => hne (by rw [e])
          exact (Below.heap_setCell _ _ _ _ hjg).trans ((Below.heap_setCell _ _ _ _ hjg).trans ((Below.heap_setCell _ _ _ _ hjg).trans (hg.block j hj hne)))
      case measure => simp [intOf]; omega
    · have hin : i = n := by omega
      have HN := hide hin
      have HS := hide hs
      clear hin hs
      go_wp2
      go_ret
      exact ⟨ret_int (by rw [unhide HN]), hr.congr (fun j _ => by rw [unhide HN]), hg, unhide HS⟩
set_option maxHeartbeats 1000000 in
theorem markFormS_nil (a : Option Addr) (c : Nat) (k : Int) (w : World) :
    Calls Try.prog 27 #[.slice a 0 c, .int .i64 k] w fun e w' => e = .returned (.int .i64 k) ∧ w = w' := by
  go_enter Try.func27, Try.ntmps27
  go_wp2
  refine wp_loop_rounds 1 ?_
  rw [rounds_succ]
  go_wp2
  go_ret
  exact ⟨rfl, rfl⟩
theorem markFormS_any (a : Option Addr) (lo hi n c k : Nat) (f : Nat → Int) (w : World) (hn : n ≤ 100000000) (hk : k ≤ 1000000000) (h : FormsAt w lo hi a n f) :
    Calls Try.prog 27 #[.slice a n c, .int .i64 (k : Int)] w fun e w' => e = .returned (.int .i64 ((k : Int) + n * 3)) ∧ FormsAt w' lo hi a n (fun i => (k : Int) + i) ∧ (∀ j, j < lo → w'.heap[j]? = w.heap[j]?) ∧ w'.heap.size = w.heap.size ∧ Below lo w w' := by
  rcases h with rfl | ⟨g, cap, F, rfl, hlo, hhi, q, r, e⟩
  · refine (markFormS_nil a c k w).mono ?_
    rintro e w' ⟨rfl, rfl⟩
    exact ⟨ret_int (by omega), .inl rfl, fun _ _ => rfl, rfl, Below.refl _ _⟩
  · refine (markFormS_row g n c cap k F w hn hk q r).mono ?_
    rintro e w' ⟨rfl, hr, hg, hs⟩
    refine ⟨rfl, .inr ⟨g, cap, _, rfl, hlo, hhi, q, hr, fun i hi => by simp [hi]⟩, fun j hj => ?_, hs, ⟨hg.os, hg.tape, hg.output, hg.size, fun j hj => ?_⟩⟩
    all_goals
      have := r.lt
      exact hg.block j (by omega) (fun e => by cases e; omega)

set_option maxHeartbeats 1000000 in
theorem eqFormS_nil (a1 a2 : Option Addr) (c1 c2 : Nat) (w : World) :
    Calls Try.prog 26 #[.slice a1 0 c1, .slice a2 0 c2] w fun e w' => e = .returned (.bool true) ∧ Below w.heap.size w w' := by
  go_enter Try.func26, Try.ntmps26
  go_wp2
  refine wp_loop_rounds 1 ?_
  rw [rounds_succ]
  go_wp2
  go_ret
  exact ⟨rfl, Below.refl _ _⟩
set_option maxRecDepth 100000 in
set_option maxHeartbeats 4000000 in
theorem eqFormS_row (g1 g2 n c1 c2 cap1 cap2 : Nat) (F1 F2 : Nat → Value) (f : Nat → Int) (w : World) (hn : n ≤ 100000000) (h1 : n ≤ cap1) (h2 : n ≤ cap2)
    (q1 : w.rowIs g1 26 (cap1 * 3) F1) (q2 : w.rowIs g2 26 (cap2 * 3) F2) (e1 : ∀ i, i < n * 3 → F1 i = .int .i64 (f i)) (e2 : ∀ i, i < n * 3 → F2 i = .int .i64 (f i)) :
    Calls Try.prog 26 #[.slice (some ⟨g1, 0, none⟩) n c1, .slice (some ⟨g2, 0, none⟩) n c2] w fun e w' => e = .returned (.bool true) ∧ Below w.heap.size w w' := by
  have E1 := hide e1
  have E2 := hide e2
  clear e1 e2
  go_enter Try.func26, Try.ntmps26
  go_wp2
  go_loopw [5] (fun is wr => ∃ i : Nat, i ≤ n ∧ is = .int .i64 (i : Int) ∧ Below w.heap.size w wr) (fun is _ => n - (intOf is).toNat)
  case atStart => exact ⟨0, by omega, rfl, Below.refl _ _⟩
  case round =>
    obtain ⟨i, hi, rfl, hb⟩ := hrel
    have r1 := q1.of_block (hb.block g1 q1.lt)
    have r2 := q2.of_block (hb.block g2 q2.lt)
    have hz := hb.size
    by_cases c : i < n
    · have hci : (i : Int) < (n : Int) := by omega
      have hi0 : (0 : Int) ≤ (i : Int) := by omega
      have c10 := r1.cell (i := i * 3) (by omega)
      rw [unhide E1 (i * 3) (by omega)] at c10
      have c20 := r2.cell (i := i * 3) (by omega)
      rw [unhide E2 (i * 3) (by omega)] at c20
      have c11 := r1.cell (i := i * 3 + 1) (by omega)
      rw [unhide E1 (i * 3 + 1) (by omega)] at c11
      have c21 := r2.cell (i := i * 3 + 1) (by omega)
      rw [unhide E2 (i * 3 + 1) (by omega)] at c21
      have c12 := r1.cell (i := i * 3 + 2) (by omega)
      rw [unhide E1 (i * 3 + 2) (by omega)] at c12
      have c22 := r2.cell (i := i * 3 + 2) (by omega)
      rw [unhide E2 (i * 3 + 2) (by omega)] at c22
      generalize hx0 : f (i * 3) = x0 at *
      have X0 := hide hx0
      clear hx0
      generalize hx1 : f (i * 3 + 1) = x1 at *
      have X1 := hide hx1
      clear hx1
      generalize hx2 : f (i * 3 + 2) = x2 at *
      have X2 := hide hx2
      clear hx2
      go_wp2
      go_region_held3 (fun w' => w'.cell? ⟨g1, i * 3, none⟩ = some (.int .i64 x0) ∧ w'.cell? ⟨g1, i * 3 + 1, none⟩ = some (.int .i64 x1) ∧ w'.cell? ⟨g1, i * 3 + 2, none⟩ = some (.int .i64 x2) ∧ w'.cell? ⟨g2, i * 3, none⟩ = some (.int .i64 x0) ∧ w'.cell? ⟨g2, i * 3 + 1, none⟩ = some (.int .i64 x1) ∧ w'.cell? ⟨g2, i * 3 + 2, none⟩ = some (.int .i64 x2)) (((try dsimp only at *); (try go_split_ands); (repeat' apply And.intro); all_goals first | assumption | (apply cell_call (by assumption); assumption)))
        (first
          | (go_at_call 23; refine (eqForm_same x0 x1 x2 _).mono ?_; rintro e w' ⟨rfl, hb9⟩))
      all_goals
        go_wp2
        go_roundw
        case rel => exact ⟨i + 1, by omega, by go_num, hb.drew.trans (hb9.mono hz)⟩
        case measure => simp [intOf]; omega
    · go_wp2
      go_ret
      exact ⟨rfl, hb⟩

theorem Try.infoForm : (Try.prog.info? 26).map (fun i => (i.zero, i.size, i.bytes)) = some (some (.agg #[.int .i64 0, .int .i64 0, .int .i64 0]), 3, 24) := by kernel_rfl
/-- The slice v holds n Forms, their cells one behind the other zs; its block is an own one, from lo on. -/
def FormL (w : World) (lo : Nat) (v : Value) (n : Nat) (zs : List Int) : Prop := w.ownsRow lo 26 3 v n (zs.map (Value.int .i64))
theorem FormL.nil (w : World) (lo : Nat) : FormL w lo (.slice none 0 0) 0 [] := World.ownsRow_nil _ _ _ _
theorem FormL.made (w : World) (lo : Nat) (h : lo ≤ w.heap.size) : FormL (w.alloc (.cells #[] 26)) lo (.slice (some ⟨w.heap.size, 0, none⟩) 0 0) 0 [] :=
  World.ownsRow_made w #[] 0 h (by decide) rfl
theorem FormL.alloc {w : World} {lo : Nat} {v : Value} {n : Nat} {zs : List Int} (h : FormL w lo v n zs) (o : Obj) : FormL (w.alloc o) lo v n zs := World.ownsRow.alloc h o
theorem FormL.kept {w w' : World} {lo : Nat} {v : Value} {n : Nat} {zs : List Int} {row : Option Nat} (h : FormL w lo v n zs) (hg : w.grownBy w' row) (hne : v.ownBlock = none ∨ v.ownBlock ≠ row) : FormL w' lo v n zs := World.ownsRow.kept h hg hne
theorem FormL.lt {w : World} {lo : Nat} {v : Value} {n : Nat} {zs : List Int} (h : FormL w lo v n zs) : ∀ k, v.ownBlock = some k → lo ≤ k ∧ k < w.heap.size := World.ownsRow.lt h
theorem FormL.below {w w' : World} {lo : Nat} {v : Value} {n : Nat} {zs : List Int} (h : FormL w lo v n zs) (hb : Below w.heap.size w w') : FormL w' lo v n zs :=
  h.kept (row := none) ⟨hb.os, hb.tape, hb.output, hb.size, fun k hk _ => hb.block k hk⟩ (by cases v.ownBlock <;> simp)
theorem FormL.len {w : World} {lo : Nat} {v : Value} {n : Nat} {zs : List Int} (h : FormL w lo v n zs) : zs.length = n * 3 := by
  have := h.1
  simpa using this
theorem FormL.at {w : World} {lo : Nat} {a : Option Addr} {n m c : Nat} {zs : List Int} (h : FormL w lo (.slice a m c) n zs) : m = n ∧ FormsAt w lo w.heap.size a n (fun i => zs.getD i 0) := by
  have hl := h.len
  rcases h.2 with ⟨h1, h2⟩ | ⟨g, cap, cur, h1, h2, h3, h4, h5, h6, h7⟩
  · simp only [Value.slice.injEq] at h1
    exact ⟨by omega, .inl h2⟩
  · simp only [Value.slice.injEq] at h1
    obtain ⟨rfl, rfl, rfl⟩ := h1
    refine ⟨rfl, .inr ⟨g, c, fun i => cur.getD i undef, rfl, h2, (Array.getElem?_eq_some_iff.1 h3).1, h4, ⟨cur, h3, by omega, fun i hi => ?_⟩, fun i hi => ?_⟩⟩
    · rw [Array.getElem?_eq_getElem (by omega)]; simp [Array.getD, show i < cur.size from by omega]
    · have hi0 : i < zs.length := by omega
      have e : cur.toList[i]? = (zs.map (Value.int .i64))[i]? := by
        rw [← h7, List.getElem?_take, if_pos (by omega)]
      rw [List.getElem?_map, List.getElem?_eq_getElem hi0] at e
      simp only [Option.map_some] at e
      have hi2 : i < cur.size := by omega
      rw [Array.getElem?_toList, Array.getElem?_eq_getElem hi2] at e
      have e2 : cur[i] = Value.int .i64 zs[i] := by simpa using e
      have e3 : zs.getD i 0 = zs[i] := by rw [List.getD_eq_getElem?_getD, List.getElem?_eq_getElem hi0]; rfl
      show cur.getD i undef = .int .i64 (zs.getD i 0)
      rw [e3, ← e2]
      simp [Array.getD, hi2]
/-- append(v, x) of one Form onto a list of the call's own. -/
theorem app_Form (w : World) {ops : Array Oper} {rest : List Oper} {o : Oper} {a : Act} {Q : Exit → Act → World → Prop} (hgd : o.guard = none) (s x : Operand)
    (ho : o.op = .call { callee := .builtin .append, args := #[s, x], argTypes := #[35, 35] })
    (lo : Nat) (v : Value) (n : Nat) (zs : List Int) (x0 x1 x2 : Int) (B : Nat) (hs : a.eval s = v) (hx : a.eval x = .slice (some ⟨B, 0, none⟩) 1 1)
    (hown : FormL w lo v n zs) (hB0 : w.cell? ⟨B, 0, none⟩ = some (.int .i64 x0)) (hB1 : w.cell? ⟨B, 1, none⟩ = some (.int .i64 x1)) (hB2 : w.cell? ⟨B, 2, none⟩ = some (.int .i64 x2)) (hlen : n ≤ 100000000) (hlo : lo ≤ w.heap.size)
    (h : ∀ g cap w', FormL w' lo (.slice (some ⟨g, 0, none⟩) (n + 1) cap) (n + 1) (zs ++ [x0, x1, x2]) → w.grownBy w' v.ownBlock → (v.ownBlock = some g ∨ g = w.heap.size) → g < w'.heap.size →
      wpList Try.prog ops Q rest (a.put o.dst (.slice (some ⟨g, 0, none⟩) (n + 1) cap)) w') : wpList Try.prog ops Q (o :: rest) a w := by
  obtain ⟨i0, hi, hz0, hz1, hz2⟩ := info_parts Try.infoForm
  refine wpList_append_lies w hgd s x 35 ho lo 26 i0 (.agg #[.int .i64 0, .int .i64 0, .int .i64 0]) 3 24 Try.underlying35 hi hz0 hz1 hz2 rfl (by decide) v n _ hs hown ⟨B, 0, none⟩ 1 1 ([x0, x1, x2].map (Value.int .i64)) hx rfl ?_ (by simp [Value.oneCell']) (by decide) (by unfold maxLen; omega) (by omega) hlo _ rfl ?_
  · intro j u hu
    match j with
    | 0 => simp at hu; subst hu; simpa [Addr.add] using hB0
    | 1 => simp at hu; subst hu; simpa [Addr.add] using hB1
    | 2 => simp at hu; subst hu; simpa [Addr.add] using hB2
    | j + 3 => simp at hu
  · intro g cap w' h1 h2 h3 h4
    refine h g cap w' ?_ h2 h3 h4
    unfold FormL
    rw [List.map_append]
    exact h1
/-- A pair of a slice of the call's own and a bool. -/
def RetForms (w : World) (n : Nat) (f : Nat → Int) (ok : Bool) (e : Ending) (w' : World) : Prop :=
  ∃ a c, e = .returned (.tuple #[.slice a n c, .bool ok]) ∧ FormsAt w' w.heap.size w'.heap.size a n f ∧ Below w.heap.size w w'
theorem eqFormS_any (a1 a2 : Option Addr) (l1 u1 l2 u2 n c1 c2 : Nat) (f : Nat → Int) (w : World) (hn : n ≤ 100000000) (h1 : FormsAt w l1 u1 a1 n f) (h2 : FormsAt w l2 u2 a2 n f) :
    Calls Try.prog 26 #[.slice a1 n c1, .slice a2 n c2] w fun e w' => e = .returned (.bool true) ∧ Below w.heap.size w w' := by
  rcases h1 with rfl | ⟨g1, k1, F1, rfl, _, _, q1, r1, e1⟩
  · exact eqFormS_nil _ _ _ _ _
  · rcases h2 with rfl | ⟨g2, k2, F2, rfl, _, _, q2, r2, e2⟩
    · exact eqFormS_nil _ _ _ _ _
    · exact eqFormS_row g1 g2 n c1 c2 k1 k2 F1 F2 f w hn q1 q2 r1 r2 e1 e2
end Go.Proofs.Ytninagdclibmnaa
