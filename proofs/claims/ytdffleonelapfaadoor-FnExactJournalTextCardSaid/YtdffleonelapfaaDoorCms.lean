/-
  Lists of commands that come in.
-/
import Derived.Deep.OwnRows
import Derived.Test.YtdffleonelapfaaDoorToC
namespace Go.Proofs.YtdffleonelapfaaDoor
open Go.RowKit
set_option linter.unusedVariables false
set_option linter.unusedSimpArgs false
attribute [local go_sem] q2 q3 q4 q5 q6 q7 q8 q9 q10 q11 q12

def CmdAt (w : World) (b o : Nat) (e : Cmd) : Prop := w.cell? ⟨b, o, none⟩ = some (.int .i64 e.k) ∧ w.cell? ⟨b, o + 1, none⟩ = some (.string e.n) ∧ w.cell? ⟨b, o + 2, none⟩ = some (.string e.a) ∧ w.cell? ⟨b, o + 3, none⟩ = some (.string e.b) ∧ w.cell? ⟨b, o + 4, none⟩ = some (.int .i64 e.f.1) ∧ w.cell? ⟨b, o + 5, none⟩ = some (.int .i64 e.f.2.1) ∧ w.cell? ⟨b, o + 6, none⟩ = some (.int .i64 e.f.2.2)
theorem CmdAt.below {w w' : World} {b o : Nat} {e : Cmd} (h : CmdAt w b o e) (hb : Below w.heap.size w w') : CmdAt w' b o e := ⟨cell_call hb h.1, cell_call hb h.2.1, cell_call hb h.2.2.1, cell_call hb h.2.2.2.1, cell_call hb h.2.2.2.2.1, cell_call hb h.2.2.2.2.2.1, cell_call hb h.2.2.2.2.2.2⟩
def ArgC (w : World) (v : Value) (n : Nat) (E : Nat → Cmd) : Prop :=
  (n = 0 ∧ ∃ a c, v = .slice a 0 c) ∨ ∃ b off c : Nat, v = .slice (some ⟨b, off, none⟩) n c ∧ b < w.heap.size ∧ ∀ i, i < n → CmdAt w b (off + i * 7) (E i)
theorem ArgC.below {w w' : World} {v : Value} {n : Nat} {E : Nat → Cmd} (h : ArgC w v n E) (hb : Below w.heap.size w w') : ArgC w' v n E := by
  rcases h with h | ⟨b, off, c, h1, h2, h3⟩
  · exact .inl h
  · exact .inr ⟨b, off, c, h1, Nat.lt_of_lt_of_le h2 hb.size, fun i hi => (h3 i hi).below hb⟩
theorem ArgC.len {w : World} {v : Value} {n : Nat} {E : Nat → Cmd} (h : ArgC w v n E) : ∃ a c, v = .slice a n c := by
  rcases h with ⟨h, a, c, h2⟩ | ⟨b, off, c, h1, _⟩
  · exact ⟨a, c, by rw [h]; exact h2⟩
  · exact ⟨_, _, h1⟩
theorem ArgC.cells {w : World} {a : Option Addr} {n c : Nat} {E : Nat → Cmd} (h : ArgC w (.slice a n c) n E) (hn : 0 < n) : ∃ b off, a = some ⟨b, off, none⟩ ∧ ∀ i, i < n → CmdAt w b (off + i * 7) (E i) := by
  rcases h with ⟨h, _⟩ | ⟨b, off, c', h1, _, h3⟩
  · omega
  · simp only [Value.slice.injEq] at h1
    exact ⟨b, off, h1.1, h3⟩
def elC (E : Nat → Cmd) (i : Nat) : Value := if i % 7 = 0 then .int .i64 (E (i / 7)).k else if i % 7 = 1 then .string (E (i / 7)).n else if i % 7 = 2 then .string (E (i / 7)).a else if i % 7 = 3 then .string (E (i / 7)).b else if i % 7 = 4 then .int .i64 (E (i / 7)).f.1 else if i % 7 = 5 then .int .i64 (E (i / 7)).f.2.1 else .int .i64 (E (i / 7)).f.2.2
theorem elC_at (E : Nat → Cmd) (i : Nat) : elC E (i * 7) = .int .i64 (E i).k ∧ elC E (i * 7 + 1) = .string (E i).n ∧ elC E (i * 7 + 2) = .string (E i).a ∧ elC E (i * 7 + 3) = .string (E i).b ∧ elC E (i * 7 + 4) = .int .i64 (E i).f.1 ∧ elC E (i * 7 + 5) = .int .i64 (E i).f.2.1 ∧ elC E (i * 7 + 6) = .int .i64 (E i).f.2.2 := by
  have e0 : (i * 7) / 7 = i := by omega
  have e1 : (i * 7 + 1) / 7 = i := by omega
  have e2 : (i * 7 + 2) / 7 = i := by omega
  have e3 : (i * 7 + 3) / 7 = i := by omega
  have e4 : (i * 7 + 4) / 7 = i := by omega
  have e5 : (i * 7 + 5) / 7 = i := by omega
  have e6 : (i * 7 + 6) / 7 = i := by omega
  have m0 : (i * 7) % 7 = 0 := by omega
  have m1 : (i * 7 + 1) % 7 = 1 := by omega
  have m2 : (i * 7 + 2) % 7 = 2 := by omega
  have m3 : (i * 7 + 3) % 7 = 3 := by omega
  have m4 : (i * 7 + 4) % 7 = 4 := by omega
  have m5 : (i * 7 + 5) % 7 = 5 := by omega
  have m6 : (i * 7 + 6) % 7 = 6 := by omega
  unfold elC
  rw [e0, e1, e2, e3, e4, e5, e6, m0, m1, m2, m3, m4, m5, m6]
  simp
def RowC (w : World) (g n : Nat) (E : Nat → Cmd) : Prop := w.rowIs g 40 (n * 7) (elC E)
theorem RowC.below {w w' : World} {g n : Nat} {E : Nat → Cmd} (h : RowC w g n E) (hb : Below w.heap.size w w') : RowC w' g n E := World.rowIs.of_block h (hb.block g (World.rowIs.lt h))
theorem RowC.ent {w : World} {g n : Nat} {E : Nat → Cmd} (h : RowC w g n E) {i : Nat} (hi : i < n) : CmdAt w g (i * 7) (E i) := by
  obtain ⟨e0, e1, e2, e3, e4, e5, e6⟩ := elC_at E i
  have h' : w.rowIs g 40 (n * 7) (elC E) := h
  refine ⟨?_, ?_, ?_, ?_, ?_, ?_, ?_⟩
  · rw [← e0]; exact h'.cell (by omega)
  · rw [← e1]; exact h'.cell (by omega)
  · rw [← e2]; exact h'.cell (by omega)
  · rw [← e3]; exact h'.cell (by omega)
  · rw [← e4]; exact h'.cell (by omega)
  · rw [← e5]; exact h'.cell (by omega)
  · rw [← e6]; exact h'.cell (by omega)
theorem RowC.arg {w : World} {g n : Nat} {E : Nat → Cmd} (h : RowC w g n E) : ArgC w (.slice (some ⟨g, 0, none⟩) n n) n E :=
  .inr ⟨g, 0, n, rfl, World.rowIs.lt h, fun i hi => by rw [Nat.zero_add]; exact h.ent hi⟩
theorem Tryd.infoCmd : (Tryd.prog.info? 40).map (fun i => (i.zero, i.size, i.bytes)) = some (some (.agg #[.int .i64 0, .string ⟨#[]⟩, .string ⟨#[]⟩, .string ⟨#[]⟩, .int .i64 0, .int .i64 0, .int .i64 0]), 7, 80) := by kernel_rfl
theorem make_cmds (n : Nat) (hn : n ≤ 2000000) (w : World) :
    (Instr.makeSlice 48 (.int .i64 (n : Int)) (.int .i64 (n : Int))).run Tryd.prog w = .ok (.slice (some ⟨w.heap.size, 0, none⟩) n n) (w.alloc (.cells (madeCells #[.int .i64 0, .string ⟨#[]⟩, .string ⟨#[]⟩, .string ⟨#[]⟩, .int .i64 0, .int .i64 0, .int .i64 0] (n * 7)) 40)) := by
  obtain ⟨i0, hi, hz0, hz1, hz2⟩ := info_parts Tryd.infoCmd
  have h := run_makeSlice (P := Tryd.prog) (w := w) 48 40 i0 (.agg #[.int .i64 0, .string ⟨#[]⟩, .string ⟨#[]⟩, .string ⟨#[]⟩, .int .i64 0, .int .i64 0, .int .i64 0]) Tryd.underlying48 hi hz0 .i64 .i64 (n : Int) (n : Int) (by omega) (Int.le_refl _) (by rw [hz1, Int.toNat_natCast]; omega) (by rw [hz2]; omega) (by omega)
  rw [Int.toNat_natCast, hz1] at h
  exact h
def zeC (i : Nat) : Value := if i % 7 = 1 ∨ i % 7 = 2 ∨ i % 7 = 3 then .string ⟨#[]⟩ else .int .i64 0
theorem made_cmds (w : World) (n : Nat) : (w.alloc (.cells (madeCells #[.int .i64 0, .string ⟨#[]⟩, .string ⟨#[]⟩, .string ⟨#[]⟩, .int .i64 0, .int .i64 0, .int .i64 0] (n * 7)) 40)).rowIs w.heap.size 40 (n * 7) zeC := by
  refine ⟨_, Go.Deep.blk_alloc_new _ _, by simp [size_madeCells], fun j hj => ?_⟩
  have h3 : j % 7 = 0 ∨ j % 7 = 1 ∨ j % 7 = 2 ∨ j % 7 = 3 ∨ j % 7 = 4 ∨ j % 7 = 5 ∨ j % 7 = 6 := by omega
  rcases h3 with h | h | h | h | h | h | h <;> simp [madeCells, hj, h, zeC]
set_option maxRecDepth 100000 in
set_option maxHeartbeats 1000000 in
theorem szCommand_b (e : Cmd) (l : Int) (w : World) (he : CmdOk e) (hl : 0 ≤ l ∧ l ≤ 1000000000) : Calls Tryd.prog 12 #[cmv e, .int .i64 l] w fun en w' => ∃ r : Int, en = .returned (.int .i64 r) ∧ (r < 0 ∨ (0 ≤ r ∧ r ≤ l)) ∧ Below w.heap.size w w' := by
  obtain ⟨k, n, a, b, f⟩ := e
  obtain ⟨_, hn, ha, hb, i0, i1, i2⟩ := he
  simp only [] at hn ha hb
  by_cases q1 : l - (n.size : Int) < 0
  · go_enter Tryd.func12, Tryd.ntmps12
    go_wp2
    all_goals first | (exfalso; omega) | (go_ret; exact ⟨_, rfl, .inl (by omega), byGG⟩)
  · have q1' : 0 ≤ l - (n.size : Int) := by omega
    by_cases q2 : l - (n.size : Int) - (a.size : Int) < 0
    · go_enter Tryd.func12, Tryd.ntmps12
      go_wp2
      all_goals first | (exfalso; omega) | (go_ret; exact ⟨_, rfl, .inl (by omega), byGG⟩)
    · have q2' : 0 ≤ l - (n.size : Int) - (a.size : Int) := by omega
      by_cases q3 : l - (n.size : Int) - (a.size : Int) - (b.size : Int) < 0
      · go_enter Tryd.func12, Tryd.ntmps12
        go_wp2
        all_goals first | (exfalso; omega) | (go_ret; exact ⟨_, rfl, .inl (by omega), byGG⟩)
      · have q3' : 0 ≤ l - (n.size : Int) - (a.size : Int) - (b.size : Int) := by omega
        go_enter Tryd.func12, Tryd.ntmps12
        go_wp2
        all_goals first | (exfalso; omega) | (go_ret; exact ⟨_, rfl, .inr (by omega), byGG⟩)
set_option maxRecDepth 100000 in
set_option maxHeartbeats 4000000 in
theorem toCommandS_a (v : Value) (n : Nat) (E : Nat → Cmd) (w : World) (h : ArgC w v n E) (hn : n ≤ 2000000) :
    Calls Tryd.prog 20 #[v] w fun e w' => e = .returned (.slice (some ⟨w.heap.size, 0, none⟩) n n) ∧ RowC w' w.heap.size n E ∧ Below w.heap.size w w' := by
  have hmk := make_cmds n hn
  have HA := hide h
  obtain ⟨a, c, rfl⟩ := h.len
  clear h
  go_enter Tryd.func20, Tryd.ntmps20
  go_wp2
  clear hmk
  go_loopw [4] (fun is wr => ∃ ix : Nat, ix ≤ n ∧ is = .int .i64 (ix : Int) ∧ wr.rowIs w.heap.size 40 (n * 7) (fun i => if i < ix * 7 then elC E i else zeC i) ∧ Below w.heap.size w wr) (fun is _ => n - (intOf is).toNat)
  case atStart => exact ⟨0, by omega, rfl, (made_cmds w n).congr (fun i _ => by simp), byGG⟩
  case round =>
    obtain ⟨ix, hi, rfl, hr, hb⟩ := hrel
    obtain ⟨wl, rfl⟩ : ∃ wl : World, wl = wr := ⟨_, rfl⟩
    have hz := hb.size
    by_cases q : ix < n
    · have hci : (ix : Int) < (n : Int) := by omega
      obtain ⟨b, off, hv, hcs⟩ := ((unhide HA).below hb).cells (by omega)
      obtain ⟨c0, c1, c2, c3, c4, c5, c6⟩ := hcs ix q
      subst hv
      clear hcs
      obtain ⟨x, hx⟩ : ∃ x, E ix = x := ⟨_, rfl⟩
      rw [hx] at c0 c1 c2 c3 c4 c5 c6
      have HX := hide hx
      clear hx
      go_wp2_with fail
      refine (toCommand_a x _).mono ?_
      rintro en w1 ⟨rfl, hb1⟩
      have hr1 := hr.of_block (hb1.block w.heap.size (World.rowIs.lt hr))
      have hb2 : Below w.heap.size w w1 := hb.trans (hb1.mono hz)
      clear hr
      have d0 := hr1.cell (i := ix * 7) (by omega)
      have f0 := hr1.frozen (ix * 7)
      have d1 := hr1.cell (i := ix * 7 + 1) (by omega)
      have f1 := hr1.frozen (ix * 7 + 1)
      have d2 := hr1.cell (i := ix * 7 + 2) (by omega)
      have f2 := hr1.frozen (ix * 7 + 2)
      have d3 := hr1.cell (i := ix * 7 + 3) (by omega)
      have f3 := hr1.frozen (ix * 7 + 3)
      have d4 := hr1.cell (i := ix * 7 + 4) (by omega)
      have f4 := hr1.frozen (ix * 7 + 4)
      have d5 := hr1.cell (i := ix * 7 + 5) (by omega)
      have f5 := hr1.frozen (ix * 7 + 5)
      have d6 := hr1.cell (i := ix * 7 + 6) (by omega)
      have f6 := hr1.frozen (ix * 7 + 6)
      go_wp2
      go_roundw
      case rel =>
        refine ⟨ix + 1, by omega, by go_num, ((((((((hr1.set _ _).set _ _).set _ _).set _ _).set _ _).set _ _).set _ _)).congr (fun i _ => ?_), byGG⟩
        obtain ⟨e0, e1, e2, e3, e4, e5, e6⟩ := elC_at E ix
        rw [unhide HX] at e0 e1 e2 e3 e4 e5 e6
        by_cases k0 : i < ix * 7
        · rw [if_pos (show i < (ix + 1) * 7 by omega)]
          simp only [if_neg (show ¬ i = ix * 7 by omega), if_neg (show ¬ i = ix * 7 + 1 by omega), if_neg (show ¬ i = ix * 7 + 2 by omega), if_neg (show ¬ i = ix * 7 + 3 by omega), if_neg (show ¬ i = ix * 7 + 4 by omega), if_neg (show ¬ i = ix * 7 + 5 by omega), if_neg (show ¬ i = ix * 7 + 6 by omega), if_pos k0]
        · by_cases k1 : i < (ix + 1) * 7
          · rw [if_pos k1]
            have : i = ix * 7 ∨ i = ix * 7 + 1 ∨ i = ix * 7 + 2 ∨ i = ix * 7 + 3 ∨ i = ix * 7 + 4 ∨ i = ix * 7 + 5 ∨ i = ix * 7 + 6 := by omega
            rcases this with k | k | k | k | k | k | k
            · subst k; rw [e0]; simp
            · subst k; rw [e1]; simp
            · subst k; rw [e2]; simp
            · subst k; rw [e3]; simp
            · subst k; rw [e4]; simp
            · subst k; rw [e5]; simp
            · subst k; rw [e6]; simp
          · rw [if_neg k1]
            simp only [if_neg (show ¬ i = ix * 7 by omega), if_neg (show ¬ i = ix * 7 + 1 by omega), if_neg (show ¬ i = ix * 7 + 2 by omega), if_neg (show ¬ i = ix * 7 + 3 by omega), if_neg (show ¬ i = ix * 7 + 4 by omega), if_neg (show ¬ i = ix * 7 + 5 by omega), if_neg (show ¬ i = ix * 7 + 6 by omega), if_neg k0]
      case measure => simp [intOf]; omega
    · obtain rfl : ix = n := by omega
      go_wp2
      go_ret
      exact ⟨rfl, hr.congr (fun i hi => by rw [if_pos hi]), hb⟩
set_option maxRecDepth 100000 in
set_option maxHeartbeats 2000000 in
theorem szCommandS_a (v : Value) (n : Nat) (l : Int) (E : Nat → Cmd) (w : World) (h : ArgC w v n E) (hn : n ≤ 9223372036854775807) (ho : ∀ i, i < n → CmdOk (E i)) (hl : 0 ≤ l ∧ l ≤ 1000000000) :
    Calls Tryd.prog 18 #[v, .int .i64 l] w fun e w' => ∃ r : Int, e = .returned (.int .i64 r) ∧ (r < 0 ∨ (0 ≤ r ∧ (n : Int) ≤ l)) ∧ Below w.heap.size w w' := by
  have HA := hide h
  have HO := hide ho
  obtain ⟨a, c, rfl⟩ := h.len
  clear h ho
  by_cases q : l < (n : Int)
  · have q2 : l - (n : Int) < 0 := by omega
    go_enter Tryd.func18, Tryd.ntmps18
    go_wp2
    go_ret
    exact ⟨_, rfl, .inl (by omega), byGG⟩
  · have q2 : 0 ≤ l - (n : Int) := by omega
    go_enter Tryd.func18, Tryd.ntmps18
    go_wp2
    go_loopw [1, 5] (fun ls is wr => ∃ (ix : Nat) (r : Int), ix ≤ n ∧ is = .int .i64 (ix : Int) ∧ ls = .int .i64 r ∧ 0 ≤ r ∧ r ≤ l ∧ Below w.heap.size w wr) (fun _ is _ => n - (intOf is).toNat)
    case atStart => exact ⟨0, _, by omega, rfl, rfl, by omega, by omega, Below.refl _ _⟩
    case round =>
      obtain ⟨ix, r, hi, rfl, rfl, hr0, hr1, hb⟩ := hrel
      obtain ⟨wl, rfl⟩ : ∃ wl : World, wl = wr := ⟨_, rfl⟩
      have hz := hb.size
      by_cases q3 : ix < n
      · have hci : (ix : Int) < (n : Int) := by omega
        obtain ⟨b, off, hv, hcs⟩ := ((unhide HA).below hb).cells (by omega)
        obtain ⟨c0, c1, c2, c3, c4, c5, c6⟩ := hcs ix q3
        subst hv
        have eo := unhide HO ix q3
        obtain ⟨x, hx⟩ : ∃ x, E ix = x := ⟨_, rfl⟩
        rw [hx] at c0 c1 c2 c3 c4 c5 c6 eo
        have HE := hide eo
        clear hx hcs eo
        go_wp2_with fail
        refine (szCommand_b x r _ (unhide HE) (by omega)).mono ?_
        rintro en w1 ⟨r2, rfl, hr, hb1⟩
        have hb2 : Below w.heap.size w w1 := hb.trans (hb1.mono hz)
        rcases hr with hr | ⟨hr, hr'⟩
        · go_wp2
          go_ret
          exact ⟨_, rfl, .inl (by omega), hb2⟩
        · go_wp2
          go_roundw
          case rel => exact ⟨ix + 1, r2, by omega, by first | rfl | go_num, rfl, by omega, by omega, hb2⟩
          case measure => simp [intOf]; omega
      · obtain rfl : ix = n := by omega
        go_wp2
        go_ret
        exact ⟨_, rfl, .inr ⟨by omega, by omega⟩, hb⟩
set_option maxRecDepth 100000 in
set_option maxHeartbeats 1000000 in
theorem eqForm_q (x0 x1 x2 : Int) (w : World) :
    Calls Tryd.prog 62 #[.agg #[.int .i64 x0, .int .i64 x1, .int .i64 x2], .agg #[.int .i64 x0, .int .i64 x1, .int .i64 x2]] w fun e w' => e = .returned (.bool true) ∧ Below w.heap.size w w' := by
  go_enter Tryd.func62, Tryd.ntmps62
  go_wp2
  go_ret
  exact ⟨rfl, byGG⟩
set_option maxRecDepth 100000 in
set_option maxHeartbeats 1000000 in
theorem eqCommand_a (k : Int) (nm a b : ByteArray) (x y z : Int) (w : World) :
    Calls Tryd.prog 41 #[.agg #[.int .i64 k, .string nm, .string a, .string b, .int .i64 x, .int .i64 y, .int .i64 z], .agg #[.int .i64 k, .string nm, .string a, .string b, .int .i64 x, .int .i64 y, .int .i64 z]] w fun e w' => e = .returned (.bool true) ∧ Below w.heap.size w w' := by
  go_enter Tryd.func41, Tryd.ntmps41
  go_wp2_with (go_at_call 62; refine (eqForm_q _ _ _ _).mono ?_; rintro e w1 ⟨rfl, hb⟩)
  go_ret
  exact ⟨rfl, byGG⟩

set_option maxRecDepth 100000 in
set_option maxHeartbeats 4000000 in
theorem eqCommandS_a (g1 g2 n c1 c2 : Nat) (E : Nat → Cmd) (w : World) (hn : n ≤ 2000000) (h1 : RowC w g1 n E) (h2 : RowC w g2 n E) :
    Calls Tryd.prog 22 #[.slice (some ⟨g1, 0, none⟩) n c1, .slice (some ⟨g2, 0, none⟩) n c2] w fun e w' => e = .returned (.bool true) ∧ Below w.heap.size w w' := by
  have H1 := hide h1
  have H2 := hide h2
  clear h1 h2
  go_enter Tryd.func22, Tryd.ntmps22
  go_wp2
  go_loopw [5] (fun is wr => ∃ ix : Nat, ix ≤ n ∧ is = .int .i64 (ix : Int) ∧ Below w.heap.size w wr) (fun is _ => n - (intOf is).toNat)
  case atStart => exact ⟨0, by omega, rfl, Below.refl _ _⟩
  case round =>
    obtain ⟨ix, hi, rfl, hb⟩ := hrel
    obtain ⟨wl, rfl⟩ : ∃ wl : World, wl = wr := ⟨_, rfl⟩
    have hzl := hb.size
    by_cases q : ix < n
    · have hci : (ix : Int) < (n : Int) := by omega
      obtain ⟨c00, c01, c02, c03, c04, c05, c06⟩ := ((unhide H1).below hb).ent q
      obtain ⟨c10, c11, c12, c13, c14, c15, c16⟩ := ((unhide H2).below hb).ent q
      obtain ⟨k, hk9⟩ : ∃ s, (E ix).k = s := ⟨_, rfl⟩
      obtain ⟨nm, hnm9⟩ : ∃ s, (E ix).n = s := ⟨_, rfl⟩
      obtain ⟨a, ha9⟩ : ∃ s, (E ix).a = s := ⟨_, rfl⟩
      obtain ⟨b, hb9⟩ : ∃ s, (E ix).b = s := ⟨_, rfl⟩
      obtain ⟨x, hx9⟩ : ∃ s, (E ix).f.1 = s := ⟨_, rfl⟩
      obtain ⟨y, hy9⟩ : ∃ s, (E ix).f.2.1 = s := ⟨_, rfl⟩
      obtain ⟨z, hz9⟩ : ∃ s, (E ix).f.2.2 = s := ⟨_, rfl⟩
      rw [hk9] at c00 c10
      rw [hnm9] at c01 c11
      rw [ha9] at c02 c12
      rw [hb9] at c03 c13
      rw [hx9] at c04 c14
      rw [hy9] at c05 c15
      rw [hz9] at c06 c16
      clear hk9 hnm9 ha9 hb9 hx9 hy9 hz9
      go_upto_region 6 with fail
      go_cut [26] (fun s26 wx => s26 = .bool false ∧ wx.cell? ⟨g1, ix * 7, none⟩ = some (.int .i64 k) ∧ wx.cell? ⟨g1, ix * 7 + 1, none⟩ = some (.string nm) ∧ wx.cell? ⟨g1, ix * 7 + 2, none⟩ = some (.string a) ∧ wx.cell? ⟨g1, ix * 7 + 3, none⟩ = some (.string b) ∧ wx.cell? ⟨g1, ix * 7 + 4, none⟩ = some (.int .i64 x) ∧ wx.cell? ⟨g1, ix * 7 + 5, none⟩ = some (.int .i64 y) ∧ wx.cell? ⟨g1, ix * 7 + 6, none⟩ = some (.int .i64 z) ∧ wx.cell? ⟨g2, ix * 7, none⟩ = some (.int .i64 k) ∧ wx.cell? ⟨g2, ix * 7 + 1, none⟩ = some (.string nm) ∧ wx.cell? ⟨g2, ix * 7 + 2, none⟩ = some (.string a) ∧ wx.cell? ⟨g2, ix * 7 + 3, none⟩ = some (.string b) ∧ wx.cell? ⟨g2, ix * 7 + 4, none⟩ = some (.int .i64 x) ∧ wx.cell? ⟨g2, ix * 7 + 5, none⟩ = some (.int .i64 y) ∧ wx.cell? ⟨g2, ix * 7 + 6, none⟩ = some (.int .i64 z) ∧ Below w.heap.size w wx)
      case first =>
        have h1 := trivial
        rename_i K2 h2 h3
        refine region_n0 (by kernel_rfl) (fun j => #[17,18,19,20,21,22,23,24,25,26].getD j 0) (fun j => Kd.ok ((fun j => match j with | 0 => Kd.val (.slice (some ⟨g1, 0, none⟩) n c1) | 1 => Kd.val (.int .i64 ((ix : Int))) | 2 => Kd.val (.pointer (some ⟨g1, ix * 7, none⟩)) | 3 => Kd.val (.agg #[.int .i64 k, .string nm, .string a, .string b, .int .i64 x, .int .i64 y, .int .i64 z]) | 4 => Kd.val (.slice (some ⟨g2, 0, none⟩) n c2) | 5 => Kd.val (.int .i64 ((ix : Int))) | 6 => Kd.val (.pointer (some ⟨g2, ix * 7, none⟩)) | 7 => Kd.val (.agg #[.int .i64 k, .string nm, .string a, .string b, .int .i64 x, .int .i64 y, .int .i64 z]) | 8 => Kd.val (.bool true) | 9 => Kd.val (.bool false) | _ => Kd.any : Nat → Kd) j)) (Sy w (wl.heap.size) [(⟨g1, ix * 7, none⟩, .int .i64 k), (⟨g1, ix * 7 + 1, none⟩, .string nm), (⟨g1, ix * 7 + 2, none⟩, .string a), (⟨g1, ix * 7 + 3, none⟩, .string b), (⟨g1, ix * 7 + 4, none⟩, .int .i64 x), (⟨g1, ix * 7 + 5, none⟩, .int .i64 y), (⟨g1, ix * 7 + 6, none⟩, .int .i64 z), (⟨g2, ix * 7, none⟩, .int .i64 k), (⟨g2, ix * 7 + 1, none⟩, .string nm), (⟨g2, ix * 7 + 2, none⟩, .string a), (⟨g2, ix * 7 + 3, none⟩, .string b), (⟨g2, ix * 7 + 4, none⟩, .int .i64 x), (⟨g2, ix * 7 + 5, none⟩, .int .i64 y), (⟨g2, ix * 7 + 6, none⟩, .int .i64 z)] []) (by kernel_rfl) (by kernel_rfl) ?_ ?_ ?_ ?_
        · intro j hj
          have hj2 : j < 10 := hj
          have : ∀ j, j < 10 → (#[17,18,19,20,21,22,23,24,25,26] : Array Nat).getD j 0 < 27 := by decide
          exact this j hj2
        · refine Sy.drew (Sy.mk_of ?_ ?_ ?_ ?_)
          · first | rfl | (simp; done) | (simp; omega)
          · intro c hc
            simp only [List.mem_cons, List.not_mem_nil, or_false] at hc
            rcases hc with rfl | rfl | rfl | rfl | rfl | rfl | rfl | rfl | rfl | rfl | rfl | rfl | rfl | rfl <;> exact byCT
          · intro p hp; cases hp
          · (repeat' first | with_reducible (first | exact Below.refl _ _ | assumption | refine gr_alloc ?_ _ | refine below_drewN ?_ _ | refine below_drew ?_ | refine gr_call ?_ (by assumption) | refine Below.setCell ?_ ?_ _) | go_size | omega | (simp; omega))
        · clear h1 h2 h3
          refine ⟨?r4x0, ?r4x1, ?r4x2, ?r4x3, ?r4x4, ?r4x5, ?r4x6, ?r4x7, ?r4x8, ?r4x9, trivial⟩
          all_goals intro _ aq wx Kq hf hS hdep ev1 ev2 hK
          case' r4x0 =>
            have F0 : aq.eval (.tmp 0) = .slice (some ⟨g1, 0, none⟩) n c1 := hf 0
          case' r4x1 =>
            have F5 : aq.eval (.tmp 5) = .int .i64 ((ix : Int)) := hf 5
          case' r4x2 =>
            have D0 : aq.eval (.tmp 17) = _ := hdep 0
            have D1 : aq.eval (.tmp 18) = _ := hdep 1
          case' r4x3 =>
            have D2 : aq.eval (.tmp 19) = _ := hdep 2
            have c0 := hS.cells (⟨g1, ix * 7, none⟩, .int .i64 k) (by simp)
            have c1 := hS.cells (⟨g1, ix * 7 + 1, none⟩, .string nm) (by simp)
            have c2 := hS.cells (⟨g1, ix * 7 + 2, none⟩, .string a) (by simp)
            have c3 := hS.cells (⟨g1, ix * 7 + 3, none⟩, .string b) (by simp)
            have c4 := hS.cells (⟨g1, ix * 7 + 4, none⟩, .int .i64 x) (by simp)
            have c5 := hS.cells (⟨g1, ix * 7 + 5, none⟩, .int .i64 y) (by simp)
            have c6 := hS.cells (⟨g1, ix * 7 + 6, none⟩, .int .i64 z) (by simp)
          case' r4x4 =>
            have F1 : aq.eval (.tmp 1) = .slice (some ⟨g2, 0, none⟩) n c2 := hf 1
          case' r4x5 =>
            have F5 : aq.eval (.tmp 5) = .int .i64 ((ix : Int)) := hf 5
          case' r4x6 =>
            have D4 : aq.eval (.tmp 21) = _ := hdep 4
            have D5 : aq.eval (.tmp 22) = _ := hdep 5
          case' r4x7 =>
            have D6 : aq.eval (.tmp 23) = _ := hdep 6
            have c0 := hS.cells (⟨g2, ix * 7, none⟩, .int .i64 k) (by simp)
            have c1 := hS.cells (⟨g2, ix * 7 + 1, none⟩, .string nm) (by simp)
            have c2 := hS.cells (⟨g2, ix * 7 + 2, none⟩, .string a) (by simp)
            have c3 := hS.cells (⟨g2, ix * 7 + 3, none⟩, .string b) (by simp)
            have c4 := hS.cells (⟨g2, ix * 7 + 4, none⟩, .int .i64 x) (by simp)
            have c5 := hS.cells (⟨g2, ix * 7 + 5, none⟩, .int .i64 y) (by simp)
            have c6 := hS.cells (⟨g2, ix * 7 + 6, none⟩, .int .i64 z) (by simp)
          case' r4x8 =>
            have D3 : aq.eval (.tmp 20) = _ := hdep 3
            have D7 : aq.eval (.tmp 24) = _ := hdep 7
          case' r4x9 =>
            have D8 : aq.eval (.tmp 25) = _ := hdep 8
          all_goals (clear hf hdep; unfold Oper.wp; generalize Act.eval _ = ev at *; go_simp)
          case' r4x2 =>
            try rw [if_pos (by omega), Oper.upon_value]
          case' r4x6 =>
            try rw [if_pos (by omega), Oper.upon_value]
          case r4x8 =>
            refine ((eqCommand_a k nm a b x y z _)).mono ?_
            rintro e w2 ⟨rfl, hb⟩
            refine hK _ _ (hS.call hb) ?_ (fun j u _ h => Kd.ok_below hb h)
            rw [if_pos (by rfl)]
            show (_ : Value) = _
            first | rfl | (refine congrArg (Value.int .i64) ?_; first | rfl | exact int_in (by omega) | exact quo_in (by omega) (by omega) (by omega) | exact rem_in (by omega) (by omega) | omega | (simp [*]; done)) | (simp; done) | (simp [*]; done)
          all_goals (refine hK _ _ hS ?_ (fun j u _ h => h); rw [if_pos (by rfl)]; show (_ : Value) = _; (first | rfl | (refine congrArg (Value.int .i64) ?_; first | rfl | exact int_in (by omega) | exact quo_in (by omega) (by omega) (by omega) | exact rem_in (by omega) (by omega) | omega | (simp [*]; done)) | (simp; done) | (simp [*]; done)))
        · intro aq wx hd hw hf hS hg
          have G26 : tau aq 26 = .bool false := hg 9 (by decide)
          have haq : aq = ⟨#[tau aq 0, tau aq 1, tau aq 2, tau aq 3, tau aq 4, tau aq 5, tau aq 6, tau aq 7, tau aq 8, tau aq 9, tau aq 10, tau aq 11, tau aq 12, tau aq 13, tau aq 14, tau aq 15, tau aq 16, tau aq 17, tau aq 18, tau aq 19, tau aq 20, tau aq 21, tau aq 22, tau aq 23, tau aq 24, tau aq 25, tau aq 26], []⟩ := by
            obtain ⟨tq, dq⟩ := aq
            have h5 := arr_eq (show tq.size = 27 from hw)
            have h6 : dq = [] := hd
            subst h6
            exact congrArg (fun z => Act.mk z []) h5
          show K2 aq wx
          rw [haq, hf 0, hf 1, hf 2, hf 3, hf 4, hf 5, hf 6, hf 7, hf 8, hf 9, hf 10, hf 11, hf 12, hf 13, hf 14, hf 15, hf 16, G26]
          clear haq hf hd hw
          try dsimp only
          refine h3 _ _ ?_
          go_meet
          refine ⟨rfl, ?_, ?_, ?_, ?_, ?_, ?_, ?_, ?_, ?_, ?_, ?_, ?_, ?_, ?_, hS.below⟩
          all_goals first | exact hS.cells (_, _) (by simp) | exact (hS.free _ (by simp)).2
      try clear c00
      try clear c01
      try clear c02
      try clear c03
      try clear c04
      try clear c05
      try clear c06
      try clear z0
      try clear c10
      try clear c11
      try clear c12
      try clear c13
      try clear c14
      try clear c15
      try clear c16
      try clear z1
      obtain ⟨rfl, c00, c01, c02, c03, c04, c05, c06, c10, c11, c12, c13, c14, c15, c16, hb0⟩ := hcut
      have z0 := World.block_lt_of_cell? _ _ c00
      change g1 < wc.heap.size at z0
      have z1 := World.block_lt_of_cell? _ _ c10
      change g2 < wc.heap.size at z1
      go_wp2
      go_roundw
      case rel => exact ⟨ix + 1, by omega, by first | rfl | go_num, hb0⟩
      case measure => simp [intOf]; omega
    · obtain rfl : ix = n := by omega
      go_wp2
      go_ret
      exact ⟨rfl, hb⟩
end Go.Proofs.YtdffleonelapfaaDoor
