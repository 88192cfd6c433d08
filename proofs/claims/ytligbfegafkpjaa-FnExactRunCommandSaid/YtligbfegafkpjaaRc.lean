/-
  RunCommand on both sides.
-/
import Derived.Test.YtligbfegafkpjaaLr
namespace Go.Proofs.Ytligbfegafkpjaa
open Go.RowKit
set_option linter.unusedVariables false
set_option linter.unusedSimpArgs false
attribute [local go_sem] q2 q3 q4 q5 q6 q7 q8 q9 q10 q11 q12

noncomputable def RLl (E : Nat → Ent) (n : Nat) (c : Cmd) : List Ent := if ctB E n && cmB c then rnL E n c else []
noncomputable def RCc (E : Nat → Ent) (n : Nat) (c : Cmd) : Int := if ctB E n && cmB c then rnC E n c else 1

set_option maxRecDepth 100000 in
set_option maxHeartbeats 8000000 in
theorem implRun_a (g n : Nat) (E : Nat → Ent) (c : Cmd) (w : World) (hr : RowE w g n E) (hn : n ≤ 2000000) (ho : ∀ i, i < n → EntOk (E i)) (hok : CmdOk c) :
    Calls Try.prog 30 #[.slice (some ⟨g, 0, none⟩) n n, cmv c] w fun e w' => ∃ v, e = .returned v ∧ TupE w.heap.size (RLl E n c) (RCc E n c) w' v ∧ Below w.heap.size w w' := by
  have HA := hide hr
  have HO := hide ho
  have HK := hide hok
  clear hr ho hok
  obtain ⟨k, nm, a, b, f0, f1, f2⟩ := c
  cases h1 : ctB E n
  · have HL : Hid (RLl E n ⟨k, nm, a, b, f0, f1, f2⟩ = []) := hide (by unfold RLl; rw [h1]; simp)
    have HC : Hid (RCc E n ⟨k, nm, a, b, f0, f1, f2⟩ = 1) := hide (by unfold RCc; rw [h1]; simp)
    go_enter Try.func30, Try.ntmps30
    go_wp2_with fail
    refine (isCatalogue_a _ n E _ (((unhide HA).arg).below byGG) hn (unhide HO)).mono ?_
    rintro e1 w1 ⟨rfl, hb1⟩
    have hcs9 := cells_calls hb1 [⟨w.heap.size, 0, none⟩, ⟨w.heap.size, 1, none⟩, ⟨w.heap.size, 2, none⟩, ⟨w.heap.size, 3, none⟩, ⟨w.heap.size, 4, none⟩, ⟨w.heap.size, 5, none⟩, ⟨w.heap.size, 6, none⟩] [.int .i64 k, .string nm, .string a, .string b, .int .i64 f0, .int .i64 f1, .int .i64 f2] (by refine ⟨?_, ?_, ?_, ?_, ?_, ?_, ?_, trivial⟩ <;> exact byCT)
    have hzs9 := blocks_calls hb1 [w.heap.size] (by refine ⟨?_, trivial⟩ <;> first | with_reducible assumption | omega | (simp; omega) | (simp; done))
    try clear c00 c01 c02 c03 c04 c05 c06
    obtain ⟨c00, c01, c02, c03, c04, c05, c06, -⟩ := hcs9
    obtain ⟨z0, -⟩ := hzs9
    have hB1 : Below w.heap.size w w1 := byGG
    clear hb1
    go_wp2
    refine bodyPost_ret (v := .tuple #[.slice (some ⟨w1.heap.size, 0, none⟩) 0 0, .int .i64 1]) (by simp [results, Try.results30, go_sem, *]) rfl ?_
    exact ⟨_, rfl, ⟨_, by rw [unhide HC], _, rfl, by rw [unhide HL]; exact EL.made _ _ hB1.size⟩, byGG⟩
  · have h11 := h1
    unfold ctB at h11
    rw [Bool.and_eq_true, decide_eq_true_eq] at h11
    obtain ⟨hctG, hn20⟩ := h11
    cases h2 : cmB ⟨k, nm, a, b, f0, f1, f2⟩
    · have HL : Hid (RLl E n ⟨k, nm, a, b, f0, f1, f2⟩ = []) := hide (by unfold RLl; rw [h1, h2]; rfl)
      have HC : Hid (RCc E n ⟨k, nm, a, b, f0, f1, f2⟩ = 1) := hide (by unfold RCc; rw [h1, h2]; rfl)
      go_enter Try.func30, Try.ntmps30
      go_wp2_with fail
      refine (isCatalogue_a _ n E _ (((unhide HA).arg).below byGG) hn (unhide HO)).mono ?_
      rintro e1 w1 ⟨rfl, hb1⟩
      have hcs9 := cells_calls hb1 [⟨w.heap.size, 0, none⟩, ⟨w.heap.size, 1, none⟩, ⟨w.heap.size, 2, none⟩, ⟨w.heap.size, 3, none⟩, ⟨w.heap.size, 4, none⟩, ⟨w.heap.size, 5, none⟩, ⟨w.heap.size, 6, none⟩] [.int .i64 k, .string nm, .string a, .string b, .int .i64 f0, .int .i64 f1, .int .i64 f2] (by refine ⟨?_, ?_, ?_, ?_, ?_, ?_, ?_, trivial⟩ <;> exact byCT)
      have hzs9 := blocks_calls hb1 [w.heap.size] (by refine ⟨?_, trivial⟩ <;> first | with_reducible assumption | omega | (simp; omega) | (simp; done))
      try clear c00 c01 c02 c03 c04 c05 c06
      obtain ⟨c00, c01, c02, c03, c04, c05, c06, -⟩ := hcs9
      obtain ⟨z0, -⟩ := hzs9
      have hB1 : Below w.heap.size w w1 := byGG
      clear hb1
      go_wp2_with fail
      refine (isCommand_a ⟨k, nm, a, b, f0, f1, f2⟩ _ (unhide HK)).mono ?_
      rintro e2 w2 ⟨rfl, hb2⟩
      have hcs9 := cells_calls hb2 [⟨w.heap.size, 0, none⟩, ⟨w.heap.size, 1, none⟩, ⟨w.heap.size, 2, none⟩, ⟨w.heap.size, 3, none⟩, ⟨w.heap.size, 4, none⟩, ⟨w.heap.size, 5, none⟩, ⟨w.heap.size, 6, none⟩] [.int .i64 k, .string nm, .string a, .string b, .int .i64 f0, .int .i64 f1, .int .i64 f2] (by refine ⟨?_, ?_, ?_, ?_, ?_, ?_, ?_, trivial⟩ <;> exact byCT)
      have hzs9 := blocks_calls hb2 [w.heap.size] (by refine ⟨?_, trivial⟩ <;> first | with_reducible assumption | omega | (simp; omega) | (simp; done))
      try clear c00 c01 c02 c03 c04 c05 c06
      obtain ⟨c00, c01, c02, c03, c04, c05, c06, -⟩ := hcs9
      obtain ⟨z0, -⟩ := hzs9
      have hB2 : Below w.heap.size w w2 := byGG
      clear hb2
      go_wp2
      refine bodyPost_ret (v := .tuple #[.slice (some ⟨w2.heap.size, 0, none⟩) 0 0, .int .i64 1]) (by simp [results, Try.results30, go_sem, *]) rfl ?_
      exact ⟨_, rfl, ⟨_, by rw [unhide HC], _, rfl, by rw [unhide HL]; exact EL.made _ _ hB2.size⟩, byGG⟩
    · have HL : Hid (RLl E n ⟨k, nm, a, b, f0, f1, f2⟩ = rnL E n ⟨k, nm, a, b, f0, f1, f2⟩) := hide (by unfold RLl; rw [h1, h2]; rfl)
      have HC : Hid (RCc E n ⟨k, nm, a, b, f0, f1, f2⟩ = rnC E n ⟨k, nm, a, b, f0, f1, f2⟩) := hide (by unfold RCc; rw [h1, h2]; rfl)
      go_enter Try.func30, Try.ntmps30
      go_wp2_with fail
      refine (isCatalogue_a _ n E _ (((unhide HA).arg).below byGG) hn (unhide HO)).mono ?_
      rintro e1 w1 ⟨rfl, hb1⟩
      have hcs9 := cells_calls hb1 [⟨w.heap.size, 0, none⟩, ⟨w.heap.size, 1, none⟩, ⟨w.heap.size, 2, none⟩, ⟨w.heap.size, 3, none⟩, ⟨w.heap.size, 4, none⟩, ⟨w.heap.size, 5, none⟩, ⟨w.heap.size, 6, none⟩] [.int .i64 k, .string nm, .string a, .string b, .int .i64 f0, .int .i64 f1, .int .i64 f2] (by refine ⟨?_, ?_, ?_, ?_, ?_, ?_, ?_, trivial⟩ <;> exact byCT)
      have hzs9 := blocks_calls hb1 [w.heap.size] (by refine ⟨?_, trivial⟩ <;> first | with_reducible assumption | omega | (simp; omega) | (simp; done))
      try clear c00 c01 c02 c03 c04 c05 c06
      obtain ⟨c00, c01, c02, c03, c04, c05, c06, -⟩ := hcs9
      obtain ⟨z0, -⟩ := hzs9
      have hB1 : Below w.heap.size w w1 := byGG
      clear hb1
      go_wp2_with fail
      refine (isCommand_a ⟨k, nm, a, b, f0, f1, f2⟩ _ (unhide HK)).mono ?_
      rintro e2 w2 ⟨rfl, hb2⟩
      have hcs9 := cells_calls hb2 [⟨w.heap.size, 0, none⟩, ⟨w.heap.size, 1, none⟩, ⟨w.heap.size, 2, none⟩, ⟨w.heap.size, 3, none⟩, ⟨w.heap.size, 4, none⟩, ⟨w.heap.size, 5, none⟩, ⟨w.heap.size, 6, none⟩] [.int .i64 k, .string nm, .string a, .string b, .int .i64 f0, .int .i64 f1, .int .i64 f2] (by refine ⟨?_, ?_, ?_, ?_, ?_, ?_, ?_, trivial⟩ <;> exact byCT)
      have hzs9 := blocks_calls hb2 [w.heap.size] (by refine ⟨?_, trivial⟩ <;> first | with_reducible assumption | omega | (simp; omega) | (simp; done))
      try clear c00 c01 c02 c03 c04 c05 c06
      obtain ⟨c00, c01, c02, c03, c04, c05, c06, -⟩ := hcs9
      obtain ⟨z0, -⟩ := hzs9
      have hB2 : Below w.heap.size w w2 := byGG
      clear hb2
      go_wp2_with fail
      refine (runCommand_a g n n E ⟨k, nm, a, b, f0, f1, f2⟩ _ (fun i hi => ((unhide HA).ent hi).below byGG) hn h2 hctG).mono ?_
      rintro e3 w3 ⟨v3, rfl, hel, hb3⟩
      have hB3 : Below w.heap.size w w3 := byGG
      have hel2 := hel.low (lo' := w.heap.size) byGE
      clear hb3
      go_wp2
      refine bodyPost_ret (v := .tuple #[v3, .int .i64 (rnC E n ⟨k, nm, a, b, f0, f1, f2⟩)]) (by simp [results, Try.results30, go_sem, *]) rfl ?_
      exact ⟨_, rfl, ⟨_, by rw [unhide HC], _, rfl, by rw [unhide HL]; exact hel2⟩, byGG⟩

set_option maxRecDepth 100000 in
set_option maxHeartbeats 8000000 in
theorem specRun_a (g n : Nat) (E : Nat → Ent) (c : Cmd) (w : World) (hr : RowE w g n E) (hn : n ≤ 2000000) (ho : ∀ i, i < n → EntOk (E i)) (hok : CmdOk c) :
    Calls Try.prog 29 #[.slice (some ⟨g, 0, none⟩) n n, cmv c] w fun e w' => ∃ v, e = .returned v ∧ TupE w.heap.size (RLl E n c) (RCc E n c) w' v ∧ Below w.heap.size w w' := by
  have HA := hide hr
  have HO := hide ho
  have HK := hide hok
  clear hr ho hok
  obtain ⟨k, nm, a, b, f0, f1, f2⟩ := c
  cases h1 : ctB E n
  · have HL : Hid (RLl E n ⟨k, nm, a, b, f0, f1, f2⟩ = []) := hide (by unfold RLl; rw [h1]; simp)
    have HC : Hid (RCc E n ⟨k, nm, a, b, f0, f1, f2⟩ = 1) := hide (by unfold RCc; rw [h1]; simp)
    go_enter Try.func29, Try.ntmps29
    go_wp2_with fail
    refine (lgGood_a _ n E _ (((unhide HA).arg).below byGG) hn (unhide HO)).mono ?_
    rintro e1 w1 ⟨rfl, hb1⟩
    have hcs9 := cells_calls hb1 [⟨w.heap.size, 0, none⟩, ⟨w.heap.size, 1, none⟩, ⟨w.heap.size, 2, none⟩, ⟨w.heap.size, 3, none⟩, ⟨w.heap.size, 4, none⟩, ⟨w.heap.size, 5, none⟩, ⟨w.heap.size, 6, none⟩] [.int .i64 k, .string nm, .string a, .string b, .int .i64 f0, .int .i64 f1, .int .i64 f2] (by refine ⟨?_, ?_, ?_, ?_, ?_, ?_, ?_, trivial⟩ <;> exact byCT)
    have hzs9 := blocks_calls hb1 [w.heap.size] (by refine ⟨?_, trivial⟩ <;> first | with_reducible assumption | omega | (simp; omega) | (simp; done))
    try clear c00 c01 c02 c03 c04 c05 c06
    obtain ⟨c00, c01, c02, c03, c04, c05, c06, -⟩ := hcs9
    obtain ⟨z0, -⟩ := hzs9
    have hB1 : Below w.heap.size w w1 := byGG
    clear hb1
    go_wp2
    refine bodyPost_ret (v := .tuple #[.slice none 0 0, .int .i64 1]) (by simp [results, Try.results29, go_sem, *]) rfl ?_
    exact ⟨_, rfl, ⟨_, by rw [unhide HC], _, rfl, by rw [unhide HL]; exact EL.nil _ _⟩, byGG⟩
  · have h11 := h1
    unfold ctB at h11
    rw [Bool.and_eq_true, decide_eq_true_eq] at h11
    obtain ⟨hctG, hn20⟩ := h11
    cases h2 : cmB ⟨k, nm, a, b, f0, f1, f2⟩
    · have HL : Hid (RLl E n ⟨k, nm, a, b, f0, f1, f2⟩ = []) := hide (by unfold RLl; rw [h1, h2]; rfl)
      have HC : Hid (RCc E n ⟨k, nm, a, b, f0, f1, f2⟩ = 1) := hide (by unfold RCc; rw [h1, h2]; rfl)
      go_enter Try.func29, Try.ntmps29
      go_wp2_with fail
      refine (lgGood_a _ n E _ (((unhide HA).arg).below byGG) hn (unhide HO)).mono ?_
      rintro e1 w1 ⟨rfl, hb1⟩
      have hcs9 := cells_calls hb1 [⟨w.heap.size, 0, none⟩, ⟨w.heap.size, 1, none⟩, ⟨w.heap.size, 2, none⟩, ⟨w.heap.size, 3, none⟩, ⟨w.heap.size, 4, none⟩, ⟨w.heap.size, 5, none⟩, ⟨w.heap.size, 6, none⟩] [.int .i64 k, .string nm, .string a, .string b, .int .i64 f0, .int .i64 f1, .int .i64 f2] (by refine ⟨?_, ?_, ?_, ?_, ?_, ?_, ?_, trivial⟩ <;> exact byCT)
      have hzs9 := blocks_calls hb1 [w.heap.size] (by refine ⟨?_, trivial⟩ <;> first | with_reducible assumption | omega | (simp; omega) | (simp; done))
      try clear c00 c01 c02 c03 c04 c05 c06
      obtain ⟨c00, c01, c02, c03, c04, c05, c06, -⟩ := hcs9
      obtain ⟨z0, -⟩ := hzs9
      have hB1 : Below w.heap.size w w1 := byGG
      clear hb1
      go_wp2_with fail
      refine (lgCommand_a ⟨k, nm, a, b, f0, f1, f2⟩ _ (unhide HK)).mono ?_
      rintro e2 w2 ⟨rfl, hb2⟩
      have hcs9 := cells_calls hb2 [⟨w.heap.size, 0, none⟩, ⟨w.heap.size, 1, none⟩, ⟨w.heap.size, 2, none⟩, ⟨w.heap.size, 3, none⟩, ⟨w.heap.size, 4, none⟩, ⟨w.heap.size, 5, none⟩, ⟨w.heap.size, 6, none⟩] [.int .i64 k, .string nm, .string a, .string b, .int .i64 f0, .int .i64 f1, .int .i64 f2] (by refine ⟨?_, ?_, ?_, ?_, ?_, ?_, ?_, trivial⟩ <;> exact byCT)
      have hzs9 := blocks_calls hb2 [w.heap.size] (by refine ⟨?_, trivial⟩ <;> first | with_reducible assumption | omega | (simp; omega) | (simp; done))
      try clear c00 c01 c02 c03 c04 c05 c06
      obtain ⟨c00, c01, c02, c03, c04, c05, c06, -⟩ := hcs9
      obtain ⟨z0, -⟩ := hzs9
      have hB2 : Below w.heap.size w w2 := byGG
      clear hb2
      go_wp2
      refine bodyPost_ret (v := .tuple #[.slice none 0 0, .int .i64 1]) (by simp [results, Try.results29, go_sem, *]) rfl ?_
      exact ⟨_, rfl, ⟨_, by rw [unhide HC], _, rfl, by rw [unhide HL]; exact EL.nil _ _⟩, byGG⟩
    · have HL : Hid (RLl E n ⟨k, nm, a, b, f0, f1, f2⟩ = rnL E n ⟨k, nm, a, b, f0, f1, f2⟩) := hide (by unfold RLl; rw [h1, h2]; rfl)
      have HC : Hid (RCc E n ⟨k, nm, a, b, f0, f1, f2⟩ = rnC E n ⟨k, nm, a, b, f0, f1, f2⟩) := hide (by unfold RCc; rw [h1, h2]; rfl)
      go_enter Try.func29, Try.ntmps29
      go_wp2_with fail
      refine (lgGood_a _ n E _ (((unhide HA).arg).below byGG) hn (unhide HO)).mono ?_
      rintro e1 w1 ⟨rfl, hb1⟩
      have hcs9 := cells_calls hb1 [⟨w.heap.size, 0, none⟩, ⟨w.heap.size, 1, none⟩, ⟨w.heap.size, 2, none⟩, ⟨w.heap.size, 3, none⟩, ⟨w.heap.size, 4, none⟩, ⟨w.heap.size, 5, none⟩, ⟨w.heap.size, 6, none⟩] [.int .i64 k, .string nm, .string a, .string b, .int .i64 f0, .int .i64 f1, .int .i64 f2] (by refine ⟨?_, ?_, ?_, ?_, ?_, ?_, ?_, trivial⟩ <;> exact byCT)
      have hzs9 := blocks_calls hb1 [w.heap.size] (by refine ⟨?_, trivial⟩ <;> first | with_reducible assumption | omega | (simp; omega) | (simp; done))
      try clear c00 c01 c02 c03 c04 c05 c06
      obtain ⟨c00, c01, c02, c03, c04, c05, c06, -⟩ := hcs9
      obtain ⟨z0, -⟩ := hzs9
      have hB1 : Below w.heap.size w w1 := byGG
      clear hb1
      go_wp2_with fail
      refine (lgCommand_a ⟨k, nm, a, b, f0, f1, f2⟩ _ (unhide HK)).mono ?_
      rintro e2 w2 ⟨rfl, hb2⟩
      have hcs9 := cells_calls hb2 [⟨w.heap.size, 0, none⟩, ⟨w.heap.size, 1, none⟩, ⟨w.heap.size, 2, none⟩, ⟨w.heap.size, 3, none⟩, ⟨w.heap.size, 4, none⟩, ⟨w.heap.size, 5, none⟩, ⟨w.heap.size, 6, none⟩] [.int .i64 k, .string nm, .string a, .string b, .int .i64 f0, .int .i64 f1, .int .i64 f2] (by refine ⟨?_, ?_, ?_, ?_, ?_, ?_, ?_, trivial⟩ <;> exact byCT)
      have hzs9 := blocks_calls hb2 [w.heap.size] (by refine ⟨?_, trivial⟩ <;> first | with_reducible assumption | omega | (simp; omega) | (simp; done))
      try clear c00 c01 c02 c03 c04 c05 c06
      obtain ⟨c00, c01, c02, c03, c04, c05, c06, -⟩ := hcs9
      obtain ⟨z0, -⟩ := hzs9
      have hB2 : Below w.heap.size w w2 := byGG
      clear hb2
      go_wp2_with fail
      refine (lgRun_a g n n E ⟨k, nm, a, b, f0, f1, f2⟩ _ (fun i hi => ((unhide HA).ent hi).below byGG) hn (Nat.le_refl _) h2 hctG hn20).mono ?_
      rintro e3 w3 ⟨v3, rfl, hel, hb3⟩
      have hB3 : Below w.heap.size w w3 := byGG
      have hel2 := hel.low (lo' := w.heap.size) byGE
      clear hb3
      go_wp2
      refine bodyPost_ret (v := .tuple #[v3, .int .i64 (rnC E n ⟨k, nm, a, b, f0, f1, f2⟩)]) (by simp [results, Try.results29, go_sem, *]) rfl ?_
      exact ⟨_, rfl, ⟨_, by rw [unhide HC], _, rfl, by rw [unhide HL]; exact hel2⟩, byGG⟩
end Go.Proofs.Ytligbfegafkpjaa
