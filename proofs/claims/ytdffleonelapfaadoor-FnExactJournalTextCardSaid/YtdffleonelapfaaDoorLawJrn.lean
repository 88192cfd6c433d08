/-
  The law of JournalText.
-/
import Derived.Test.YtdffleonelapfaaDoorJri
import Derived.Test.YtdffleonelapfaaDoorJrs
namespace Go.Proofs.YtdffleonelapfaaDoor
open Go.RowKit
set_option linter.unusedVariables false
set_option linter.unusedSimpArgs false
attribute [local go_sem] q2 q3 q4 q5 q6 q7 q8 q9 q10 q11 q12

set_option maxRecDepth 100000 in
set_option maxHeartbeats 4000000 in
theorem lawJournalText (v : Value) (n : Nat) (E : Nat → Cmd) (w : World) (h : ArgC w v n E) (hm : n ≤ 9223372036854775807) (ho : ∀ i, i < n → CmdOk (E i)) (ht : Tab w) :
    Calls Tryd.prog 6 #[v] w fun e w' => e = .returned (.bool true) ∧ Below w.heap.size w w' := by
  obtain ⟨va, vc, rfl⟩ := h.len
  have HA := hide h
  have HO := hide ho
  have HT := hide ht
  clear h ho ht
  obtain ⟨X, hX⟩ : ∃ l, jrL E n = l := ⟨_, rfl⟩
  obtain ⟨K, hK⟩ : ∃ l, jrB E n = l := ⟨_, rfl⟩
  have HI : ∀ (v : Value) (w : World), ArgC w v n E → n ≤ 2000000 → Tab w → Calls Tryd.prog 21 #[v] w fun e w' => e = .returned (.tuple #[.string (tx X), .bool K]) ∧ Below w.heap.size w w' := by
    subst hX hK; exact fun v w h1 h2 h3 => implJournalText v n E w h1 h2 (unhide HO) h3
  have HS : ∀ (v : Value) (w : World), ArgC w v n E → n ≤ 2000000 → Calls Tryd.prog 19 #[v] w fun e w' => e = .returned (.tuple #[.string (tx X), .bool K]) ∧ Below w.heap.size w w' := by
    subst hX hK; exact fun v w h1 h2 => specJournalText v n E w h1 h2 (unhide HO)
  have HI := hide HI
  have HS := hide HS
  clear hX hK
  go_enter Tryd.func6, Tryd.ntmps6
  go_wp2_with fail
  refine (szCommandS_a _ n 1048576 E _ (unhide HA) hm (unhide HO) (by omega)).mono ?_
  rintro en w1 ⟨r, rfl, hr, hb1⟩
  rcases hr with hr | ⟨hr, hn⟩
  · go_wp2
    go_ret
    exact ⟨rfl, hb1⟩
  · have hn2 : n ≤ 2000000 := by omega
    go_wp2_with fail
    refine (toCommandS_a _ n E _ ((unhide HA).below hb1) hn2).mono ?_
    rintro en w2 ⟨rfl, hr2, hb2⟩
    have g2 : Below w.heap.size w w2 := hb1.trans (hb2.mono hb1.size)
    have HR2 := hide hr2
    clear hr2
    go_wp2_with fail
    refine ((unhide HS) _ _ (unhide HR2).arg hn2).mono ?_
    rintro en w3 ⟨rfl, hb3⟩
    have g3 : Below w.heap.size w w3 := g2.trans (hb3.mono g2.size)
    go_wp2_with fail
    refine (toCommandS_a _ n E _ ((unhide HA).below g3) hn2).mono ?_
    rintro en w4 ⟨rfl, hr4, hb4⟩
    have g4 : Below w.heap.size w w4 := g3.trans (hb4.mono g3.size)
    have HR4 := hide hr4
    clear hr4
    go_wp2_with fail
    refine ((unhide HI) _ _ (unhide HR4).arg hn2 ((unhide HT).below g4)).mono ?_
    rintro en w5 ⟨rfl, hb5⟩
    have g5 : Below w.heap.size w w5 := g4.trans (hb5.mono g4.size)
    have HR5 := hide ((unhide HR4).below hb5)
    go_wp2_with fail
    refine (toCommandS_a _ n E _ ((unhide HA).below g5) hn2).mono ?_
    rintro en w6 ⟨rfl, hr6, hb6⟩
    have g6 : Below w.heap.size w w6 := g5.trans (hb6.mono g5.size)
    have HR6 := hide hr6
    have HR56 := hide ((unhide HR5).below hb6)
    clear hr6
    go_wp2_with fail
    refine (eqCommandS_a _ _ n n n E _ hn2 (unhide HR56) (unhide HR6)).mono ?_
    rintro en w7 ⟨rfl, hb7⟩
    go_wp2
    go_ret
    exact ⟨rfl, g6.trans (hb7.mono g6.size)⟩
end Go.Proofs.YtdffleonelapfaaDoor
