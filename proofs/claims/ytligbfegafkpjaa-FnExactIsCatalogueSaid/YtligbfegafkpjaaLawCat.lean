/-
  The law of IsCatalogue.
-/
import Derived.Test.YtligbfegafkpjaaCat
import Derived.Test.YtligbfegafkpjaaToE
namespace Go.Proofs.Ytligbfegafkpjaa
open Go.RowKit
set_option linter.unusedVariables false
set_option linter.unusedSimpArgs false
attribute [local go_sem] q2 q3 q4 q5 q6 q7 q8 q9 q10 q11 q12

theorem implIsCatalogue (v : Value) (n : Nat) (E : Nat → Ent) (w : World) (h : ArgE w v n E) (hn : n ≤ 2000000) (ho : ∀ i, i < n → EntOk (E i)) :
    Calls Try.prog 20 #[v] w fun e w' => e = .returned (.bool (ctB E n)) ∧ Below w.heap.size w w' := by
  have HA := hide h
  have HO := hide ho
  obtain ⟨a, c, rfl⟩ := h.len
  clear h ho
  go_enter Try.func20, Try.ntmps20
  go_wp2_with (go_at_call 42; refine (isCatalogue_a (.slice a n c) n E _ (unhide HA) hn (unhide HO)).mono ?_; rintro e w1 ⟨rfl, hb⟩)
  go_ret
  exact ⟨rfl, byGG⟩

theorem specIsCatalogue (v : Value) (n : Nat) (E : Nat → Ent) (w : World) (h : ArgE w v n E) (hn : n ≤ 2000000) (ho : ∀ i, i < n → EntOk (E i)) :
    Calls Try.prog 18 #[v] w fun e w' => e = .returned (.bool (ctB E n)) ∧ Below w.heap.size w w' := by
  have HA := hide h
  have HO := hide ho
  obtain ⟨a, c, rfl⟩ := h.len
  clear h ho
  go_enter Try.func18, Try.ntmps18
  go_wp2_with (go_at_call 40; refine (lgGood_a (.slice a n c) n E _ (unhide HA) hn (unhide HO)).mono ?_; rintro e w1 ⟨rfl, hb⟩)
  go_ret
  exact ⟨rfl, byGG⟩

set_option maxRecDepth 100000 in
set_option maxHeartbeats 2000000 in
theorem lawIsCatalogue (v : Value) (n : Nat) (E : Nat → Ent) (w : World) (h : ArgE w v n E) (hm : n ≤ 9223372036854775807) (ho : ∀ i, i < n → EntOk (E i)) :
    Calls Try.prog 5 #[v] w fun e w' => e = .returned (.bool true) ∧ Below w.heap.size w w' := by
  have HA := hide h
  have HO := hide ho
  obtain ⟨a, c, rfl⟩ := h.len
  clear h ho
  go_enter Try.func5, Try.ntmps5
  go_wp2_with fail
  refine (szEntryS_a _ n 1048576 E _ (unhide HA) hm (unhide HO) (by omega)).mono ?_
  rintro en w1 ⟨r, rfl, hr, hb1⟩
  rcases hr with hr | ⟨hr, hn⟩
  · go_wp2
    go_ret
    exact ⟨rfl, hb1⟩
  · have hn2 : n ≤ 2000000 := by omega
    have g1 := hb1
    go_wp2_with fail
    refine (toEntryS_a _ n E _ ((unhide HA).below g1) hn2).mono ?_
    rintro en w2 ⟨rfl, hr2, hb2⟩
    have g2 : Below w.heap.size w w2 := g1.trans (hb2.mono g1.size)
    have HR2 := hide hr2
    clear hr2
    go_wp2_with fail
    refine (specIsCatalogue _ n E _ (unhide HR2).arg hn2 (unhide HO)).mono ?_
    rintro en w3 ⟨rfl, hb3⟩
    have g3 : Below w.heap.size w w3 := g2.trans (hb3.mono g2.size)
    clear HR2
    go_wp2_with fail
    refine (toEntryS_a _ n E _ ((unhide HA).below g3) hn2).mono ?_
    rintro en w4 ⟨rfl, hr4, hb4⟩
    have g4 : Below w.heap.size w w4 := g3.trans (hb4.mono g3.size)
    have HR4 := hide hr4
    clear hr4
    go_wp2_with fail
    refine (implIsCatalogue _ n E _ (unhide HR4).arg hn2 (unhide HO)).mono ?_
    rintro en w5 ⟨rfl, hb5⟩
    have g5 : Below w.heap.size w w5 := g4.trans (hb5.mono g4.size)
    have HR5 := hide ((unhide HR4).below hb5)
    go_wp2_with fail
    refine (toEntryS_a _ n E _ ((unhide HA).below g5) hn2).mono ?_
    rintro en w6 ⟨rfl, hr6, hb6⟩
    have g6 : Below w.heap.size w w6 := g5.trans (hb6.mono g5.size)
    have HR6 := hide hr6
    have HR7 := hide ((unhide HR5).below hb6)
    clear hr6
    go_wp2_with fail
    refine (eqEntryS_a _ _ n n n E _ hn2 (unhide HR7) (unhide HR6)).mono ?_
    rintro en w7 ⟨rfl, hb7⟩
    go_wp2
    go_ret
    exact ⟨rfl, g6.trans (hb7.mono g6.size)⟩
end Go.Proofs.Ytligbfegafkpjaa
