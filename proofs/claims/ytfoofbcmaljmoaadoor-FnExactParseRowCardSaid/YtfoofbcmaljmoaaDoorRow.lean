/-
  Rows on both sides.
-/
import Derived.Test.YtfoofbcmaljmoaaDoorCha
import Derived.Test.YtfoofbcmaljmoaaDoorLevel
namespace Go.Proofs.YtfoofbcmaljmoaaDoor
open Go.RowKit
set_option linter.unusedVariables false
set_option linter.unusedSimpArgs false
attribute [local go_sem] q2 q3 q4 q5 q6 q7 q8 q9 q10 q11 q12

structure RowV where
  d : Int
  num : Int
  ge : Int
  ex : Int
structure RowOk (r : RowV) : Prop where
  d : I64 r.d
  num : I64 r.num
  ge : I64 r.ge
  ex : I64 r.ex
abbrev rwv (r : RowV) (v : Value) : Value := .agg #[.int .i64 r.d, .int .i64 r.num, v, .int .i64 r.ge, .int .i64 r.ex]
def rwB (r : RowV) (n : Nat) (z : Nat → Int) : Bool := chB z n && (negB r.d && (decide (cprV z n = r.num) && (inB r.ge 1 1000 && inB r.ex 1 1000)))

theorem within_a (x : Int) (w : World) : Calls Tryd.prog 32 #[.int .i64 x] w fun e w' => e = .returned (.bool (inB x 1 1000)) ∧ w = w' := by
  by_cases q1 : 1 ≤ x
  · by_cases q2 : x ≤ 1000
    · have HV : Hid (inB x 1 1000 = true) := hide (by unfold inB; simp; omega)
      go_enter Tryd.func32, Tryd.ntmps32
      go_wp2
      go_ret
      exact ⟨by rw [unhide HV]; rfl, rfl⟩
    · have HV : Hid (inB x 1 1000 = false) := hide (by unfold inB; simp; omega)
      go_enter Tryd.func32, Tryd.ntmps32
      go_wp2
      go_ret
      exact ⟨by rw [unhide HV]; rfl, rfl⟩
  · have HV : Hid (inB x 1 1000 = false) := hide (by unfold inB; simp; omega)
    go_enter Tryd.func32, Tryd.ntmps32
    go_wp2
    go_ret
    exact ⟨by rw [unhide HV]; rfl, rfl⟩

set_option maxRecDepth 100000 in
set_option maxHeartbeats 4000000 in
theorem isRow_a (r : RowV) (v : Value) (n : Nat) (z : Nat → Int) (w : World) (h : ArgI w v n z) (hn : n ≤ 2000000) (hr : RowOk r) :
    Calls Tryd.prog 16 #[rwv r v] w fun e w' => e = .returned (.bool (rwB r n z)) ∧ Below w.heap.size w w' := by
  obtain ⟨d, num, ge, ex⟩ := r
  obtain ⟨i0, i1, i2, i3⟩ := hr
  have HA : Hid (ArgI (w.alloc (.cells #[.int .i64 d, .int .i64 num, v, .int .i64 ge, .int .i64 ex] 24)) v n z) := hide (h.below (below_alloc_self _ _))
  clear h
  cases kb : chB z n
  · have HV : Hid (rwB ⟨d, num, ge, ex⟩ n z = false) := hide (by unfold rwB; rw [kb]; rfl)
    go_enter Tryd.func16, Tryd.ntmps16
    go_wp2_with (first | (go_at_call 31; refine (isChain_a v n z _ (unhide HA) hn).mono ?_; rintro e w' ⟨rfl, rfl⟩) | (go_at_call 33; refine (isNegativeDisc_a _ _).mono ?_; rintro e w' ⟨rfl, rfl⟩) | (go_at_call 32; refine (within_a _ _).mono ?_; rintro e w' ⟨rfl, rfl⟩))
    all_goals (go_ret; exact ⟨by rw [unhide HV]; first | done | rfl | (simp [*]; done), byGG⟩)
  · cases kd : negB d
    · have HV : Hid (rwB ⟨d, num, ge, ex⟩ n z = false) := hide (by simp [rwB, kd])
      go_enter Tryd.func16, Tryd.ntmps16
      go_wp2_with (first | (go_at_call 31; refine (isChain_a v n z _ (unhide HA) hn).mono ?_; rintro e w' ⟨rfl, rfl⟩) | (go_at_call 33; refine (isNegativeDisc_a _ _).mono ?_; rintro e w' ⟨rfl, rfl⟩) | (go_at_call 32; refine (within_a _ _).mono ?_; rintro e w' ⟨rfl, rfl⟩))
      all_goals (go_ret; exact ⟨by rw [unhide HV]; first | done | rfl | (simp [*]; done), byGG⟩)
    · by_cases ke : cprV z n = num
      · have ke' : num = cprV z n := ke.symm
        have HV0 : Hid (rwB ⟨d, num, ge, ex⟩ n z = (inB ge 1 1000 && inB ex 1 1000)) := hide (by simp [rwB, kb, kd, ke])
        subst ke
        clear ke'
        cases kg : inB ge 1 1000
        · have HV : Hid (rwB ⟨d, cprV z n, ge, ex⟩ n z = false) := hide (by rw [unhide HV0, kg]; rfl)
          go_enter Tryd.func16, Tryd.ntmps16
          go_wp2_with (first | (go_at_call 31; refine (isChain_a v n z _ (unhide HA) hn).mono ?_; rintro e w' ⟨rfl, rfl⟩) | (go_at_call 33; refine (isNegativeDisc_a _ _).mono ?_; rintro e w' ⟨rfl, rfl⟩) | (go_at_call 32; refine (within_a _ _).mono ?_; rintro e w' ⟨rfl, rfl⟩))
          all_goals (go_ret; exact ⟨by rw [unhide HV]; first | done | rfl | (simp [*]; done), byGG⟩)
        · cases kx : inB ex 1 1000
          · have HV : Hid (rwB ⟨d, cprV z n, ge, ex⟩ n z = false) := hide (by rw [unhide HV0, kx]; simp)
            go_enter Tryd.func16, Tryd.ntmps16
            go_wp2_with (first | (go_at_call 31; refine (isChain_a v n z _ (unhide HA) hn).mono ?_; rintro e w' ⟨rfl, rfl⟩) | (go_at_call 33; refine (isNegativeDisc_a _ _).mono ?_; rintro e w' ⟨rfl, rfl⟩) | (go_at_call 32; refine (within_a _ _).mono ?_; rintro e w' ⟨rfl, rfl⟩))
            all_goals (go_ret; exact ⟨by rw [unhide HV]; first | done | rfl | (simp [*]; done), byGG⟩)
          · have HV : Hid (rwB ⟨d, cprV z n, ge, ex⟩ n z = true) := hide (by rw [unhide HV0, kg, kx]; rfl)
            go_enter Tryd.func16, Tryd.ntmps16
            go_wp2_with (first | (go_at_call 31; refine (isChain_a v n z _ (unhide HA) hn).mono ?_; rintro e w' ⟨rfl, rfl⟩) | (go_at_call 33; refine (isNegativeDisc_a _ _).mono ?_; rintro e w' ⟨rfl, rfl⟩) | (go_at_call 32; refine (within_a _ _).mono ?_; rintro e w' ⟨rfl, rfl⟩))
            all_goals (go_ret; exact ⟨by rw [unhide HV]; first | done | rfl | (simp [*]; done), byGG⟩)
      · have ke' : ¬ num = cprV z n := fun e => ke e.symm
        have HV : Hid (rwB ⟨d, num, ge, ex⟩ n z = false) := hide (by simp [rwB, ke])
        go_enter Tryd.func16, Tryd.ntmps16
        go_wp2_with (first | (go_at_call 31; refine (isChain_a v n z _ (unhide HA) hn).mono ?_; rintro e w' ⟨rfl, rfl⟩) | (go_at_call 33; refine (isNegativeDisc_a _ _).mono ?_; rintro e w' ⟨rfl, rfl⟩) | (go_at_call 32; refine (within_a _ _).mono ?_; rintro e w' ⟨rfl, rfl⟩))
        all_goals (go_ret; exact ⟨by rw [unhide HV]; first | done | rfl | (simp [*]; done), byGG⟩)

set_option maxRecDepth 100000 in
set_option maxHeartbeats 4000000 in
theorem tbGood_a (r : RowV) (v : Value) (n : Nat) (z : Nat → Int) (w : World) (h : ArgI w v n z) (hn : n ≤ 2000000) (hr : RowOk r) :
    Calls Tryd.prog 12 #[rwv r v] w fun e w' => e = .returned (.bool (rwB r n z)) ∧ Below w.heap.size w w' := by
  obtain ⟨d, num, ge, ex⟩ := r
  obtain ⟨i0, i1, i2, i3⟩ := hr
  have HA : Hid (ArgI (w.alloc (.cells #[.int .i64 d, .int .i64 num, v, .int .i64 ge, .int .i64 ex] 24)) v n z) := hide (h.below (below_alloc_self _ _))
  clear h
  cases kb : chB z n
  · have HV : Hid (rwB ⟨d, num, ge, ex⟩ n z = false) := hide (by unfold rwB; rw [kb]; rfl)
    go_enter Tryd.func12, Tryd.ntmps12
    go_wp2_with (first | (go_at_call 23; refine (tbFactors_a v n z _ (unhide HA) hn).mono ?_; rintro e w' ⟨rfl, rfl⟩) | (go_at_call 24; refine (reDisc_a _ _).mono ?_; rintro e w' ⟨rfl, rfl⟩) | (go_at_call 22; refine (l1In_any _ _ _ _).mono ?_; rintro e w' ⟨rfl, rfl⟩))
    all_goals (go_ret; exact ⟨by rw [unhide HV]; first | done | rfl | (simp [*]; done), byGG⟩)
  · cases kd : negB d
    · have HV : Hid (rwB ⟨d, num, ge, ex⟩ n z = false) := hide (by simp [rwB, kd])
      go_enter Tryd.func12, Tryd.ntmps12
      go_wp2_with (first | (go_at_call 23; refine (tbFactors_a v n z _ (unhide HA) hn).mono ?_; rintro e w' ⟨rfl, rfl⟩) | (go_at_call 24; refine (reDisc_a _ _).mono ?_; rintro e w' ⟨rfl, rfl⟩) | (go_at_call 22; refine (l1In_any _ _ _ _).mono ?_; rintro e w' ⟨rfl, rfl⟩))
      all_goals (go_ret; exact ⟨by rw [unhide HV]; first | done | rfl | (simp [*]; done), byGG⟩)
    · by_cases ke : cprV z n = num
      · have ke' : num = cprV z n := ke.symm
        have HV0 : Hid (rwB ⟨d, num, ge, ex⟩ n z = (inB ge 1 1000 && inB ex 1 1000)) := hide (by simp [rwB, kb, kd, ke])
        subst ke
        clear ke'
        cases kg : inB ge 1 1000
        · have HV : Hid (rwB ⟨d, cprV z n, ge, ex⟩ n z = false) := hide (by rw [unhide HV0, kg]; rfl)
          go_enter Tryd.func12, Tryd.ntmps12
          go_wp2_with (first | (go_at_call 23; refine (tbFactors_a v n z _ (unhide HA) hn).mono ?_; rintro e w' ⟨rfl, rfl⟩) | (go_at_call 24; refine (reDisc_a _ _).mono ?_; rintro e w' ⟨rfl, rfl⟩) | (go_at_call 22; refine (l1In_any _ _ _ _).mono ?_; rintro e w' ⟨rfl, rfl⟩))
          all_goals (go_ret; exact ⟨by rw [unhide HV]; first | done | rfl | (simp [*]; done), byGG⟩)
        · cases kx : inB ex 1 1000
          · have HV : Hid (rwB ⟨d, cprV z n, ge, ex⟩ n z = false) := hide (by rw [unhide HV0, kx]; simp)
            go_enter Tryd.func12, Tryd.ntmps12
            go_wp2_with (first | (go_at_call 23; refine (tbFactors_a v n z _ (unhide HA) hn).mono ?_; rintro e w' ⟨rfl, rfl⟩) | (go_at_call 24; refine (reDisc_a _ _).mono ?_; rintro e w' ⟨rfl, rfl⟩) | (go_at_call 22; refine (l1In_any _ _ _ _).mono ?_; rintro e w' ⟨rfl, rfl⟩))
            all_goals (go_ret; exact ⟨by rw [unhide HV]; first | done | rfl | (simp [*]; done), byGG⟩)
          · have HV : Hid (rwB ⟨d, cprV z n, ge, ex⟩ n z = true) := hide (by rw [unhide HV0, kg, kx]; rfl)
            go_enter Tryd.func12, Tryd.ntmps12
            go_wp2_with (first | (go_at_call 23; refine (tbFactors_a v n z _ (unhide HA) hn).mono ?_; rintro e w' ⟨rfl, rfl⟩) | (go_at_call 24; refine (reDisc_a _ _).mono ?_; rintro e w' ⟨rfl, rfl⟩) | (go_at_call 22; refine (l1In_any _ _ _ _).mono ?_; rintro e w' ⟨rfl, rfl⟩))
            all_goals (go_ret; exact ⟨by rw [unhide HV]; first | done | rfl | (simp [*]; done), byGG⟩)
      · have ke' : ¬ num = cprV z n := fun e => ke e.symm
        have HV : Hid (rwB ⟨d, num, ge, ex⟩ n z = false) := hide (by simp [rwB, ke])
        go_enter Tryd.func12, Tryd.ntmps12
        go_wp2_with (first | (go_at_call 23; refine (tbFactors_a v n z _ (unhide HA) hn).mono ?_; rintro e w' ⟨rfl, rfl⟩) | (go_at_call 24; refine (reDisc_a _ _).mono ?_; rintro e w' ⟨rfl, rfl⟩) | (go_at_call 22; refine (l1In_any _ _ _ _).mono ?_; rintro e w' ⟨rfl, rfl⟩))
        all_goals (go_ret; exact ⟨by rw [unhide HV]; first | done | rfl | (simp [*]; done), byGG⟩)

end Go.Proofs.YtfoofbcmaljmoaaDoor
