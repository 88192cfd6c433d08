/-
  Check numbers and records on both sides.
-/
import Derived.Test.YtdffleonelapfaaDoorCte
namespace Go.Proofs.YtdffleonelapfaaDoor
open Go.RowKit
set_option linter.unusedVariables false
set_option linter.unusedSimpArgs false
attribute [local go_sem] q2 q3 q4 q5 q6 q7 q8 q9 q10 q11 q12

def ckN (l : List UInt8) (b : Int) : Int := l.foldl (fun b c => (31 * b + (c.toNat : Int) + 1) % 9973) b
theorem ck_bd (l : List UInt8) : ∀ (b : Int), 0 ≤ b ∧ b ≤ 9972 → 0 ≤ ckN l b ∧ ckN l b ≤ 9972 := by
  induction l with
  | nil => exact fun b h => h
  | cons c l ih => exact fun b h => ih ((31 * b + (c.toNat : Int) + 1) % 9973) (by constructor <;> omega)
theorem ck_next {s : ByteArray} {k : Nat} (h : k < s.size) (b : Int) : ckN (s.data.toList.take (k + 1)) b = (31 * ckN (s.data.toList.take k) b + (s[k].toNat : Int) + 1) % 9973 := by
  rw [low_snoc s k h]
  unfold ckN
  rw [List.foldl_append]; rfl
theorem ck_end (s : ByteArray) (b : Int) : ckN (s.data.toList.take s.size) b = ckN s.data.toList b := by
  have e : s.data.toList.take s.size = s.data.toList := List.take_of_length_le (Nat.le_of_eq Array.length_toList)
  rw [e]
def rcT (c : Cmd) (b : Int) : List UInt8 := cmT c ++ [35] ++ Lib.itoa (ckN (cmT c) b) ++ [10]
def rcB (c : Cmd) (b : Int) : Bool := cmB c && inB b 0 9972
def rcL (c : Cmd) (b : Int) : List UInt8 := if rcB c b then rcT c b else []

set_option maxRecDepth 100000 in
set_option maxHeartbeats 1000000 in
theorem checkNumber_a (s : ByteArray) (b : Int) (w : World) (hs : s.size ≤ 9223372036854775807) (hb : 0 ≤ b ∧ b ≤ 9972) :
    Calls Tryd.prog 60 #[.string s, .int .i64 b] w fun e w' => e = .returned (.int .i64 (ckN s.data.toList b)) ∧ w = w' := by
  go_enter Tryd.func60, Tryd.ntmps60
  go_wp2
  go_loop [1, 5] (fun bs i => ∃ (k : Nat) (x : Int), k ≤ s.size ∧ i = .int .i64 (k : Int) ∧ bs = .int .i64 x ∧ 0 ≤ x ∧ x ≤ 9972 ∧ Hid (ckN (s.data.toList.take k) b = x)) (fun _ i => s.size - (intOf i).toNat)
  case atStart => exact ⟨0, b, Nat.zero_le _, rfl, rfl, hb.1, hb.2, hide rfl⟩
  case round =>
    obtain ⟨k, x, hk, rfl, rfl, x0, x1, hx⟩ := hrel
    by_cases hlt : k < s.size
    · have hlt2 : (k : Int) < (s.size : Int) := by omega
      have HN := hide ((ck_next hlt b).trans (by rw [unhide hx]))
      have hu : (s[k].toNat : Int) < 256 := by have := s[k].toNat_lt; omega
      have hM : Int.tmod (31 * x + (s[k].toNat : Int) + 1) 9973 = (31 * x + (s[k].toNat : Int) + 1) % 9973 := Int.tmod_eq_emod_of_nonneg (by omega)
      go_wp2
      go_round
      case rel => exact ⟨k + 1, (31 * x + (s[k].toNat : Int) + 1) % 9973, by omega, by first | rfl | go_num, rfl, by omega, by omega, HN⟩
      case measure => simp [intOf]; omega
    · obtain rfl : k = s.size := by omega
      have HV := hide ((ck_end s b).symm.trans (unhide hx))
      go_wp2
      go_ret
      exact ⟨by rw [unhide HV]; rfl, rfl⟩

set_option maxRecDepth 100000 in
set_option maxHeartbeats 1000000 in
theorem lgCheck_a (s : ByteArray) (b : Int) (w : World) (hs : s.size ≤ 9223372036854775807) (hb : 0 ≤ b ∧ b ≤ 9972) :
    Calls Tryd.prog 59 #[.string s, .int .i64 b] w fun e w' => e = .returned (.int .i64 (ckN s.data.toList b)) ∧ w = w' := by
  go_enter Tryd.func59, Tryd.ntmps59
  go_wp2
  go_loop [1, 5] (fun bs i => ∃ (k : Nat) (x : Int), k ≤ s.size ∧ i = .int .i64 (k : Int) ∧ bs = .int .i64 x ∧ 0 ≤ x ∧ x ≤ 9972 ∧ Hid (ckN (s.data.toList.take k) b = x)) (fun _ i => s.size - (intOf i).toNat)
  case atStart => exact ⟨0, b, Nat.zero_le _, rfl, rfl, hb.1, hb.2, hide rfl⟩
  case round =>
    obtain ⟨k, x, hk, rfl, rfl, x0, x1, hx⟩ := hrel
    by_cases hlt : k < s.size
    · have hlt2 : (k : Int) < (s.size : Int) := by omega
      have HN := hide ((ck_next hlt b).trans (by rw [unhide hx]))
      have hu : (s[k].toNat : Int) < 256 := by have := s[k].toNat_lt; omega
      have hM : Int.tmod (31 * x + (s[k].toNat : Int) + 1) 9973 = (31 * x + (s[k].toNat : Int) + 1) % 9973 := Int.tmod_eq_emod_of_nonneg (by omega)
      go_wp2
      go_round
      case rel => exact ⟨k + 1, (31 * x + (s[k].toNat : Int) + 1) % 9973, by omega, by first | rfl | go_num, rfl, by omega, by omega, HN⟩
      case measure => simp [intOf]; omega
    · obtain rfl : k = s.size := by omega
      have HV := hide ((ck_end s b).symm.trans (unhide hx))
      go_wp2
      go_ret
      exact ⟨by rw [unhide HV]; rfl, rfl⟩

set_option maxRecDepth 100000 in
set_option maxHeartbeats 2000000 in
theorem recordText_a (c : Cmd) (b : Int) (w : World) (hv : cmB c = true) (hb : 0 ≤ b ∧ b ≤ 9972) (ht : Tab w) :
    Calls Tryd.prog 37 #[cmv c, .int .i64 b] w fun e w' => e = .returned (.tuple #[.string (tx (rcT c b)), .int .i64 (ckN (cmT c) b)]) ∧ Below w.heap.size w w' := by
  have HV := hide hv
  have HT := hide ht
  have lt_ := cmT_len hv
  have hbd := ck_bd (cmT c) b hb
  clear hv ht
  obtain ⟨T, hT⟩ : ∃ l, cmT c = l := ⟨_, rfl⟩
  obtain ⟨q, hq⟩ : ∃ q, ckN T b = q := ⟨_, rfl⟩
  obtain ⟨N, hN⟩ : ∃ l, Lib.itoa q = l := ⟨_, rfl⟩
  rw [hT] at lt_ hbd
  rw [hq] at hbd
  have lN := itoa_len (x := q) ⟨by omega, by omega⟩
  rw [hN] at lN
  have HE : Hid (tx (rcT c b) = tx T ++ tx [35] ++ tx N ++ tx [10]) := hide (by simp only [tx_app]; unfold rcT; rw [hT, hq, hN])
  have HQ : Hid (ckN (cmT c) b = q) := hide (by rw [hT]; exact hq)
  have HC : ∀ W, Calls Tryd.prog 60 #[.string (tx T), .int .i64 b] W fun e w' => e = .returned (.int .i64 q) ∧ W = w' := fun W => by
    have := checkNumber_a (tx T) b W (by rw [tx_size]; omega) hb
    rw [tx_list, hq] at this
    exact this
  have HC2 := hide HC
  have HN := hide hN
  have HTT := hide hT
  have s1 : ¬ ((tx T).size + 1 > 9223372036854775807) := by rw [tx_size]; omega
  have s2 : ¬ ((tx T).size + 1 + (tx N).size > 9223372036854775807) := by simp only [tx_size]; omega
  have s3 : ¬ ((tx T).size + 1 + (tx N).size + 1 > 9223372036854775807) := by simp only [tx_size]; omega
  clear HC hN hT hq
  go_enter Tryd.func37, Tryd.ntmps37
  go_wp2_with fail
  refine (commandText_a c _ (unhide HV) ((unhide HT).below byGG)).mono ?_
  rintro en w1 ⟨rfl, hb1⟩
  have hg1 : Below w.heap.size w w1 := byGG
  rw [unhide HTT]
  go_wp2_with fail
  refine ((unhide HC2) _).mono ?_
  rintro en w2 ⟨rfl, rfl⟩
  go_wp2_with fail
  refine (itoa_e q N _ ⟨by omega, by omega⟩ (unhide HN) ((unhide HT).below hg1)).mono ?_
  rintro en w3 ⟨rfl, hb3⟩
  go_wp2
  go_ret2
  exact ⟨by rw [unhide HE, unhide HQ]; rfl, hg1.trans (hb3.mono hg1.size)⟩

set_option maxRecDepth 100000 in
set_option maxHeartbeats 2000000 in
theorem lgRecord_a (c : Cmd) (b : Int) (w : World) (hv : cmB c = true) (hb : 0 ≤ b ∧ b ≤ 9972) :
    Calls Tryd.prog 36 #[cmv c, .int .i64 b] w fun e w' => e = .returned (.string (tx (rcT c b))) ∧ Below w.heap.size w w' := by
  have HV := hide hv
  skip
  have lt_ := cmT_len hv
  have hbd := ck_bd (cmT c) b hb
  clear hv 
  obtain ⟨T, hT⟩ : ∃ l, cmT c = l := ⟨_, rfl⟩
  obtain ⟨q, hq⟩ : ∃ q, ckN T b = q := ⟨_, rfl⟩
  obtain ⟨N, hN⟩ : ∃ l, Lib.itoa q = l := ⟨_, rfl⟩
  rw [hT] at lt_ hbd
  rw [hq] at hbd
  have lN := itoa_len (x := q) ⟨by omega, by omega⟩
  rw [hN] at lN
  have HE : Hid (tx (rcT c b) = tx T ++ tx [35] ++ tx N ++ tx [10]) := hide (by simp only [tx_app]; unfold rcT; rw [hT, hq, hN])
  have HQ : Hid (ckN (cmT c) b = q) := hide (by rw [hT]; exact hq)
  have HC : ∀ W, Calls Tryd.prog 59 #[.string (tx T), .int .i64 b] W fun e w' => e = .returned (.int .i64 q) ∧ W = w' := fun W => by
    have := lgCheck_a (tx T) b W (by rw [tx_size]; omega) hb
    rw [tx_list, hq] at this
    exact this
  have HC2 := hide HC
  have HN := hide hN
  have HTT := hide hT
  have s1 : ¬ ((tx T).size + 1 > 9223372036854775807) := by rw [tx_size]; omega
  have s2 : ¬ ((tx T).size + 1 + (tx N).size > 9223372036854775807) := by simp only [tx_size]; omega
  have s3 : ¬ ((tx T).size + 1 + (tx N).size + 1 > 9223372036854775807) := by simp only [tx_size]; omega
  clear HC hN hT hq
  go_enter Tryd.func36, Tryd.ntmps36
  go_wp2_with fail
  refine (lgText_a c _ (unhide HV)).mono ?_
  rintro en w1 ⟨rfl, hb1⟩
  have hg1 : Below w.heap.size w w1 := byGG
  rw [unhide HTT]
  go_wp2_with fail
  refine ((unhide HC2) _).mono ?_
  rintro en w2 ⟨rfl, rfl⟩
  go_wp2_with fail
  refine (l1Num_e q N _ (by omega) (by omega) (unhide HN)).mono ?_
  rintro en w3 ⟨rfl, hb3⟩
  go_wp2
  go_ret
  exact ⟨by rw [unhide HE]; rfl, hg1.trans (hb3.mono hg1.size)⟩

set_option maxRecDepth 100000 in
set_option maxHeartbeats 2000000 in
theorem implRecordText (c : Cmd) (b : Int) (w : World) (hc : CmdOk c) (hb64 : I64 b) (ht : Tab w) : Calls Tryd.prog 17 #[cmv c, .int .i64 b] w fun e w' => e = .returned (.tuple #[.string (tx (rcL c b)), .bool (rcB c b)]) ∧ Below w.heap.size w w' := by
  have HC := hide hc
  have HT := hide ht
  clear hc ht
  cases k : cmB c
  · have HB : Hid (rcB c b = false) := hide (by simp [rcB, k])
    have HL : Hid (rcL c b = []) := hide (by simp [rcL, unhide HB])
    have HK := hide k
    clear k
    go_enter Tryd.func17, Tryd.ntmps17
    go_wp2_with fail
    refine (isCommand_a c _ (unhide HC)).mono ?_
    rintro en w1 ⟨rfl, hb1⟩
    have hcs9 := cells_calls hb1 [⟨w.heap.size, 0, none⟩, ⟨w.heap.size, 1, none⟩, ⟨w.heap.size, 2, none⟩, ⟨w.heap.size, 3, none⟩, ⟨w.heap.size, 4, none⟩, ⟨w.heap.size, 5, none⟩, ⟨w.heap.size, 6, none⟩] [.int .i64 (c.k), .string c.n, .string c.a, .string c.b, .int .i64 c.f.1, .int .i64 c.f.2.1, .int .i64 c.f.2.2] (by refine ⟨?_, ?_, ?_, ?_, ?_, ?_, ?_, trivial⟩ <;> exact byCT)
    have hzs9 := blocks_calls hb1 [w.heap.size] (by refine ⟨?_, trivial⟩ <;> first | with_reducible assumption | omega | (simp; omega) | (simp; done))
    try clear c00 c01 c02 c03 c04 c05 c06
    obtain ⟨c00, c01, c02, c03, c04, c05, c06, -⟩ := hcs9
    obtain ⟨z0, -⟩ := hzs9
    have hs1 := hb1.size
    rw [unhide HK]
    have hg1 : Below w.heap.size w w1 := byGG
    go_wp2
    go_ret2
    exact ⟨by rw [unhide HL, unhide HB]; rfl, hg1⟩
  · cases ki : inB b 0 9972
    · have HB : Hid (rcB c b = false) := hide (by simp [rcB, ki])
      have HL : Hid (rcL c b = []) := hide (by simp [rcL, unhide HB])
      have HK := hide k
      have HI := hide ki
      have hbb : b < 0 ∨ 9972 < b := by unfold inB at ki; simp at ki; omega
      clear k ki
      rcases hbb with hbb | hbb
      all_goals
        go_enter Tryd.func17, Tryd.ntmps17
        go_wp2_with fail
        refine (isCommand_a c _ (unhide HC)).mono ?_
        rintro en w1 ⟨rfl, hb1⟩
        have hcs9 := cells_calls hb1 [⟨w.heap.size, 0, none⟩, ⟨w.heap.size, 1, none⟩, ⟨w.heap.size, 2, none⟩, ⟨w.heap.size, 3, none⟩, ⟨w.heap.size, 4, none⟩, ⟨w.heap.size, 5, none⟩, ⟨w.heap.size, 6, none⟩] [.int .i64 (c.k), .string c.n, .string c.a, .string c.b, .int .i64 c.f.1, .int .i64 c.f.2.1, .int .i64 c.f.2.2] (by refine ⟨?_, ?_, ?_, ?_, ?_, ?_, ?_, trivial⟩ <;> exact byCT)
        have hzs9 := blocks_calls hb1 [w.heap.size] (by refine ⟨?_, trivial⟩ <;> first | with_reducible assumption | omega | (simp; omega) | (simp; done))
        try clear c00 c01 c02 c03 c04 c05 c06
        obtain ⟨c00, c01, c02, c03, c04, c05, c06, -⟩ := hcs9
        obtain ⟨z0, -⟩ := hzs9
        have hs1 := hb1.size
        rw [unhide HK]
        have hg1 : Below w.heap.size w w1 := byGG
        go_wp2
        all_goals first | (exfalso; omega) | (go_ret2; exact ⟨by rw [unhide HL, unhide HB]; rfl, hg1⟩)
    · have HB : Hid (rcB c b = true) := hide (by simp [rcB, ki, k])
      have HL : Hid (rcL c b = rcT c b) := hide (by simp [rcL, unhide HB])
      have HK := hide k
      have HI := hide ki
      obtain ⟨b0, b1⟩ := inB_true ki
      clear k ki
      go_enter Tryd.func17, Tryd.ntmps17
      go_wp2_with fail
      refine (isCommand_a c _ (unhide HC)).mono ?_
      rintro en w1 ⟨rfl, hb1⟩
      have hcs9 := cells_calls hb1 [⟨w.heap.size, 0, none⟩, ⟨w.heap.size, 1, none⟩, ⟨w.heap.size, 2, none⟩, ⟨w.heap.size, 3, none⟩, ⟨w.heap.size, 4, none⟩, ⟨w.heap.size, 5, none⟩, ⟨w.heap.size, 6, none⟩] [.int .i64 (c.k), .string c.n, .string c.a, .string c.b, .int .i64 c.f.1, .int .i64 c.f.2.1, .int .i64 c.f.2.2] (by refine ⟨?_, ?_, ?_, ?_, ?_, ?_, ?_, trivial⟩ <;> exact byCT)
      have hzs9 := blocks_calls hb1 [w.heap.size] (by refine ⟨?_, trivial⟩ <;> first | with_reducible assumption | omega | (simp; omega) | (simp; done))
      try clear c00 c01 c02 c03 c04 c05 c06
      obtain ⟨c00, c01, c02, c03, c04, c05, c06, -⟩ := hcs9
      obtain ⟨z0, -⟩ := hzs9
      have hs1 := hb1.size
      rw [unhide HK]
      have hg1 : Below w.heap.size w w1 := byGG
      go_wp2_with fail
      refine (recordText_a c b _ (unhide HK) ⟨by omega, by omega⟩ ((unhide HT).below hg1)).mono ?_
      rintro en w2 ⟨rfl, hb2⟩
      go_wp2
      go_ret2
      exact ⟨by rw [unhide HL, unhide HB]; rfl, hg1.trans (hb2.mono hg1.size)⟩

set_option maxRecDepth 100000 in
set_option maxHeartbeats 2000000 in
theorem specRecordText (c : Cmd) (b : Int) (w : World) (hc : CmdOk c) (hb64 : I64 b) : Calls Tryd.prog 16 #[cmv c, .int .i64 b] w fun e w' => e = .returned (.tuple #[.string (tx (rcL c b)), .bool (rcB c b)]) ∧ Below w.heap.size w w' := by
  have HC := hide hc
  skip
  clear hc 
  cases k : cmB c
  · have HB : Hid (rcB c b = false) := hide (by simp [rcB, k])
    have HL : Hid (rcL c b = []) := hide (by simp [rcL, unhide HB])
    have HK := hide k
    clear k
    go_enter Tryd.func16, Tryd.ntmps16
    go_wp2_with fail
    refine (lgCommand_a c _ (unhide HC)).mono ?_
    rintro en w1 ⟨rfl, hb1⟩
    have hcs9 := cells_calls hb1 [⟨w.heap.size, 0, none⟩, ⟨w.heap.size, 1, none⟩, ⟨w.heap.size, 2, none⟩, ⟨w.heap.size, 3, none⟩, ⟨w.heap.size, 4, none⟩, ⟨w.heap.size, 5, none⟩, ⟨w.heap.size, 6, none⟩] [.int .i64 (c.k), .string c.n, .string c.a, .string c.b, .int .i64 c.f.1, .int .i64 c.f.2.1, .int .i64 c.f.2.2] (by refine ⟨?_, ?_, ?_, ?_, ?_, ?_, ?_, trivial⟩ <;> exact byCT)
    have hzs9 := blocks_calls hb1 [w.heap.size] (by refine ⟨?_, trivial⟩ <;> first | with_reducible assumption | omega | (simp; omega) | (simp; done))
    try clear c00 c01 c02 c03 c04 c05 c06
    obtain ⟨c00, c01, c02, c03, c04, c05, c06, -⟩ := hcs9
    obtain ⟨z0, -⟩ := hzs9
    have hs1 := hb1.size
    rw [unhide HK]
    have hg1 : Below w.heap.size w w1 := byGG
    go_wp2
    go_ret2
    exact ⟨by rw [unhide HL, unhide HB]; rfl, hg1⟩
  · cases ki : inB b 0 9972
    · have HB : Hid (rcB c b = false) := hide (by simp [rcB, ki])
      have HL : Hid (rcL c b = []) := hide (by simp [rcL, unhide HB])
      have HK := hide k
      have HI := hide ki
      have hbb : b < 0 ∨ 9972 < b := by unfold inB at ki; simp at ki; omega
      clear k ki
      rcases hbb with hbb | hbb
      all_goals
        go_enter Tryd.func16, Tryd.ntmps16
        go_wp2_with fail
        refine (lgCommand_a c _ (unhide HC)).mono ?_
        rintro en w1 ⟨rfl, hb1⟩
        have hcs9 := cells_calls hb1 [⟨w.heap.size, 0, none⟩, ⟨w.heap.size, 1, none⟩, ⟨w.heap.size, 2, none⟩, ⟨w.heap.size, 3, none⟩, ⟨w.heap.size, 4, none⟩, ⟨w.heap.size, 5, none⟩, ⟨w.heap.size, 6, none⟩] [.int .i64 (c.k), .string c.n, .string c.a, .string c.b, .int .i64 c.f.1, .int .i64 c.f.2.1, .int .i64 c.f.2.2] (by refine ⟨?_, ?_, ?_, ?_, ?_, ?_, ?_, trivial⟩ <;> exact byCT)
        have hzs9 := blocks_calls hb1 [w.heap.size] (by refine ⟨?_, trivial⟩ <;> first | with_reducible assumption | omega | (simp; omega) | (simp; done))
        try clear c00 c01 c02 c03 c04 c05 c06
        obtain ⟨c00, c01, c02, c03, c04, c05, c06, -⟩ := hcs9
        obtain ⟨z0, -⟩ := hzs9
        have hs1 := hb1.size
        rw [unhide HK]
        have hg1 : Below w.heap.size w w1 := byGG
        go_wp2_with fail
        refine (l1In_any _ _ _ _).mono ?_
        rintro en w' ⟨rfl, rfl⟩
        rw [unhide HI]
        go_wp2
        all_goals first | (exfalso; omega) | (go_ret2; exact ⟨by rw [unhide HL, unhide HB]; rfl, hg1⟩)
    · have HB : Hid (rcB c b = true) := hide (by simp [rcB, ki, k])
      have HL : Hid (rcL c b = rcT c b) := hide (by simp [rcL, unhide HB])
      have HK := hide k
      have HI := hide ki
      obtain ⟨b0, b1⟩ := inB_true ki
      clear k ki
      go_enter Tryd.func16, Tryd.ntmps16
      go_wp2_with fail
      refine (lgCommand_a c _ (unhide HC)).mono ?_
      rintro en w1 ⟨rfl, hb1⟩
      have hcs9 := cells_calls hb1 [⟨w.heap.size, 0, none⟩, ⟨w.heap.size, 1, none⟩, ⟨w.heap.size, 2, none⟩, ⟨w.heap.size, 3, none⟩, ⟨w.heap.size, 4, none⟩, ⟨w.heap.size, 5, none⟩, ⟨w.heap.size, 6, none⟩] [.int .i64 (c.k), .string c.n, .string c.a, .string c.b, .int .i64 c.f.1, .int .i64 c.f.2.1, .int .i64 c.f.2.2] (by refine ⟨?_, ?_, ?_, ?_, ?_, ?_, ?_, trivial⟩ <;> exact byCT)
      have hzs9 := blocks_calls hb1 [w.heap.size] (by refine ⟨?_, trivial⟩ <;> first | with_reducible assumption | omega | (simp; omega) | (simp; done))
      try clear c00 c01 c02 c03 c04 c05 c06
      obtain ⟨c00, c01, c02, c03, c04, c05, c06, -⟩ := hcs9
      obtain ⟨z0, -⟩ := hzs9
      have hs1 := hb1.size
      rw [unhide HK]
      have hg1 : Below w.heap.size w w1 := byGG
      go_wp2_with fail
      refine (l1In_any _ _ _ _).mono ?_
      rintro en w' ⟨rfl, rfl⟩
      rw [unhide HI]
      go_wp2_with fail
      refine (lgRecord_a c b _ (unhide HK) ⟨by omega, by omega⟩).mono ?_
      rintro en w2 ⟨rfl, hb2⟩
      go_wp2
      go_ret2
      exact ⟨by rw [unhide HL, unhide HB]; rfl, hg1.trans (hb2.mono hg1.size)⟩
end Go.Proofs.YtdffleonelapfaaDoor
