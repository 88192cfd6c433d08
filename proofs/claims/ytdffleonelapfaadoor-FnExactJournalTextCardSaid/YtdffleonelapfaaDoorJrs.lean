/-
  JournalText, the reference's side.
-/
import Derived.Test.YtdffleonelapfaaDoorJrp
namespace Go.Proofs.YtdffleonelapfaaDoor
open Go.RowKit
set_option linter.unusedVariables false
set_option linter.unusedSimpArgs false
attribute [local go_sem] q2 q3 q4 q5 q6 q7 q8 q9 q10 q11 q12

set_option maxRecDepth 100000 in
set_option maxHeartbeats 4000000 in
theorem lgJournal_a (v : Value) (n : Nat) (E : Nat → Cmd) (w : World) (h : ArgC w v n E) (hn : n ≤ 2000000) (ho : ∀ i, i < n → CmdOk (E i)) (hal : alC E n = true) :
    Calls Tryd.prog 38 #[v] w fun e w' => e = .returned (.string (tx (jrP E n).1)) ∧ Below w.heap.size w w' := by
  have HA := hide h
  have HO := hide ho
  have HAL := hide hal
  obtain ⟨a, c, rfl⟩ := h.len
  clear h ho hal
  go_enter Tryd.func38, Tryd.ntmps38
  go_wp2
  go_loopw [3, 4, 9] (fun ss ns is wr => ∃ (ix : Nat), ix ≤ n ∧ is = .int .i64 (ix : Int) ∧ ns = .int .i64 (jrP E ix).2 ∧ ss = .string (tx (jrP E ix).1) ∧ Hid (alC E ix = true) ∧ Below w.heap.size w wr) (fun _ _ is _ => n - (intOf is).toNat)
  case atStart => exact ⟨0, by omega, rfl, rfl, rfl, hide rfl, Below.refl _ _⟩
  case round =>
    obtain ⟨ix, hi, rfl, rfl, rfl, hal, hb⟩ := hrel
    obtain ⟨wl, rfl⟩ : ∃ wl : World, wl = wr := ⟨_, rfl⟩
    have hz := hb.size
    obtain ⟨⟨p0, p1⟩, lp⟩ := jr_bd (unhide hal)
    by_cases q3 : ix < n
    · have hci : (ix : Int) < (n : Int) := by omega
      obtain ⟨b, off, hv, hcs⟩ := ((unhide HA).below hb).cells (by omega)
      obtain ⟨c00, c01, c02, c03, c04, c05, c06⟩ := hcs ix q3
      subst hv
      have eo := unhide HO ix q3
      obtain ⟨x, hx⟩ : ∃ x, E ix = x := ⟨_, rfl⟩
      rw [hx] at c00 c01 c02 c03 c04 c05 c06 eo
      have HE := hide eo
      have HX := hide hx
      clear hx hcs eo
      have HK : Hid (cmB x = true) := hide (by rw [← unhide HX]; exact al_at (unhide HAL) ix q3)
      obtain ⟨P, hP⟩ : ∃ P, jrP E ix = P := ⟨_, rfl⟩
      rw [hP] at p0 p1 lp
      have HP := hide hP
      obtain ⟨PT, q⟩ := P
      simp only [] at p0 p1 lp
      have lr := rc_len (b := q) (unhide HK) ⟨p0, p1⟩
      have lt_ := cmT_len (unhide HK)
      have HN : Hid (jrP E (ix + 1) = (PT ++ rcT x q, ckN (cmT x) q)) := hide (by rw [jrP, unhide HP, unhide HX])
      have HALn : Hid (alC E (ix + 1) = true) := hide (by rw [alC, unhide hal, unhide HX, unhide HK]; rfl)
      have s1 : ¬ ((tx PT).size + (tx (rcT x q)).size > 9223372036854775807) := by simp only [tx_size]; omega
      have HC : Hid (∀ W, Calls Tryd.prog 59 #[.string (tx (cmT x)), .int .i64 q] W fun e w' => e = .returned (.int .i64 (ckN (cmT x) q)) ∧ W = w') := hide (fun W => by
        have := lgCheck_a (tx (cmT x)) q W (by rw [tx_size]; omega) ⟨p0, p1⟩
        rw [tx_list] at this
        exact this)
      go_wp2_with fail
      refine (lgRecord_a x q _ (unhide HK) ⟨p0, p1⟩).mono ?_
      rintro en w1 ⟨rfl, hb1⟩
      have hcs9 := cells_calls hb1 [⟨wl.heap.size, 0, none⟩, ⟨wl.heap.size, 1, none⟩, ⟨wl.heap.size, 2, none⟩, ⟨wl.heap.size, 3, none⟩, ⟨wl.heap.size, 4, none⟩, ⟨wl.heap.size, 5, none⟩, ⟨wl.heap.size, 6, none⟩] [.int .i64 x.k, .string x.n, .string x.a, .string x.b, .int .i64 x.f.1, .int .i64 x.f.2.1, .int .i64 x.f.2.2] (by refine ⟨?_, ?_, ?_, ?_, ?_, ?_, ?_, trivial⟩ <;> exact byCT)
      have hzs9 := blocks_calls hb1 [wl.heap.size] (by refine ⟨?_, trivial⟩ <;> first | with_reducible assumption | omega | (simp; omega) | (simp; done))
      try clear c00 c01 c02 c03 c04 c05 c06
      obtain ⟨c00, c01, c02, c03, c04, c05, c06, -⟩ := hcs9
      obtain ⟨z0, -⟩ := hzs9
      have hs1 := hb1.size
      go_wp2_with fail
      refine (lgText_a x _ (unhide HK)).mono ?_
      rintro en w2 ⟨rfl, hb2⟩
      have hcs9 := cells_calls hb2 [⟨wl.heap.size, 0, none⟩, ⟨wl.heap.size, 1, none⟩, ⟨wl.heap.size, 2, none⟩, ⟨wl.heap.size, 3, none⟩, ⟨wl.heap.size, 4, none⟩, ⟨wl.heap.size, 5, none⟩, ⟨wl.heap.size, 6, none⟩] [.int .i64 x.k, .string x.n, .string x.a, .string x.b, .int .i64 x.f.1, .int .i64 x.f.2.1, .int .i64 x.f.2.2] (by refine ⟨?_, ?_, ?_, ?_, ?_, ?_, ?_, trivial⟩ <;> exact byCT)
      have hzs9 := blocks_calls hb2 [wl.heap.size] (by refine ⟨?_, trivial⟩ <;> first | with_reducible assumption | omega | (simp; omega) | (simp; done))
      try clear c00 c01 c02 c03 c04 c05 c06
      obtain ⟨c00, c01, c02, c03, c04, c05, c06, -⟩ := hcs9
      obtain ⟨z0, -⟩ := hzs9
      have hs2 := hb2.size
      have hg2 : Below wl.heap.size wl w2 := byGG
      go_wp2_with fail
      refine ((unhide HC) _).mono ?_
      rintro en w3 ⟨rfl, rfl⟩
      clear hP
      go_wp2
      go_roundw
      case rel => exact ⟨ix + 1, by omega, by first | rfl | go_num, by rw [unhide HN], by rw [unhide HN, ← tx_app], HALn, hb.trans (hg2.mono hz)⟩
      case measure => simp [intOf]; omega
    · obtain rfl : ix = n := by omega
      go_wp2
      go_ret
      exact ⟨rfl, hb⟩
set_option maxRecDepth 100000 in
set_option maxHeartbeats 4000000 in
theorem specJournalText (v : Value) (n : Nat) (E : Nat → Cmd) (w : World) (h : ArgC w v n E) (hn : n ≤ 2000000) (ho : ∀ i, i < n → CmdOk (E i)) :
    Calls Tryd.prog 19 #[v] w (RetT w (jrL E n) (jrB E n)) := by
  have HA := hide h
  have HO := hide ho
  obtain ⟨a, c, rfl⟩ := h.len
  clear h ho
  go_enter Tryd.func19, Tryd.ntmps19
  go_wp2
  go_loopw [8] (fun is wr => ∃ (ix : Nat), ix ≤ n ∧ is = .int .i64 (ix : Int) ∧ Hid (alC E ix = true) ∧ Below w.heap.size w wr) (fun is _ => n - (intOf is).toNat)
  case atStart => exact ⟨0, by omega, rfl, hide rfl, Below.refl _ _⟩
  case round =>
    obtain ⟨ix, hi, rfl, hal, hb⟩ := hrel
    obtain ⟨wl, rfl⟩ : ∃ wl : World, wl = wr := ⟨_, rfl⟩
    have hz := hb.size
    by_cases q3 : ix < n
    · have hci : (ix : Int) < (n : Int) := by omega
      obtain ⟨b, off, hv, hcs⟩ := ((unhide HA).below hb).cells (by omega)
      obtain ⟨c00, c01, c02, c03, c04, c05, c06⟩ := hcs ix q3
      subst hv
      have eo := unhide HO ix q3
      obtain ⟨x, hx⟩ : ∃ x, E ix = x := ⟨_, rfl⟩
      rw [hx] at c00 c01 c02 c03 c04 c05 c06 eo
      have HE := hide eo
      have HX := hide hx
      clear hx hcs eo
      cases kv : cmB x
      · have HB : Hid (jrB E n = false) := hide (by unfold jrB; rw [al_no (j := ix) (by rw [unhide HX]; exact kv) n q3]; rfl)
        have HL : Hid (jrL E n = []) := hide (by unfold jrL; rw [unhide HB]; rfl)
        have HK := hide kv
        clear kv
        go_wp2_with fail
        refine (lgCommand_a x _ (unhide HE)).mono ?_
        rintro en w1 ⟨rfl, hb1⟩
        have hcs9 := cells_calls hb1 [⟨wl.heap.size, 0, none⟩, ⟨wl.heap.size, 1, none⟩, ⟨wl.heap.size, 2, none⟩, ⟨wl.heap.size, 3, none⟩, ⟨wl.heap.size, 4, none⟩, ⟨wl.heap.size, 5, none⟩, ⟨wl.heap.size, 6, none⟩] [.int .i64 x.k, .string x.n, .string x.a, .string x.b, .int .i64 x.f.1, .int .i64 x.f.2.1, .int .i64 x.f.2.2] (by refine ⟨?_, ?_, ?_, ?_, ?_, ?_, ?_, trivial⟩ <;> exact byCT)
        have hzs9 := blocks_calls hb1 [wl.heap.size] (by refine ⟨?_, trivial⟩ <;> first | with_reducible assumption | omega | (simp; omega) | (simp; done))
        try clear c00 c01 c02 c03 c04 c05 c06
        obtain ⟨c00, c01, c02, c03, c04, c05, c06, -⟩ := hcs9
        obtain ⟨z0, -⟩ := hzs9
        have hs1 := hb1.size
        rw [unhide HK]
        have hg1 : Below wl.heap.size wl w1 := byGG
        go_wp2
        go_ret2
        exact ⟨by rw [unhide HL, unhide HB]; rfl, hb.trans (hg1.mono hz)⟩
      · have HAL : Hid (alC E (ix + 1) = true) := hide (by rw [alC, unhide hal, unhide HX, kv]; rfl)
        have HK := hide kv
        clear kv
        go_wp2_with fail
        refine (lgCommand_a x _ (unhide HE)).mono ?_
        rintro en w1 ⟨rfl, hb1⟩
        have hcs9 := cells_calls hb1 [⟨wl.heap.size, 0, none⟩, ⟨wl.heap.size, 1, none⟩, ⟨wl.heap.size, 2, none⟩, ⟨wl.heap.size, 3, none⟩, ⟨wl.heap.size, 4, none⟩, ⟨wl.heap.size, 5, none⟩, ⟨wl.heap.size, 6, none⟩] [.int .i64 x.k, .string x.n, .string x.a, .string x.b, .int .i64 x.f.1, .int .i64 x.f.2.1, .int .i64 x.f.2.2] (by refine ⟨?_, ?_, ?_, ?_, ?_, ?_, ?_, trivial⟩ <;> exact byCT)
        have hzs9 := blocks_calls hb1 [wl.heap.size] (by refine ⟨?_, trivial⟩ <;> first | with_reducible assumption | omega | (simp; omega) | (simp; done))
        try clear c00 c01 c02 c03 c04 c05 c06
        obtain ⟨c00, c01, c02, c03, c04, c05, c06, -⟩ := hcs9
        obtain ⟨z0, -⟩ := hzs9
        have hs1 := hb1.size
        rw [unhide HK]
        have hg1 : Below wl.heap.size wl w1 := byGG
        go_wp2
        go_roundw
        case rel => exact ⟨ix + 1, by omega, by first | rfl | go_num, HAL, hb.trans (hg1.mono hz)⟩
        case measure => simp [intOf]; omega
    · obtain rfl : ix = n := by omega
      by_cases q40 : ix ≤ 40
      · have HB : Hid (jrB E ix = true) := hide (by unfold jrB; rw [unhide hal]; simpa using q40)
        have HL : Hid (jrL E ix = (jrP E ix).1) := hide (by unfold jrL; rw [unhide HB]; rfl)
        have hc : (ix : Int) ≤ 40 := by omega
        go_wp2_with fail
        refine (lgJournal_a _ ix E _ ((unhide HA).below hb) hn (unhide HO) (unhide hal)).mono ?_
        rintro en w3 ⟨rfl, hb3⟩
        go_wp2
        go_ret2
        exact ⟨by rw [unhide HL, unhide HB]; rfl, hb.trans (hb3.mono hz)⟩
      · have HB : Hid (jrB E ix = false) := hide (by simp [jrB, q40])
        have HL : Hid (jrL E ix = []) := hide (by unfold jrL; rw [unhide HB]; rfl)
        have hc : (40 : Int) < (ix : Int) := by omega
        go_wp2
        go_ret2
        exact ⟨by rw [unhide HL, unhide HB]; rfl, hb⟩
end Go.Proofs.YtdffleonelapfaaDoor
