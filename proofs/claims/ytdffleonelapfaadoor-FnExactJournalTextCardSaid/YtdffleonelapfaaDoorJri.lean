/-
  JournalText, the program's side.
-/
import Derived.Test.YtdffleonelapfaaDoorJrp
namespace Go.Proofs.YtdffleonelapfaaDoor
open Go.RowKit
set_option linter.unusedVariables false
set_option linter.unusedSimpArgs false
attribute [local go_sem] q2 q3 q4 q5 q6 q7 q8 q9 q10 q11 q12

set_option maxRecDepth 100000 in
set_option maxHeartbeats 4000000 in
theorem implJournalText (v : Value) (n : Nat) (E : Nat → Cmd) (w : World) (h : ArgC w v n E) (hn : n ≤ 2000000) (ho : ∀ i, i < n → CmdOk (E i)) (ht : Tab w) :
    Calls Tryd.prog 21 #[v] w (RetT w (jrL E n) (jrB E n)) := by
  have HA := hide h
  have HO := hide ho
  have HT := hide ht
  obtain ⟨a, c, rfl⟩ := h.len
  clear h ho ht
  by_cases q40 : n ≤ 40
  · go_enter Tryd.func21, Tryd.ntmps21
    go_wp2
    go_loopw [5, 15] (fun ns is wr => ∃ (ix : Nat), ix ≤ n ∧ is = .int .i64 (ix : Int) ∧ ns = .int .i64 (jrP E ix).2 ∧ Hid (alC E ix = true) ∧ Lib.IsBuilderF 68 5 w.heap.size w.heap.size (Lib.byteCells (jrP E ix).1) wr ∧ Below w.heap.size w wr) (fun _ is _ => n - (intOf is).toNat)
    case atStart => exact ⟨0, by omega, rfl, rfl, hide rfl, bld_fresh w, byGG⟩
    case round =>
      obtain ⟨ix, hi, rfl, rfl, hal, hbl, hb⟩ := hrel
      obtain ⟨wl, rfl⟩ : ∃ wl : World, wl = wr := ⟨_, rfl⟩
      have hz := hb.size
      obtain ⟨⟨p0, p1⟩, lp⟩ := jr_bd (unhide hal)
      by_cases q3 : ix < n
      · have hci : (ix : Int) < (n : Int) := by omega
        obtain ⟨b, off, hv, hcs⟩ := ((unhide HA).below hb).cells (by omega)
        obtain ⟨c00, c01, c02, c03, c04, c05, c06⟩ := hcs ix q3
        subst hv
        have eo := unhide HO ix q3
        obtain ⟨x, hx⟩ : ∃ x, E ix = x := ⟨_, rfl⟩
        rw [hx] at c00 c01 c02 c03 c04 c05 c06 eo
        have HE := hide eo
        have HX := hide hx
        clear hx hcs eo
        obtain ⟨P, hP⟩ : ∃ P, jrP E ix = P := ⟨_, rfl⟩
        rw [hP] at p0 p1 lp hbl
        try rw [hP]
        have HP := hide hP
        obtain ⟨PT, q⟩ := P
        simp only [] at p0 p1 lp hbl
        clear hP
        cases kv : cmB x
        · have HB : Hid (jrB E n = false) := hide (by unfold jrB; rw [al_no (j := ix) (by rw [unhide HX]; exact kv) n q3]; rfl)
          have HL : Hid (jrL E n = []) := hide (by unfold jrL; rw [unhide HB]; rfl)
          have HK := hide kv
          clear kv
          go_wp2_with fail
          refine (isCommand_a x _ (unhide HE)).mono ?_
          rintro en w1 ⟨rfl, hb1⟩
          have hcs9 := cells_calls hb1 [⟨wl.heap.size, 0, none⟩, ⟨wl.heap.size, 1, none⟩, ⟨wl.heap.size, 2, none⟩, ⟨wl.heap.size, 3, none⟩, ⟨wl.heap.size, 4, none⟩, ⟨wl.heap.size, 5, none⟩, ⟨wl.heap.size, 6, none⟩] [.int .i64 x.k, .string x.n, .string x.a, .string x.b, .int .i64 x.f.1, .int .i64 x.f.2.1, .int .i64 x.f.2.2] (by refine ⟨?_, ?_, ?_, ?_, ?_, ?_, ?_, trivial⟩ <;> exact byCT)
          have hzs9 := blocks_calls hb1 [wl.heap.size] (by refine ⟨?_, trivial⟩ <;> first | with_reducible assumption | omega | (simp; omega) | (simp; done))
          try clear c00 c01 c02 c03 c04 c05 c06
          obtain ⟨c00, c01, c02, c03, c04, c05, c06, -⟩ := hcs9
          obtain ⟨z0, -⟩ := hzs9
          have hs1 := hb1.size
          rw [unhide HK]
          have hg1 : Below wl.heap.size wl w1 := byGG
          go_wp2
          go_ret2
          exact ⟨by rw [unhide HL, unhide HB]; rfl, hb.trans (hg1.mono hz)⟩
        · have HK := hide kv
          have lr := rc_len (b := q) kv ⟨p0, p1⟩
          have HN : Hid (jrP E (ix + 1) = (PT ++ rcT x q, ckN (cmT x) q)) := hide (by rw [jrP, unhide HP, unhide HX])
          have HAL : Hid (alC E (ix + 1) = true) := hide (by rw [alC, unhide hal, unhide HX, unhide HK]; rfl)
          clear kv
          go_wp2_with fail
          refine (isCommand_a x _ (unhide HE)).mono ?_
          rintro en w1 ⟨rfl, hb1⟩
          have hcs9 := cells_calls hb1 [⟨wl.heap.size, 0, none⟩, ⟨wl.heap.size, 1, none⟩, ⟨wl.heap.size, 2, none⟩, ⟨wl.heap.size, 3, none⟩, ⟨wl.heap.size, 4, none⟩, ⟨wl.heap.size, 5, none⟩, ⟨wl.heap.size, 6, none⟩] [.int .i64 x.k, .string x.n, .string x.a, .string x.b, .int .i64 x.f.1, .int .i64 x.f.2.1, .int .i64 x.f.2.2] (by refine ⟨?_, ?_, ?_, ?_, ?_, ?_, ?_, trivial⟩ <;> exact byCT)
          have hzs9 := blocks_calls hb1 [wl.heap.size] (by refine ⟨?_, trivial⟩ <;> first | with_reducible assumption | omega | (simp; omega) | (simp; done))
          try clear c00 c01 c02 c03 c04 c05 c06
          obtain ⟨c00, c01, c02, c03, c04, c05, c06, -⟩ := hcs9
          obtain ⟨z0, -⟩ := hzs9
          have hs1 := hb1.size
          rw [unhide HK]
          have hg1 : Below wl.heap.size wl w1 := byGG
          have hgw : Below w.heap.size w w1 := hb.trans (hg1.mono hz)
          go_wp2_with fail
          refine (recordText_a x q _ (unhide HK) ⟨p0, p1⟩ ((unhide HT).below hgw)).mono ?_
          rintro en w2 ⟨rfl, hb2⟩
          have hg2 : Below wl.heap.size wl w2 := hg1.trans (hb2.mono hg1.size)
          have hgw2 : Below w.heap.size w w2 := hb.trans (hg2.mono hz)
          have hbl2 := bld_below hbl hg2
          clear hbl
          go_wp2_with fail
          refine (writeString_k w.heap.size w.heap.size _ (tx (rcT x q)) _ hbl2 (by rw [Lib.byteCells_length, tx_size]; omega) hgw2.size).mono ?_
          rintro en w3 ⟨rfl, hat, hb3, -⟩
          go_wp2
          go_roundw
          case rel =>
            refine ⟨ix + 1, by omega, by first | rfl | go_num, by rw [unhide HN], HAL, .inr ?_, hgw2.trans hb3⟩
            rw [unhide HN]
            rw [Lib.strCells_eq, tx_list, ← Lib.byteCells_append] at hat
            exact hat
          case measure => simp [intOf]; omega
      · obtain rfl : ix = n := by omega
        have HB : Hid (jrB E ix = true) := hide (by unfold jrB; rw [unhide hal]; simpa using q40)
        have HL : Hid (jrL E ix = (jrP E ix).1) := hide (by unfold jrL; rw [unhide HB]; rfl)
        go_wp2_with fail
        refine (string_k w.heap.size w.heap.size _ _ hbl hz).mono ?_
        rintro en w3 ⟨rfl, -, hb3, -⟩
        go_wp2
        go_ret2
        exact ⟨by rw [unhide HL, unhide HB]; rfl, hb.trans hb3⟩
  · have HB : Hid (jrB E n = false) := hide (by simp [jrB, q40])
    have HL : Hid (jrL E n = []) := hide (by unfold jrL; rw [unhide HB]; rfl)
    have hc : (40 : Int) < (n : Int) := by omega
    go_enter Tryd.func21, Tryd.ntmps21
    go_wp2
    go_ret2
    exact ⟨by rw [unhide HL, unhide HB]; rfl, byGG⟩
end Go.Proofs.YtdffleonelapfaaDoor
