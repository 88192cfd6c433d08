/-
  The law of RunCommand.
-/
import Derived.Test.YtligbfegafkpjaaRc
import Derived.Test.YtligbfegafkpjaaElK
namespace Go.Proofs.Ytligbfegafkpjaa
open Go.RowKit
set_option linter.unusedVariables false
set_option linter.unusedSimpArgs false
attribute [local go_sem] q2 q3 q4 q5 q6 q7 q8 q9 q10 q11 q12
def SomeI (w : World) (e : Ending) (w' : World) : Prop := ∃ r : Int, e = .returned (.int .i64 r) ∧ Below w.heap.size w w'
set_option maxRecDepth 100000 in
set_option maxHeartbeats 1000000 in
theorem szCommand_a (c : Cmd) (l : Int) (w : World) (hc : CmdOk c) (hl : 0 ≤ l ∧ l ≤ 1000000000) : Calls Try.prog 13 #[cmv c, .int .i64 l] w (SomeI w) := by
  obtain ⟨k, n, a, b, f⟩ := c
  obtain ⟨ik, in_, ia, ib, i0, i1, i2⟩ := hc
  simp only [] at ik in_ ia ib i0 i1 i2
  go_enter Try.func13, Try.ntmps13
  go_wp2
  all_goals (go_ret; exact ⟨_, rfl, byGG⟩)
set_option maxRecDepth 100000 in
set_option maxHeartbeats 1000000 in
theorem toCommand_a (c : Cmd) (w : World) : Calls Try.prog 15 #[cmv c] w fun e w' => e = .returned (cmv c) ∧ Below w.heap.size w w' := by
  obtain ⟨k, n, a, b, f⟩ := c
  go_enter Try.func15, Try.ntmps15
  go_wp2_with (go_at_call 23; refine (toForm_q _ _ _ _).mono ?_; rintro e w1 ⟨rfl, hb⟩; obtain ⟨hc, hf⟩ := bcell hb; have hl := lt_keep hb; have hs := hb.size)
  refine bodyPost_ret (v := .agg #[.int .i64 k, .string n, .string a, .string b, .int .i64 f.1, .int .i64 f.2.1, .int .i64 f.2.2]) (by simp [results, Try.results15, go_sem, *]) rfl ?_
  exact ⟨rfl, byGG⟩

def SlN (zs : List Ent) (lo : Nat) (w : World) (v : Value) : Prop := ∃ (a : Option Addr) (c hi : Nat), v = .slice a zs.length c ∧ hi ≤ w.heap.size ∧ EntsAt w lo hi a zs.length (atE zs)
def TupN (zs : List Ent) (cd : Int) (lo : Nat) (w : World) (v : Value) : Prop := ∃ v1, v = .tuple #[v1, .int .i64 cd] ∧ SlN zs lo w v1
theorem SlN.st {zs : List Ent} {lo : Nat} : StB (SlN zs lo) := fun W w' v hb ⟨a, c, hi, h1, h2, h3⟩ => ⟨a, c, hi, h1, Nat.le_trans h2 hb.size, h3.below hb h2⟩
theorem TupN.st {zs : List Ent} {cd : Int} {lo : Nat} : StB (TupN zs cd lo) := fun W w' v hb ⟨v1, h1, h2⟩ => ⟨v1, h1, SlN.st W w' v1 hb h2⟩
theorem TupN.of {zs : List Ent} {cd : Int} {lo : Nat} {w : World} {v : Value} (h : TupE lo zs cd w v) : TupN zs cd lo w v := by
  obtain ⟨v1, h1, u, h2, h3⟩ := h
  subst h2
  obtain ⟨a, c, rfl⟩ := h3.form
  exact ⟨_, h1, a, c, w.heap.size, rfl, Nat.le_refl _, h3.ents.2⟩
set_option maxRecDepth 100000 in
set_option maxHeartbeats 2000000 in
theorem szEntryS_b (v : Value) (n : Nat) (l : Int) (E : Nat → Ent) (w : World) (h : ArgE w v n E) (hn : n ≤ 9223372036854775807) (ho : ∀ i, i < n → EntOk (E i)) (hl : 0 ≤ l ∧ l ≤ 1000000000) :
    Calls Try.prog 17 #[v, .int .i64 l] w fun e w' => ∃ r : Int, e = .returned (.int .i64 r) ∧ (r < 0 ∨ (0 ≤ r ∧ (n : Int) ≤ l ∧ r ≤ l)) ∧ Below w.heap.size w w' := by
  have HA := hide h
  have HO := hide ho
  obtain ⟨a, c, rfl⟩ := h.len
  clear h ho
  by_cases q : l < (n : Int)
  · have q2 : l - (n : Int) < 0 := by omega
    go_enter Try.func17, Try.ntmps17
    go_wp2
    go_ret
    exact ⟨_, rfl, .inl (by omega), byGG⟩
  · have q2 : 0 ≤ l - (n : Int) := by omega
    go_enter Try.func17, Try.ntmps17
    go_wp2
    go_loopw [1, 5] (fun ls is wr => ∃ (ix : Nat) (r : Int), ix ≤ n ∧ is = .int .i64 (ix : Int) ∧ ls = .int .i64 r ∧ 0 ≤ r ∧ r ≤ l ∧ Below w.heap.size w wr) (fun _ is _ => n - (intOf is).toNat)
    case atStart => exact ⟨0, _, by omega, rfl, rfl, by omega, by omega, Below.refl _ _⟩
    case round =>
      obtain ⟨ix, r, hi, rfl, rfl, hr0, hr1, hb⟩ := hrel
      obtain ⟨wl, rfl⟩ : ∃ wl : World, wl = wr := ⟨_, rfl⟩
      have hz := hb.size
      by_cases q3 : ix < n
      · have hci : (ix : Int) < (n : Int) := by omega
        obtain ⟨b, off, hv, hcs⟩ := ((unhide HA).below hb).cells (by omega)
        obtain ⟨c0, c1, c2, c3⟩ := hcs ix q3
        subst hv
        have eo := unhide HO ix q3
        obtain ⟨x, hx⟩ : ∃ x, E ix = x := ⟨_, rfl⟩
        rw [hx] at c0 c1 c2 c3 eo
        have HE := hide eo
        clear hx hcs eo
        go_wp2_with fail
        refine (szEntry_a x r _ (unhide HE) (by omega)).mono ?_
        rintro en w1 ⟨r2, rfl, hr, hb1⟩
        have hb2 : Below w.heap.size w w1 := hb.trans (hb1.mono hz)
        rcases hr with hr | ⟨hr, hr'⟩
        · go_wp2
          go_ret
          exact ⟨_, rfl, .inl (by omega), hb2⟩
        · go_wp2
          go_roundw
          case rel => exact ⟨ix + 1, r2, by omega, by first | rfl | go_num, rfl, by omega, by omega, hb2⟩
          case measure => simp [intOf]; omega
      · obtain rfl : ix = n := by omega
        go_wp2
        go_ret
        exact ⟨_, rfl, .inr ⟨by omega, by omega, by omega⟩, hb⟩

theorem toEntryS_p (v : Value) (n : Nat) (E : Nat → Ent) (w : World) (h : ArgE w v n E) (hn : n ≤ 2000000) :
    Calls Try.prog 19 #[v] w fun e w' => ∃ v', e = .returned v' ∧ SlcE n E w' v' ∧ Below w.heap.size w w' :=
  (toEntryS_a v n E w h hn).mono fun e w' ⟨he, hr, hb⟩ => ⟨_, he, ⟨_, rfl, hr, World.rowIs.lt hr⟩, hb⟩
theorem markEntryS_all (a : Option Addr) (lo hi n c k : Nat) (E : Nat → Ent) (w : World) (hn : n ≤ 10000000) (h0 : 1 ≤ k) (hk : k ≤ 10000000) (h : EntsAt w lo hi a n E) :
    Calls Try.prog 26 #[.slice a n c, .int .i64 (k : Int)] w fun e w' => e = .returned (.int .i64 ((k : Int) + 4 * n)) ∧ EntsAt w' lo hi a n (mkEn k) ∧ (∀ j, j < lo → j < w.heap.size → w'.heap[j]? = w.heap[j]?) ∧ w.heap.size ≤ w'.heap.size ∧ (∀ B, B ≤ lo → B ≤ w.heap.size → Below B w w') := by
  by_cases hz : n = 0
  · subst hz
    refine (markEntryS_nil a c k w).mono ?_
    rintro e w' ⟨rfl, rfl⟩
    exact ⟨by simp, .inl rfl, fun _ _ _ => rfl, Nat.le_refl _, fun B _ h2 => Below.refl _ _⟩
  · exact markEntryS_any a lo hi n c k E w hn h0 hk hz h
theorem rc_s (g n : Nat) (E : Nat → Ent) (c : Cmd) (lo : Nat) (zs : List Ent) (cd : Int) (w : World) (h : RowE w g n E) (hn : n ≤ 2000000) (ho : ∀ i, i < n → EntOk (E i)) (hk : CmdOk c) (hl : lo ≤ w.heap.size) (hz : RLl E n c = zs) (hB : RCc E n c = cd) :
    Calls Try.prog 29 #[.slice (some ⟨g, 0, none⟩) n n, cmv c] w fun e w' => ∃ v', e = .returned v' ∧ TupN zs cd lo w' v' ∧ Below w.heap.size w w' := by
  subst hz hB
  refine (specRun_a g n E c w h hn ho hk).mono ?_
  rintro e w' ⟨v, rfl, ⟨v1, h1, u, h2, h3⟩, hb⟩
  exact ⟨v, rfl, TupN.of ⟨v1, h1, u, h2, h3.low hl⟩, hb⟩
theorem rc_i (g n : Nat) (E : Nat → Ent) (c : Cmd) (lo : Nat) (zs : List Ent) (cd : Int) (w : World) (h : RowE w g n E) (hn : n ≤ 2000000) (ho : ∀ i, i < n → EntOk (E i)) (hk : CmdOk c) (hl : lo ≤ w.heap.size) (hz : RLl E n c = zs) (hB : RCc E n c = cd) :
    Calls Try.prog 30 #[.slice (some ⟨g, 0, none⟩) n n, cmv c] w fun e w' => ∃ v', e = .returned v' ∧ TupN zs cd lo w' v' ∧ Below w.heap.size w w' := by
  subst hz hB
  refine (implRun_a g n E c w h hn ho hk).mono ?_
  rintro e w' ⟨v, rfl, ⟨v1, h1, u, h2, h3⟩, hb⟩
  exact ⟨v, rfl, TupN.of ⟨v1, h1, u, h2, h3.low hl⟩, hb⟩
theorem RLl_len {n : Nat} (E : Nat → Ent) (c : Cmd) : (RLl E n c).length ≤ n + 20 := by
  unfold RLl
  split
  · unfold rnL
    split
    · split
      · have := woL_len E c.n n; omega
      · split
        · omega
        · simp
    · simp
  · simp

set_option maxRecDepth 100000 in
set_option maxHeartbeats 16000000 in
theorem lawRunCommand (v : Value) (n : Nat) (E : Nat → Ent) (c : Cmd) (w : World) (h : ArgE w v n E) (hm : n ≤ 9223372036854775807) (ho : ∀ i, i < n → EntOk (E i)) (hk : CmdOk c) :
    Calls Try.prog 7 #[v, cmv c] w fun e w' => e = .returned (.bool true) ∧ Below w.heap.size w w' := by
  have HA := hide h
  have HO := hide ho
  have HK := hide hk
  obtain ⟨a9, c9, rfl⟩ := h.len
  clear h ho hk
  obtain ⟨zs, hz⟩ : ∃ zs, RLl E n c = zs := ⟨_, rfl⟩
  obtain ⟨cd, hB⟩ : ∃ b, RCc E n c = b := ⟨_, rfl⟩
  have hlen : zs.length ≤ n + 20 := by rw [← hz]; exact RLl_len E _
  have HZ := hide hz
  have HB := hide hB
  clear hz hB
  obtain ⟨k, nm, a, b, f0, f1, f2⟩ := c
  go_enter Try.func7, Try.ntmps7
  go_wp2_with fail
  refine (szEntryS_b _ n 1048576 E _ ((unhide HA).below (below_alloc_self _ _)) hm (unhide HO) (by omega)).mono ?_
  rintro en w1 ⟨r, rfl, hr, hb1⟩
  have hcs9 := cells_calls hb1 [⟨w.heap.size, 0, none⟩, ⟨w.heap.size, 1, none⟩, ⟨w.heap.size, 2, none⟩, ⟨w.heap.size, 3, none⟩, ⟨w.heap.size, 4, none⟩, ⟨w.heap.size, 5, none⟩, ⟨w.heap.size, 6, none⟩] [.int .i64 k, .string nm, .string a, .string b, .int .i64 f0, .int .i64 f1, .int .i64 f2] (by refine ⟨?_, ?_, ?_, ?_, ?_, ?_, ?_, trivial⟩ <;> exact byCT)
  have hzs9 := blocks_calls hb1 [w.heap.size] (by refine ⟨?_, trivial⟩ <;> first | with_reducible assumption | omega | (simp; omega) | (simp; done))
  try clear c00 c01 c02 c03 c04 c05 c06
  obtain ⟨c00, c01, c02, c03, c04, c05, c06, -⟩ := hcs9
  obtain ⟨z0, -⟩ := hzs9
  have hs1 := hb1.size

  have gw1 : Below w.heap.size w w1 := byGG
  rcases hr with hr | ⟨hr, hn, hrl⟩
  · go_wp2
    go_ret
    exact ⟨rfl, gw1⟩
  · have hn2 : n ≤ 2000000 := by omega
    have hr0 : ¬ r < 0 := by omega
    go_wp2_with fail
    refine (szCommand_a ⟨k, nm, a, b, f0, f1, f2⟩ r _ (unhide HK) (by omega)).mono ?_
    rintro en w1b ⟨r2, rfl, hb1b⟩
    have hcs9 := cells_calls hb1b [⟨w.heap.size, 0, none⟩, ⟨w.heap.size, 1, none⟩, ⟨w.heap.size, 2, none⟩, ⟨w.heap.size, 3, none⟩, ⟨w.heap.size, 4, none⟩, ⟨w.heap.size, 5, none⟩, ⟨w.heap.size, 6, none⟩] [.int .i64 k, .string nm, .string a, .string b, .int .i64 f0, .int .i64 f1, .int .i64 f2] (by refine ⟨?_, ?_, ?_, ?_, ?_, ?_, ?_, trivial⟩ <;> exact byCT)
    have hzs9 := blocks_calls hb1b [w.heap.size] (by refine ⟨?_, trivial⟩ <;> first | with_reducible assumption | omega | (simp; omega) | (simp; done))
    try clear c00 c01 c02 c03 c04 c05 c06
    obtain ⟨c00, c01, c02, c03, c04, c05, c06, -⟩ := hcs9
    obtain ⟨z0, -⟩ := hzs9
    have hs1b := hb1b.size

    have gw1b : Below w.heap.size w w1b := byGG
    by_cases hr2 : r2 < 0
    · go_wp2
      go_ret
      exact ⟨rfl, gw1b⟩
    · skip
      go_upto_region 8 with fail
      go_cut [6, 7] (fun s6 s7 wx => (SlN zs w1b.heap.size) wx s6 ∧ s7 = .int .i64 cd ∧ wx.cell? ⟨w.heap.size, 0, none⟩ = some (.int .i64 k) ∧ wx.cell? ⟨w.heap.size, 1, none⟩ = some (.string nm) ∧ wx.cell? ⟨w.heap.size, 2, none⟩ = some (.string a) ∧ wx.cell? ⟨w.heap.size, 3, none⟩ = some (.string b) ∧ wx.cell? ⟨w.heap.size, 4, none⟩ = some (.int .i64 f0) ∧ wx.cell? ⟨w.heap.size, 5, none⟩ = some (.int .i64 f1) ∧ wx.cell? ⟨w.heap.size, 6, none⟩ = some (.int .i64 f2) ∧ Below w1b.heap.size w1b wx)
      case first =>
        have h1 := trivial
        rename_i K2 h2 h3
        let hgf9 : Nat → World → Value → Prop := fun j => match j with | 0 => Kd.ok (Kd.val (.slice a9 n c9)) | 1 => (SlcE n E) | 2 => Kd.ok (Kd.val (.agg #[.int .i64 k, .string nm, .string a, .string b, .int .i64 f0, .int .i64 f1, .int .i64 f2])) | 3 => Kd.ok (Kd.val (.agg #[.int .i64 k, .string nm, .string a, .string b, .int .i64 f0, .int .i64 f1, .int .i64 f2])) | 4 => (TupN zs cd w1b.heap.size) | 5 => (TupN zs cd w1b.heap.size) | 6 => (SlN zs w1b.heap.size) | 7 => Kd.ok (Kd.val (.int .i64 cd)) | 8 => (SlN zs w1b.heap.size) | 9 => Kd.ok (Kd.val (.int .i64 cd)) | _ => Kd.ok Kd.any
        have hst9 : ∀ j, StB (hgf9 j) := fun j => match j with | 0 => (Kd.st (Kd.val (.slice a9 n c9)) : StB (Kd.ok (Kd.val (.slice a9 n c9)))) | 1 => (SlcE.st : StB (SlcE n E)) | 2 => (Kd.st (Kd.val (.agg #[.int .i64 k, .string nm, .string a, .string b, .int .i64 f0, .int .i64 f1, .int .i64 f2])) : StB (Kd.ok (Kd.val (.agg #[.int .i64 k, .string nm, .string a, .string b, .int .i64 f0, .int .i64 f1, .int .i64 f2])))) | 3 => (Kd.st (Kd.val (.agg #[.int .i64 k, .string nm, .string a, .string b, .int .i64 f0, .int .i64 f1, .int .i64 f2])) : StB (Kd.ok (Kd.val (.agg #[.int .i64 k, .string nm, .string a, .string b, .int .i64 f0, .int .i64 f1, .int .i64 f2])))) | 4 => (TupN.st : StB (TupN zs cd w1b.heap.size)) | 5 => (TupN.st : StB (TupN zs cd w1b.heap.size)) | 6 => (SlN.st : StB (SlN zs w1b.heap.size)) | 7 => (Kd.st (Kd.val (.int .i64 cd)) : StB (Kd.ok (Kd.val (.int .i64 cd)))) | 8 => (SlN.st : StB (SlN zs w1b.heap.size)) | 9 => (Kd.st (Kd.val (.int .i64 cd)) : StB (Kd.ok (Kd.val (.int .i64 cd)))) | j + 10 => (Kd.st Kd.any : StB (Kd.ok Kd.any))
        refine region_n0 (by kernel_rfl) (fun j => #[27,28,29,30,31,26,32,33,6,7].getD j 0) (hgf9) (Sy w1b (w1b.heap.size) [(⟨w.heap.size, 0, none⟩, .int .i64 k), (⟨w.heap.size, 1, none⟩, .string nm), (⟨w.heap.size, 2, none⟩, .string a), (⟨w.heap.size, 3, none⟩, .string b), (⟨w.heap.size, 4, none⟩, .int .i64 f0), (⟨w.heap.size, 5, none⟩, .int .i64 f1), (⟨w.heap.size, 6, none⟩, .int .i64 f2)] []) (by kernel_rfl) (by kernel_rfl) ?_ ?_ ?_ ?_
        · intro j hj
          have hj2 : j < 10 := hj
          have : ∀ j, j < 10 → (#[27,28,29,30,31,26,32,33,6,7] : Array Nat).getD j 0 < 109 := by decide
          exact this j hj2
        · refine Sy.drew (Sy.mk_of ?_ ?_ ?_ ?_)
          · first | rfl | (simp; done) | (simp; omega)
          · intro c hc
            simp only [List.mem_cons, List.not_mem_nil, or_false] at hc
            rcases hc with rfl | rfl | rfl | rfl | rfl | rfl | rfl <;> exact byCT
          · intro p hp; cases hp
          · (repeat' first | with_reducible (first | exact Below.refl _ _ | assumption | refine gr_alloc ?_ _ | refine below_drewN ?_ _ | refine below_drew ?_ | refine gr_call ?_ (by assumption) | refine Below.setCell ?_ ?_ _) | go_size | omega | (simp; omega))
        · clear h1 h2 h3
          refine ⟨?r23x0, ?r23x1, ?r23x2, ?r23x3, ?r23x4, ?r23x5, ?r23x6, ?r23x7, ?r23x8, ?r23x9, trivial⟩
          all_goals intro _ aq wx Kq hf hS hdep ev1 ev2 hK
          case' r23x0 =>
            have F0 : aq.eval (.tmp 0) = .slice a9 n c9 := hf 0
          case' r23x1 =>
            have D0 : aq.eval (.tmp 27) = _ := hdep 0
          case' r23x2 =>
            have F3 : aq.eval (.tmp 3) = .pointer (some ⟨w.heap.size, 0, none⟩) := hf 3
            have c0 := hS.cells (⟨w.heap.size, 0, none⟩, .int .i64 k) (by simp)
            have c1 := hS.cells (⟨w.heap.size, 1, none⟩, .string nm) (by simp)
            have c2 := hS.cells (⟨w.heap.size, 2, none⟩, .string a) (by simp)
            have c3 := hS.cells (⟨w.heap.size, 3, none⟩, .string b) (by simp)
            have c4 := hS.cells (⟨w.heap.size, 4, none⟩, .int .i64 f0) (by simp)
            have c5 := hS.cells (⟨w.heap.size, 5, none⟩, .int .i64 f1) (by simp)
            have c6 := hS.cells (⟨w.heap.size, 6, none⟩, .int .i64 f2) (by simp)
          case' r23x3 =>
            have D2 : aq.eval (.tmp 29) = _ := hdep 2
          case' r23x4 =>
            obtain ⟨gq28, DP28, hrw28, hlt28⟩ := hdep 1
            change aq.eval (.tmp 28) = _ at DP28
            have D3 : aq.eval (.tmp 30) = _ := hdep 3
          case' r23x5 =>
            obtain ⟨gv31, DP31, hsl31⟩ := hdep 4
            change aq.eval (.tmp 31) = _ at DP31
          case' r23x6 =>
            obtain ⟨gv26, DP26, hsl26⟩ := hdep 5
            change aq.eval (.tmp 26) = _ at DP26
          case' r23x7 =>
            obtain ⟨gv26, DP26, hsl26⟩ := hdep 5
            change aq.eval (.tmp 26) = _ at DP26
          case' r23x8 =>
            obtain ⟨ga32, gc32, gh32, DP32, hgh32, hst32⟩ := hdep 6
            change aq.eval (.tmp 32) = _ at DP32
          case' r23x9 =>
            have D7 : aq.eval (.tmp 33) = _ := hdep 7
          all_goals (clear hf hdep; unfold Oper.wp; generalize Act.eval _ = ev at *; go_simp)
          case r23x1 =>
            refine ((toEntryS_p (.slice a9 n c9) n E _ ((unhide HA).below (gw1b.trans (hS.below.mono gw1b.size))) (by omega))).mono ?_
            rintro e w2 ⟨v9, rfl, hpr, hb⟩
            refine hK _ _ (hS.call hb) ?_ (fun j u _ h => hst9 j _ _ _ hb h)
            rw [if_pos (by rfl)]
            exact hpr
          case r23x3 =>
            refine ((toCommand_a ⟨k, nm, a, b, f0, f1, f2⟩ _)).mono ?_
            rintro e w2 ⟨rfl, hb⟩
            refine hK _ _ (hS.call hb) ?_ (fun j u _ h => hst9 j _ _ _ hb h)
            rw [if_pos (by rfl)]
            show (_ : Value) = _
            first | rfl | (refine congrArg (Value.int .i64) ?_; first | rfl | exact int_in (by omega) | exact quo_in (by omega) (by omega) (by omega) | exact rem_in (by omega) (by omega) | omega) | (simp; done) | (simp [*]; done)
          case r23x4 =>
            refine ((rc_s gq28 n E ⟨k, nm, a, b, f0, f1, f2⟩ w1b.heap.size zs cd _ hrw28 (by omega) (unhide HO) (unhide HK) hS.below.size (unhide HZ) (unhide HB))).mono ?_
            rintro e w2 ⟨v9, rfl, hpr, hb⟩
            refine hK _ _ (hS.call hb) ?_ (fun j u _ h => hst9 j _ _ _ hb h)
            rw [if_pos (by rfl)]
            exact hpr
          case r23x5 =>
            refine hK _ _ hS ?_ (fun j u _ h => h)
            rw [if_pos (by rfl)]
            exact ⟨_, rfl, hsl31⟩
          case r23x6 =>
            refine hK _ _ hS ?_ (fun j u _ h => h)
            rw [if_pos (by rfl)]
            exact hsl26
          case r23x8 =>
            refine hK _ _ hS ?_ (fun j u _ h => h)
            rw [if_pos (by rfl)]
            exact ⟨_, _, _, rfl, hgh32, hst32⟩
          all_goals (refine hK _ _ hS ?_ (fun j u _ h => h); rw [if_pos (by rfl)]; show (_ : Value) = _; (first | rfl | (refine congrArg (Value.int .i64) ?_; first | rfl | exact int_in (by omega) | exact quo_in (by omega) (by omega) (by omega) | exact rem_in (by omega) (by omega) | omega) | (simp; done) | (simp [*]; done)))
        · intro aq wx hd hw hf hS hg
          have G6 : (SlN zs w1b.heap.size) wx (tau aq 6) := hg 8 (by decide)
          have G7 : tau aq 7 = .int .i64 cd := hg 9 (by decide)
          have haq : aq = ⟨#[tau aq 0, tau aq 1, tau aq 2, tau aq 3, tau aq 4, tau aq 5, tau aq 6, tau aq 7, tau aq 8, tau aq 9, tau aq 10, tau aq 11, tau aq 12, tau aq 13, tau aq 14, tau aq 15, tau aq 16, tau aq 17, tau aq 18, tau aq 19, tau aq 20, tau aq 21, tau aq 22, tau aq 23, tau aq 24, tau aq 25, tau aq 26, tau aq 27, tau aq 28, tau aq 29, tau aq 30, tau aq 31, tau aq 32, tau aq 33, tau aq 34, tau aq 35, tau aq 36, tau aq 37, tau aq 38, tau aq 39, tau aq 40, tau aq 41, tau aq 42, tau aq 43, tau aq 44, tau aq 45, tau aq 46, tau aq 47, tau aq 48, tau aq 49, tau aq 50, tau aq 51, tau aq 52, tau aq 53, tau aq 54, tau aq 55, tau aq 56, tau aq 57, tau aq 58, tau aq 59, tau aq 60, tau aq 61, tau aq 62, tau aq 63, tau aq 64, tau aq 65, tau aq 66, tau aq 67, tau aq 68, tau aq 69, tau aq 70, tau aq 71, tau aq 72, tau aq 73, tau aq 74, tau aq 75, tau aq 76, tau aq 77, tau aq 78, tau aq 79, tau aq 80, tau aq 81, tau aq 82, tau aq 83, tau aq 84, tau aq 85, tau aq 86, tau aq 87, tau aq 88, tau aq 89, tau aq 90, tau aq 91, tau aq 92, tau aq 93, tau aq 94, tau aq 95, tau aq 96, tau aq 97, tau aq 98, tau aq 99, tau aq 100, tau aq 101, tau aq 102, tau aq 103, tau aq 104, tau aq 105, tau aq 106, tau aq 107, tau aq 108], []⟩ := by
            obtain ⟨tq, dq⟩ := aq
            have h5 := arr_eq (show tq.size = 109 from hw)
            have h6 : dq = [] := hd
            subst h6
            exact congrArg (fun z => Act.mk z []) h5
          show K2 aq wx
          rw [haq, hf 0, hf 1, hf 2, hf 3, hf 4, hf 5, hf 8, hf 9, hf 10, hf 11, hf 12, hf 13, hf 14, hf 15, hf 16, hf 17, hf 18, hf 19, hf 20, hf 21, hf 22, hf 23, hf 24, hf 25, hf 34, hf 35, hf 36, hf 37, hf 38, hf 39, hf 40, hf 41, hf 42, hf 43, hf 44, hf 45, hf 46, hf 47, hf 48, hf 49, hf 50, hf 51, hf 52, hf 53, hf 54, hf 55, hf 56, hf 57, hf 58, hf 59, hf 60, hf 61, hf 62, hf 63, hf 64, hf 65, hf 66, hf 67, hf 68, hf 69, hf 70, hf 71, hf 72, hf 73, hf 74, hf 75, hf 76, hf 77, hf 78, hf 79, hf 80, hf 81, hf 82, hf 83, hf 84, hf 85, hf 86, hf 87, hf 88, hf 89, hf 90, hf 91, hf 92, hf 93, hf 94, hf 95, hf 96, hf 97, hf 98, hf 99, hf 100, hf 101, hf 102, hf 103, hf 104, hf 105, hf 106, hf 107, hf 108, G7]
          clear haq hf hd hw
          try dsimp only
          refine h3 _ _ ?_
          go_meet
          exact ⟨G6, rfl, hS.cells (⟨w.heap.size, 0, none⟩, .int .i64 k) (by simp), hS.cells (⟨w.heap.size, 1, none⟩, .string nm) (by simp), hS.cells (⟨w.heap.size, 2, none⟩, .string a) (by simp), hS.cells (⟨w.heap.size, 3, none⟩, .string b) (by simp), hS.cells (⟨w.heap.size, 4, none⟩, .int .i64 f0) (by simp), hS.cells (⟨w.heap.size, 5, none⟩, .int .i64 f1) (by simp), hS.cells (⟨w.heap.size, 6, none⟩, .int .i64 f2) (by simp), hS.below⟩
      try clear c00
      try clear c01
      try clear c02
      try clear c03
      try clear c04
      try clear c05
      try clear c06
      obtain ⟨hp6, rfl, c00, c01, c02, c03, c04, c05, c06, hb0⟩ := hcut
      have z0 := World.block_lt_of_cell? _ _ c00
      change w.heap.size < wc.heap.size at z0
      obtain ⟨w2, rfl⟩ : ∃ w2 : World, w2 = wc := ⟨_, rfl⟩
      obtain ⟨a6, c6, hi6, rfl, hh6, st6⟩ := hp6
      have gw2 : Below w.heap.size w w2 := gw1b.trans (hb0.mono gw1b.size)
      have ST6 := hide st6
      clear st6 hb0
      go_wp2_with fail
      refine (toEntryS_a _ n E _ ((unhide HA).below gw2) hn2).mono ?_
      rintro en w3 ⟨rfl, hr3, hb3⟩
      have hcs9 := cells_calls hb3 [⟨w.heap.size, 0, none⟩, ⟨w.heap.size, 1, none⟩, ⟨w.heap.size, 2, none⟩, ⟨w.heap.size, 3, none⟩, ⟨w.heap.size, 4, none⟩, ⟨w.heap.size, 5, none⟩, ⟨w.heap.size, 6, none⟩] [.int .i64 k, .string nm, .string a, .string b, .int .i64 f0, .int .i64 f1, .int .i64 f2] (by refine ⟨?_, ?_, ?_, ?_, ?_, ?_, ?_, trivial⟩ <;> exact byCT)
      have hzs9 := blocks_calls hb3 [w.heap.size] (by refine ⟨?_, trivial⟩ <;> first | with_reducible assumption | omega | (simp; omega) | (simp; done))
      try clear c00 c01 c02 c03 c04 c05 c06
      obtain ⟨c00, c01, c02, c03, c04, c05, c06, -⟩ := hcs9
      obtain ⟨z0, -⟩ := hzs9
      have hs3 := hb3.size
      have gw3 : Below w.heap.size w w3 := gw2.trans (hb3.mono gw2.size)
      have HR3 := hide hr3
      have ST63 := hide ((unhide ST6).below hb3 hh6)
      have hlt3 : w2.heap.size < w3.heap.size := World.rowIs.lt hr3
      clear hr3 ST6
      go_wp2_with fail
      refine (toCommand_a ⟨k, nm, a, b, f0, f1, f2⟩ _).mono ?_
      rintro en w4 ⟨rfl, hb4⟩
      have hcs9 := cells_calls hb4 [⟨w.heap.size, 0, none⟩, ⟨w.heap.size, 1, none⟩, ⟨w.heap.size, 2, none⟩, ⟨w.heap.size, 3, none⟩, ⟨w.heap.size, 4, none⟩, ⟨w.heap.size, 5, none⟩, ⟨w.heap.size, 6, none⟩] [.int .i64 k, .string nm, .string a, .string b, .int .i64 f0, .int .i64 f1, .int .i64 f2] (by refine ⟨?_, ?_, ?_, ?_, ?_, ?_, ?_, trivial⟩ <;> exact byCT)
      have hzs9 := blocks_calls hb4 [w.heap.size] (by refine ⟨?_, trivial⟩ <;> first | with_reducible assumption | omega | (simp; omega) | (simp; done))
      try clear c00 c01 c02 c03 c04 c05 c06
      obtain ⟨c00, c01, c02, c03, c04, c05, c06, -⟩ := hcs9
      obtain ⟨z0, -⟩ := hzs9
      have hs4 := hb4.size
      have gw4 : Below w.heap.size w w4 := gw3.trans (hb4.mono gw3.size)
      have HR4 := hide ((unhide HR3).below hb4)
      have ST64 := hide ((unhide ST63).below hb4 (by omega))
      clear HR3 ST63
      go_wp2_with fail
      refine (rc_i _ n E ⟨k, nm, a, b, f0, f1, f2⟩ w4.heap.size zs cd _ (unhide HR4) hn2 (unhide HO) (unhide HK) (Nat.le_refl _) (unhide HZ) (unhide HB)).mono ?_
      rintro en w5 ⟨v5, rfl, ⟨v1, rfl, a9', c9', hi9, rfl, hh9, st9⟩, hb5⟩
      have hcs9 := cells_calls hb5 [⟨w.heap.size, 0, none⟩, ⟨w.heap.size, 1, none⟩, ⟨w.heap.size, 2, none⟩, ⟨w.heap.size, 3, none⟩, ⟨w.heap.size, 4, none⟩, ⟨w.heap.size, 5, none⟩, ⟨w.heap.size, 6, none⟩] [.int .i64 k, .string nm, .string a, .string b, .int .i64 f0, .int .i64 f1, .int .i64 f2] (by refine ⟨?_, ?_, ?_, ?_, ?_, ?_, ?_, trivial⟩ <;> exact byCT)
      have hzs9 := blocks_calls hb5 [w.heap.size] (by refine ⟨?_, trivial⟩ <;> first | with_reducible assumption | omega | (simp; omega) | (simp; done))
      try clear c00 c01 c02 c03 c04 c05 c06
      obtain ⟨c00, c01, c02, c03, c04, c05, c06, -⟩ := hcs9
      obtain ⟨z0, -⟩ := hzs9
      have hs5 := hb5.size
      have gw5 : Below w.heap.size w w5 := gw4.trans (hb5.mono gw4.size)
      have HR5 := hide ((unhide HR4).below hb5)
      have ST65 := hide ((unhide ST64).below hb5 (by omega))
      have ST95 := hide st9
      clear HR4 ST64 st9
      go_wp2_with fail
      refine (eqEntryS_any a9' a6 _ _ _ _ zs.length c9' c6 _ w5 (by omega) (unhide ST95) (unhide ST65)).mono ?_
      rintro en wq ⟨rfl, hbq⟩
      have hcs9 := cells_calls hbq [⟨w.heap.size, 0, none⟩, ⟨w.heap.size, 1, none⟩, ⟨w.heap.size, 2, none⟩, ⟨w.heap.size, 3, none⟩, ⟨w.heap.size, 4, none⟩, ⟨w.heap.size, 5, none⟩, ⟨w.heap.size, 6, none⟩] [.int .i64 k, .string nm, .string a, .string b, .int .i64 f0, .int .i64 f1, .int .i64 f2] (by refine ⟨?_, ?_, ?_, ?_, ?_, ?_, ?_, trivial⟩ <;> exact byCT)
      have hzs9 := blocks_calls hbq [w.heap.size] (by refine ⟨?_, trivial⟩ <;> first | with_reducible assumption | omega | (simp; omega) | (simp; done))
      try clear c00 c01 c02 c03 c04 c05 c06
      obtain ⟨c00, c01, c02, c03, c04, c05, c06, -⟩ := hcs9
      obtain ⟨z0, -⟩ := hzs9
      have hsq := hbq.size
      have gq : Below w.heap.size w wq := gw5.trans (hbq.mono gw5.size)
      go_wp2_with fail
      refine (toEntryS_a _ n E _ ((unhide HA).below gq) hn2).mono ?_
      rintro en w6 ⟨rfl, hr6, hb6⟩
      have hcs9 := cells_calls hb6 [⟨w.heap.size, 0, none⟩, ⟨w.heap.size, 1, none⟩, ⟨w.heap.size, 2, none⟩, ⟨w.heap.size, 3, none⟩, ⟨w.heap.size, 4, none⟩, ⟨w.heap.size, 5, none⟩, ⟨w.heap.size, 6, none⟩] [.int .i64 k, .string nm, .string a, .string b, .int .i64 f0, .int .i64 f1, .int .i64 f2] (by refine ⟨?_, ?_, ?_, ?_, ?_, ?_, ?_, trivial⟩ <;> exact byCT)
      have hzs9 := blocks_calls hb6 [w.heap.size] (by refine ⟨?_, trivial⟩ <;> first | with_reducible assumption | omega | (simp; omega) | (simp; done))
      try clear c00 c01 c02 c03 c04 c05 c06
      obtain ⟨c00, c01, c02, c03, c04, c05, c06, -⟩ := hcs9
      obtain ⟨z0, -⟩ := hzs9
      have hs6 := hb6.size
      have gw6 : Below w.heap.size w w6 := gq.trans (hb6.mono gq.size)
      have HR6 := hide hr6
      have HR56 := hide (((unhide HR5).below hbq).below hb6)
      have ST66 := hide (((unhide ST65).below hbq (by omega)).below hb6 (by omega))
      have ST96 := hide (((unhide ST95).below hbq (by omega)).below hb6 (by omega))
      clear hr6 HR5 ST65 ST95 hbq
      go_wp2_with fail
      refine (eqEntryS_a _ _ n n n E _ hn2 (unhide HR56) (unhide HR6)).mono ?_
      rintro en w7 ⟨rfl, hb7⟩
      have hcs9 := cells_calls hb7 [⟨w.heap.size, 0, none⟩, ⟨w.heap.size, 1, none⟩, ⟨w.heap.size, 2, none⟩, ⟨w.heap.size, 3, none⟩, ⟨w.heap.size, 4, none⟩, ⟨w.heap.size, 5, none⟩, ⟨w.heap.size, 6, none⟩] [.int .i64 k, .string nm, .string a, .string b, .int .i64 f0, .int .i64 f1, .int .i64 f2] (by refine ⟨?_, ?_, ?_, ?_, ?_, ?_, ?_, trivial⟩ <;> exact byCT)
      have hzs9 := blocks_calls hb7 [w.heap.size] (by refine ⟨?_, trivial⟩ <;> first | with_reducible assumption | omega | (simp; omega) | (simp; done))
      try clear c00 c01 c02 c03 c04 c05 c06
      obtain ⟨c00, c01, c02, c03, c04, c05, c06, -⟩ := hcs9
      obtain ⟨z0, -⟩ := hzs9
      have hs7 := hb7.size
      have gw7 : Below w.heap.size w w7 := gw6.trans (hb7.mono gw6.size)
      have HR7 := hide ((unhide HR56).below hb7)
      have ST67 := hide ((unhide ST66).below hb7 (by omega))
      have ST97 := hide ((unhide ST96).below hb7 (by omega))
      clear HR6 HR56 ST66 ST96
      go_wp2_with fail
      refine (markEntryS_row _ n n n 1 _ w7 (by omega) (by omega) (by omega) (Nat.le_refl _) (unhide HR7)).mono ?_
      rintro en w8 ⟨rfl, -, hg8⟩
      have hs8 := hg8.size
      have hwx : w.heap.size < w2.heap.size := by have := gw1.size; omega
      have hne : some w.heap.size ≠ some w2.heap.size := fun e => by have := Option.some.inj e; omega
      have gw8 : Below w.heap.size w w8 := gw7.grown hg8 (by omega) (fun k hk => by cases hk; omega)
      have e0 := (hg8.cell_far ⟨w.heap.size, 0, none⟩ (by show w.heap.size < w7.heap.size; omega) hne).trans c00
      have e1 := (hg8.cell_far ⟨w.heap.size, 1, none⟩ (by show w.heap.size < w7.heap.size; omega) hne).trans c01
      have e2 := (hg8.cell_far ⟨w.heap.size, 2, none⟩ (by show w.heap.size < w7.heap.size; omega) hne).trans c02
      have e3 := (hg8.cell_far ⟨w.heap.size, 3, none⟩ (by show w.heap.size < w7.heap.size; omega) hne).trans c03
      have e4 := (hg8.cell_far ⟨w.heap.size, 4, none⟩ (by show w.heap.size < w7.heap.size; omega) hne).trans c04
      have e5 := (hg8.cell_far ⟨w.heap.size, 5, none⟩ (by show w.heap.size < w7.heap.size; omega) hne).trans c05
      have e6 := (hg8.cell_far ⟨w.heap.size, 6, none⟩ (by show w.heap.size < w7.heap.size; omega) hne).trans c06
      have ST68 := hide ((unhide ST67).keep fun k h1 h2 => hg8.block k (by omega) (fun e => by cases e; omega))
      have ST98 := hide ((unhide ST97).keep fun k h1 h2 => hg8.block k (by omega) (fun e => by cases e; omega))
      clear c00 c01 c02 c03 c04 c05 c06 ST67 ST97 HR7 hg8
      have c00 := e0
      have c01 := e1
      have c02 := e2
      have c03 := e3
      have c04 := e4
      have c05 := e5
      have c06 := e6
      clear e0 e1 e2 e3 e4 e5 e6
      have hk1 : ¬ ((1 : Int) + 4 * (n : Int) < 0) := by omega
      go_wp2_with fail
      refine (eqEntryS_any a9' a6 _ _ _ _ zs.length c9' c6 _ w8 (by omega) (unhide ST98) (unhide ST68)).mono ?_
      rintro en w8b ⟨rfl, hb8b⟩
      have hcs9 := cells_calls hb8b [⟨w.heap.size, 0, none⟩, ⟨w.heap.size, 1, none⟩, ⟨w.heap.size, 2, none⟩, ⟨w.heap.size, 3, none⟩, ⟨w.heap.size, 4, none⟩, ⟨w.heap.size, 5, none⟩, ⟨w.heap.size, 6, none⟩] [.int .i64 k, .string nm, .string a, .string b, .int .i64 f0, .int .i64 f1, .int .i64 f2] (by refine ⟨?_, ?_, ?_, ?_, ?_, ?_, ?_, trivial⟩ <;> exact byCT)
      have hzs9 := blocks_calls hb8b [w.heap.size] (by refine ⟨?_, trivial⟩ <;> first | with_reducible assumption | omega | (simp; omega) | (simp; done))
      try clear c00 c01 c02 c03 c04 c05 c06
      obtain ⟨c00, c01, c02, c03, c04, c05, c06, -⟩ := hcs9
      obtain ⟨z0, -⟩ := hzs9
      have hs8b := hb8b.size
      have gw8b : Below w.heap.size w w8b := gw8.trans (hb8b.mono gw8.size)
      have ST68b := hide ((unhide ST68).below hb8b (by omega))
      have ST98b := hide ((unhide ST98).below hb8b (by omega))
      clear ST68 ST98
      go_wp2_with fail
      refine (markEntryS_all a9' _ _ zs.length c9' 1 _ w8b (by omega) (by omega) (by omega) (unhide ST98b)).mono ?_
      rintro en wm ⟨rfl, stm, hkm, hszm, hBm⟩
      have bm := hBm (w.heap.size + 1) (by omega) (by omega)
      have gwm : Below w.heap.size w wm := gw8b.trans (bm.mono (by omega))
      have e0 := Eq.trans (World.cell?_of_block (a := ⟨w.heap.size, 0, none⟩) (bm.block w.heap.size (by omega))) c00
      have e1 := Eq.trans (World.cell?_of_block (a := ⟨w.heap.size, 1, none⟩) (bm.block w.heap.size (by omega))) c01
      have e2 := Eq.trans (World.cell?_of_block (a := ⟨w.heap.size, 2, none⟩) (bm.block w.heap.size (by omega))) c02
      have e3 := Eq.trans (World.cell?_of_block (a := ⟨w.heap.size, 3, none⟩) (bm.block w.heap.size (by omega))) c03
      have e4 := Eq.trans (World.cell?_of_block (a := ⟨w.heap.size, 4, none⟩) (bm.block w.heap.size (by omega))) c04
      have e5 := Eq.trans (World.cell?_of_block (a := ⟨w.heap.size, 5, none⟩) (bm.block w.heap.size (by omega))) c05
      have e6 := Eq.trans (World.cell?_of_block (a := ⟨w.heap.size, 6, none⟩) (bm.block w.heap.size (by omega))) c06
      clear c00 c01 c02 c03 c04 c05 c06
      have c00 := e0
      have c01 := e1
      have c02 := e2
      have c03 := e3
      have c04 := e4
      have c05 := e5
      have c06 := e6
      clear e0 e1 e2 e3 e4 e5 e6
      have ST6m := hide ((unhide ST68b).keep fun k h1 h2 => hkm k (by omega) (by omega))
      have STM := hide stm
      clear stm hkm hBm bm ST68b ST98b
      go_wp2_with fail
      refine (heldEntryS_any a9' _ _ zs.length c9' 1 wm (by omega) (by omega) (by omega) (unhide STM)).mono ?_
      rintro en w9 ⟨rfl, hb9⟩
      have hcs9 := cells_calls hb9 [⟨w.heap.size, 0, none⟩, ⟨w.heap.size, 1, none⟩, ⟨w.heap.size, 2, none⟩, ⟨w.heap.size, 3, none⟩, ⟨w.heap.size, 4, none⟩, ⟨w.heap.size, 5, none⟩, ⟨w.heap.size, 6, none⟩] [.int .i64 k, .string nm, .string a, .string b, .int .i64 f0, .int .i64 f1, .int .i64 f2] (by refine ⟨?_, ?_, ?_, ?_, ?_, ?_, ?_, trivial⟩ <;> exact byCT)
      have hzs9 := blocks_calls hb9 [w.heap.size] (by refine ⟨?_, trivial⟩ <;> first | with_reducible assumption | omega | (simp; omega) | (simp; done))
      try clear c00 c01 c02 c03 c04 c05 c06
      obtain ⟨c00, c01, c02, c03, c04, c05, c06, -⟩ := hcs9
      obtain ⟨z0, -⟩ := hzs9
      have hs9 := hb9.size
      have gw9 : Below w.heap.size w w9 := gwm.trans (hb9.mono gwm.size)
      have ST69 := hide ((unhide ST6m).below hb9 (by omega))
      have STM9 := hide ((unhide STM).below hb9 (by omega))
      clear ST6m STM
      have hk2 : ¬ ((1 : Int) + 4 * (zs.length : Int) < 0) := by omega
      go_upto_region 27 with fail
      go_cut [14, 15] (fun s14 s15 wx => (SlN zs w9.heap.size) wx s14 ∧ s15 = .int .i64 cd ∧ wx.cell? ⟨w.heap.size, 0, none⟩ = some (.int .i64 k) ∧ wx.cell? ⟨w.heap.size, 1, none⟩ = some (.string nm) ∧ wx.cell? ⟨w.heap.size, 2, none⟩ = some (.string a) ∧ wx.cell? ⟨w.heap.size, 3, none⟩ = some (.string b) ∧ wx.cell? ⟨w.heap.size, 4, none⟩ = some (.int .i64 f0) ∧ wx.cell? ⟨w.heap.size, 5, none⟩ = some (.int .i64 f1) ∧ wx.cell? ⟨w.heap.size, 6, none⟩ = some (.int .i64 f2) ∧ Below w9.heap.size w9 wx)
      case first =>
        have h1 := trivial
        rename_i K2 h2 h3
        let hgf9 : Nat → World → Value → Prop := fun j => match j with | 0 => Kd.ok (Kd.val (.slice a9 n c9)) | 1 => (SlcE n E) | 2 => Kd.ok (Kd.val (.agg #[.int .i64 k, .string nm, .string a, .string b, .int .i64 f0, .int .i64 f1, .int .i64 f2])) | 3 => Kd.ok (Kd.val (.agg #[.int .i64 k, .string nm, .string a, .string b, .int .i64 f0, .int .i64 f1, .int .i64 f2])) | 4 => (TupN zs cd w9.heap.size) | 5 => (TupN zs cd w9.heap.size) | 6 => (SlN zs w9.heap.size) | 7 => Kd.ok (Kd.val (.int .i64 cd)) | 8 => (SlN zs w9.heap.size) | 9 => Kd.ok (Kd.val (.int .i64 cd)) | _ => Kd.ok Kd.any
        have hst9 : ∀ j, StB (hgf9 j) := fun j => match j with | 0 => (Kd.st (Kd.val (.slice a9 n c9)) : StB (Kd.ok (Kd.val (.slice a9 n c9)))) | 1 => (SlcE.st : StB (SlcE n E)) | 2 => (Kd.st (Kd.val (.agg #[.int .i64 k, .string nm, .string a, .string b, .int .i64 f0, .int .i64 f1, .int .i64 f2])) : StB (Kd.ok (Kd.val (.agg #[.int .i64 k, .string nm, .string a, .string b, .int .i64 f0, .int .i64 f1, .int .i64 f2])))) | 3 => (Kd.st (Kd.val (.agg #[.int .i64 k, .string nm, .string a, .string b, .int .i64 f0, .int .i64 f1, .int .i64 f2])) : StB (Kd.ok (Kd.val (.agg #[.int .i64 k, .string nm, .string a, .string b, .int .i64 f0, .int .i64 f1, .int .i64 f2])))) | 4 => (TupN.st : StB (TupN zs cd w9.heap.size)) | 5 => (TupN.st : StB (TupN zs cd w9.heap.size)) | 6 => (SlN.st : StB (SlN zs w9.heap.size)) | 7 => (Kd.st (Kd.val (.int .i64 cd)) : StB (Kd.ok (Kd.val (.int .i64 cd)))) | 8 => (SlN.st : StB (SlN zs w9.heap.size)) | 9 => (Kd.st (Kd.val (.int .i64 cd)) : StB (Kd.ok (Kd.val (.int .i64 cd)))) | j + 10 => (Kd.st Kd.any : StB (Kd.ok Kd.any))
        refine region_n0 (by kernel_rfl) (fun j => #[85,86,87,88,89,84,90,91,14,15].getD j 0) (hgf9) (Sy w9 (w9.heap.size) [(⟨w.heap.size, 0, none⟩, .int .i64 k), (⟨w.heap.size, 1, none⟩, .string nm), (⟨w.heap.size, 2, none⟩, .string a), (⟨w.heap.size, 3, none⟩, .string b), (⟨w.heap.size, 4, none⟩, .int .i64 f0), (⟨w.heap.size, 5, none⟩, .int .i64 f1), (⟨w.heap.size, 6, none⟩, .int .i64 f2)] []) (by kernel_rfl) (by kernel_rfl) ?_ ?_ ?_ ?_
        · intro j hj
          have hj2 : j < 10 := hj
          have : ∀ j, j < 10 → (#[85,86,87,88,89,84,90,91,14,15] : Array Nat).getD j 0 < 109 := by decide
          exact this j hj2
        · refine Sy.drew (Sy.mk_of ?_ ?_ ?_ ?_)
          · first | rfl | (simp; done) | (simp; omega)
          · intro c hc
            simp only [List.mem_cons, List.not_mem_nil, or_false] at hc
            rcases hc with rfl | rfl | rfl | rfl | rfl | rfl | rfl <;> exact byCT
          · intro p hp; cases hp
          · (repeat' first | with_reducible (first | exact Below.refl _ _ | assumption | refine gr_alloc ?_ _ | refine below_drewN ?_ _ | refine below_drew ?_ | refine gr_call ?_ (by assumption) | refine Below.setCell ?_ ?_ _) | go_size | omega | (simp; omega))
        · clear h1 h2 h3
          refine ⟨?r24x0, ?r24x1, ?r24x2, ?r24x3, ?r24x4, ?r24x5, ?r24x6, ?r24x7, ?r24x8, ?r24x9, trivial⟩
          all_goals intro _ aq wx Kq hf hS hdep ev1 ev2 hK
          case' r24x0 =>
            have F0 : aq.eval (.tmp 0) = .slice a9 n c9 := hf 0
          case' r24x1 =>
            have D0 : aq.eval (.tmp 85) = _ := hdep 0
          case' r24x2 =>
            have F3 : aq.eval (.tmp 3) = .pointer (some ⟨w.heap.size, 0, none⟩) := hf 3
            have c0 := hS.cells (⟨w.heap.size, 0, none⟩, .int .i64 k) (by simp)
            have c1 := hS.cells (⟨w.heap.size, 1, none⟩, .string nm) (by simp)
            have c2 := hS.cells (⟨w.heap.size, 2, none⟩, .string a) (by simp)
            have c3 := hS.cells (⟨w.heap.size, 3, none⟩, .string b) (by simp)
            have c4 := hS.cells (⟨w.heap.size, 4, none⟩, .int .i64 f0) (by simp)
            have c5 := hS.cells (⟨w.heap.size, 5, none⟩, .int .i64 f1) (by simp)
            have c6 := hS.cells (⟨w.heap.size, 6, none⟩, .int .i64 f2) (by simp)
          case' r24x3 =>
            have D2 : aq.eval (.tmp 87) = _ := hdep 2
          case' r24x4 =>
            obtain ⟨gq86, DP86, hrw86, hlt86⟩ := hdep 1
            change aq.eval (.tmp 86) = _ at DP86
            have D3 : aq.eval (.tmp 88) = _ := hdep 3
          case' r24x5 =>
            obtain ⟨gv89, DP89, hsl89⟩ := hdep 4
            change aq.eval (.tmp 89) = _ at DP89
          case' r24x6 =>
            obtain ⟨gv84, DP84, hsl84⟩ := hdep 5
            change aq.eval (.tmp 84) = _ at DP84
          case' r24x7 =>
            obtain ⟨gv84, DP84, hsl84⟩ := hdep 5
            change aq.eval (.tmp 84) = _ at DP84
          case' r24x8 =>
            obtain ⟨ga90, gc90, gh90, DP90, hgh90, hst90⟩ := hdep 6
            change aq.eval (.tmp 90) = _ at DP90
          case' r24x9 =>
            have D7 : aq.eval (.tmp 91) = _ := hdep 7
          all_goals (clear hf hdep; unfold Oper.wp; generalize Act.eval _ = ev at *; go_simp)
          case r24x1 =>
            refine ((toEntryS_p (.slice a9 n c9) n E _ ((unhide HA).below (gw9.trans (hS.below.mono gw9.size))) (by omega))).mono ?_
            rintro e w2 ⟨v9, rfl, hpr, hb⟩
            refine hK _ _ (hS.call hb) ?_ (fun j u _ h => hst9 j _ _ _ hb h)
            rw [if_pos (by rfl)]
            exact hpr
          case r24x3 =>
            refine ((toCommand_a ⟨k, nm, a, b, f0, f1, f2⟩ _)).mono ?_
            rintro e w2 ⟨rfl, hb⟩
            refine hK _ _ (hS.call hb) ?_ (fun j u _ h => hst9 j _ _ _ hb h)
            rw [if_pos (by rfl)]
            show (_ : Value) = _
            first | rfl | (refine congrArg (Value.int .i64) ?_; first | rfl | exact int_in (by omega) | exact quo_in (by omega) (by omega) (by omega) | exact rem_in (by omega) (by omega) | omega) | (simp; done) | (simp [*]; done)
          case r24x4 =>
            refine ((rc_i gq86 n E ⟨k, nm, a, b, f0, f1, f2⟩ w9.heap.size zs cd _ hrw86 (by omega) (unhide HO) (unhide HK) hS.below.size (unhide HZ) (unhide HB))).mono ?_
            rintro e w2 ⟨v9, rfl, hpr, hb⟩
            refine hK _ _ (hS.call hb) ?_ (fun j u _ h => hst9 j _ _ _ hb h)
            rw [if_pos (by rfl)]
            exact hpr
          case r24x5 =>
            refine hK _ _ hS ?_ (fun j u _ h => h)
            rw [if_pos (by rfl)]
            exact ⟨_, rfl, hsl89⟩
          case r24x6 =>
            refine hK _ _ hS ?_ (fun j u _ h => h)
            rw [if_pos (by rfl)]
            exact hsl84
          case r24x8 =>
            refine hK _ _ hS ?_ (fun j u _ h => h)
            rw [if_pos (by rfl)]
            exact ⟨_, _, _, rfl, hgh90, hst90⟩
          all_goals (refine hK _ _ hS ?_ (fun j u _ h => h); rw [if_pos (by rfl)]; show (_ : Value) = _; (first | rfl | (refine congrArg (Value.int .i64) ?_; first | rfl | exact int_in (by omega) | exact quo_in (by omega) (by omega) (by omega) | exact rem_in (by omega) (by omega) | omega) | (simp; done) | (simp [*]; done)))
        · intro aq wx hd hw hf hS hg
          have G14 : (SlN zs w9.heap.size) wx (tau aq 14) := hg 8 (by decide)
          have G15 : tau aq 15 = .int .i64 cd := hg 9 (by decide)
          have haq : aq = ⟨#[tau aq 0, tau aq 1, tau aq 2, tau aq 3, tau aq 4, tau aq 5, tau aq 6, tau aq 7, tau aq 8, tau aq 9, tau aq 10, tau aq 11, tau aq 12, tau aq 13, tau aq 14, tau aq 15, tau aq 16, tau aq 17, tau aq 18, tau aq 19, tau aq 20, tau aq 21, tau aq 22, tau aq 23, tau aq 24, tau aq 25, tau aq 26, tau aq 27, tau aq 28, tau aq 29, tau aq 30, tau aq 31, tau aq 32, tau aq 33, tau aq 34, tau aq 35, tau aq 36, tau aq 37, tau aq 38, tau aq 39, tau aq 40, tau aq 41, tau aq 42, tau aq 43, tau aq 44, tau aq 45, tau aq 46, tau aq 47, tau aq 48, tau aq 49, tau aq 50, tau aq 51, tau aq 52, tau aq 53, tau aq 54, tau aq 55, tau aq 56, tau aq 57, tau aq 58, tau aq 59, tau aq 60, tau aq 61, tau aq 62, tau aq 63, tau aq 64, tau aq 65, tau aq 66, tau aq 67, tau aq 68, tau aq 69, tau aq 70, tau aq 71, tau aq 72, tau aq 73, tau aq 74, tau aq 75, tau aq 76, tau aq 77, tau aq 78, tau aq 79, tau aq 80, tau aq 81, tau aq 82, tau aq 83, tau aq 84, tau aq 85, tau aq 86, tau aq 87, tau aq 88, tau aq 89, tau aq 90, tau aq 91, tau aq 92, tau aq 93, tau aq 94, tau aq 95, tau aq 96, tau aq 97, tau aq 98, tau aq 99, tau aq 100, tau aq 101, tau aq 102, tau aq 103, tau aq 104, tau aq 105, tau aq 106, tau aq 107, tau aq 108], []⟩ := by
            obtain ⟨tq, dq⟩ := aq
            have h5 := arr_eq (show tq.size = 109 from hw)
            have h6 : dq = [] := hd
            subst h6
            exact congrArg (fun z => Act.mk z []) h5
          show K2 aq wx
          rw [haq, hf 0, hf 1, hf 2, hf 3, hf 4, hf 5, hf 6, hf 7, hf 8, hf 9, hf 10, hf 11, hf 12, hf 13, hf 16, hf 17, hf 18, hf 19, hf 20, hf 21, hf 22, hf 23, hf 24, hf 25, hf 26, hf 27, hf 28, hf 29, hf 30, hf 31, hf 32, hf 33, hf 34, hf 35, hf 36, hf 37, hf 38, hf 39, hf 40, hf 41, hf 42, hf 43, hf 44, hf 45, hf 46, hf 47, hf 48, hf 49, hf 50, hf 51, hf 52, hf 53, hf 54, hf 55, hf 56, hf 57, hf 58, hf 59, hf 60, hf 61, hf 62, hf 63, hf 64, hf 65, hf 66, hf 67, hf 68, hf 69, hf 70, hf 71, hf 72, hf 73, hf 74, hf 75, hf 76, hf 77, hf 78, hf 79, hf 80, hf 81, hf 82, hf 83, hf 92, hf 93, hf 94, hf 95, hf 96, hf 97, hf 98, hf 99, hf 100, hf 101, hf 102, hf 103, hf 104, hf 105, hf 106, hf 107, hf 108, G15]
          clear haq hf hd hw
          try dsimp only
          refine h3 _ _ ?_
          go_meet
          exact ⟨G14, rfl, hS.cells (⟨w.heap.size, 0, none⟩, .int .i64 k) (by simp), hS.cells (⟨w.heap.size, 1, none⟩, .string nm) (by simp), hS.cells (⟨w.heap.size, 2, none⟩, .string a) (by simp), hS.cells (⟨w.heap.size, 3, none⟩, .string b) (by simp), hS.cells (⟨w.heap.size, 4, none⟩, .int .i64 f0) (by simp), hS.cells (⟨w.heap.size, 5, none⟩, .int .i64 f1) (by simp), hS.cells (⟨w.heap.size, 6, none⟩, .int .i64 f2) (by simp), hS.below⟩
      try clear c00
      try clear c01
      try clear c02
      try clear c03
      try clear c04
      try clear c05
      try clear c06
      obtain ⟨hp14, rfl, c00, c01, c02, c03, c04, c05, c06, hb0⟩ := hcut
      have z0 := World.block_lt_of_cell? _ _ c00
      change w.heap.size < wc.heap.size at z0
      obtain ⟨w10, rfl⟩ : ∃ w10 : World, w10 = wc := ⟨_, rfl⟩
      obtain ⟨a14, c14, hi14, rfl, hh14, st14⟩ := hp14
      have gw10 : Below w.heap.size w w10 := gw9.trans (hb0.mono gw9.size)
      have s10 := hb0.size
      have ST14 := hide st14
      have ST610 := hide ((unhide ST69).below hb0 (by omega))
      have STM10 := hide ((unhide STM9).below hb0 (by omega))
      clear st14 ST69 STM9 hb0
      go_wp2_with fail
      refine (eqEntryS_any a14 a6 _ _ _ _ zs.length c14 c6 _ w10 (by omega) (unhide ST14) (unhide ST610)).mono ?_
      rintro en w10b ⟨rfl, hb10⟩
      have gq10 : Below w.heap.size w w10b := gw10.trans (hb10.mono gw10.size)
      go_wp2_with fail
      refine (heldEntryS_any a9' _ _ zs.length c9' 1 _ (by omega) (by omega) (by omega) ((unhide STM10).below hb10 (by omega))).mono ?_
      rintro en w11 ⟨rfl, hb11⟩
      go_wp2
      go_ret
      exact ⟨rfl, gq10.trans (hb11.mono gq10.size)⟩
end Go.Proofs.Ytligbfegafkpjaa
