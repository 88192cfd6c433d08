/-
  The law of NamesOfClass.
-/
import Derived.Test.YtligbfegafkpjaaNc
import Derived.Test.YtligbfegafkpjaaMkE
namespace Go.Proofs.Ytligbfegafkpjaa
open Go.RowKit
set_option linter.unusedVariables false
set_option linter.unusedSimpArgs false
attribute [local go_sem] q2 q3 q4 q5 q6 q7 q8 q9 q10 q11 q12

/-- A slice of entries in a block of its own. -/
def SlcE (n : Nat) (E : Nat → Ent) (w : World) (v : Value) : Prop := ∃ g : Nat, v = .slice (some ⟨g, 0, none⟩) n n ∧ RowE w g n E ∧ g < w.heap.size
def SlS (zs : List ByteArray) (lo : Nat) (w : World) (v : Value) : Prop := ∃ (a : Option Addr) (c hi : Nat), v = .slice a zs.length c ∧ hi ≤ w.heap.size ∧ StrsAt w lo hi a zs.length (fun i => zs.getD i ⟨#[]⟩)
def TupS (zs : List ByteArray) (ok : Bool) (lo : Nat) (w : World) (v : Value) : Prop := ∃ v1, v = .tuple #[v1, .bool ok] ∧ SlS zs lo w v1
def StB (P : World → Value → Prop) : Prop := ∀ W w' v, Below W.heap.size W w' → P W v → P w' v
theorem Kd.st (k : Kd) : StB k.ok := fun W w' v hb h => Kd.ok_below hb h
theorem SlcE.st {n : Nat} {E : Nat → Ent} : StB (SlcE n E) := fun W w' v hb ⟨g, h1, h2, h3⟩ => ⟨g, h1, h2.below hb, Nat.lt_of_lt_of_le h3 hb.size⟩
theorem SlS.st {zs : List ByteArray} {lo : Nat} : StB (SlS zs lo) := fun W w' v hb ⟨a, c, hi, h1, h2, h3⟩ => ⟨a, c, hi, h1, Nat.le_trans h2 hb.size, h3.below hb h2⟩
theorem TupS.st {zs : List ByteArray} {ok : Bool} {lo : Nat} : StB (TupS zs ok lo) := fun W w' v hb ⟨v1, h1, h2⟩ => ⟨v1, h1, SlS.st W w' v1 hb h2⟩
theorem toEntryS_p (v : Value) (n : Nat) (E : Nat → Ent) (w : World) (h : ArgE w v n E) (hn : n ≤ 2000000) :
    Calls Try.prog 19 #[v] w fun e w' => ∃ v', e = .returned v' ∧ SlcE n E w' v' ∧ Below w.heap.size w w' :=
  (toEntryS_a v n E w h hn).mono fun e w' ⟨he, hr, hb⟩ => ⟨_, he, ⟨_, rfl, hr, World.rowIs.lt hr⟩, hb⟩
theorem nc_s (g n : Nat) (E : Nat → Ent) (x y z : Int) (lo : Nat) (zs : List ByteArray) (b : Bool) (w : World) (h : RowE w g n E) (hn : n ≤ 2000000) (ho : ∀ i, i < n → EntOk (E i)) (i0 : I64 x) (i1 : I64 y) (i2 : I64 z) (hl : lo ≤ w.heap.size) (hz : ncL E n (x, y, z) = zs) (hB : ncB E n (x, y, z) = b) :
    Calls Try.prog 22 #[.slice (some ⟨g, 0, none⟩) n n, .agg #[.int .i64 x, .int .i64 y, .int .i64 z]] w fun e w' => ∃ v', e = .returned v' ∧ TupS zs b lo w' v' ∧ Below w.heap.size w w' := by
  subst hz hB
  exact (specNames_a _ n E x y z w h.arg hn ho i0 i1 i2).mono fun e w' ⟨a, c, he, hs, hb⟩ => ⟨_, he, ⟨_, rfl, a, c, _, rfl, Nat.le_refl _, hs.low hl⟩, hb⟩
theorem nc_i (g n : Nat) (E : Nat → Ent) (x y z : Int) (lo : Nat) (zs : List ByteArray) (b : Bool) (w : World) (h : RowE w g n E) (hn : n ≤ 2000000) (ho : ∀ i, i < n → EntOk (E i)) (i0 : I64 x) (i1 : I64 y) (i2 : I64 z) (hl : lo ≤ w.heap.size) (hz : ncL E n (x, y, z) = zs) (hB : ncB E n (x, y, z) = b) :
    Calls Try.prog 24 #[.slice (some ⟨g, 0, none⟩) n n, .agg #[.int .i64 x, .int .i64 y, .int .i64 z]] w fun e w' => ∃ v', e = .returned v' ∧ TupS zs b lo w' v' ∧ Below w.heap.size w w' := by
  subst hz hB
  exact (implNames_a _ n E x y z w h.arg hn ho i0 i1 i2).mono fun e w' ⟨a, c, he, hs, hb⟩ => ⟨_, he, ⟨_, rfl, a, c, _, rfl, Nat.le_refl _, hs.low hl⟩, hb⟩
theorem ncL_len {n : Nat} (E : Nat → Ent) (X : T3n) : (ncL E n X).length ≤ n := by
  unfold ncL
  split
  · exact ncN_len E _ n
  · simp

set_option maxRecDepth 100000 in
set_option maxHeartbeats 8000000 in
theorem lawNamesOfClass (v : Value) (n : Nat) (E : Nat → Ent) (x y z : Int) (w : World) (h : ArgE w v n E) (hm : n ≤ 9223372036854775807) (ho : ∀ i, i < n → EntOk (E i)) (i0 : I64 x) (i1 : I64 y) (i2 : I64 z) :
    Calls Try.prog 6 #[v, .agg #[.int .i64 x, .int .i64 y, .int .i64 z]] w fun e w' => e = .returned (.bool true) ∧ Below w.heap.size w w' := by
  have HA := hide h
  have HO := hide ho
  obtain ⟨a, c, rfl⟩ := h.len
  clear h ho
  obtain ⟨zs, hz⟩ : ∃ zs, ncL E n (x, y, z) = zs := ⟨_, rfl⟩
  obtain ⟨okb, hB⟩ : ∃ b, ncB E n (x, y, z) = b := ⟨_, rfl⟩
  have hlen : zs.length ≤ n := by rw [← hz]; exact ncL_len E _
  have HZ := hide hz
  have HB := hide hB
  clear hz hB
  go_enter Try.func6, Try.ntmps6
  go_wp2_with fail
  refine (szEntryS_a _ n 1048576 E _ ((unhide HA).below (below_alloc_self _ _)) hm (unhide HO) (by omega)).mono ?_
  rintro en w1 ⟨r, rfl, hr, hb1⟩
  have hcs9 := cells_calls hb1 [⟨w.heap.size, 0, none⟩, ⟨w.heap.size, 1, none⟩, ⟨w.heap.size, 2, none⟩] [.int .i64 x, .int .i64 y, .int .i64 z] (by refine ⟨?_, ?_, ?_, trivial⟩ <;> exact byCT)
  have hzs9 := blocks_calls hb1 [w.heap.size] (by refine ⟨?_, trivial⟩ <;> first | with_reducible assumption | omega | (simp; omega) | (simp; done))
  try clear c00 c01 c02
  obtain ⟨c00, c01, c02, -⟩ := hcs9
  obtain ⟨z0, -⟩ := hzs9
  have hs1 := hb1.size

  have gw1 : Below w.heap.size w w1 := byGG
  rcases hr with hr | ⟨hr, hn⟩
  · go_wp2
    go_ret
    exact ⟨rfl, gw1⟩
  · have hn2 : n ≤ 2000000 := by omega
    go_upto_region 5 with fail
    go_cut [6, 7] (fun s6 s7 wx => (SlS zs w1.heap.size) wx s6 ∧ s7 = .bool okb ∧ wx.cell? ⟨w.heap.size, 0, none⟩ = some (.int .i64 x) ∧ wx.cell? ⟨w.heap.size, 1, none⟩ = some (.int .i64 y) ∧ wx.cell? ⟨w.heap.size, 2, none⟩ = some (.int .i64 z) ∧ Below w1.heap.size w1 wx)
    case first =>
      have h1 := trivial
      rename_i K2 h2 h3
      let hgf9 : Nat → World → Value → Prop := fun j => match j with | 0 => Kd.ok (Kd.val (.slice a n c)) | 1 => (SlcE n E) | 2 => Kd.ok (Kd.val (.agg #[.int .i64 x, .int .i64 y, .int .i64 z])) | 3 => Kd.ok (Kd.val (.agg #[.int .i64 x, .int .i64 y, .int .i64 z])) | 4 => (TupS zs okb w1.heap.size) | 5 => (TupS zs okb w1.heap.size) | 6 => (SlS zs w1.heap.size) | 7 => Kd.ok (Kd.val (.bool okb)) | 8 => (SlS zs w1.heap.size) | 9 => Kd.ok (Kd.val (.bool okb)) | _ => Kd.ok Kd.any
      have hst9 : ∀ j, StB (hgf9 j) := fun j => match j with | 0 => (Kd.st (Kd.val (.slice a n c)) : StB (Kd.ok (Kd.val (.slice a n c)))) | 1 => (SlcE.st : StB (SlcE n E)) | 2 => (Kd.st (Kd.val (.agg #[.int .i64 x, .int .i64 y, .int .i64 z])) : StB (Kd.ok (Kd.val (.agg #[.int .i64 x, .int .i64 y, .int .i64 z])))) | 3 => (Kd.st (Kd.val (.agg #[.int .i64 x, .int .i64 y, .int .i64 z])) : StB (Kd.ok (Kd.val (.agg #[.int .i64 x, .int .i64 y, .int .i64 z])))) | 4 => (TupS.st : StB (TupS zs okb w1.heap.size)) | 5 => (TupS.st : StB (TupS zs okb w1.heap.size)) | 6 => (SlS.st : StB (SlS zs w1.heap.size)) | 7 => (Kd.st (Kd.val (.bool okb)) : StB (Kd.ok (Kd.val (.bool okb)))) | 8 => (SlS.st : StB (SlS zs w1.heap.size)) | 9 => (Kd.st (Kd.val (.bool okb)) : StB (Kd.ok (Kd.val (.bool okb)))) | j + 10 => (Kd.st Kd.any : StB (Kd.ok Kd.any))
      refine region_n0 (by kernel_rfl) (fun j => #[22,23,24,25,26,21,27,28,6,7].getD j 0) (hgf9) (Sy w1 (w1.heap.size) [(⟨w.heap.size, 0, none⟩, .int .i64 x), (⟨w.heap.size, 1, none⟩, .int .i64 y), (⟨w.heap.size, 2, none⟩, .int .i64 z)] []) (by kernel_rfl) (by kernel_rfl) ?_ ?_ ?_ ?_
      · intro j hj
        have hj2 : j < 10 := hj
        have : ∀ j, j < 10 → (#[22,23,24,25,26,21,27,28,6,7] : Array Nat).getD j 0 < 104 := by decide
        exact this j hj2
      · refine Sy.drew (Sy.mk_of ?_ ?_ ?_ ?_)
        · first | rfl | (simp; done) | (simp; omega)
        · intro c hc
          simp only [List.mem_cons, List.not_mem_nil, or_false] at hc
          rcases hc with rfl | rfl | rfl <;> exact byCT
        · intro p hp; cases hp
        · (repeat' first | with_reducible (first | exact Below.refl _ _ | assumption | refine gr_alloc ?_ _ | refine below_drewN ?_ _ | refine below_drew ?_ | refine gr_call ?_ (by assumption) | refine Below.setCell ?_ ?_ _) | go_size | omega | (simp; omega))
      · clear h1 h2 h3
        refine ⟨?r28x0, ?r28x1, ?r28x2, ?r28x3, ?r28x4, ?r28x5, ?r28x6, ?r28x7, ?r28x8, ?r28x9, trivial⟩
        all_goals intro _ aq wx Kq hf hS hdep ev1 ev2 hK
        case' r28x0 =>
          have F0 : aq.eval (.tmp 0) = .slice a n c := hf 0
        case' r28x1 =>
          have D0 : aq.eval (.tmp 22) = _ := hdep 0
        case' r28x2 =>
          have F3 : aq.eval (.tmp 3) = .pointer (some ⟨w.heap.size, 0, none⟩) := hf 3
          have c0 := hS.cells (⟨w.heap.size, 0, none⟩, .int .i64 x) (by simp)
          have c1 := hS.cells (⟨w.heap.size, 1, none⟩, .int .i64 y) (by simp)
          have c2 := hS.cells (⟨w.heap.size, 2, none⟩, .int .i64 z) (by simp)
        case' r28x3 =>
          have D2 : aq.eval (.tmp 24) = _ := hdep 2
        case' r28x4 =>
          obtain ⟨gq23, DP23, hrw23, hlt23⟩ := hdep 1
          change aq.eval (.tmp 23) = _ at DP23
          have D3 : aq.eval (.tmp 25) = _ := hdep 3
        case' r28x5 =>
          obtain ⟨gv26, DP26, hsl26⟩ := hdep 4
          change aq.eval (.tmp 26) = _ at DP26
        case' r28x6 =>
          obtain ⟨gv21, DP21, hsl21⟩ := hdep 5
          change aq.eval (.tmp 21) = _ at DP21
        case' r28x7 =>
          obtain ⟨gv21, DP21, hsl21⟩ := hdep 5
          change aq.eval (.tmp 21) = _ at DP21
        case' r28x8 =>
          obtain ⟨ga27, gc27, gh27, DP27, hgh27, hst27⟩ := hdep 6
          change aq.eval (.tmp 27) = _ at DP27
        case' r28x9 =>
          have D7 : aq.eval (.tmp 28) = _ := hdep 7
        all_goals (clear hf hdep; unfold Oper.wp; generalize Act.eval _ = ev at *; go_simp)
        case r28x1 =>
          refine ((toEntryS_p (.slice a n c) n E _ ((unhide HA).below (gw1.trans (hS.below.mono gw1.size))) (by omega))).mono ?_
          rintro e w2 ⟨v9, rfl, hpr, hb⟩
          refine hK _ _ (hS.call hb) ?_ (fun j u _ h => hst9 j _ _ _ hb h)
          rw [if_pos (by rfl)]
          exact hpr
        case r28x3 =>
          refine ((toForm_q x y z _)).mono ?_
          rintro e w2 ⟨rfl, hb⟩
          refine hK _ _ (hS.call hb) ?_ (fun j u _ h => hst9 j _ _ _ hb h)
          rw [if_pos (by rfl)]
          show (_ : Value) = _
          first | rfl | (refine congrArg (Value.int .i64) ?_; first | rfl | exact int_in (by omega) | exact quo_in (by omega) (by omega) (by omega) | exact rem_in (by omega) (by omega) | omega) | (simp; done) | (simp [*]; done)
        case r28x4 =>
          refine ((nc_s gq23 n E x y z w1.heap.size zs okb _ hrw23 (by omega) (unhide HO) i0 i1 i2 hS.below.size (unhide HZ) (unhide HB))).mono ?_
          rintro e w2 ⟨v9, rfl, hpr, hb⟩
          refine hK _ _ (hS.call hb) ?_ (fun j u _ h => hst9 j _ _ _ hb h)
          rw [if_pos (by rfl)]
          exact hpr
        case r28x5 =>
          refine hK _ _ hS ?_ (fun j u _ h => h)
          rw [if_pos (by rfl)]
          exact ⟨_, rfl, hsl26⟩
        case r28x6 =>
          refine hK _ _ hS ?_ (fun j u _ h => h)
          rw [if_pos (by rfl)]
          exact hsl21
        case r28x8 =>
          refine hK _ _ hS ?_ (fun j u _ h => h)
          rw [if_pos (by rfl)]
          exact ⟨_, _, _, rfl, hgh27, hst27⟩
        all_goals (refine hK _ _ hS ?_ (fun j u _ h => h); rw [if_pos (by rfl)]; show (_ : Value) = _; (first | rfl | (refine congrArg (Value.int .i64) ?_; first | rfl | exact int_in (by omega) | exact quo_in (by omega) (by omega) (by omega) | exact rem_in (by omega) (by omega) | omega) | (simp; done) | (simp [*]; done)))
      · intro aq wx hd hw hf hS hg
        have G6 : (SlS zs w1.heap.size) wx (tau aq 6) := hg 8 (by decide)
        have G7 : tau aq 7 = .bool okb := hg 9 (by decide)
        have haq : aq = ⟨#[tau aq 0, tau aq 1, tau aq 2, tau aq 3, tau aq 4, tau aq 5, tau aq 6, tau aq 7, tau aq 8, tau aq 9, tau aq 10, tau aq 11, tau aq 12, tau aq 13, tau aq 14, tau aq 15, tau aq 16, tau aq 17, tau aq 18, tau aq 19, tau aq 20, tau aq 21, tau aq 22, tau aq 23, tau aq 24, tau aq 25, tau aq 26, tau aq 27, tau aq 28, tau aq 29, tau aq 30, tau aq 31, tau aq 32, tau aq 33, tau aq 34, tau aq 35, tau aq 36, tau aq 37, tau aq 38, tau aq 39, tau aq 40, tau aq 41, tau aq 42, tau aq 43, tau aq 44, tau aq 45, tau aq 46, tau aq 47, tau aq 48, tau aq 49, tau aq 50, tau aq 51, tau aq 52, tau aq 53, tau aq 54, tau aq 55, tau aq 56, tau aq 57, tau aq 58, tau aq 59, tau aq 60, tau aq 61, tau aq 62, tau aq 63, tau aq 64, tau aq 65, tau aq 66, tau aq 67, tau aq 68, tau aq 69, tau aq 70, tau aq 71, tau aq 72, tau aq 73, tau aq 74, tau aq 75, tau aq 76, tau aq 77, tau aq 78, tau aq 79, tau aq 80, tau aq 81, tau aq 82, tau aq 83, tau aq 84, tau aq 85, tau aq 86, tau aq 87, tau aq 88, tau aq 89, tau aq 90, tau aq 91, tau aq 92, tau aq 93, tau aq 94, tau aq 95, tau aq 96, tau aq 97, tau aq 98, tau aq 99, tau aq 100, tau aq 101, tau aq 102, tau aq 103], []⟩ := by
          obtain ⟨tq, dq⟩ := aq
          have h5 := arr_eq (show tq.size = 104 from hw)
          have h6 : dq = [] := hd
          subst h6
          exact congrArg (fun z => Act.mk z []) h5
        show K2 aq wx
        rw [haq, hf 0, hf 1, hf 2, hf 3, hf 4, hf 5, hf 8, hf 9, hf 10, hf 11, hf 12, hf 13, hf 14, hf 15, hf 16, hf 17, hf 18, hf 19, hf 20, hf 29, hf 30, hf 31, hf 32, hf 33, hf 34, hf 35, hf 36, hf 37, hf 38, hf 39, hf 40, hf 41, hf 42, hf 43, hf 44, hf 45, hf 46, hf 47, hf 48, hf 49, hf 50, hf 51, hf 52, hf 53, hf 54, hf 55, hf 56, hf 57, hf 58, hf 59, hf 60, hf 61, hf 62, hf 63, hf 64, hf 65, hf 66, hf 67, hf 68, hf 69, hf 70, hf 71, hf 72, hf 73, hf 74, hf 75, hf 76, hf 77, hf 78, hf 79, hf 80, hf 81, hf 82, hf 83, hf 84, hf 85, hf 86, hf 87, hf 88, hf 89, hf 90, hf 91, hf 92, hf 93, hf 94, hf 95, hf 96, hf 97, hf 98, hf 99, hf 100, hf 101, hf 102, hf 103, G7]
        clear haq hf hd hw
        try dsimp only
        refine h3 _ _ ?_
        go_meet
        exact ⟨G6, rfl, hS.cells (⟨w.heap.size, 0, none⟩, .int .i64 x) (by simp), hS.cells (⟨w.heap.size, 1, none⟩, .int .i64 y) (by simp), hS.cells (⟨w.heap.size, 2, none⟩, .int .i64 z) (by simp), hS.below⟩
    try clear c00
    try clear c01
    try clear c02
    obtain ⟨hp6, rfl, c00, c01, c02, hb0⟩ := hcut
    have z0 := World.block_lt_of_cell? _ _ c00
    change w.heap.size < wc.heap.size at z0
    obtain ⟨w2, rfl⟩ : ∃ w2 : World, w2 = wc := ⟨_, rfl⟩
    obtain ⟨a6, c6, hi6, rfl, hh6, st6⟩ := hp6
    have gw2 : Below w.heap.size w w2 := gw1.trans (hb0.mono gw1.size)
    have ST6 := hide st6
    clear st6 hb0
    go_wp2_with fail
    refine (toEntryS_a _ n E _ ((unhide HA).below gw2) hn2).mono ?_
    rintro en w3 ⟨rfl, hr3, hb3⟩
    have hcs9 := cells_calls hb3 [⟨w.heap.size, 0, none⟩, ⟨w.heap.size, 1, none⟩, ⟨w.heap.size, 2, none⟩] [.int .i64 x, .int .i64 y, .int .i64 z] (by refine ⟨?_, ?_, ?_, trivial⟩ <;> exact byCT)
    have hzs9 := blocks_calls hb3 [w.heap.size] (by refine ⟨?_, trivial⟩ <;> first | with_reducible assumption | omega | (simp; omega) | (simp; done))
    try clear c00 c01 c02
    obtain ⟨c00, c01, c02, -⟩ := hcs9
    obtain ⟨z0, -⟩ := hzs9
    have hs3 := hb3.size
    have gw3 : Below w.heap.size w w3 := gw2.trans (hb3.mono gw2.size)
    have HR3 := hide hr3
    have ST63 := hide ((unhide ST6).below hb3 hh6)
    have hlt3 : w2.heap.size < w3.heap.size := World.rowIs.lt hr3
    clear hr3 ST6
    go_wp2_with fail
    refine (toForm_q x y z _).mono ?_
    rintro en w4 ⟨rfl, hb4⟩
    have hcs9 := cells_calls hb4 [⟨w.heap.size, 0, none⟩, ⟨w.heap.size, 1, none⟩, ⟨w.heap.size, 2, none⟩] [.int .i64 x, .int .i64 y, .int .i64 z] (by refine ⟨?_, ?_, ?_, trivial⟩ <;> exact byCT)
    have hzs9 := blocks_calls hb4 [w.heap.size] (by refine ⟨?_, trivial⟩ <;> first | with_reducible assumption | omega | (simp; omega) | (simp; done))
    try clear c00 c01 c02
    obtain ⟨c00, c01, c02, -⟩ := hcs9
    obtain ⟨z0, -⟩ := hzs9
    have hs4 := hb4.size
    have gw4 : Below w.heap.size w w4 := gw3.trans (hb4.mono gw3.size)
    have HR4 := hide ((unhide HR3).below hb4)
    have ST64 := hide ((unhide ST63).below hb4 (by omega))
    clear HR3 ST63
    go_wp2_with fail
    refine (nc_i _ n E x y z w4.heap.size zs okb _ (unhide HR4) hn2 (unhide HO) i0 i1 i2 (Nat.le_refl _) (unhide HZ) (unhide HB)).mono ?_
    rintro en w5 ⟨v5, rfl, ⟨v1, rfl, a9, c9, hi9, rfl, hh9, st9⟩, hb5⟩
    have hcs9 := cells_calls hb5 [⟨w.heap.size, 0, none⟩, ⟨w.heap.size, 1, none⟩, ⟨w.heap.size, 2, none⟩] [.int .i64 x, .int .i64 y, .int .i64 z] (by refine ⟨?_, ?_, ?_, trivial⟩ <;> exact byCT)
    have hzs9 := blocks_calls hb5 [w.heap.size] (by refine ⟨?_, trivial⟩ <;> first | with_reducible assumption | omega | (simp; omega) | (simp; done))
    try clear c00 c01 c02
    obtain ⟨c00, c01, c02, -⟩ := hcs9
    obtain ⟨z0, -⟩ := hzs9
    have hs5 := hb5.size
    have gw5 : Below w.heap.size w w5 := gw4.trans (hb5.mono gw4.size)
    have HR5 := hide ((unhide HR4).below hb5)
    have ST65 := hide ((unhide ST64).below hb5 (by omega))
    have ST95 := hide st9
    clear HR4 ST64 st9
    go_wp2_with fail
    refine (eqStringS_any a9 a6 _ _ _ _ zs.length c9 c6 _ w5 (by omega) (unhide ST95) (unhide ST65)).mono ?_
    rintro en w5' ⟨rfl, k5, rfl⟩
    have gq : Below w.heap.size w (w5.drewN k5) := below_drewN gw5 k5
    have bq : Below w5.heap.size w5 (w5.drewN k5) := below_drewN (Below.refl _ _) k5
    have zq : (w5.drewN k5).heap.size = w5.heap.size := rfl
    go_wp2_with fail
    refine (toEntryS_a _ n E _ ((unhide HA).below gq) hn2).mono ?_
    rintro en w6 ⟨rfl, hr6, hb6⟩
    have hcs9 := cells_calls hb6 [⟨w.heap.size, 0, none⟩, ⟨w.heap.size, 1, none⟩, ⟨w.heap.size, 2, none⟩] [.int .i64 x, .int .i64 y, .int .i64 z] (by refine ⟨?_, ?_, ?_, trivial⟩ <;> exact byCT)
    have hzs9 := blocks_calls hb6 [w.heap.size] (by refine ⟨?_, trivial⟩ <;> first | with_reducible assumption | omega | (simp; omega) | (simp; done))
    try clear c00 c01 c02
    obtain ⟨c00, c01, c02, -⟩ := hcs9
    obtain ⟨z0, -⟩ := hzs9
    have hs6 := hb6.size
    have gw6 : Below w.heap.size w w6 := gq.trans (hb6.mono gq.size)
    have HR6 := hide hr6
    have HR56 := hide (((unhide HR5).below bq).below hb6)
    have ST66 := hide (((unhide ST65).below bq (by omega)).below hb6 (by omega))
    have ST96 := hide (((unhide ST95).below bq (by omega)).below hb6 (by omega))
    clear hr6 HR5 ST65 ST95 bq
    go_wp2_with fail
    refine (eqEntryS_a _ _ n n n E _ hn2 (unhide HR56) (unhide HR6)).mono ?_
    rintro en w7 ⟨rfl, hb7⟩
    have hcs9 := cells_calls hb7 [⟨w.heap.size, 0, none⟩, ⟨w.heap.size, 1, none⟩, ⟨w.heap.size, 2, none⟩] [.int .i64 x, .int .i64 y, .int .i64 z] (by refine ⟨?_, ?_, ?_, trivial⟩ <;> exact byCT)
    have hzs9 := blocks_calls hb7 [w.heap.size] (by refine ⟨?_, trivial⟩ <;> first | with_reducible assumption | omega | (simp; omega) | (simp; done))
    try clear c00 c01 c02
    obtain ⟨c00, c01, c02, -⟩ := hcs9
    obtain ⟨z0, -⟩ := hzs9
    have hs7 := hb7.size
    have gw7 : Below w.heap.size w w7 := gw6.trans (hb7.mono gw6.size)
    have HR7 := hide ((unhide HR56).below hb7)
    have ST67 := hide ((unhide ST66).below hb7 (by omega))
    have ST97 := hide ((unhide ST96).below hb7 (by omega))
    clear HR6 HR56 ST66 ST96
    go_wp2_with fail
    refine (markEntryS_a _ n n 1 _ w7 (by omega) (by omega) (by omega) (unhide HR7)).mono ?_
    rintro en w8 ⟨rfl, hg8⟩
    have hs8 := hg8.size
    have hwx : w.heap.size < w2.heap.size := by have := gw1.size; omega
    have hne : some w.heap.size ≠ some w2.heap.size := fun e => by have := Option.some.inj e; omega
    have gw8 : Below w.heap.size w w8 := gw7.grown hg8 (by omega) (fun k hk => by cases hk; omega)
    have e0 := (hg8.cell_far ⟨w.heap.size, 0, none⟩ (by show w.heap.size < w7.heap.size; omega) hne).trans c00
    have e1 := (hg8.cell_far ⟨w.heap.size, 1, none⟩ (by show w.heap.size < w7.heap.size; omega) hne).trans c01
    have e2 := (hg8.cell_far ⟨w.heap.size, 2, none⟩ (by show w.heap.size < w7.heap.size; omega) hne).trans c02
    have ST68 := hide ((unhide ST67).keep fun k h1 h2 => hg8.block k (by omega) (fun e => by cases e; omega))
    have ST98 := hide ((unhide ST97).keep fun k h1 h2 => hg8.block k (by omega) (fun e => by cases e; omega))
    clear c00 c01 c02 ST67 ST97 HR7 hg8
    have hk1 : ¬ ((1 : Int) + 4 * (n : Int) < 0) := by omega
    go_wp2_with fail
    refine (eqStringS_any a9 a6 _ _ _ _ zs.length c9 c6 _ w8 (by omega) (unhide ST98) (unhide ST68)).mono ?_
    rintro en w8' ⟨rfl, k8, rfl⟩
    have zq8 : (w8.drewN k8).heap.size = w8.heap.size := rfl
    have bq8 : Below w8.heap.size w8 (w8.drewN k8) := below_drewN (Below.refl _ _) k8
    go_wp2_with fail
    refine (markStringS_any a9 _ _ zs.length c9 1 _ (w8.drewN k8) (by omega) (by omega) (by omega) ((unhide ST98).below bq8 (by omega))).mono ?_
    rintro en wm ⟨rfl, stm, hkm, hszm, hBm⟩
    have bm := hBm (w.heap.size + 1) (by omega) (by omega)
    have gwm : Below w.heap.size w wm := (below_drewN gw8 k8).trans (bm.mono (by omega))
    have c00 : wm.cell? ⟨w.heap.size, 0, none⟩ = some (.int .i64 x) := Eq.trans (World.cell?_of_block (bm.block w.heap.size (by omega))) e0
    have c01 : wm.cell? ⟨w.heap.size, 1, none⟩ = some (.int .i64 y) := Eq.trans (World.cell?_of_block (bm.block w.heap.size (by omega))) e1
    have c02 : wm.cell? ⟨w.heap.size, 2, none⟩ = some (.int .i64 z) := Eq.trans (World.cell?_of_block (bm.block w.heap.size (by omega))) e2
    have ST6m := hide (((unhide ST68).below bq8 (by omega)).keep fun k h1 h2 => hkm k (by omega) (by omega))
    have STM := hide stm
    clear stm hkm hBm bm e0 e1 e2 ST68 ST98 bq8
    go_wp2_with fail
    refine (heldStringS_any a9 _ _ zs.length c9 1 wm (by omega) (by omega) (by omega) (unhide STM)).mono ?_
    rintro en w9 ⟨rfl, hb9⟩
    have hcs9 := cells_calls hb9 [⟨w.heap.size, 0, none⟩, ⟨w.heap.size, 1, none⟩, ⟨w.heap.size, 2, none⟩] [.int .i64 x, .int .i64 y, .int .i64 z] (by refine ⟨?_, ?_, ?_, trivial⟩ <;> exact byCT)
    have hzs9 := blocks_calls hb9 [w.heap.size] (by refine ⟨?_, trivial⟩ <;> first | with_reducible assumption | omega | (simp; omega) | (simp; done))
    try clear c00 c01 c02
    obtain ⟨c00, c01, c02, -⟩ := hcs9
    obtain ⟨z0, -⟩ := hzs9
    have hs9 := hb9.size
    have gw9 : Below w.heap.size w w9 := gwm.trans (hb9.mono gwm.size)
    have ST69 := hide ((unhide ST6m).below hb9 (by omega))
    have STM9 := hide ((unhide STM).below hb9 (by omega))
    clear ST6m STM
    have hk2 : ¬ ((1 : Int) + (zs.length : Int) < 0) := by omega
    go_upto_region 24 with fail
    go_cut [14, 15] (fun s14 s15 wx => (SlS zs w9.heap.size) wx s14 ∧ s15 = .bool okb ∧ wx.cell? ⟨w.heap.size, 0, none⟩ = some (.int .i64 x) ∧ wx.cell? ⟨w.heap.size, 1, none⟩ = some (.int .i64 y) ∧ wx.cell? ⟨w.heap.size, 2, none⟩ = some (.int .i64 z) ∧ Below w9.heap.size w9 wx)
    case first =>
      have h1 := trivial
      rename_i K2 h2 h3
      let hgf9 : Nat → World → Value → Prop := fun j => match j with | 0 => Kd.ok (Kd.val (.slice a n c)) | 1 => (SlcE n E) | 2 => Kd.ok (Kd.val (.agg #[.int .i64 x, .int .i64 y, .int .i64 z])) | 3 => Kd.ok (Kd.val (.agg #[.int .i64 x, .int .i64 y, .int .i64 z])) | 4 => (TupS zs okb w9.heap.size) | 5 => (TupS zs okb w9.heap.size) | 6 => (SlS zs w9.heap.size) | 7 => Kd.ok (Kd.val (.bool okb)) | 8 => (SlS zs w9.heap.size) | 9 => Kd.ok (Kd.val (.bool okb)) | _ => Kd.ok Kd.any
      have hst9 : ∀ j, StB (hgf9 j) := fun j => match j with | 0 => (Kd.st (Kd.val (.slice a n c)) : StB (Kd.ok (Kd.val (.slice a n c)))) | 1 => (SlcE.st : StB (SlcE n E)) | 2 => (Kd.st (Kd.val (.agg #[.int .i64 x, .int .i64 y, .int .i64 z])) : StB (Kd.ok (Kd.val (.agg #[.int .i64 x, .int .i64 y, .int .i64 z])))) | 3 => (Kd.st (Kd.val (.agg #[.int .i64 x, .int .i64 y, .int .i64 z])) : StB (Kd.ok (Kd.val (.agg #[.int .i64 x, .int .i64 y, .int .i64 z])))) | 4 => (TupS.st : StB (TupS zs okb w9.heap.size)) | 5 => (TupS.st : StB (TupS zs okb w9.heap.size)) | 6 => (SlS.st : StB (SlS zs w9.heap.size)) | 7 => (Kd.st (Kd.val (.bool okb)) : StB (Kd.ok (Kd.val (.bool okb)))) | 8 => (SlS.st : StB (SlS zs w9.heap.size)) | 9 => (Kd.st (Kd.val (.bool okb)) : StB (Kd.ok (Kd.val (.bool okb)))) | j + 10 => (Kd.st Kd.any : StB (Kd.ok Kd.any))
      refine region_n0 (by kernel_rfl) (fun j => #[80,81,82,83,84,79,85,86,14,15].getD j 0) (hgf9) (Sy w9 (w9.heap.size) [(⟨w.heap.size, 0, none⟩, .int .i64 x), (⟨w.heap.size, 1, none⟩, .int .i64 y), (⟨w.heap.size, 2, none⟩, .int .i64 z)] []) (by kernel_rfl) (by kernel_rfl) ?_ ?_ ?_ ?_
      · intro j hj
        have hj2 : j < 10 := hj
        have : ∀ j, j < 10 → (#[80,81,82,83,84,79,85,86,14,15] : Array Nat).getD j 0 < 104 := by decide
        exact this j hj2
      · refine Sy.drew (Sy.mk_of ?_ ?_ ?_ ?_)
        · first | rfl | (simp; done) | (simp; omega)
        · intro c hc
          simp only [List.mem_cons, List.not_mem_nil, or_false] at hc
          rcases hc with rfl | rfl | rfl <;> exact byCT
        · intro p hp; cases hp
        · (repeat' first | with_reducible (first | exact Below.refl _ _ | assumption | refine gr_alloc ?_ _ | refine below_drewN ?_ _ | refine below_drew ?_ | refine gr_call ?_ (by assumption) | refine Below.setCell ?_ ?_ _) | go_size | omega | (simp; omega))
      · clear h1 h2 h3
        refine ⟨?r29x0, ?r29x1, ?r29x2, ?r29x3, ?r29x4, ?r29x5, ?r29x6, ?r29x7, ?r29x8, ?r29x9, trivial⟩
        all_goals intro _ aq wx Kq hf hS hdep ev1 ev2 hK
        case' r29x0 =>
          have F0 : aq.eval (.tmp 0) = .slice a n c := hf 0
        case' r29x1 =>
          have D0 : aq.eval (.tmp 80) = _ := hdep 0
        case' r29x2 =>
          have F3 : aq.eval (.tmp 3) = .pointer (some ⟨w.heap.size, 0, none⟩) := hf 3
          have c0 := hS.cells (⟨w.heap.size, 0, none⟩, .int .i64 x) (by simp)
          have c1 := hS.cells (⟨w.heap.size, 1, none⟩, .int .i64 y) (by simp)
          have c2 := hS.cells (⟨w.heap.size, 2, none⟩, .int .i64 z) (by simp)
        case' r29x3 =>
          have D2 : aq.eval (.tmp 82) = _ := hdep 2
        case' r29x4 =>
          obtain ⟨gq81, DP81, hrw81, hlt81⟩ := hdep 1
          change aq.eval (.tmp 81) = _ at DP81
          have D3 : aq.eval (.tmp 83) = _ := hdep 3
        case' r29x5 =>
          obtain ⟨gv84, DP84, hsl84⟩ := hdep 4
          change aq.eval (.tmp 84) = _ at DP84
        case' r29x6 =>
          obtain ⟨gv79, DP79, hsl79⟩ := hdep 5
          change aq.eval (.tmp 79) = _ at DP79
        case' r29x7 =>
          obtain ⟨gv79, DP79, hsl79⟩ := hdep 5
          change aq.eval (.tmp 79) = _ at DP79
        case' r29x8 =>
          obtain ⟨ga85, gc85, gh85, DP85, hgh85, hst85⟩ := hdep 6
          change aq.eval (.tmp 85) = _ at DP85
        case' r29x9 =>
          have D7 : aq.eval (.tmp 86) = _ := hdep 7
        all_goals (clear hf hdep; unfold Oper.wp; generalize Act.eval _ = ev at *; go_simp)
        case r29x1 =>
          refine ((toEntryS_p (.slice a n c) n E _ ((unhide HA).below (gw9.trans (hS.below.mono gw9.size))) (by omega))).mono ?_
          rintro e w2 ⟨v9, rfl, hpr, hb⟩
          refine hK _ _ (hS.call hb) ?_ (fun j u _ h => hst9 j _ _ _ hb h)
          rw [if_pos (by rfl)]
          exact hpr
        case r29x3 =>
          refine ((toForm_q x y z _)).mono ?_
          rintro e w2 ⟨rfl, hb⟩
          refine hK _ _ (hS.call hb) ?_ (fun j u _ h => hst9 j _ _ _ hb h)
          rw [if_pos (by rfl)]
          show (_ : Value) = _
          first | rfl | (refine congrArg (Value.int .i64) ?_; first | rfl | exact int_in (by omega) | exact quo_in (by omega) (by omega) (by omega) | exact rem_in (by omega) (by omega) | omega) | (simp; done) | (simp [*]; done)
        case r29x4 =>
          refine ((nc_i gq81 n E x y z w9.heap.size zs okb _ hrw81 (by omega) (unhide HO) i0 i1 i2 hS.below.size (unhide HZ) (unhide HB))).mono ?_
          rintro e w2 ⟨v9, rfl, hpr, hb⟩
          refine hK _ _ (hS.call hb) ?_ (fun j u _ h => hst9 j _ _ _ hb h)
          rw [if_pos (by rfl)]
          exact hpr
        case r29x5 =>
          refine hK _ _ hS ?_ (fun j u _ h => h)
          rw [if_pos (by rfl)]
          exact ⟨_, rfl, hsl84⟩
        case r29x6 =>
          refine hK _ _ hS ?_ (fun j u _ h => h)
          rw [if_pos (by rfl)]
          exact hsl79
        case r29x8 =>
          refine hK _ _ hS ?_ (fun j u _ h => h)
          rw [if_pos (by rfl)]
          exact ⟨_, _, _, rfl, hgh85, hst85⟩
        all_goals (refine hK _ _ hS ?_ (fun j u _ h => h); rw [if_pos (by rfl)]; show (_ : Value) = _; (first | rfl | (refine congrArg (Value.int .i64) ?_; first | rfl | exact int_in (by omega) | exact quo_in (by omega) (by omega) (by omega) | exact rem_in (by omega) (by omega) | omega) | (simp; done) | (simp [*]; done)))
      · intro aq wx hd hw hf hS hg
        have G14 : (SlS zs w9.heap.size) wx (tau aq 14) := hg 8 (by decide)
        have G15 : tau aq 15 = .bool okb := hg 9 (by decide)
        have haq : aq = ⟨#[tau aq 0, tau aq 1, tau aq 2, tau aq 3, tau aq 4, tau aq 5, tau aq 6, tau aq 7, tau aq 8, tau aq 9, tau aq 10, tau aq 11, tau aq 12, tau aq 13, tau aq 14, tau aq 15, tau aq 16, tau aq 17, tau aq 18, tau aq 19, tau aq 20, tau aq 21, tau aq 22, tau aq 23, tau aq 24, tau aq 25, tau aq 26, tau aq 27, tau aq 28, tau aq 29, tau aq 30, tau aq 31, tau aq 32, tau aq 33, tau aq 34, tau aq 35, tau aq 36, tau aq 37, tau aq 38, tau aq 39, tau aq 40, tau aq 41, tau aq 42, tau aq 43, tau aq 44, tau aq 45, tau aq 46, tau aq 47, tau aq 48, tau aq 49, tau aq 50, tau aq 51, tau aq 52, tau aq 53, tau aq 54, tau aq 55, tau aq 56, tau aq 57, tau aq 58, tau aq 59, tau aq 60, tau aq 61, tau aq 62, tau aq 63, tau aq 64, tau aq 65, tau aq 66, tau aq 67, tau aq 68, tau aq 69, tau aq 70, tau aq 71, tau aq 72, tau aq 73, tau aq 74, tau aq 75, tau aq 76, tau aq 77, tau aq 78, tau aq 79, tau aq 80, tau aq 81, tau aq 82, tau aq 83, tau aq 84, tau aq 85, tau aq 86, tau aq 87, tau aq 88, tau aq 89, tau aq 90, tau aq 91, tau aq 92, tau aq 93, tau aq 94, tau aq 95, tau aq 96, tau aq 97, tau aq 98, tau aq 99, tau aq 100, tau aq 101, tau aq 102, tau aq 103], []⟩ := by
          obtain ⟨tq, dq⟩ := aq
          have h5 := arr_eq (show tq.size = 104 from hw)
          have h6 : dq = [] := hd
          subst h6
          exact congrArg (fun z => Act.mk z []) h5
        show K2 aq wx
        rw [haq, hf 0, hf 1, hf 2, hf 3, hf 4, hf 5, hf 6, hf 7, hf 8, hf 9, hf 10, hf 11, hf 12, hf 13, hf 16, hf 17, hf 18, hf 19, hf 20, hf 21, hf 22, hf 23, hf 24, hf 25, hf 26, hf 27, hf 28, hf 29, hf 30, hf 31, hf 32, hf 33, hf 34, hf 35, hf 36, hf 37, hf 38, hf 39, hf 40, hf 41, hf 42, hf 43, hf 44, hf 45, hf 46, hf 47, hf 48, hf 49, hf 50, hf 51, hf 52, hf 53, hf 54, hf 55, hf 56, hf 57, hf 58, hf 59, hf 60, hf 61, hf 62, hf 63, hf 64, hf 65, hf 66, hf 67, hf 68, hf 69, hf 70, hf 71, hf 72, hf 73, hf 74, hf 75, hf 76, hf 77, hf 78, hf 87, hf 88, hf 89, hf 90, hf 91, hf 92, hf 93, hf 94, hf 95, hf 96, hf 97, hf 98, hf 99, hf 100, hf 101, hf 102, hf 103, G15]
        clear haq hf hd hw
        try dsimp only
        refine h3 _ _ ?_
        go_meet
        exact ⟨G14, rfl, hS.cells (⟨w.heap.size, 0, none⟩, .int .i64 x) (by simp), hS.cells (⟨w.heap.size, 1, none⟩, .int .i64 y) (by simp), hS.cells (⟨w.heap.size, 2, none⟩, .int .i64 z) (by simp), hS.below⟩
    try clear c00
    try clear c01
    try clear c02
    obtain ⟨hp14, rfl, c00, c01, c02, hb0⟩ := hcut
    have z0 := World.block_lt_of_cell? _ _ c00
    change w.heap.size < wc.heap.size at z0
    obtain ⟨w10, rfl⟩ : ∃ w10 : World, w10 = wc := ⟨_, rfl⟩
    obtain ⟨a14, c14, hi14, rfl, hh14, st14⟩ := hp14
    have gw10 : Below w.heap.size w w10 := gw9.trans (hb0.mono gw9.size)
    have s10 := hb0.size
    have ST14 := hide st14
    have ST610 := hide ((unhide ST69).below hb0 (by omega))
    have STM10 := hide ((unhide STM9).below hb0 (by omega))
    clear st14 ST69 STM9 hb0
    go_wp2_with fail
    refine (eqStringS_any a14 a6 _ _ _ _ zs.length c14 c6 _ w10 (by omega) (unhide ST14) (unhide ST610)).mono ?_
    rintro en w10' ⟨rfl, k10, rfl⟩
    have bq10 : Below w10.heap.size w10 (w10.drewN k10) := below_drewN (Below.refl _ _) k10
    have gq10 : Below w.heap.size w (w10.drewN k10) := below_drewN gw10 k10
    go_wp2_with fail
    refine (heldStringS_any a9 _ _ zs.length c9 1 _ (by omega) (by omega) (by omega) ((unhide STM10).below bq10 (by omega))).mono ?_
    rintro en w11 ⟨rfl, hb11⟩
    go_wp2
    go_ret
    exact ⟨rfl, gq10.trans (hb11.mono gq10.size)⟩
end Go.Proofs.Ytligbfegafkpjaa
