/-
  Lists of texts that a call builds by append, and the laws' helpers over them: equal, mark, held.
-/
import Derived.Deep.AppendLies
import Derived.Deep.OwnRows
import Derived.Deep.Draws
import Derived.Deep.QuietTactic
import Derived.BigQuiet
import Derived.Test.YtligbfegafkpjaaTx
namespace Go.Proofs.Ytligbfegafkpjaa
open Go.RowKit
set_option linter.unusedVariables false
set_option linter.unusedSimpArgs false
attribute [local go_sem] q2 q3 q4 q5 q6 q7 q8 q9 q10 q11 q12

theorem Try.infoStr' : (Try.prog.info? 9).map (fun i => (i.zero, i.size, i.bytes)) = some (some (.string ⟨#[]⟩), 1, 16) := by kernel_rfl

/-- The slice v holds just the texts zs; its block is an own one, from lo on. -/
def SL (w : World) (lo : Nat) (v : Value) (zs : List ByteArray) : Prop := w.ownsRow lo 9 1 v zs.length (zs.map Value.string)
theorem SL.nil (w : World) (lo : Nat) : SL w lo (.slice none 0 0) [] := World.ownsRow_nil _ _ _ _
theorem SL.made (w : World) (lo : Nat) (h : lo ≤ w.heap.size) : SL (w.alloc (.cells #[] 9)) lo (.slice (some ⟨w.heap.size, 0, none⟩) 0 0) [] :=
  World.ownsRow_made w #[] 0 h (by decide) rfl
theorem SL.alloc {w : World} {lo : Nat} {v : Value} {zs : List ByteArray} (h : SL w lo v zs) (o : Obj) : SL (w.alloc o) lo v zs := World.ownsRow.alloc h o
theorem SL.kept {w w' : World} {lo : Nat} {v : Value} {zs : List ByteArray} {row : Option Nat} (h : SL w lo v zs) (hg : w.grownBy w' row) (hne : v.ownBlock = none ∨ v.ownBlock ≠ row) : SL w' lo v zs := World.ownsRow.kept h hg hne
theorem SL.lt {w : World} {lo : Nat} {v : Value} {zs : List ByteArray} (h : SL w lo v zs) : ∀ k, v.ownBlock = some k → lo ≤ k ∧ k < w.heap.size := World.ownsRow.lt h
theorem SL.below {w w' : World} {lo : Nat} {v : Value} {zs : List ByteArray} (h : SL w lo v zs) (hb : Below w.heap.size w w') : SL w' lo v zs :=
  h.kept (row := none) ⟨hb.os, hb.tape, hb.output, hb.size, fun k hk _ => hb.block k hk⟩ (by cases v.ownBlock <;> simp)
def StrsAt (w : World) (lo hi : Nat) (a : Option Addr) (n : Nat) (f : Nat → ByteArray) : Prop :=
  n = 0 ∨ ∃ g cap F, a = some ⟨g, 0, none⟩ ∧ lo ≤ g ∧ g < hi ∧ n ≤ cap ∧ w.rowIs g 9 cap F ∧ ∀ i, i < n → F i = .string (f i)
theorem StrsAt.keep {w w' : World} {lo hi : Nat} {a : Option Addr} {n : Nat} {f : Nat → ByteArray} (h : StrsAt w lo hi a n f) (hk : ∀ k, lo ≤ k → k < hi → w'.heap[k]? = w.heap[k]?) : StrsAt w' lo hi a n f := by
  rcases h with h | ⟨g, cap, F, ha, h1, h2, h3, h4, h5⟩
  · exact .inl h
  · exact .inr ⟨g, cap, F, ha, h1, h2, h3, h4.of_block (hk g h1 h2), h5⟩
theorem StrsAt.below {w w' : World} {lo hi B : Nat} {a : Option Addr} {n : Nat} {f : Nat → ByteArray} (h : StrsAt w lo hi a n f) (hb : Below B w w') (hB : hi ≤ B) : StrsAt w' lo hi a n f :=
  h.keep fun k _ h2 => hb.block k (by omega)
theorem SL.strs {w : World} {lo : Nat} {a : Option Addr} {n c : Nat} {zs : List ByteArray} (h : SL w lo (.slice a n c) zs) : n = zs.length ∧ StrsAt w lo w.heap.size a zs.length (fun i => zs.getD i ⟨#[]⟩) := by
  rcases h.2 with ⟨h1, h2⟩ | ⟨g, cap, cur, h1, h2, h3, h4, h5, h6, h7⟩
  · simp only [Value.slice.injEq] at h1
    exact ⟨by omega, .inl h2⟩
  · simp only [Value.slice.injEq] at h1
    obtain ⟨rfl, rfl, rfl⟩ := h1
    refine ⟨rfl, .inr ⟨g, c, fun i => cur.getD i undef, rfl, h2, (Array.getElem?_eq_some_iff.1 h3).1, h4, ⟨cur, h3, by omega, fun i hi => ?_⟩, fun i hi => ?_⟩⟩
    · rw [Array.getElem?_eq_getElem (by omega)]; simp [Array.getD, show i < cur.size from by omega]
    · have e : cur.toList[i]? = (zs.map Value.string)[i]? := by
        rw [← h7, List.getElem?_take, if_pos (by omega)]
      rw [List.getElem?_map, List.getElem?_eq_getElem hi] at e
      simp only [Option.map_some] at e
      have hi2 : i < cur.size := by omega
      rw [Array.getElem?_toList, Array.getElem?_eq_getElem hi2] at e
      have e2 : cur[i] = Value.string zs[i] := by simpa using e
      have e3 : zs.getD i ⟨#[]⟩ = zs[i] := by rw [List.getD_eq_getElem?_getD, List.getElem?_eq_getElem hi]; rfl
      show cur.getD i undef = .string (zs.getD i ⟨#[]⟩)
      rw [e3, ← e2]
      simp [Array.getD, hi2]

/-- append(v, z) onto a list of the call's own. -/
theorem app_str (w : World) {ops : Array Oper} {rest : List Oper} {o : Oper} {a : Act} {Q : Exit → Act → World → Prop} (hgd : o.guard = none) (s x : Operand)
    (ho : o.op = .call { callee := .builtin .append, args := #[s, x], argTypes := #[49, 49] })
    (lo : Nat) (v : Value) (zs : List ByteArray) (z : ByteArray) (B : Nat) (hs : a.eval s = v) (hx : a.eval x = .slice (some ⟨B, 0, none⟩) 1 1)
    (hown : SL w lo v zs) (hB : w.cell? ⟨B, 0, none⟩ = some (.string z)) (hlen : zs.length ≤ 1000000000) (hlo : lo ≤ w.heap.size)
    (h : ∀ g cap w', SL w' lo (.slice (some ⟨g, 0, none⟩) (zs.length + 1) cap) (zs ++ [z]) → w.grownBy w' v.ownBlock → (v.ownBlock = some g ∨ g = w.heap.size) → g < w'.heap.size →
      wpList Try.prog ops Q rest (a.put o.dst (.slice (some ⟨g, 0, none⟩) (zs.length + 1) cap)) w') : wpList Try.prog ops Q (o :: rest) a w := by
  obtain ⟨i0, hi, hz0, hz1, hz2⟩ := info_parts Try.infoStr'
  refine wpList_append_lies w hgd s x 49 ho lo 9 i0 (.string ⟨#[]⟩) 1 16 Try.underlying49 hi hz0 hz1 hz2 rfl (by decide) v zs.length _ hs hown ⟨B, 0, none⟩ 1 1 [.string z] hx rfl ?_ (by simp [Value.oneCell']) (by decide) (by unfold maxLen; omega) (by omega) hlo _ rfl ?_
  · intro j u hu
    match j with
    | 0 => simp at hu; subst hu; simpa [Addr.add] using hB
    | j + 1 => simp at hu
  · intro g cap w' h1 h2 h3 h4
    refine h g cap w' ?_ h2 h3 h4
    unfold SL
    rw [List.map_append, List.length_append]
    exact h1

theorem markText_z (z : Int) (k : Nat) (hz : z = (k : Int)) (w : World) (h0 : 1 ≤ k) (h1 : k ≤ 1000000000) :
    Calls Try.prog 48 #[.int .i64 z] w fun e w' => e = .returned (.string (mkT k)) ∧ Below w.heap.size w w' := by
  subst hz; exact markText_a k w h0 h1

set_option maxHeartbeats 1000000 in
theorem eqStringS_nil (a1 a2 : Option Addr) (c1 c2 : Nat) (w : World) :
    Calls Try.prog 25 #[.slice a1 0 c1, .slice a2 0 c2] w fun e w' => e = .returned (.bool true) ∧ ∃ k, w' = w.drewN k := by
  go_enter Try.func25, Try.ntmps25
  go_wp2
  refine wp_loop_rounds 1 ?_
  rw [rounds_succ]
  go_wp2
  go_ret
  exact ⟨rfl, 0, rfl⟩
set_option maxHeartbeats 1000000 in
theorem eqStringS_row (g1 g2 n c1 c2 cap1 cap2 : Nat) (F1 F2 : Nat → Value) (f : Nat → ByteArray) (w : World) (hn : n ≤ 1000000000) (h1 : n ≤ cap1) (h2 : n ≤ cap2)
    (r1 : w.rowIs g1 9 cap1 F1) (r2 : w.rowIs g2 9 cap2 F2) (e1 : ∀ i, i < n → F1 i = .string (f i)) (e2 : ∀ i, i < n → F2 i = .string (f i)) :
    Calls Try.prog 25 #[.slice (some ⟨g1, 0, none⟩) n c1, .slice (some ⟨g2, 0, none⟩) n c2] w fun e w' => e = .returned (.bool true) ∧ ∃ k, w' = w.drewN k := by
  have E1 := hide e1
  have E2 := hide e2
  clear e1 e2
  go_enter Try.func25, Try.ntmps25
  go_wp2
  go_loopw [5] (fun is wr => ∃ i k : Nat, i ≤ n ∧ is = .int .i64 (i : Int) ∧ wr = w.drewN k) (fun is _ => n - (intOf is).toNat)
  case atStart => exact ⟨0, 0, by omega, rfl, rfl⟩
  case round =>
    obtain ⟨i, k, hi, rfl, rfl⟩ := hrel
    by_cases c : i < n
    · have hc1 := r1.cell (i := i) (by omega)
      have hc2 := r2.cell (i := i) (by omega)
      rw [unhide E1 i c] at hc1
      rw [unhide E2 i c] at hc2
      have hci : (i : Int) < (n : Int) := by omega
      have hi0 : (0 : Int) ≤ (i : Int) := by omega
      go_wp2
      go_quiet (fail)
      go_wp2
      go_roundw
      case rel => exact ⟨i + 1, _, by omega, by go_num, rfl⟩
      case measure => simp [intOf]; omega
    · go_wp2
      go_ret
      exact ⟨rfl, k, rfl⟩
theorem eqStringS_any (a1 a2 : Option Addr) (l1 u1 l2 u2 n c1 c2 : Nat) (f : Nat → ByteArray) (w : World) (hn : n ≤ 1000000000) (h1 : StrsAt w l1 u1 a1 n f) (h2 : StrsAt w l2 u2 a2 n f) :
    Calls Try.prog 25 #[.slice a1 n c1, .slice a2 n c2] w fun e w' => e = .returned (.bool true) ∧ ∃ k, w' = w.drewN k := by
  rcases h1 with rfl | ⟨g1, k1, F1, rfl, _, _, q1, r1, e1⟩
  · exact eqStringS_nil _ _ _ _ _
  · rcases h2 with rfl | ⟨g2, k2, F2, rfl, _, _, q2, r2, e2⟩
    · exact eqStringS_nil _ _ _ _ _
    · exact eqStringS_row g1 g2 n c1 c2 k1 k2 F1 F2 f w hn q1 q2 r1 r2 e1 e2
set_option maxHeartbeats 1000000 in
theorem markStringS_nil (a : Option Addr) (c : Nat) (k : Int) (w : World) :
    Calls Try.prog 27 #[.slice a 0 c, .int .i64 k] w fun e w' => e = .returned (.int .i64 k) ∧ w = w' := by
  go_enter Try.func27, Try.ntmps27
  go_wp2
  refine wp_loop_rounds 1 ?_
  rw [rounds_succ]
  go_wp2
  go_ret
  exact ⟨rfl, rfl⟩
set_option maxHeartbeats 2000000 in
theorem markStringS_row (g n c cap k : Nat) (F : Nat → Value) (w : World) (hn : n ≤ 100000000) (h0 : 1 ≤ k) (hk : k ≤ 100000000) (h1 : n ≤ cap) (r : w.rowIs g 9 cap F) :
    Calls Try.prog 27 #[.slice (some ⟨g, 0, none⟩) n c, .int .i64 (k : Int)] w fun e w' => e = .returned (.int .i64 ((k : Int) + n)) ∧ w'.rowIs g 9 cap (fun i => if i < n then .string (mkT (k + i)) else F i) ∧ w.grownBy w' (some g) := by
  go_enter Try.func27, Try.ntmps27
  go_wp2
  go_loopw [1, 5] (fun ks is wr => ∃ i : Nat, i ≤ n ∧ is = .int .i64 (i : Int) ∧ ks = .int .i64 ((k : Int) + i) ∧ wr.rowIs g 9 cap (fun j => if j < i then .string (mkT (k + j)) else F j) ∧ w.grownBy wr (some g)) (fun _ is _ => n - (intOf is).toNat)
  case atStart => exact ⟨0, by omega, rfl, congrArg (Value.int .i64) (by omega), r.congr (fun j _ => by simp), ⟨rfl, rfl, rfl, Nat.le_refl _, fun _ _ _ => rfl⟩⟩
  case round =>
    obtain ⟨i, hi, rfl, rfl, hr, hg⟩ := hrel
    obtain ⟨wl, rfl⟩ : ∃ wl : World, wl = wr := ⟨_, rfl⟩
    by_cases c : i < n
    · have hci : (i : Int) < (n : Int) := by omega
      go_wp2_with fail
      refine (markText_z _ (k + i) (by omega) _ (by omega) (by omega)).mono ?_
      rintro e w1 ⟨rfl, hb1⟩
      have hr1 := hr.of_block (hb1.block g hr.lt)
      have hg1 : w.grownBy w1 (some g) := ⟨hb1.os.trans hg.os, hb1.tape.trans hg.tape, hb1.output.trans hg.output, Nat.le_trans hg.size hb1.size, fun j hj hne => (hb1.block j (Nat.lt_of_lt_of_le hj hg.size)).trans (hg.block j hj hne)⟩
      clear hr hg hb1
      have hc := hr1.cell (i := i) (by omega)
      have hf := hr1.frozen i
      go_wp2
      go_roundw
      case rel =>
        refine ⟨i + 1, by omega, by go_num, congrArg (Value.int .i64) (by omega), (hr1.set _ _).congr (fun j _ => ?_), ⟨hg1.os, hg1.tape, hg1.output, by simpa [World.setCell] using hg1.size, fun j hj hne => (Below.heap_setCell _ _ _ _ (fun e => hne (by rw [e]))).trans (hg1.block j hj hne)⟩⟩
        by_cases e : j = i
        · subst e; simp
        · simp only [if_neg e]
          by_cases e2 : j < i
          · rw [if_pos e2, if_pos (by omega)]
          · rw [if_neg e2, if_neg (by omega)]
      case measure => simp [intOf]; omega
    · have hin : i = n := by omega
      have HN := hide hin
      clear hin
      go_wp2
      go_ret
      exact ⟨ret_int (by rw [unhide HN]), hr.congr (fun j _ => by rw [unhide HN]), hg⟩
theorem markStringS_any (a : Option Addr) (lo hi n c k : Nat) (f : Nat → ByteArray) (w : World) (hn : n ≤ 100000000) (h0 : 1 ≤ k) (hk : k ≤ 100000000) (h : StrsAt w lo hi a n f) :
    Calls Try.prog 27 #[.slice a n c, .int .i64 (k : Int)] w fun e w' => e = .returned (.int .i64 ((k : Int) + n)) ∧ StrsAt w' lo hi a n (fun i => mkT (k + i)) ∧ (∀ j, j < lo → j < w.heap.size → w'.heap[j]? = w.heap[j]?) ∧ w.heap.size ≤ w'.heap.size ∧ (∀ B, B ≤ lo → B ≤ w.heap.size → Below B w w') := by
  rcases h with rfl | ⟨g, cap, F, rfl, hlo, hhi, q, r, e⟩
  · refine (markStringS_nil a c k w).mono ?_
    rintro e w' ⟨rfl, rfl⟩
    exact ⟨ret_int (by omega), .inl rfl, fun _ _ _ => rfl, Nat.le_refl _, fun _ _ _ => Below.refl _ _⟩
  · refine (markStringS_row g n c cap k F w hn h0 hk q r).mono ?_
    rintro e w' ⟨rfl, hr, hg⟩
    have := r.lt
    exact ⟨rfl, .inr ⟨g, cap, _, rfl, hlo, hhi, q, hr, fun i hi => by simp [hi]⟩, fun j hj hs => hg.block j hs (fun e => by cases e; omega), hg.size, fun B hB hB2 => ⟨hg.os, hg.tape, hg.output, hg.size, fun j hj => hg.block j (by omega) (fun e => by cases e; omega)⟩⟩

theorem markText_n (z : Int) (k : Nat) (nm : ByteArray) (hz : z = (k : Int)) (hm : mkT k = nm) (w : World) (h0 : 1 ≤ k) (h1 : k ≤ 1000000000) :
    Calls Try.prog 48 #[.int .i64 z] w fun e w' => e = .returned (.string nm) ∧ Below w.heap.size w w' := by
  subst hm; exact markText_z z k hz w h0 h1
set_option maxHeartbeats 1000000 in
theorem heldStringS_nil (a : Option Addr) (c : Nat) (k : Int) (w : World) :
    Calls Try.prog 28 #[.slice a 0 c, .int .i64 k] w fun e w' => e = .returned (.int .i64 k) ∧ w = w' := by
  go_enter Try.func28, Try.ntmps28
  go_wp2
  refine wp_loop_rounds 1 ?_
  rw [rounds_succ]
  go_wp2
  go_ret
  exact ⟨rfl, rfl⟩
set_option maxRecDepth 100000 in
set_option maxHeartbeats 4000000 in
theorem heldStringS_row (g n c cap k : Nat) (F : Nat → Value) (w : World) (hn : n ≤ 100000000) (h0 : 1 ≤ k) (hk : k ≤ 100000000) (h1 : n ≤ cap) (r : w.rowIs g 9 cap F) (e : ∀ i, i < n → F i = .string (mkT (k + i))) :
    Calls Try.prog 28 #[.slice (some ⟨g, 0, none⟩) n c, .int .i64 (k : Int)] w fun e w' => e = .returned (.int .i64 ((k : Int) + n)) ∧ Below w.heap.size w w' := by
  have E := hide e
  have R := hide r
  clear e r
  go_enter Try.func28, Try.ntmps28
  go_wp2
  go_loopw [1, 5] (fun ks is wr => ∃ ix : Nat, ix ≤ n ∧ is = .int .i64 (ix : Int) ∧ ks = .int .i64 ((k : Int) + ix) ∧ Below w.heap.size w wr) (fun _ is _ => n - (intOf is).toNat)
  case atStart => exact ⟨0, by omega, rfl, congrArg (Value.int .i64) (by omega), Below.refl _ _⟩
  case round =>
    obtain ⟨ix, hi, rfl, rfl, hb⟩ := hrel
    obtain ⟨wl, rfl⟩ : ∃ wl : World, wl = wr := ⟨_, rfl⟩
    have hzl := hb.size
    by_cases q : ix < n
    · have hci : (ix : Int) < (n : Int) := by omega
      have c00 := ((unhide R).of_block (hb.block g (unhide R).lt)).cell (i := ix) (by omega)
      rw [unhide E ix q] at c00
      obtain ⟨nm, hnm⟩ : ∃ s, mkT (k + ix) = s := ⟨_, rfl⟩
      rw [hnm] at c00
      have HM := hide hnm
      clear hnm
      go_upto_region 4 with fail
      go_cut [18] (fun s18 wx => s18 = .bool false ∧ wx.cell? ⟨g, ix, none⟩ = some (.string nm) ∧ Below w.heap.size w wx)
      case first =>
        have h1 := trivial
        rename_i K2 h2 h3
        refine region_n0 (by kernel_rfl) (fun j => #[12,13,14,15,16,17,18].getD j 0) (fun j => Kd.ok ((fun j => match j with | 0 => Kd.val (.slice (some ⟨g, 0, none⟩) n c) | 1 => Kd.val (.int .i64 ((ix : Int))) | 2 => Kd.val (.pointer (some ⟨g, ix, none⟩)) | 3 => Kd.val (.string nm) | 4 => Kd.val (.int .i64 (((k : Int) + ix))) | 5 => Kd.val (.string nm) | 6 => Kd.val (.bool false) | _ => Kd.any : Nat → Kd) j)) (Sy w (wl.heap.size) [(⟨g, ix, none⟩, .string nm)] []) (by kernel_rfl) (by kernel_rfl) ?_ ?_ ?_ ?_
        · intro j hj
          have hj2 : j < 7 := hj
          have : ∀ j, j < 7 → (#[12,13,14,15,16,17,18] : Array Nat).getD j 0 < 22 := by decide
          exact this j hj2
        · refine Sy.drew (Sy.mk_of ?_ ?_ ?_ ?_)
          · first | rfl | (simp; done) | (simp; omega)
          · intro c hc
            simp only [List.mem_cons, List.not_mem_nil, or_false] at hc
            rcases hc with rfl <;> exact byCT
          · intro p hp; cases hp
          · (repeat' first | with_reducible (first | exact Below.refl _ _ | assumption | refine gr_alloc ?_ _ | refine below_drewN ?_ _ | refine below_drew ?_ | refine gr_call ?_ (by assumption) | refine Below.setCell ?_ ?_ _) | go_size | omega | (simp; omega))
        · clear h1 h2 h3
          refine ⟨?r27x0, ?r27x1, ?r27x2, ?r27x3, ?r27x4, ?r27x5, ?r27x6, trivial⟩
          all_goals intro _ aq wx Kq hf hS hdep ev1 ev2 hK
          case' r27x0 =>
            have F0 : aq.eval (.tmp 0) = .slice (some ⟨g, 0, none⟩) n c := hf 0
          case' r27x1 =>
            have F5 : aq.eval (.tmp 5) = .int .i64 ((ix : Int)) := hf 5
          case' r27x2 =>
            have D0 : aq.eval (.tmp 12) = _ := hdep 0
            have D1 : aq.eval (.tmp 13) = _ := hdep 1
          case' r27x3 =>
            have D2 : aq.eval (.tmp 14) = _ := hdep 2
            have c0 := hS.cells (⟨g, ix, none⟩, .string nm) (by simp)
          case' r27x4 =>
            have F1 : aq.eval (.tmp 1) = .int .i64 (((k : Int) + ix)) := hf 1
          case' r27x5 =>
            have D4 : aq.eval (.tmp 16) = _ := hdep 4
          case' r27x6 =>
            have D3 : aq.eval (.tmp 15) = _ := hdep 3
            have D5 : aq.eval (.tmp 17) = _ := hdep 5
          all_goals (clear hf hdep; unfold Oper.wp; generalize Act.eval _ = ev at *; go_simp)
          case' r27x2 =>
            try rw [if_pos (by omega), Oper.upon_value]
          case r27x5 =>
            refine ((markText_n _ (k + ix) nm (by first | rfl | omega) (unhide HM) _ (by omega) (by omega))).mono ?_
            rintro e w2 ⟨rfl, hb⟩
            refine hK _ _ (hS.call hb) ?_ (fun j u _ h => Kd.ok_below hb h)
            rw [if_pos (by rfl)]
            show (_ : Value) = _
            first | rfl | (refine congrArg (Value.int .i64) ?_; first | rfl | exact int_in (by omega) | exact quo_in (by omega) (by omega) (by omega) | exact rem_in (by omega) (by omega) | omega | (simp [*]; done)) | (simp; done) | (simp [*]; done)
          all_goals (refine hK _ _ hS ?_ (fun j u _ h => h); rw [if_pos (by rfl)]; show (_ : Value) = _; (first | rfl | (refine congrArg (Value.int .i64) ?_; first | rfl | exact int_in (by omega) | exact quo_in (by omega) (by omega) (by omega) | exact rem_in (by omega) (by omega) | omega | (simp [*]; done)) | (simp; done) | (simp [*]; done)))
        · intro aq wx hd hw hf hS hg
          have G18 : tau aq 18 = .bool false := hg 6 (by decide)
          have haq : aq = ⟨#[tau aq 0, tau aq 1, tau aq 2, tau aq 3, tau aq 4, tau aq 5, tau aq 6, tau aq 7, tau aq 8, tau aq 9, tau aq 10, tau aq 11, tau aq 12, tau aq 13, tau aq 14, tau aq 15, tau aq 16, tau aq 17, tau aq 18, tau aq 19, tau aq 20, tau aq 21], []⟩ := by
            obtain ⟨tq, dq⟩ := aq
            have h5 := arr_eq (show tq.size = 22 from hw)
            have h6 : dq = [] := hd
            subst h6
            exact congrArg (fun z => Act.mk z []) h5
          show K2 aq wx
          rw [haq, hf 0, hf 1, hf 2, hf 3, hf 4, hf 5, hf 6, hf 7, hf 8, hf 9, hf 10, hf 11, hf 19, hf 20, hf 21, G18]
          clear haq hf hd hw
          try dsimp only
          refine h3 _ _ ?_
          go_meet
          exact ⟨rfl, hS.cells (⟨g, ix, none⟩, .string nm) (by simp), hS.below⟩
      try clear c00
      obtain ⟨rfl, c00, hb0⟩ := hcut
      have z0 := World.block_lt_of_cell? _ _ c00
      change g < wc.heap.size at z0
      go_wp2
      go_roundw
      case rel => exact ⟨ix + 1, by omega, by first | rfl | go_num, congrArg (Value.int .i64) (by omega), hb0⟩
      case measure => simp [intOf]; omega
    · have hin : ix = n := by omega
      have HN := hide hin
      clear hin
      go_wp2
      go_ret
      exact ⟨ret_int (by rw [unhide HN]), hb⟩
theorem heldStringS_any (a : Option Addr) (lo hi n c k : Nat) (w : World) (hn : n ≤ 100000000) (h0 : 1 ≤ k) (hk : k ≤ 100000000) (h : StrsAt w lo hi a n (fun i => mkT (k + i))) :
    Calls Try.prog 28 #[.slice a n c, .int .i64 (k : Int)] w fun e w' => e = .returned (.int .i64 ((k : Int) + n)) ∧ Below w.heap.size w w' := by
  rcases h with rfl | ⟨g, cap, F, rfl, hlo, hhi, q, r, e⟩
  · refine (heldStringS_nil a c k w).mono ?_
    rintro e w' ⟨rfl, rfl⟩
    exact ⟨ret_int (by omega), Below.refl _ _⟩
  · exact heldStringS_row g n c cap k F w hn h0 hk q r e
end Go.Proofs.Ytligbfegafkpjaa
