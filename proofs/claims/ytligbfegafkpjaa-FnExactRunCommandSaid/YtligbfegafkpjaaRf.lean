/-
  opposite, coInverse, refusal.
-/
import Derived.Test.YtligbfegafkpjaaRnP
import Derived.Test.YtligbfegafkpjaaGp
import Derived.Test.YtligbfegafkpjaaMul
namespace Go.Proofs.Ytligbfegafkpjaa
open Go.RowKit
set_option linter.unusedVariables false
set_option linter.unusedSimpArgs false
attribute [local go_sem] q2 q3 q4 q5 q6 q7 q8 q9 q10 q11 q12

theorem find_b (g n c : Nat) (E : Nat → Ent) (nm : ByteArray) (F : T3n) (B : Bool) (w : World) (hr : ∀ i, i < n → EntAt w g (i * 4) (E i)) (hn : n ≤ 2000000) (hF : F = fdF E nm n) (hB : B = fdB E nm n) :
    Calls Try.prog 74 #[.slice (some ⟨g, 0, none⟩) n c, .string nm] w fun e w' => e = .returned (.tuple #[.agg #[.int .i64 F.1, .int .i64 F.2.1, .int .i64 F.2.2], .bool B]) ∧ Below w.heap.size w w' := by
  subst hF hB; exact find_a g n c E nm w hr hn
theorem lgFind_b (g n c : Nat) (E : Nat → Ent) (nm : ByteArray) (I : Int) (w : World) (hr : ∀ i, i < n → EntAt w g (i * 4) (E i)) (hn : n ≤ 2000000) (hF : I = fdI E nm n) :
    Calls Try.prog 67 #[.slice (some ⟨g, 0, none⟩) n c, .string nm] w fun e w' => e = .returned (.int .i64 I) ∧ Below w.heap.size w w' := by
  subst hF; exact lgFind_a g n c E nm w hr hn
theorem cm_cases {c : Cmd} (h : cmB c = true) : nmB c.n = true ∧ ((c.k = 1 ∧ emB c.a = true ∧ emB c.b = true ∧ ciB c.f = true) ∨ (c.k = 2 ∧ emB c.a = true ∧ emB c.b = true) ∨ (c.k = 3 ∧ nmB c.a = true ∧ nmB c.b = true) ∨ (c.k = 4 ∧ nmB c.a = true ∧ emB c.b = true) ∨ (c.k = 5 ∧ emB c.a = true ∧ emB c.b = true ∧ ciB c.f = true)) := by
  unfold cmB at h
  rw [Bool.and_eq_true] at h
  refine ⟨h.1, ?_⟩
  have h2 := h.2
  clear h
  split at h2
  · rename_i q
    simp only [Bool.and_eq_true] at h2
    rcases q with q | q
    · exact .inl ⟨q, h2⟩
    · exact .inr (.inr (.inr (.inr ⟨q, h2⟩)))
  · split at h2
    · rename_i q
      simp only [Bool.and_eq_true] at h2
      exact .inr (.inl ⟨q, h2.1, h2.2.1⟩)
    · split at h2
      · rename_i q
        simp only [Bool.and_eq_true] at h2
        exact .inr (.inr (.inl ⟨q, h2.1, h2.2.1⟩))
      · split at h2
        · rename_i q
          simp only [Bool.and_eq_true] at h2
          exact .inr (.inr (.inr (.inl ⟨q, h2.1, h2.2.1⟩)))
        · cases h2
theorem nm_em {s : ByteArray} (h : nmB s = true) : emB s = false := by
  unfold nmB at h
  simp only [Bool.and_eq_true, decide_eq_true_eq] at h
  unfold emB
  rw [decide_eq_false_iff_not]
  intro e
  have h2 := h.2.1
  rw [ByteArray.toList_eq] at e
  have : s.data.size = 0 := by rw [← Array.length_toList, e]; rfl
  have h3 : s.size = 0 := this
  omega
theorem fd_cls {E : Nat → Ent} {nm : ByteArray} {n : Nat} (h : ctG E n = true) (hf : fdB E nm n = true) : classB (fdF E nm n).1 (fdF E nm n).2.1 (fdF E nm n).2.2 = true := by
  unfold fdB at hf
  obtain ⟨k, hk⟩ := Option.isSome_iff_exists.1 hf
  have hlt := (fd_of hk).1
  unfold fdF
  rw [hk]
  clear hk hf
  induction n with
  | zero => omega
  | succ n ih =>
    rw [ctG, Bool.and_eq_true] at h
    by_cases q : k = n
    · subst q
      have := h.2
      unfold goE at this
      rw [Bool.and_eq_true, Bool.and_eq_true] at this
      exact this.2.1
    · exact ih h.1 (by omega)

set_option maxRecDepth 100000 in
set_option maxHeartbeats 1000000 in
theorem opposite_i (a b c : Int) (w : World) (h0 : -1000000 ≤ b ∧ b ≤ 1000000) :
    Calls Try.prog 77 #[.agg #[.int .i64 a, .int .i64 b, .int .i64 c]] w fun e w' => e = .returned (.agg #[.int .i64 a, .int .i64 (-b), .int .i64 c]) ∧ Below w.heap.size w w' := by
  go_enter Try.func77, Try.ntmps77
  go_wp2
  first | go_returns | (refine bodyPost_ret (v := .agg #[.int .i64 a, .int .i64 (-b), .int .i64 c]) (by simp [results, Try.results77, go_sem, *]) rfl ?_)
  refine ⟨rfl, ?_⟩
  (repeat' first | with_reducible (first | exact Below.refl _ _ | assumption | refine gr_alloc ?_ _ | refine below_drewN ?_ _ | refine below_drew ?_ | refine gr_call ?_ (by assumption) | refine Below.setCell ?_ ?_ _) | go_size | omega | (simp; omega))

set_option maxRecDepth 100000 in
set_option maxHeartbeats 1000000 in
theorem opposite_s (a b c : Int) (w : World) (h0 : -1000000 ≤ b ∧ b ≤ 1000000) :
    Calls Try.prog 97 #[.agg #[.int .i64 a, .int .i64 b, .int .i64 c]] w fun e w' => e = .returned (.agg #[.int .i64 a, .int .i64 (-b), .int .i64 c]) ∧ Below w.heap.size w w' := by
  go_enter Try.func97, Try.ntmps97
  go_wp2
  first | go_returns | (refine bodyPost_ret (v := .agg #[.int .i64 a, .int .i64 (-b), .int .i64 c]) (by simp [results, Try.results97, go_sem, *]) rfl ?_)
  refine ⟨rfl, ?_⟩
  (repeat' first | with_reducible (first | exact Below.refl _ _ | assumption | refine gr_alloc ?_ _ | refine below_drewN ?_ _ | refine below_drew ?_ | refine gr_call ?_ (by assumption) | refine Below.setCell ?_ ?_ _) | go_size | omega | (simp; omega))

theorem okF_opp {a b c : Int} (h : OkF a b c) (hb : -1000000 ≤ b ∧ b ≤ 1000000) : OkF a (-b) c := by
  obtain ⟨h1, h2, h3, h4, h5, h6, h7, h8⟩ := h
  have e : discI a (-b) c = discI a b c := by unfold discI; rw [Int.neg_mul_neg]
  exact ⟨h1, h2, by omega, by omega, h5, h6, by rw [e]; exact h7, by rw [e]; exact h8⟩

theorem neN_res (X Y : T3n) (w : World) : (if X.1 = Y.1 then if X.2.1 = Y.2.1 then if X.2.2 = Y.2.2 then Result.ok (Next.value (Value.bool false)) w else Result.ok (Next.value (Value.bool true)) w else Result.ok (Next.value (Value.bool true)) w else Result.ok (Next.value (Value.bool true)) w) = Result.ok (Next.value (Value.bool (!eqN X Y))) w := by
  unfold eqN
  by_cases h1 : X.1 = Y.1
  · by_cases h2 : X.2.1 = Y.2.1
    · by_cases h3 : X.2.2 = Y.2.2
      · simp [h1, h2, h3]
      · simp [h1, h2, h3]
    · simp [h1, h2]
  · simp [h1]

set_option maxRecDepth 100000 in
set_option maxHeartbeats 8000000 in
theorem refusal_a (g n c' : Nat) (E : Nat → Ent) (c : Cmd) (w : World) (hr : ∀ i, i < n → EntAt w g (i * 4) (E i)) (hn : n ≤ 2000000) (hcm : cmB c = true) (hct : ctG E n = true) :
    Calls Try.prog 73 #[.slice (some ⟨g, 0, none⟩) n c', cmv c] w fun e w' => e = .returned (.int .i64 (rcC E n c)) ∧ Below w.heap.size w w' := by
  obtain ⟨k, nm, a, b, f0, f1, f2⟩ := c
  obtain ⟨-, hcs⟩ := cm_cases hcm
  simp only [] at hcs
  have HR := hide hr
  obtain ⟨N, hN⟩ : ∃ N, N = fdF E nm n := ⟨_, rfl⟩
  obtain ⟨A, hA⟩ : ∃ A, A = fdF E a n := ⟨_, rfl⟩
  obtain ⟨B, hB⟩ : ∃ B, B = fdF E b n := ⟨_, rfl⟩
  obtain ⟨kn, hkn⟩ : ∃ k, k = fdB E nm n := ⟨_, rfl⟩
  obtain ⟨ka, hka⟩ : ∃ k, k = fdB E a n := ⟨_, rfl⟩
  obtain ⟨kb, hkb⟩ : ∃ k, k = fdB E b n := ⟨_, rfl⟩
  have CN : Hid (kn = true → classB N.1 N.2.1 N.2.2 = true) := hide (fun h => by rw [hN]; exact fd_cls hct (by rw [← hkn]; exact h))
  have CA : Hid (ka = true → classB A.1 A.2.1 A.2.2 = true) := hide (fun h => by rw [hA]; exact fd_cls hct (by rw [← hka]; exact h))
  have CB : Hid (kb = true → classB B.1 B.2.1 B.2.2 = true) := hide (fun h => by rw [hB]; exact fd_cls hct (by rw [← hkb]; exact h))
  have HRC : Hid (rcC E n ⟨k, nm, a, b, f0, f1, f2⟩ = rcD k kn ka kb (emB a) (emB b) N A B (f0, f1, f2)) := hide (by rw [hN, hA, hB, hkn, hka, hkb]; rfl)
  have HN := hide hN
  have HA := hide hA
  have HB := hide hB
  have HBN := hide hkn
  have HBA := hide hka
  have HBB := hide hkb
  have HCS := hide hcs
  clear hN hA hB hkn hka hkb hr hcm hct hcs
  go_enter Try.func73, Try.ntmps73
  go_wp2_with fail
  refine (find_b g n c' E nm N kn _ (fun i hi => (unhide HR i hi).below byGG) hn (unhide HN) (unhide HBN)).mono ?_
  rintro e0 w1 ⟨rfl, hb1⟩
  have hcs9 := cells_calls hb1 [⟨w.heap.size, 0, none⟩, ⟨w.heap.size, 1, none⟩, ⟨w.heap.size, 2, none⟩, ⟨w.heap.size, 3, none⟩, ⟨w.heap.size, 4, none⟩, ⟨w.heap.size, 5, none⟩, ⟨w.heap.size, 6, none⟩] [.int .i64 k, .string nm, .string a, .string b, .int .i64 f0, .int .i64 f1, .int .i64 f2] (by refine ⟨?_, ?_, ?_, ?_, ?_, ?_, ?_, trivial⟩ <;> exact byCT)
  have hzs9 := blocks_calls hb1 [w.heap.size] (by refine ⟨?_, trivial⟩ <;> first | with_reducible assumption | omega | (simp; omega) | (simp; done))
  try clear c00 c01 c02 c03 c04 c05 c06
  obtain ⟨c00, c01, c02, c03, c04, c05, c06, -⟩ := hcs9
  obtain ⟨z0, -⟩ := hzs9
  have hs1 := hb1.size
  have hB1 : Below w.heap.size w w1 := byGG
  clear hb1
  go_wp2_with fail
  refine (find_b g n c' E a A ka _ (fun i hi => (unhide HR i hi).below byGG) hn (unhide HA) (unhide HBA)).mono ?_
  rintro e1 w2 ⟨rfl, hb2⟩
  have hcs9 := cells_calls hb2 [⟨w.heap.size, 0, none⟩, ⟨w.heap.size, 1, none⟩, ⟨w.heap.size, 2, none⟩, ⟨w.heap.size, 3, none⟩, ⟨w.heap.size, 4, none⟩, ⟨w.heap.size, 5, none⟩, ⟨w.heap.size, 6, none⟩, ⟨w1.heap.size, 0, none⟩, ⟨w1.heap.size, 1, none⟩, ⟨w1.heap.size, 2, none⟩] [.int .i64 k, .string nm, .string a, .string b, .int .i64 f0, .int .i64 f1, .int .i64 f2, .int .i64 (N.1), .int .i64 (N.2.1), .int .i64 (N.2.2)] (by refine ⟨?_, ?_, ?_, ?_, ?_, ?_, ?_, ?_, ?_, ?_, trivial⟩ <;> exact byCT)
  have hzs9 := blocks_calls hb2 [w.heap.size, w1.heap.size] (by refine ⟨?_, ?_, trivial⟩ <;> first | with_reducible assumption | omega | (simp; omega) | (simp; done))
  try clear c00 c01 c02 c03 c04 c05 c06
  try clear c10 c11 c12
  obtain ⟨c00, c01, c02, c03, c04, c05, c06, c10, c11, c12, -⟩ := hcs9
  obtain ⟨z0, z1, -⟩ := hzs9
  have hs2 := hb2.size
  have hB2 : Below w.heap.size w w2 := (gr_alloc hB1 _).trans (hb2.mono (by have := hB1.size; simp; omega))
  clear hb2
  go_wp2_with fail
  refine (find_b g n c' E b B kb _ (fun i hi => (unhide HR i hi).below byGG) hn (unhide HB) (unhide HBB)).mono ?_
  rintro e2 w3 ⟨rfl, hb3⟩
  have hcs9 := cells_calls hb3 [⟨w.heap.size, 0, none⟩, ⟨w.heap.size, 1, none⟩, ⟨w.heap.size, 2, none⟩, ⟨w.heap.size, 3, none⟩, ⟨w.heap.size, 4, none⟩, ⟨w.heap.size, 5, none⟩, ⟨w.heap.size, 6, none⟩, ⟨w1.heap.size, 0, none⟩, ⟨w1.heap.size, 1, none⟩, ⟨w1.heap.size, 2, none⟩, ⟨w2.heap.size, 0, none⟩, ⟨w2.heap.size, 1, none⟩, ⟨w2.heap.size, 2, none⟩] [.int .i64 k, .string nm, .string a, .string b, .int .i64 f0, .int .i64 f1, .int .i64 f2, .int .i64 (N.1), .int .i64 (N.2.1), .int .i64 (N.2.2), .int .i64 (A.1), .int .i64 (A.2.1), .int .i64 (A.2.2)] (by refine ⟨?_, ?_, ?_, ?_, ?_, ?_, ?_, ?_, ?_, ?_, ?_, ?_, ?_, trivial⟩ <;> exact byCT)
  have hzs9 := blocks_calls hb3 [w.heap.size, w1.heap.size, w2.heap.size] (by refine ⟨?_, ?_, ?_, trivial⟩ <;> first | with_reducible assumption | omega | (simp; omega) | (simp; done))
  try clear c00 c01 c02 c03 c04 c05 c06
  try clear c10 c11 c12
  try clear c20 c21 c22
  obtain ⟨c00, c01, c02, c03, c04, c05, c06, c10, c11, c12, c20, c21, c22, -⟩ := hcs9
  obtain ⟨z0, z1, z2, -⟩ := hzs9
  have hs3 := hb3.size
  have hB3 : Below w.heap.size w w3 := (gr_alloc hB2 _).trans (hb3.mono (by have := hB2.size; simp; omega))
  clear hb3
  rcases unhide HCS with ⟨rfl, ea, eb, cf⟩ | ⟨rfl, ea, eb⟩ | ⟨rfl, ea, eb⟩ | ⟨rfl, ea, eb⟩ | ⟨rfl, ea, eb, cf⟩
  · have ea1 : a.toList = [] := by simpa [emB] using ea
    have eb1 : b.toList = [] := by simpa [emB] using eb
    cases kn
    · have HV : Hid (rcC E n ⟨1, nm, a, b, f0, f1, f2⟩ = 0) := hide (by rw [unhide HRC]; simp [rcD, ea, eb])
      go_wp2
      go_quiet (fail)
      go_wp2
      go_quiet (fail)
      go_wp2
      refine bodyPost_ret (v := .int .i64 0) (by simp [results, Try.results73, go_sem, *]) rfl ?_
      exact ⟨by rw [unhide HV], byGG⟩
    · have HV : Hid (rcC E n ⟨1, nm, a, b, f0, f1, f2⟩ = 2) := hide (by rw [unhide HRC]; simp [rcD, ea, eb])
      go_wp2
      refine bodyPost_ret (v := .int .i64 2) (by simp [results, Try.results73, go_sem, *]) rfl ?_
      exact ⟨by rw [unhide HV], byGG⟩
  · have ea1 : a.toList = [] := by simpa [emB] using ea
    have eb1 : b.toList = [] := by simpa [emB] using eb
    cases kn
    · have HV : Hid (rcC E n ⟨2, nm, a, b, f0, f1, f2⟩ = 3) := hide (by rw [unhide HRC]; simp [rcD, ea, eb])
      go_wp2
      refine bodyPost_ret (v := .int .i64 3) (by simp [results, Try.results73, go_sem, *]) rfl ?_
      exact ⟨by rw [unhide HV], byGG⟩
    · have HV : Hid (rcC E n ⟨2, nm, a, b, f0, f1, f2⟩ = 0) := hide (by rw [unhide HRC]; simp [rcD, ea, eb])
      go_wp2
      go_quiet (fail)
      go_wp2
      go_quiet (fail)
      go_wp2
      refine bodyPost_ret (v := .int .i64 0) (by simp [results, Try.results73, go_sem, *]) rfl ?_
      exact ⟨by rw [unhide HV], byGG⟩
  · replace ea := nm_em ea
    have ea1 : ¬ a.toList = [] := by simpa [emB] using ea
    have ea2 : a.toList.isEmpty = false := by simpa using ea1
    replace eb := nm_em eb
    have eb1 : ¬ b.toList = [] := by simpa [emB] using eb
    have eb2 : b.toList.isEmpty = false := by simpa using eb1
    cases kn
    · cases ka
      · have HV : Hid (rcC E n ⟨3, nm, a, b, f0, f1, f2⟩ = 3) := hide (by rw [unhide HRC]; simp [rcD, ea, eb])
        go_wp2
        refine bodyPost_ret (v := .int .i64 3) (by simp [results, Try.results73, go_sem, *]) rfl ?_
        exact ⟨by rw [unhide HV], byGG⟩
      · cases kb
        · have HV : Hid (rcC E n ⟨3, nm, a, b, f0, f1, f2⟩ = 3) := hide (by rw [unhide HRC]; simp [rcD, ea, eb])
          go_wp2
          refine bodyPost_ret (v := .int .i64 3) (by simp [results, Try.results73, go_sem, *]) rfl ?_
          exact ⟨by rw [unhide HV], byGG⟩
        · have hfa := class_form (unhide CA rfl)
          have hfb := class_form (unhide CB rfl)
          by_cases hdd : discI A.1 A.2.1 A.2.2 = discI B.1 B.2.1 B.2.2
          · have HV : Hid (rcC E n ⟨3, nm, a, b, f0, f1, f2⟩ = 0) := hide (by rw [unhide HRC]; simp [rcD, ea, eb, hdd])
            go_upto_region 11 with fail
            go_cut [72] (fun s72 wx => s72 = .bool false ∧ wx.cell? ⟨w.heap.size, 0, none⟩ = some (.int .i64 3) ∧ wx.cell? ⟨w.heap.size, 1, none⟩ = some (.string nm) ∧ wx.cell? ⟨w.heap.size, 2, none⟩ = some (.string a) ∧ wx.cell? ⟨w.heap.size, 3, none⟩ = some (.string b) ∧ wx.cell? ⟨w.heap.size, 4, none⟩ = some (.int .i64 f0) ∧ wx.cell? ⟨w.heap.size, 5, none⟩ = some (.int .i64 f1) ∧ wx.cell? ⟨w.heap.size, 6, none⟩ = some (.int .i64 f2) ∧ wx.cell? ⟨w1.heap.size, 0, none⟩ = some (.int .i64 (N.1)) ∧ wx.cell? ⟨w1.heap.size, 1, none⟩ = some (.int .i64 (N.2.1)) ∧ wx.cell? ⟨w1.heap.size, 2, none⟩ = some (.int .i64 (N.2.2)) ∧ wx.cell? ⟨w2.heap.size, 0, none⟩ = some (.int .i64 (A.1)) ∧ wx.cell? ⟨w2.heap.size, 1, none⟩ = some (.int .i64 (A.2.1)) ∧ wx.cell? ⟨w2.heap.size, 2, none⟩ = some (.int .i64 (A.2.2)) ∧ wx.cell? ⟨w3.heap.size, 0, none⟩ = some (.int .i64 (B.1)) ∧ wx.cell? ⟨w3.heap.size, 1, none⟩ = some (.int .i64 (B.2.1)) ∧ wx.cell? ⟨w3.heap.size, 2, none⟩ = some (.int .i64 (B.2.2)) ∧ Below w.heap.size w wx)
            case first =>
              have h1 := trivial
              rename_i K2 h2 h3
              refine region_n (by kernel_rfl) (fun j => #[73,74,75,76,77,78,79,80,81,82,72].getD j 0) (fun j => Kd.ok ((fun j => match j with | 0 => Kd.val (.pointer (some ⟨w.heap.size, 0, none⟩)) | 1 => Kd.val (.int .i64 3) | 2 => Kd.val (.bool true) | 3 => Kd.val (.bool true) | 4 => Kd.val (.agg #[.int .i64 (A.1), .int .i64 (A.2.1), .int .i64 (A.2.2)]) | 5 => Kd.val (.int .i64 ((discI A.1 A.2.1 A.2.2))) | 6 => Kd.val (.agg #[.int .i64 (B.1), .int .i64 (B.2.1), .int .i64 (B.2.2)]) | 7 => Kd.val (.int .i64 ((discI B.1 B.2.1 B.2.2))) | 8 => Kd.val (.bool false) | 9 => Kd.val (.bool false) | 10 => Kd.val (.bool false) | _ => Kd.any : Nat → Kd) j)) (Sy w (w3.heap.size + 1) [(⟨w.heap.size, 0, none⟩, .int .i64 3), (⟨w.heap.size, 1, none⟩, .string nm), (⟨w.heap.size, 2, none⟩, .string a), (⟨w.heap.size, 3, none⟩, .string b), (⟨w.heap.size, 4, none⟩, .int .i64 f0), (⟨w.heap.size, 5, none⟩, .int .i64 f1), (⟨w.heap.size, 6, none⟩, .int .i64 f2), (⟨w1.heap.size, 0, none⟩, .int .i64 (N.1)), (⟨w1.heap.size, 1, none⟩, .int .i64 (N.2.1)), (⟨w1.heap.size, 2, none⟩, .int .i64 (N.2.2)), (⟨w2.heap.size, 0, none⟩, .int .i64 (A.1)), (⟨w2.heap.size, 1, none⟩, .int .i64 (A.2.1)), (⟨w2.heap.size, 2, none⟩, .int .i64 (A.2.2)), (⟨w3.heap.size, 0, none⟩, .int .i64 (B.1)), (⟨w3.heap.size, 1, none⟩, .int .i64 (B.2.1)), (⟨w3.heap.size, 2, none⟩, .int .i64 (B.2.2))] []) (fun j => #[true, true, true, true, true, true, true, true, true, true, true].getD j true) (by kernel_rfl) ?_ ?_ ?_ ?_ ?_ ?_
              · intro j hj
                have hj2 : j < 11 := hj
                have : ∀ j, j < 11 → (#[73,74,75,76,77,78,79,80,81,82,72] : Array Nat).getD j 0 < 95 := by decide
                exact this j hj2
              · intro i o ho
                match i, ho with
                | 0, ho => cases ho; intro aq wq hd; exact wanted_free rfl
                | 1, ho => cases ho; intro aq wq hd; exact wanted_free rfl
                | 2, ho => cases ho; intro aq wq hd; exact wanted_free rfl
                | 3, ho => cases ho; intro aq wq hd; exact wanted_free rfl
                | 4, ho => cases ho; intro aq wq hd; exact wanted_of (j := 3) (t := 76) (want := true) (b := true) rfl rfl (hd 3 (by decide +kernel))
                | 5, ho => cases ho; intro aq wq hd; exact wanted_of (j := 3) (t := 76) (want := true) (b := true) rfl rfl (hd 3 (by decide +kernel))
                | 6, ho => cases ho; intro aq wq hd; exact wanted_of (j := 3) (t := 76) (want := true) (b := true) rfl rfl (hd 3 (by decide +kernel))
                | 7, ho => cases ho; intro aq wq hd; exact wanted_of (j := 3) (t := 76) (want := true) (b := true) rfl rfl (hd 3 (by decide +kernel))
                | 8, ho => cases ho; intro aq wq hd; exact wanted_of (j := 3) (t := 76) (want := true) (b := true) rfl rfl (hd 3 (by decide +kernel))
                | 9, ho => cases ho; intro aq wq hd; exact wanted_free rfl
                | 10, ho => cases ho; intro aq wq hd; exact wanted_free rfl
                | i + 11, ho => exact absurd ho (by simp)
              · intro i o ho hr
                match i, ho with
                | 0, ho => exact absurd hr (by decide)
                | 1, ho => exact absurd hr (by decide)
                | 2, ho => exact absurd hr (by decide)
                | 3, ho => exact absurd hr (by decide)
                | 4, ho => exact absurd hr (by decide)
                | 5, ho => exact absurd hr (by decide)
                | 6, ho => exact absurd hr (by decide)
                | 7, ho => exact absurd hr (by decide)
                | 8, ho => exact absurd hr (by decide)
                | 9, ho => exact absurd hr (by decide)
                | 10, ho => exact absurd hr (by decide)
                | i + 11, ho => exact absurd ho (by simp)
              · refine Sy.drew (Sy.mk_of ?_ ?_ ?_ ?_)
                · first | rfl | (simp; done) | (simp; omega)
                · intro c hc
                  simp only [List.mem_cons, List.not_mem_nil, or_false] at hc
                  rcases hc with rfl | rfl | rfl | rfl | rfl | rfl | rfl | rfl | rfl | rfl | rfl | rfl | rfl | rfl | rfl | rfl <;> exact byCT
                · intro p hp; cases hp
                · (repeat' first | with_reducible (first | exact Below.refl _ _ | assumption | refine gr_alloc ?_ _ | refine below_drewN ?_ _ | refine below_drew ?_ | refine gr_call ?_ (by assumption) | refine Below.setCell ?_ ?_ _) | go_size | omega | (simp; omega))
              · clear h1 h2 h3
                refine ⟨?r12x0, ?r12x1, ?r12x2, ?r12x3, ?r12x4, ?r12x5, ?r12x6, ?r12x7, ?r12x8, ?r12x9, ?r12x10, trivial⟩
                all_goals intro _ aq wx Kq hf hS hdep ev1 ev2 hK
                case' r12x0 =>
                  have F3 : aq.eval (.tmp 3) = .pointer (some ⟨w.heap.size, 0, none⟩) := hf 3
                case' r12x1 =>
                  have D0 : aq.eval (.tmp 73) = _ := hdep 0
                  have c0 := hS.cells (⟨w.heap.size, 0, none⟩, .int .i64 3) (by simp)
                case' r12x2 =>
                  have D1 : aq.eval (.tmp 74) = _ := hdep 1
                case' r12x3 =>
                  have D2 : aq.eval (.tmp 75) = _ := hdep 2
                case' r12x4 =>
                  have F7 : aq.eval (.tmp 7) = .pointer (some ⟨w2.heap.size, 0, none⟩) := hf 7
                  have c0 := hS.cells (⟨w2.heap.size, 0, none⟩, .int .i64 (A.1)) (by simp)
                  have c1 := hS.cells (⟨w2.heap.size, 1, none⟩, .int .i64 (A.2.1)) (by simp)
                  have c2 := hS.cells (⟨w2.heap.size, 2, none⟩, .int .i64 (A.2.2)) (by simp)
                case' r12x5 =>
                  have D4 : aq.eval (.tmp 77) = _ := hdep 4
                case' r12x6 =>
                  have F9 : aq.eval (.tmp 9) = .pointer (some ⟨w3.heap.size, 0, none⟩) := hf 9
                  have c0 := hS.cells (⟨w3.heap.size, 0, none⟩, .int .i64 (B.1)) (by simp)
                  have c1 := hS.cells (⟨w3.heap.size, 1, none⟩, .int .i64 (B.2.1)) (by simp)
                  have c2 := hS.cells (⟨w3.heap.size, 2, none⟩, .int .i64 (B.2.2)) (by simp)
                case' r12x7 =>
                  have D6 : aq.eval (.tmp 79) = _ := hdep 6
                case' r12x8 =>
                  have D5 : aq.eval (.tmp 78) = _ := hdep 5
                  have D7 : aq.eval (.tmp 80) = _ := hdep 7
                case' r12x9 =>
                  have D3 : aq.eval (.tmp 76) = _ := hdep 3
                  have D8 : aq.eval (.tmp 81) = _ := hdep 8
                case' r12x10 =>
                  have D9 : aq.eval (.tmp 82) = _ := hdep 9
                all_goals (clear hf hdep; unfold Oper.wp; generalize Act.eval _ = ev at *; go_simp)
                case r12x5 =>
                  refine ((disc_a A.1 A.2.1 A.2.2 _ hfa)).mono ?_
                  rintro e w2 ⟨rfl, hb⟩
                  refine hK _ _ (hS.call hb) ?_ (fun j u _ h => Kd.ok_below hb h)
                  rw [if_pos (by rfl)]
                  show (_ : Value) = _
                  first | rfl | (refine congrArg (Value.int .i64) ?_; first | rfl | exact int_in (by omega) | exact quo_in (by omega) (by omega) (by omega) | exact rem_in (by omega) (by omega) | omega | (simp [*]; done)) | (simp; done) | (simp [*]; done)
                case r12x7 =>
                  refine ((disc_a B.1 B.2.1 B.2.2 _ hfb)).mono ?_
                  rintro e w2 ⟨rfl, hb⟩
                  refine hK _ _ (hS.call hb) ?_ (fun j u _ h => Kd.ok_below hb h)
                  rw [if_pos (by rfl)]
                  show (_ : Value) = _
                  first | rfl | (refine congrArg (Value.int .i64) ?_; first | rfl | exact int_in (by omega) | exact quo_in (by omega) (by omega) (by omega) | exact rem_in (by omega) (by omega) | omega | (simp [*]; done)) | (simp; done) | (simp [*]; done)
                all_goals (refine hK _ _ hS ?_ (fun j u _ h => h); rw [if_pos (by rfl)]; show (_ : Value) = _; (first | rfl | (refine congrArg (Value.int .i64) ?_; first | rfl | exact int_in (by omega) | exact quo_in (by omega) (by omega) (by omega) | exact rem_in (by omega) (by omega) | omega | (simp [*]; done)) | (simp; done) | (simp [*]; done)))
              · intro aq wx hd hw hf hS hg
                have G72 : tau aq 72 = .bool false := hg 10 (by decide)
                have haq : aq = ⟨#[tau aq 0, tau aq 1, tau aq 2, tau aq 3, tau aq 4, tau aq 5, tau aq 6, tau aq 7, tau aq 8, tau aq 9, tau aq 10, tau aq 11, tau aq 12, tau aq 13, tau aq 14, tau aq 15, tau aq 16, tau aq 17, tau aq 18, tau aq 19, tau aq 20, tau aq 21, tau aq 22, tau aq 23, tau aq 24, tau aq 25, tau aq 26, tau aq 27, tau aq 28, tau aq 29, tau aq 30, tau aq 31, tau aq 32, tau aq 33, tau aq 34, tau aq 35, tau aq 36, tau aq 37, tau aq 38, tau aq 39, tau aq 40, tau aq 41, tau aq 42, tau aq 43, tau aq 44, tau aq 45, tau aq 46, tau aq 47, tau aq 48, tau aq 49, tau aq 50, tau aq 51, tau aq 52, tau aq 53, tau aq 54, tau aq 55, tau aq 56, tau aq 57, tau aq 58, tau aq 59, tau aq 60, tau aq 61, tau aq 62, tau aq 63, tau aq 64, tau aq 65, tau aq 66, tau aq 67, tau aq 68, tau aq 69, tau aq 70, tau aq 71, tau aq 72, tau aq 73, tau aq 74, tau aq 75, tau aq 76, tau aq 77, tau aq 78, tau aq 79, tau aq 80, tau aq 81, tau aq 82, tau aq 83, tau aq 84, tau aq 85, tau aq 86, tau aq 87, tau aq 88, tau aq 89, tau aq 90, tau aq 91, tau aq 92, tau aq 93, tau aq 94], []⟩ := by
                  obtain ⟨tq, dq⟩ := aq
                  have h5 := arr_eq (show tq.size = 95 from hw)
                  have h6 : dq = [] := hd
                  subst h6
                  exact congrArg (fun z => Act.mk z []) h5
                show K2 aq wx
                rw [haq, hf 0, hf 1, hf 2, hf 3, hf 4, hf 5, hf 6, hf 7, hf 8, hf 9, hf 10, hf 11, hf 12, hf 13, hf 14, hf 15, hf 16, hf 17, hf 18, hf 19, hf 20, hf 21, hf 22, hf 23, hf 24, hf 25, hf 26, hf 27, hf 28, hf 29, hf 30, hf 31, hf 32, hf 33, hf 34, hf 35, hf 36, hf 37, hf 38, hf 39, hf 40, hf 41, hf 42, hf 43, hf 44, hf 45, hf 46, hf 47, hf 48, hf 49, hf 50, hf 51, hf 52, hf 53, hf 54, hf 55, hf 56, hf 57, hf 58, hf 59, hf 60, hf 61, hf 62, hf 63, hf 64, hf 65, hf 66, hf 67, hf 68, hf 69, hf 70, hf 71, hf 83, hf 84, hf 85, hf 86, hf 87, hf 88, hf 89, hf 90, hf 91, hf 92, hf 93, hf 94, G72]
                clear haq hf hd hw
                try dsimp only
                refine h3 _ _ ?_
                go_meet
                exact ⟨rfl, hS.cells (⟨w.heap.size, 0, none⟩, .int .i64 3) (by simp), hS.cells (⟨w.heap.size, 1, none⟩, .string nm) (by simp), hS.cells (⟨w.heap.size, 2, none⟩, .string a) (by simp), hS.cells (⟨w.heap.size, 3, none⟩, .string b) (by simp), hS.cells (⟨w.heap.size, 4, none⟩, .int .i64 f0) (by simp), hS.cells (⟨w.heap.size, 5, none⟩, .int .i64 f1) (by simp), hS.cells (⟨w.heap.size, 6, none⟩, .int .i64 f2) (by simp), hS.cells (⟨w1.heap.size, 0, none⟩, .int .i64 (N.1)) (by simp), hS.cells (⟨w1.heap.size, 1, none⟩, .int .i64 (N.2.1)) (by simp), hS.cells (⟨w1.heap.size, 2, none⟩, .int .i64 (N.2.2)) (by simp), hS.cells (⟨w2.heap.size, 0, none⟩, .int .i64 (A.1)) (by simp), hS.cells (⟨w2.heap.size, 1, none⟩, .int .i64 (A.2.1)) (by simp), hS.cells (⟨w2.heap.size, 2, none⟩, .int .i64 (A.2.2)) (by simp), hS.cells (⟨w3.heap.size, 0, none⟩, .int .i64 (B.1)) (by simp), hS.cells (⟨w3.heap.size, 1, none⟩, .int .i64 (B.2.1)) (by simp), hS.cells (⟨w3.heap.size, 2, none⟩, .int .i64 (B.2.2)) (by simp), hS.below⟩
            try clear c00
            try clear c01
            try clear c02
            try clear c03
            try clear c04
            try clear c05
            try clear c06
            try clear c10
            try clear c11
            try clear c12
            try clear c20
            try clear c21
            try clear c22
            try clear c30
            try clear c31
            try clear c32
            clear hB3
            obtain ⟨rfl, c00, c01, c02, c03, c04, c05, c06, c10, c11, c12, c20, c21, c22, c30, c31, c32, hb0⟩ := hcut
            have z0 := World.block_lt_of_cell? _ _ c00
            have z1 := World.block_lt_of_cell? _ _ c10
            have z2 := World.block_lt_of_cell? _ _ c20
            have z3 := World.block_lt_of_cell? _ _ c30
            change w.heap.size < wc.heap.size at z0
            change w1.heap.size < wc.heap.size at z1
            change w2.heap.size < wc.heap.size at z2
            change w3.heap.size < wc.heap.size at z3
            go_wp2
            go_quiet (fail)
            go_wp2
            refine bodyPost_ret (v := .int .i64 0) (by simp [results, Try.results73, go_sem, *]) rfl ?_
            exact ⟨by rw [unhide HV], byGG⟩
          · have HV : Hid (rcC E n ⟨3, nm, a, b, f0, f1, f2⟩ = 4) := hide (by rw [unhide HRC]; simp [rcD, ea, eb, hdd])
            go_upto_region 11 with fail
            go_cut [72] (fun s72 wx => s72 = .bool true ∧ wx.cell? ⟨w.heap.size, 0, none⟩ = some (.int .i64 3) ∧ wx.cell? ⟨w.heap.size, 1, none⟩ = some (.string nm) ∧ wx.cell? ⟨w.heap.size, 2, none⟩ = some (.string a) ∧ wx.cell? ⟨w.heap.size, 3, none⟩ = some (.string b) ∧ wx.cell? ⟨w.heap.size, 4, none⟩ = some (.int .i64 f0) ∧ wx.cell? ⟨w.heap.size, 5, none⟩ = some (.int .i64 f1) ∧ wx.cell? ⟨w.heap.size, 6, none⟩ = some (.int .i64 f2) ∧ wx.cell? ⟨w1.heap.size, 0, none⟩ = some (.int .i64 (N.1)) ∧ wx.cell? ⟨w1.heap.size, 1, none⟩ = some (.int .i64 (N.2.1)) ∧ wx.cell? ⟨w1.heap.size, 2, none⟩ = some (.int .i64 (N.2.2)) ∧ wx.cell? ⟨w2.heap.size, 0, none⟩ = some (.int .i64 (A.1)) ∧ wx.cell? ⟨w2.heap.size, 1, none⟩ = some (.int .i64 (A.2.1)) ∧ wx.cell? ⟨w2.heap.size, 2, none⟩ = some (.int .i64 (A.2.2)) ∧ wx.cell? ⟨w3.heap.size, 0, none⟩ = some (.int .i64 (B.1)) ∧ wx.cell? ⟨w3.heap.size, 1, none⟩ = some (.int .i64 (B.2.1)) ∧ wx.cell? ⟨w3.heap.size, 2, none⟩ = some (.int .i64 (B.2.2)) ∧ Below w.heap.size w wx)
            case first =>
              have h1 := trivial
              rename_i K2 h2 h3
              refine region_n (by kernel_rfl) (fun j => #[73,74,75,76,77,78,79,80,81,82,72].getD j 0) (fun j => Kd.ok ((fun j => match j with | 0 => Kd.val (.pointer (some ⟨w.heap.size, 0, none⟩)) | 1 => Kd.val (.int .i64 3) | 2 => Kd.val (.bool true) | 3 => Kd.val (.bool true) | 4 => Kd.val (.agg #[.int .i64 (A.1), .int .i64 (A.2.1), .int .i64 (A.2.2)]) | 5 => Kd.val (.int .i64 ((discI A.1 A.2.1 A.2.2))) | 6 => Kd.val (.agg #[.int .i64 (B.1), .int .i64 (B.2.1), .int .i64 (B.2.2)]) | 7 => Kd.val (.int .i64 ((discI B.1 B.2.1 B.2.2))) | 8 => Kd.val (.bool true) | 9 => Kd.val (.bool true) | 10 => Kd.val (.bool true) | _ => Kd.any : Nat → Kd) j)) (Sy w (w3.heap.size + 1) [(⟨w.heap.size, 0, none⟩, .int .i64 3), (⟨w.heap.size, 1, none⟩, .string nm), (⟨w.heap.size, 2, none⟩, .string a), (⟨w.heap.size, 3, none⟩, .string b), (⟨w.heap.size, 4, none⟩, .int .i64 f0), (⟨w.heap.size, 5, none⟩, .int .i64 f1), (⟨w.heap.size, 6, none⟩, .int .i64 f2), (⟨w1.heap.size, 0, none⟩, .int .i64 (N.1)), (⟨w1.heap.size, 1, none⟩, .int .i64 (N.2.1)), (⟨w1.heap.size, 2, none⟩, .int .i64 (N.2.2)), (⟨w2.heap.size, 0, none⟩, .int .i64 (A.1)), (⟨w2.heap.size, 1, none⟩, .int .i64 (A.2.1)), (⟨w2.heap.size, 2, none⟩, .int .i64 (A.2.2)), (⟨w3.heap.size, 0, none⟩, .int .i64 (B.1)), (⟨w3.heap.size, 1, none⟩, .int .i64 (B.2.1)), (⟨w3.heap.size, 2, none⟩, .int .i64 (B.2.2))] []) (fun j => #[true, true, true, true, true, true, true, true, true, true, true].getD j true) (by kernel_rfl) ?_ ?_ ?_ ?_ ?_ ?_
              · intro j hj
                have hj2 : j < 11 := hj
                have : ∀ j, j < 11 → (#[73,74,75,76,77,78,79,80,81,82,72] : Array Nat).getD j 0 < 95 := by decide
                exact this j hj2
              · intro i o ho
                match i, ho with
                | 0, ho => cases ho; intro aq wq hd; exact wanted_free rfl
                | 1, ho => cases ho; intro aq wq hd; exact wanted_free rfl
                | 2, ho => cases ho; intro aq wq hd; exact wanted_free rfl
                | 3, ho => cases ho; intro aq wq hd; exact wanted_free rfl
                | 4, ho => cases ho; intro aq wq hd; exact wanted_of (j := 3) (t := 76) (want := true) (b := true) rfl rfl (hd 3 (by decide +kernel))
                | 5, ho => cases ho; intro aq wq hd; exact wanted_of (j := 3) (t := 76) (want := true) (b := true) rfl rfl (hd 3 (by decide +kernel))
                | 6, ho => cases ho; intro aq wq hd; exact wanted_of (j := 3) (t := 76) (want := true) (b := true) rfl rfl (hd 3 (by decide +kernel))
                | 7, ho => cases ho; intro aq wq hd; exact wanted_of (j := 3) (t := 76) (want := true) (b := true) rfl rfl (hd 3 (by decide +kernel))
                | 8, ho => cases ho; intro aq wq hd; exact wanted_of (j := 3) (t := 76) (want := true) (b := true) rfl rfl (hd 3 (by decide +kernel))
                | 9, ho => cases ho; intro aq wq hd; exact wanted_free rfl
                | 10, ho => cases ho; intro aq wq hd; exact wanted_free rfl
                | i + 11, ho => exact absurd ho (by simp)
              · intro i o ho hr
                match i, ho with
                | 0, ho => exact absurd hr (by decide)
                | 1, ho => exact absurd hr (by decide)
                | 2, ho => exact absurd hr (by decide)
                | 3, ho => exact absurd hr (by decide)
                | 4, ho => exact absurd hr (by decide)
                | 5, ho => exact absurd hr (by decide)
                | 6, ho => exact absurd hr (by decide)
                | 7, ho => exact absurd hr (by decide)
                | 8, ho => exact absurd hr (by decide)
                | 9, ho => exact absurd hr (by decide)
                | 10, ho => exact absurd hr (by decide)
                | i + 11, ho => exact absurd ho (by simp)
              · refine Sy.drew (Sy.mk_of ?_ ?_ ?_ ?_)
                · first | rfl | (simp; done) | (simp; omega)
                · intro c hc
                  simp only [List.mem_cons, List.not_mem_nil, or_false] at hc
                  rcases hc with rfl | rfl | rfl | rfl | rfl | rfl | rfl | rfl | rfl | rfl | rfl | rfl | rfl | rfl | rfl | rfl <;> exact byCT
                · intro p hp; cases hp
                · (repeat' first | with_reducible (first | exact Below.refl _ _ | assumption | refine gr_alloc ?_ _ | refine below_drewN ?_ _ | refine below_drew ?_ | refine gr_call ?_ (by assumption) | refine Below.setCell ?_ ?_ _) | go_size | omega | (simp; omega))
              · clear h1 h2 h3
                refine ⟨?r13x0, ?r13x1, ?r13x2, ?r13x3, ?r13x4, ?r13x5, ?r13x6, ?r13x7, ?r13x8, ?r13x9, ?r13x10, trivial⟩
                all_goals intro _ aq wx Kq hf hS hdep ev1 ev2 hK
                case' r13x0 =>
                  have F3 : aq.eval (.tmp 3) = .pointer (some ⟨w.heap.size, 0, none⟩) := hf 3
                case' r13x1 =>
                  have D0 : aq.eval (.tmp 73) = _ := hdep 0
                  have c0 := hS.cells (⟨w.heap.size, 0, none⟩, .int .i64 3) (by simp)
                case' r13x2 =>
                  have D1 : aq.eval (.tmp 74) = _ := hdep 1
                case' r13x3 =>
                  have D2 : aq.eval (.tmp 75) = _ := hdep 2
                case' r13x4 =>
                  have F7 : aq.eval (.tmp 7) = .pointer (some ⟨w2.heap.size, 0, none⟩) := hf 7
                  have c0 := hS.cells (⟨w2.heap.size, 0, none⟩, .int .i64 (A.1)) (by simp)
                  have c1 := hS.cells (⟨w2.heap.size, 1, none⟩, .int .i64 (A.2.1)) (by simp)
                  have c2 := hS.cells (⟨w2.heap.size, 2, none⟩, .int .i64 (A.2.2)) (by simp)
                case' r13x5 =>
                  have D4 : aq.eval (.tmp 77) = _ := hdep 4
                case' r13x6 =>
                  have F9 : aq.eval (.tmp 9) = .pointer (some ⟨w3.heap.size, 0, none⟩) := hf 9
                  have c0 := hS.cells (⟨w3.heap.size, 0, none⟩, .int .i64 (B.1)) (by simp)
                  have c1 := hS.cells (⟨w3.heap.size, 1, none⟩, .int .i64 (B.2.1)) (by simp)
                  have c2 := hS.cells (⟨w3.heap.size, 2, none⟩, .int .i64 (B.2.2)) (by simp)
                case' r13x7 =>
                  have D6 : aq.eval (.tmp 79) = _ := hdep 6
                case' r13x8 =>
                  have D5 : aq.eval (.tmp 78) = _ := hdep 5
                  have D7 : aq.eval (.tmp 80) = _ := hdep 7
                case' r13x9 =>
                  have D3 : aq.eval (.tmp 76) = _ := hdep 3
                  have D8 : aq.eval (.tmp 81) = _ := hdep 8
                case' r13x10 =>
                  have D9 : aq.eval (.tmp 82) = _ := hdep 9
                all_goals (clear hf hdep; unfold Oper.wp; generalize Act.eval _ = ev at *; go_simp)
                case r13x5 =>
                  refine ((disc_a A.1 A.2.1 A.2.2 _ hfa)).mono ?_
                  rintro e w2 ⟨rfl, hb⟩
                  refine hK _ _ (hS.call hb) ?_ (fun j u _ h => Kd.ok_below hb h)
                  rw [if_pos (by rfl)]
                  show (_ : Value) = _
                  first | rfl | (refine congrArg (Value.int .i64) ?_; first | rfl | exact int_in (by omega) | exact quo_in (by omega) (by omega) (by omega) | exact rem_in (by omega) (by omega) | omega | (simp [*]; done)) | (simp; done) | (simp [*]; done)
                case r13x7 =>
                  refine ((disc_a B.1 B.2.1 B.2.2 _ hfb)).mono ?_
                  rintro e w2 ⟨rfl, hb⟩
                  refine hK _ _ (hS.call hb) ?_ (fun j u _ h => Kd.ok_below hb h)
                  rw [if_pos (by rfl)]
                  show (_ : Value) = _
                  first | rfl | (refine congrArg (Value.int .i64) ?_; first | rfl | exact int_in (by omega) | exact quo_in (by omega) (by omega) (by omega) | exact rem_in (by omega) (by omega) | omega | (simp [*]; done)) | (simp; done) | (simp [*]; done)
                all_goals (refine hK _ _ hS ?_ (fun j u _ h => h); rw [if_pos (by rfl)]; show (_ : Value) = _; (first | rfl | (refine congrArg (Value.int .i64) ?_; first | rfl | exact int_in (by omega) | exact quo_in (by omega) (by omega) (by omega) | exact rem_in (by omega) (by omega) | omega | (simp [*]; done)) | (simp; done) | (simp [*]; done)))
              · intro aq wx hd hw hf hS hg
                have G72 : tau aq 72 = .bool true := hg 10 (by decide)
                have haq : aq = ⟨#[tau aq 0, tau aq 1, tau aq 2, tau aq 3, tau aq 4, tau aq 5, tau aq 6, tau aq 7, tau aq 8, tau aq 9, tau aq 10, tau aq 11, tau aq 12, tau aq 13, tau aq 14, tau aq 15, tau aq 16, tau aq 17, tau aq 18, tau aq 19, tau aq 20, tau aq 21, tau aq 22, tau aq 23, tau aq 24, tau aq 25, tau aq 26, tau aq 27, tau aq 28, tau aq 29, tau aq 30, tau aq 31, tau aq 32, tau aq 33, tau aq 34, tau aq 35, tau aq 36, tau aq 37, tau aq 38, tau aq 39, tau aq 40, tau aq 41, tau aq 42, tau aq 43, tau aq 44, tau aq 45, tau aq 46, tau aq 47, tau aq 48, tau aq 49, tau aq 50, tau aq 51, tau aq 52, tau aq 53, tau aq 54, tau aq 55, tau aq 56, tau aq 57, tau aq 58, tau aq 59, tau aq 60, tau aq 61, tau aq 62, tau aq 63, tau aq 64, tau aq 65, tau aq 66, tau aq 67, tau aq 68, tau aq 69, tau aq 70, tau aq 71, tau aq 72, tau aq 73, tau aq 74, tau aq 75, tau aq 76, tau aq 77, tau aq 78, tau aq 79, tau aq 80, tau aq 81, tau aq 82, tau aq 83, tau aq 84, tau aq 85, tau aq 86, tau aq 87, tau aq 88, tau aq 89, tau aq 90, tau aq 91, tau aq 92, tau aq 93, tau aq 94], []⟩ := by
                  obtain ⟨tq, dq⟩ := aq
                  have h5 := arr_eq (show tq.size = 95 from hw)
                  have h6 : dq = [] := hd
                  subst h6
                  exact congrArg (fun z => Act.mk z []) h5
                show K2 aq wx
                rw [haq, hf 0, hf 1, hf 2, hf 3, hf 4, hf 5, hf 6, hf 7, hf 8, hf 9, hf 10, hf 11, hf 12, hf 13, hf 14, hf 15, hf 16, hf 17, hf 18, hf 19, hf 20, hf 21, hf 22, hf 23, hf 24, hf 25, hf 26, hf 27, hf 28, hf 29, hf 30, hf 31, hf 32, hf 33, hf 34, hf 35, hf 36, hf 37, hf 38, hf 39, hf 40, hf 41, hf 42, hf 43, hf 44, hf 45, hf 46, hf 47, hf 48, hf 49, hf 50, hf 51, hf 52, hf 53, hf 54, hf 55, hf 56, hf 57, hf 58, hf 59, hf 60, hf 61, hf 62, hf 63, hf 64, hf 65, hf 66, hf 67, hf 68, hf 69, hf 70, hf 71, hf 83, hf 84, hf 85, hf 86, hf 87, hf 88, hf 89, hf 90, hf 91, hf 92, hf 93, hf 94, G72]
                clear haq hf hd hw
                try dsimp only
                refine h3 _ _ ?_
                go_meet
                exact ⟨rfl, hS.cells (⟨w.heap.size, 0, none⟩, .int .i64 3) (by simp), hS.cells (⟨w.heap.size, 1, none⟩, .string nm) (by simp), hS.cells (⟨w.heap.size, 2, none⟩, .string a) (by simp), hS.cells (⟨w.heap.size, 3, none⟩, .string b) (by simp), hS.cells (⟨w.heap.size, 4, none⟩, .int .i64 f0) (by simp), hS.cells (⟨w.heap.size, 5, none⟩, .int .i64 f1) (by simp), hS.cells (⟨w.heap.size, 6, none⟩, .int .i64 f2) (by simp), hS.cells (⟨w1.heap.size, 0, none⟩, .int .i64 (N.1)) (by simp), hS.cells (⟨w1.heap.size, 1, none⟩, .int .i64 (N.2.1)) (by simp), hS.cells (⟨w1.heap.size, 2, none⟩, .int .i64 (N.2.2)) (by simp), hS.cells (⟨w2.heap.size, 0, none⟩, .int .i64 (A.1)) (by simp), hS.cells (⟨w2.heap.size, 1, none⟩, .int .i64 (A.2.1)) (by simp), hS.cells (⟨w2.heap.size, 2, none⟩, .int .i64 (A.2.2)) (by simp), hS.cells (⟨w3.heap.size, 0, none⟩, .int .i64 (B.1)) (by simp), hS.cells (⟨w3.heap.size, 1, none⟩, .int .i64 (B.2.1)) (by simp), hS.cells (⟨w3.heap.size, 2, none⟩, .int .i64 (B.2.2)) (by simp), hS.below⟩
            try clear c00
            try clear c01
            try clear c02
            try clear c03
            try clear c04
            try clear c05
            try clear c06
            try clear c10
            try clear c11
            try clear c12
            try clear c20
            try clear c21
            try clear c22
            try clear c30
            try clear c31
            try clear c32
            clear hB3
            obtain ⟨rfl, c00, c01, c02, c03, c04, c05, c06, c10, c11, c12, c20, c21, c22, c30, c31, c32, hb0⟩ := hcut
            have z0 := World.block_lt_of_cell? _ _ c00
            have z1 := World.block_lt_of_cell? _ _ c10
            have z2 := World.block_lt_of_cell? _ _ c20
            have z3 := World.block_lt_of_cell? _ _ c30
            change w.heap.size < wc.heap.size at z0
            change w1.heap.size < wc.heap.size at z1
            change w2.heap.size < wc.heap.size at z2
            change w3.heap.size < wc.heap.size at z3
            go_wp2
            refine bodyPost_ret (v := .int .i64 4) (by simp [results, Try.results73, go_sem, *]) rfl ?_
            exact ⟨by rw [unhide HV], byGG⟩
    · have HV : Hid (rcC E n ⟨3, nm, a, b, f0, f1, f2⟩ = 2) := hide (by rw [unhide HRC]; simp [rcD, ea, eb])
      go_wp2
      refine bodyPost_ret (v := .int .i64 2) (by simp [results, Try.results73, go_sem, *]) rfl ?_
      exact ⟨by rw [unhide HV], byGG⟩
  · replace ea := nm_em ea
    have ea1 : ¬ a.toList = [] := by simpa [emB] using ea
    have ea2 : a.toList.isEmpty = false := by simpa using ea1
    have eb1 : b.toList = [] := by simpa [emB] using eb
    cases kn
    · cases ka
      · have HV : Hid (rcC E n ⟨4, nm, a, b, f0, f1, f2⟩ = 3) := hide (by rw [unhide HRC]; simp [rcD, ea, eb])
        go_wp2
        refine bodyPost_ret (v := .int .i64 3) (by simp [results, Try.results73, go_sem, *]) rfl ?_
        exact ⟨by rw [unhide HV], byGG⟩
      · have HV : Hid (rcC E n ⟨4, nm, a, b, f0, f1, f2⟩ = 0) := hide (by rw [unhide HRC]; simp [rcD, ea, eb])
        go_wp2
        go_quiet (fail)
        go_wp2
        go_quiet (fail)
        go_wp2
        refine bodyPost_ret (v := .int .i64 0) (by simp [results, Try.results73, go_sem, *]) rfl ?_
        exact ⟨by rw [unhide HV], byGG⟩
    · have HV : Hid (rcC E n ⟨4, nm, a, b, f0, f1, f2⟩ = 2) := hide (by rw [unhide HRC]; simp [rcD, ea, eb])
      go_wp2
      refine bodyPost_ret (v := .int .i64 2) (by simp [results, Try.results73, go_sem, *]) rfl ?_
      exact ⟨by rw [unhide HV], byGG⟩
  · have ea1 : a.toList = [] := by simpa [emB] using ea
    have eb1 : b.toList = [] := by simpa [emB] using eb
    cases kn
    · have HV : Hid (rcC E n ⟨5, nm, a, b, f0, f1, f2⟩ = 3) := hide (by rw [unhide HRC]; simp [rcD, ea, eb])
      go_wp2
      refine bodyPost_ret (v := .int .i64 3) (by simp [results, Try.results73, go_sem, *]) rfl ?_
      exact ⟨by rw [unhide HV], byGG⟩
    · have hokN := okF_of (unhide CN rfl)
      have hokF : OkF f0 f1 f2 := okF_of cf
      obtain ⟨R, hR1⟩ : ∃ R, R = rfN (N.1, N.2.1, N.2.2) := ⟨_, rfl⟩
      obtain ⟨S, hS1⟩ : ∃ S, S = rfN (f0, f1, f2) := ⟨_, rfl⟩
      have HR1 := hide hR1
      have HS1 := hide hS1
      cases ke : eqN R S
      · have HV : Hid (rcC E n ⟨5, nm, a, b, f0, f1, f2⟩ = 4) := hide (by rw [unhide HRC]; rw [show N = (N.1, N.2.1, N.2.2) from rfl]; simp [rcD, ea, eb, ← hR1, ← hS1, ke])
        have HK := hide ke
        clear ke hR1 hS1
        go_wp2
        go_quiet (fail)
        go_wp2
        go_upto_region 13 with fail
        go_cut [83] (fun s83 wx => s83 = .bool (!eqN R S) ∧ wx.cell? ⟨w.heap.size, 0, none⟩ = some (.int .i64 5) ∧ wx.cell? ⟨w.heap.size, 1, none⟩ = some (.string nm) ∧ wx.cell? ⟨w.heap.size, 2, none⟩ = some (.string a) ∧ wx.cell? ⟨w.heap.size, 3, none⟩ = some (.string b) ∧ wx.cell? ⟨w.heap.size, 4, none⟩ = some (.int .i64 f0) ∧ wx.cell? ⟨w.heap.size, 5, none⟩ = some (.int .i64 f1) ∧ wx.cell? ⟨w.heap.size, 6, none⟩ = some (.int .i64 f2) ∧ wx.cell? ⟨w1.heap.size, 0, none⟩ = some (.int .i64 (N.1)) ∧ wx.cell? ⟨w1.heap.size, 1, none⟩ = some (.int .i64 (N.2.1)) ∧ wx.cell? ⟨w1.heap.size, 2, none⟩ = some (.int .i64 (N.2.2)) ∧ wx.cell? ⟨w2.heap.size, 0, none⟩ = some (.int .i64 (A.1)) ∧ wx.cell? ⟨w2.heap.size, 1, none⟩ = some (.int .i64 (A.2.1)) ∧ wx.cell? ⟨w2.heap.size, 2, none⟩ = some (.int .i64 (A.2.2)) ∧ wx.cell? ⟨w3.heap.size, 0, none⟩ = some (.int .i64 (B.1)) ∧ wx.cell? ⟨w3.heap.size, 1, none⟩ = some (.int .i64 (B.2.1)) ∧ wx.cell? ⟨w3.heap.size, 2, none⟩ = some (.int .i64 (B.2.2)) ∧ Below w.heap.size w wx)
        case first =>
          have h1 := trivial
          rename_i K2 h2 h3
          refine region_n (by kernel_rfl) (fun j => #[84,85,86,87,88,89,90,91,92,93,94,83].getD j 0) (fun j => Kd.ok ((fun j => match j with | 0 => Kd.val (.pointer (some ⟨w.heap.size, 0, none⟩)) | 1 => Kd.val (.int .i64 5) | 2 => Kd.val (.bool true) | 3 => Kd.val (.bool true) | 4 => Kd.val (.agg #[.int .i64 (N.1), .int .i64 (N.2.1), .int .i64 (N.2.2)]) | 5 => Kd.val (.agg #[.int .i64 (R.1), .int .i64 (R.2.1), .int .i64 (R.2.2)]) | 6 => Kd.val (.pointer (some ⟨w.heap.size, 4, none⟩)) | 7 => Kd.val (.agg #[.int .i64 f0, .int .i64 f1, .int .i64 f2]) | 8 => Kd.val (.agg #[.int .i64 (S.1), .int .i64 (S.2.1), .int .i64 (S.2.2)]) | 9 => Kd.val (.bool (!eqN R S)) | 10 => Kd.val (.bool (!eqN R S)) | 11 => Kd.val (.bool (!eqN R S)) | _ => Kd.any : Nat → Kd) j)) (Sy w (w3.heap.size + 1) [(⟨w.heap.size, 0, none⟩, .int .i64 5), (⟨w.heap.size, 1, none⟩, .string nm), (⟨w.heap.size, 2, none⟩, .string a), (⟨w.heap.size, 3, none⟩, .string b), (⟨w.heap.size, 4, none⟩, .int .i64 f0), (⟨w.heap.size, 5, none⟩, .int .i64 f1), (⟨w.heap.size, 6, none⟩, .int .i64 f2), (⟨w1.heap.size, 0, none⟩, .int .i64 (N.1)), (⟨w1.heap.size, 1, none⟩, .int .i64 (N.2.1)), (⟨w1.heap.size, 2, none⟩, .int .i64 (N.2.2)), (⟨w2.heap.size, 0, none⟩, .int .i64 (A.1)), (⟨w2.heap.size, 1, none⟩, .int .i64 (A.2.1)), (⟨w2.heap.size, 2, none⟩, .int .i64 (A.2.2)), (⟨w3.heap.size, 0, none⟩, .int .i64 (B.1)), (⟨w3.heap.size, 1, none⟩, .int .i64 (B.2.1)), (⟨w3.heap.size, 2, none⟩, .int .i64 (B.2.2))] []) (fun j => #[true, true, true, true, true, true, true, true, true, true, true, true].getD j true) (by kernel_rfl) ?_ ?_ ?_ ?_ ?_ ?_
          · intro j hj
            have hj2 : j < 12 := hj
            have : ∀ j, j < 12 → (#[84,85,86,87,88,89,90,91,92,93,94,83] : Array Nat).getD j 0 < 95 := by decide
            exact this j hj2
          · intro i o ho
            match i, ho with
            | 0, ho => cases ho; intro aq wq hd; exact wanted_free rfl
            | 1, ho => cases ho; intro aq wq hd; exact wanted_free rfl
            | 2, ho => cases ho; intro aq wq hd; exact wanted_free rfl
            | 3, ho => cases ho; intro aq wq hd; exact wanted_free rfl
            | 4, ho => cases ho; intro aq wq hd; exact wanted_of (j := 3) (t := 87) (want := true) (b := true) rfl rfl (hd 3 (by decide +kernel))
            | 5, ho => cases ho; intro aq wq hd; exact wanted_of (j := 3) (t := 87) (want := true) (b := true) rfl rfl (hd 3 (by decide +kernel))
            | 6, ho => cases ho; intro aq wq hd; exact wanted_of (j := 3) (t := 87) (want := true) (b := true) rfl rfl (hd 3 (by decide +kernel))
            | 7, ho => cases ho; intro aq wq hd; exact wanted_of (j := 3) (t := 87) (want := true) (b := true) rfl rfl (hd 3 (by decide +kernel))
            | 8, ho => cases ho; intro aq wq hd; exact wanted_of (j := 3) (t := 87) (want := true) (b := true) rfl rfl (hd 3 (by decide +kernel))
            | 9, ho => cases ho; intro aq wq hd; exact wanted_of (j := 3) (t := 87) (want := true) (b := true) rfl rfl (hd 3 (by decide +kernel))
            | 10, ho => cases ho; intro aq wq hd; exact wanted_free rfl
            | 11, ho => cases ho; intro aq wq hd; exact wanted_free rfl
            | i + 12, ho => exact absurd ho (by simp)
          · intro i o ho hr
            match i, ho with
            | 0, ho => exact absurd hr (by decide)
            | 1, ho => exact absurd hr (by decide)
            | 2, ho => exact absurd hr (by decide)
            | 3, ho => exact absurd hr (by decide)
            | 4, ho => exact absurd hr (by decide)
            | 5, ho => exact absurd hr (by decide)
            | 6, ho => exact absurd hr (by decide)
            | 7, ho => exact absurd hr (by decide)
            | 8, ho => exact absurd hr (by decide)
            | 9, ho => exact absurd hr (by decide)
            | 10, ho => exact absurd hr (by decide)
            | 11, ho => exact absurd hr (by decide)
            | i + 12, ho => exact absurd ho (by simp)
          · refine Sy.drew (Sy.mk_of ?_ ?_ ?_ ?_)
            · first | rfl | (simp; done) | (simp; omega)
            · intro c hc
              simp only [List.mem_cons, List.not_mem_nil, or_false] at hc
              rcases hc with rfl | rfl | rfl | rfl | rfl | rfl | rfl | rfl | rfl | rfl | rfl | rfl | rfl | rfl | rfl | rfl <;> exact byCT
            · intro p hp; cases hp
            · (repeat' first | with_reducible (first | exact Below.refl _ _ | assumption | refine gr_alloc ?_ _ | refine below_drewN ?_ _ | refine below_drew ?_ | refine gr_call ?_ (by assumption) | refine Below.setCell ?_ ?_ _) | go_size | omega | (simp; omega))
          · clear h1 h2 h3
            refine ⟨?r14x0, ?r14x1, ?r14x2, ?r14x3, ?r14x4, ?r14x5, ?r14x6, ?r14x7, ?r14x8, ?r14x9, ?r14x10, ?r14x11, trivial⟩
            all_goals intro _ aq wx Kq hf hS hdep ev1 ev2 hK
            case' r14x0 =>
              have F3 : aq.eval (.tmp 3) = .pointer (some ⟨w.heap.size, 0, none⟩) := hf 3
            case' r14x1 =>
              have D0 : aq.eval (.tmp 84) = _ := hdep 0
              have c0 := hS.cells (⟨w.heap.size, 0, none⟩, .int .i64 5) (by simp)
            case' r14x2 =>
              have D1 : aq.eval (.tmp 85) = _ := hdep 1
            case' r14x3 =>
              have D2 : aq.eval (.tmp 86) = _ := hdep 2
            case' r14x4 =>
              have F5 : aq.eval (.tmp 5) = .pointer (some ⟨w1.heap.size, 0, none⟩) := hf 5
              have c0 := hS.cells (⟨w1.heap.size, 0, none⟩, .int .i64 (N.1)) (by simp)
              have c1 := hS.cells (⟨w1.heap.size, 1, none⟩, .int .i64 (N.2.1)) (by simp)
              have c2 := hS.cells (⟨w1.heap.size, 2, none⟩, .int .i64 (N.2.2)) (by simp)
            case' r14x5 =>
              have D4 : aq.eval (.tmp 88) = _ := hdep 4
            case' r14x6 =>
              have F3 : aq.eval (.tmp 3) = .pointer (some ⟨w.heap.size, 0, none⟩) := hf 3
            case' r14x7 =>
              have D6 : aq.eval (.tmp 90) = _ := hdep 6
              have c0 := hS.cells (⟨w.heap.size, 4, none⟩, .int .i64 f0) (by simp)
              have c1 := hS.cells (⟨w.heap.size, 5, none⟩, .int .i64 f1) (by simp)
              have c2 := hS.cells (⟨w.heap.size, 6, none⟩, .int .i64 f2) (by simp)
            case' r14x8 =>
              have D7 : aq.eval (.tmp 91) = _ := hdep 7
            case' r14x9 =>
              have D5 : aq.eval (.tmp 89) = _ := hdep 5
              have D8 : aq.eval (.tmp 92) = _ := hdep 8
            case' r14x10 =>
              have D3 : aq.eval (.tmp 87) = _ := hdep 3
              have D9 : aq.eval (.tmp 93) = _ := hdep 9
            case' r14x11 =>
              have D10 : aq.eval (.tmp 94) = _ := hdep 10
            all_goals (clear hf hdep; unfold Oper.wp; generalize Act.eval _ = ev at *; go_simp)
            case r14x5 =>
              refine ((rdN_i N.1 N.2.1 N.2.2 R _ hokN (unhide HR1))).mono ?_
              rintro e w2 ⟨rfl, hb⟩
              refine hK _ _ (hS.call hb) ?_ (fun j u _ h => Kd.ok_below hb h)
              rw [if_pos (by rfl)]
              show (_ : Value) = _
              first | rfl | (refine congrArg (Value.int .i64) ?_; first | rfl | exact int_in (by omega) | exact quo_in (by omega) (by omega) (by omega) | exact rem_in (by omega) (by omega) | omega | rfl | (simp [*]; done)) | (simp; done) | (simp [*]; done)
            case r14x8 =>
              refine ((rdN_i f0 f1 f2 S _ hokF (unhide HS1))).mono ?_
              rintro e w2 ⟨rfl, hb⟩
              refine hK _ _ (hS.call hb) ?_ (fun j u _ h => Kd.ok_below hb h)
              rw [if_pos (by rfl)]
              show (_ : Value) = _
              first | rfl | (refine congrArg (Value.int .i64) ?_; first | rfl | exact int_in (by omega) | exact quo_in (by omega) (by omega) (by omega) | exact rem_in (by omega) (by omega) | omega | rfl | (simp [*]; done)) | (simp; done) | (simp [*]; done)
            case' r14x9 =>
              rw [neN_res, Oper.upon_value]
            all_goals (refine hK _ _ hS ?_ (fun j u _ h => h); rw [if_pos (by rfl)]; show (_ : Value) = _; (first | rfl | (refine congrArg (Value.int .i64) ?_; first | rfl | exact int_in (by omega) | exact quo_in (by omega) (by omega) (by omega) | exact rem_in (by omega) (by omega) | omega | rfl | (simp [*]; done)) | (simp; done) | (simp [*]; done)))
          · intro aq wx hd hw hf hS hg
            have G83 : tau aq 83 = .bool (!eqN R S) := hg 11 (by decide)
            have haq : aq = ⟨#[tau aq 0, tau aq 1, tau aq 2, tau aq 3, tau aq 4, tau aq 5, tau aq 6, tau aq 7, tau aq 8, tau aq 9, tau aq 10, tau aq 11, tau aq 12, tau aq 13, tau aq 14, tau aq 15, tau aq 16, tau aq 17, tau aq 18, tau aq 19, tau aq 20, tau aq 21, tau aq 22, tau aq 23, tau aq 24, tau aq 25, tau aq 26, tau aq 27, tau aq 28, tau aq 29, tau aq 30, tau aq 31, tau aq 32, tau aq 33, tau aq 34, tau aq 35, tau aq 36, tau aq 37, tau aq 38, tau aq 39, tau aq 40, tau aq 41, tau aq 42, tau aq 43, tau aq 44, tau aq 45, tau aq 46, tau aq 47, tau aq 48, tau aq 49, tau aq 50, tau aq 51, tau aq 52, tau aq 53, tau aq 54, tau aq 55, tau aq 56, tau aq 57, tau aq 58, tau aq 59, tau aq 60, tau aq 61, tau aq 62, tau aq 63, tau aq 64, tau aq 65, tau aq 66, tau aq 67, tau aq 68, tau aq 69, tau aq 70, tau aq 71, tau aq 72, tau aq 73, tau aq 74, tau aq 75, tau aq 76, tau aq 77, tau aq 78, tau aq 79, tau aq 80, tau aq 81, tau aq 82, tau aq 83, tau aq 84, tau aq 85, tau aq 86, tau aq 87, tau aq 88, tau aq 89, tau aq 90, tau aq 91, tau aq 92, tau aq 93, tau aq 94], []⟩ := by
              obtain ⟨tq, dq⟩ := aq
              have h5 := arr_eq (show tq.size = 95 from hw)
              have h6 : dq = [] := hd
              subst h6
              exact congrArg (fun z => Act.mk z []) h5
            show K2 aq wx
            rw [haq, hf 0, hf 1, hf 2, hf 3, hf 4, hf 5, hf 6, hf 7, hf 8, hf 9, hf 10, hf 11, hf 12, hf 13, hf 14, hf 15, hf 16, hf 17, hf 18, hf 19, hf 20, hf 21, hf 22, hf 23, hf 24, hf 25, hf 26, hf 27, hf 28, hf 29, hf 30, hf 31, hf 32, hf 33, hf 34, hf 35, hf 36, hf 37, hf 38, hf 39, hf 40, hf 41, hf 42, hf 43, hf 44, hf 45, hf 46, hf 47, hf 48, hf 49, hf 50, hf 51, hf 52, hf 53, hf 54, hf 55, hf 56, hf 57, hf 58, hf 59, hf 60, hf 61, hf 62, hf 63, hf 64, hf 65, hf 66, hf 67, hf 68, hf 69, hf 70, hf 71, hf 72, hf 73, hf 74, hf 75, hf 76, hf 77, hf 78, hf 79, hf 80, hf 81, hf 82, G83]
            clear haq hf hd hw
            try dsimp only
            refine h3 _ _ ?_
            go_meet
            exact ⟨rfl, hS.cells (⟨w.heap.size, 0, none⟩, .int .i64 5) (by simp), hS.cells (⟨w.heap.size, 1, none⟩, .string nm) (by simp), hS.cells (⟨w.heap.size, 2, none⟩, .string a) (by simp), hS.cells (⟨w.heap.size, 3, none⟩, .string b) (by simp), hS.cells (⟨w.heap.size, 4, none⟩, .int .i64 f0) (by simp), hS.cells (⟨w.heap.size, 5, none⟩, .int .i64 f1) (by simp), hS.cells (⟨w.heap.size, 6, none⟩, .int .i64 f2) (by simp), hS.cells (⟨w1.heap.size, 0, none⟩, .int .i64 (N.1)) (by simp), hS.cells (⟨w1.heap.size, 1, none⟩, .int .i64 (N.2.1)) (by simp), hS.cells (⟨w1.heap.size, 2, none⟩, .int .i64 (N.2.2)) (by simp), hS.cells (⟨w2.heap.size, 0, none⟩, .int .i64 (A.1)) (by simp), hS.cells (⟨w2.heap.size, 1, none⟩, .int .i64 (A.2.1)) (by simp), hS.cells (⟨w2.heap.size, 2, none⟩, .int .i64 (A.2.2)) (by simp), hS.cells (⟨w3.heap.size, 0, none⟩, .int .i64 (B.1)) (by simp), hS.cells (⟨w3.heap.size, 1, none⟩, .int .i64 (B.2.1)) (by simp), hS.cells (⟨w3.heap.size, 2, none⟩, .int .i64 (B.2.2)) (by simp), hS.below⟩
        try clear c00
        try clear c01
        try clear c02
        try clear c03
        try clear c04
        try clear c05
        try clear c06
        try clear c10
        try clear c11
        try clear c12
        try clear c20
        try clear c21
        try clear c22
        try clear c30
        try clear c31
        try clear c32
        clear hB3
        obtain ⟨rfl, c00, c01, c02, c03, c04, c05, c06, c10, c11, c12, c20, c21, c22, c30, c31, c32, hb0⟩ := hcut
        have z0 := World.block_lt_of_cell? _ _ c00
        have z1 := World.block_lt_of_cell? _ _ c10
        have z2 := World.block_lt_of_cell? _ _ c20
        have z3 := World.block_lt_of_cell? _ _ c30
        change w.heap.size < wc.heap.size at z0
        change w1.heap.size < wc.heap.size at z1
        change w2.heap.size < wc.heap.size at z2
        change w3.heap.size < wc.heap.size at z3
        rw [unhide HK]
        go_wp2
        refine bodyPost_ret (v := .int .i64 4) (by simp [results, Try.results73, go_sem, *]) rfl ?_
        exact ⟨by rw [unhide HV], byGG⟩
      · have HV : Hid (rcC E n ⟨5, nm, a, b, f0, f1, f2⟩ = 0) := hide (by rw [unhide HRC]; rw [show N = (N.1, N.2.1, N.2.2) from rfl]; simp [rcD, ea, eb, ← hR1, ← hS1, ke])
        have HK := hide ke
        clear ke hR1 hS1
        go_wp2
        go_quiet (fail)
        go_wp2
        go_upto_region 13 with fail
        go_cut [83] (fun s83 wx => s83 = .bool (!eqN R S) ∧ wx.cell? ⟨w.heap.size, 0, none⟩ = some (.int .i64 5) ∧ wx.cell? ⟨w.heap.size, 1, none⟩ = some (.string nm) ∧ wx.cell? ⟨w.heap.size, 2, none⟩ = some (.string a) ∧ wx.cell? ⟨w.heap.size, 3, none⟩ = some (.string b) ∧ wx.cell? ⟨w.heap.size, 4, none⟩ = some (.int .i64 f0) ∧ wx.cell? ⟨w.heap.size, 5, none⟩ = some (.int .i64 f1) ∧ wx.cell? ⟨w.heap.size, 6, none⟩ = some (.int .i64 f2) ∧ wx.cell? ⟨w1.heap.size, 0, none⟩ = some (.int .i64 (N.1)) ∧ wx.cell? ⟨w1.heap.size, 1, none⟩ = some (.int .i64 (N.2.1)) ∧ wx.cell? ⟨w1.heap.size, 2, none⟩ = some (.int .i64 (N.2.2)) ∧ wx.cell? ⟨w2.heap.size, 0, none⟩ = some (.int .i64 (A.1)) ∧ wx.cell? ⟨w2.heap.size, 1, none⟩ = some (.int .i64 (A.2.1)) ∧ wx.cell? ⟨w2.heap.size, 2, none⟩ = some (.int .i64 (A.2.2)) ∧ wx.cell? ⟨w3.heap.size, 0, none⟩ = some (.int .i64 (B.1)) ∧ wx.cell? ⟨w3.heap.size, 1, none⟩ = some (.int .i64 (B.2.1)) ∧ wx.cell? ⟨w3.heap.size, 2, none⟩ = some (.int .i64 (B.2.2)) ∧ Below w.heap.size w wx)
        case first =>
          have h1 := trivial
          rename_i K2 h2 h3
          refine region_n (by kernel_rfl) (fun j => #[84,85,86,87,88,89,90,91,92,93,94,83].getD j 0) (fun j => Kd.ok ((fun j => match j with | 0 => Kd.val (.pointer (some ⟨w.heap.size, 0, none⟩)) | 1 => Kd.val (.int .i64 5) | 2 => Kd.val (.bool true) | 3 => Kd.val (.bool true) | 4 => Kd.val (.agg #[.int .i64 (N.1), .int .i64 (N.2.1), .int .i64 (N.2.2)]) | 5 => Kd.val (.agg #[.int .i64 (R.1), .int .i64 (R.2.1), .int .i64 (R.2.2)]) | 6 => Kd.val (.pointer (some ⟨w.heap.size, 4, none⟩)) | 7 => Kd.val (.agg #[.int .i64 f0, .int .i64 f1, .int .i64 f2]) | 8 => Kd.val (.agg #[.int .i64 (S.1), .int .i64 (S.2.1), .int .i64 (S.2.2)]) | 9 => Kd.val (.bool (!eqN R S)) | 10 => Kd.val (.bool (!eqN R S)) | 11 => Kd.val (.bool (!eqN R S)) | _ => Kd.any : Nat → Kd) j)) (Sy w (w3.heap.size + 1) [(⟨w.heap.size, 0, none⟩, .int .i64 5), (⟨w.heap.size, 1, none⟩, .string nm), (⟨w.heap.size, 2, none⟩, .string a), (⟨w.heap.size, 3, none⟩, .string b), (⟨w.heap.size, 4, none⟩, .int .i64 f0), (⟨w.heap.size, 5, none⟩, .int .i64 f1), (⟨w.heap.size, 6, none⟩, .int .i64 f2), (⟨w1.heap.size, 0, none⟩, .int .i64 (N.1)), (⟨w1.heap.size, 1, none⟩, .int .i64 (N.2.1)), (⟨w1.heap.size, 2, none⟩, .int .i64 (N.2.2)), (⟨w2.heap.size, 0, none⟩, .int .i64 (A.1)), (⟨w2.heap.size, 1, none⟩, .int .i64 (A.2.1)), (⟨w2.heap.size, 2, none⟩, .int .i64 (A.2.2)), (⟨w3.heap.size, 0, none⟩, .int .i64 (B.1)), (⟨w3.heap.size, 1, none⟩, .int .i64 (B.2.1)), (⟨w3.heap.size, 2, none⟩, .int .i64 (B.2.2))] []) (fun j => #[true, true, true, true, true, true, true, true, true, true, true, true].getD j true) (by kernel_rfl) ?_ ?_ ?_ ?_ ?_ ?_
          · intro j hj
            have hj2 : j < 12 := hj
            have : ∀ j, j < 12 → (#[84,85,86,87,88,89,90,91,92,93,94,83] : Array Nat).getD j 0 < 95 := by decide
            exact this j hj2
          · intro i o ho
            match i, ho with
            | 0, ho => cases ho; intro aq wq hd; exact wanted_free rfl
            | 1, ho => cases ho; intro aq wq hd; exact wanted_free rfl
            | 2, ho => cases ho; intro aq wq hd; exact wanted_free rfl
            | 3, ho => cases ho; intro aq wq hd; exact wanted_free rfl
            | 4, ho => cases ho; intro aq wq hd; exact wanted_of (j := 3) (t := 87) (want := true) (b := true) rfl rfl (hd 3 (by decide +kernel))
            | 5, ho => cases ho; intro aq wq hd; exact wanted_of (j := 3) (t := 87) (want := true) (b := true) rfl rfl (hd 3 (by decide +kernel))
            | 6, ho => cases ho; intro aq wq hd; exact wanted_of (j := 3) (t := 87) (want := true) (b := true) rfl rfl (hd 3 (by decide +kernel))
            | 7, ho => cases ho; intro aq wq hd; exact wanted_of (j := 3) (t := 87) (want := true) (b := true) rfl rfl (hd 3 (by decide +kernel))
            | 8, ho => cases ho; intro aq wq hd; exact wanted_of (j := 3) (t := 87) (want := true) (b := true) rfl rfl (hd 3 (by decide +kernel))
            | 9, ho => cases ho; intro aq wq hd; exact wanted_of (j := 3) (t := 87) (want := true) (b := true) rfl rfl (hd 3 (by decide +kernel))
            | 10, ho => cases ho; intro aq wq hd; exact wanted_free rfl
            | 11, ho => cases ho; intro aq wq hd; exact wanted_free rfl
            | i + 12, ho => exact absurd ho (by simp)
          · intro i o ho hr
            match i, ho with
            | 0, ho => exact absurd hr (by decide)
            | 1, ho => exact absurd hr (by decide)
            | 2, ho => exact absurd hr (by decide)
            | 3, ho => exact absurd hr (by decide)
            | 4, ho => exact absurd hr (by decide)
            | 5, ho => exact absurd hr (by decide)
            | 6, ho => exact absurd hr (by decide)
            | 7, ho => exact absurd hr (by decide)
            | 8, ho => exact absurd hr (by decide)
            | 9, ho => exact absurd hr (by decide)
            | 10, ho => exact absurd hr (by decide)
            | 11, ho => exact absurd hr (by decide)
            | i + 12, ho => exact absurd ho (by simp)
          · refine Sy.drew (Sy.mk_of ?_ ?_ ?_ ?_)
            · first | rfl | (simp; done) | (simp; omega)
            · intro c hc
              simp only [List.mem_cons, List.not_mem_nil, or_false] at hc
              rcases hc with rfl | rfl | rfl | rfl | rfl | rfl | rfl | rfl | rfl | rfl | rfl | rfl | rfl | rfl | rfl | rfl <;> exact byCT
            · intro p hp; cases hp
            · (repeat' first | with_reducible (first | exact Below.refl _ _ | assumption | refine gr_alloc ?_ _ | refine below_drewN ?_ _ | refine below_drew ?_ | refine gr_call ?_ (by assumption) | refine Below.setCell ?_ ?_ _) | go_size | omega | (simp; omega))
          · clear h1 h2 h3
            refine ⟨?r15x0, ?r15x1, ?r15x2, ?r15x3, ?r15x4, ?r15x5, ?r15x6, ?r15x7, ?r15x8, ?r15x9, ?r15x10, ?r15x11, trivial⟩
            all_goals intro _ aq wx Kq hf hS hdep ev1 ev2 hK
            case' r15x0 =>
              have F3 : aq.eval (.tmp 3) = .pointer (some ⟨w.heap.size, 0, none⟩) := hf 3
            case' r15x1 =>
              have D0 : aq.eval (.tmp 84) = _ := hdep 0
              have c0 := hS.cells (⟨w.heap.size, 0, none⟩, .int .i64 5) (by simp)
            case' r15x2 =>
              have D1 : aq.eval (.tmp 85) = _ := hdep 1
            case' r15x3 =>
              have D2 : aq.eval (.tmp 86) = _ := hdep 2
            case' r15x4 =>
              have F5 : aq.eval (.tmp 5) = .pointer (some ⟨w1.heap.size, 0, none⟩) := hf 5
              have c0 := hS.cells (⟨w1.heap.size, 0, none⟩, .int .i64 (N.1)) (by simp)
              have c1 := hS.cells (⟨w1.heap.size, 1, none⟩, .int .i64 (N.2.1)) (by simp)
              have c2 := hS.cells (⟨w1.heap.size, 2, none⟩, .int .i64 (N.2.2)) (by simp)
            case' r15x5 =>
              have D4 : aq.eval (.tmp 88) = _ := hdep 4
            case' r15x6 =>
              have F3 : aq.eval (.tmp 3) = .pointer (some ⟨w.heap.size, 0, none⟩) := hf 3
            case' r15x7 =>
              have D6 : aq.eval (.tmp 90) = _ := hdep 6
              have c0 := hS.cells (⟨w.heap.size, 4, none⟩, .int .i64 f0) (by simp)
              have c1 := hS.cells (⟨w.heap.size, 5, none⟩, .int .i64 f1) (by simp)
              have c2 := hS.cells (⟨w.heap.size, 6, none⟩, .int .i64 f2) (by simp)
            case' r15x8 =>
              have D7 : aq.eval (.tmp 91) = _ := hdep 7
            case' r15x9 =>
              have D5 : aq.eval (.tmp 89) = _ := hdep 5
              have D8 : aq.eval (.tmp 92) = _ := hdep 8
            case' r15x10 =>
              have D3 : aq.eval (.tmp 87) = _ := hdep 3
              have D9 : aq.eval (.tmp 93) = _ := hdep 9
            case' r15x11 =>
              have D10 : aq.eval (.tmp 94) = _ := hdep 10
            all_goals (clear hf hdep; unfold Oper.wp; generalize Act.eval _ = ev at *; go_simp)
            case r15x5 =>
              refine ((rdN_i N.1 N.2.1 N.2.2 R _ hokN (unhide HR1))).mono ?_
              rintro e w2 ⟨rfl, hb⟩
              refine hK _ _ (hS.call hb) ?_ (fun j u _ h => Kd.ok_below hb h)
              rw [if_pos (by rfl)]
              show (_ : Value) = _
              first | rfl | (refine congrArg (Value.int .i64) ?_; first | rfl | exact int_in (by omega) | exact quo_in (by omega) (by omega) (by omega) | exact rem_in (by omega) (by omega) | omega | rfl | (simp [*]; done)) | (simp; done) | (simp [*]; done)
            case r15x8 =>
              refine ((rdN_i f0 f1 f2 S _ hokF (unhide HS1))).mono ?_
              rintro e w2 ⟨rfl, hb⟩
              refine hK _ _ (hS.call hb) ?_ (fun j u _ h => Kd.ok_below hb h)
              rw [if_pos (by rfl)]
              show (_ : Value) = _
              first | rfl | (refine congrArg (Value.int .i64) ?_; first | rfl | exact int_in (by omega) | exact quo_in (by omega) (by omega) (by omega) | exact rem_in (by omega) (by omega) | omega | rfl | (simp [*]; done)) | (simp; done) | (simp [*]; done)
            case' r15x9 =>
              rw [neN_res, Oper.upon_value]
            all_goals (refine hK _ _ hS ?_ (fun j u _ h => h); rw [if_pos (by rfl)]; show (_ : Value) = _; (first | rfl | (refine congrArg (Value.int .i64) ?_; first | rfl | exact int_in (by omega) | exact quo_in (by omega) (by omega) (by omega) | exact rem_in (by omega) (by omega) | omega | rfl | (simp [*]; done)) | (simp; done) | (simp [*]; done)))
          · intro aq wx hd hw hf hS hg
            have G83 : tau aq 83 = .bool (!eqN R S) := hg 11 (by decide)
            have haq : aq = ⟨#[tau aq 0, tau aq 1, tau aq 2, tau aq 3, tau aq 4, tau aq 5, tau aq 6, tau aq 7, tau aq 8, tau aq 9, tau aq 10, tau aq 11, tau aq 12, tau aq 13, tau aq 14, tau aq 15, tau aq 16, tau aq 17, tau aq 18, tau aq 19, tau aq 20, tau aq 21, tau aq 22, tau aq 23, tau aq 24, tau aq 25, tau aq 26, tau aq 27, tau aq 28, tau aq 29, tau aq 30, tau aq 31, tau aq 32, tau aq 33, tau aq 34, tau aq 35, tau aq 36, tau aq 37, tau aq 38, tau aq 39, tau aq 40, tau aq 41, tau aq 42, tau aq 43, tau aq 44, tau aq 45, tau aq 46, tau aq 47, tau aq 48, tau aq 49, tau aq 50, tau aq 51, tau aq 52, tau aq 53, tau aq 54, tau aq 55, tau aq 56, tau aq 57, tau aq 58, tau aq 59, tau aq 60, tau aq 61, tau aq 62, tau aq 63, tau aq 64, tau aq 65, tau aq 66, tau aq 67, tau aq 68, tau aq 69, tau aq 70, tau aq 71, tau aq 72, tau aq 73, tau aq 74, tau aq 75, tau aq 76, tau aq 77, tau aq 78, tau aq 79, tau aq 80, tau aq 81, tau aq 82, tau aq 83, tau aq 84, tau aq 85, tau aq 86, tau aq 87, tau aq 88, tau aq 89, tau aq 90, tau aq 91, tau aq 92, tau aq 93, tau aq 94], []⟩ := by
              obtain ⟨tq, dq⟩ := aq
              have h5 := arr_eq (show tq.size = 95 from hw)
              have h6 : dq = [] := hd
              subst h6
              exact congrArg (fun z => Act.mk z []) h5
            show K2 aq wx
            rw [haq, hf 0, hf 1, hf 2, hf 3, hf 4, hf 5, hf 6, hf 7, hf 8, hf 9, hf 10, hf 11, hf 12, hf 13, hf 14, hf 15, hf 16, hf 17, hf 18, hf 19, hf 20, hf 21, hf 22, hf 23, hf 24, hf 25, hf 26, hf 27, hf 28, hf 29, hf 30, hf 31, hf 32, hf 33, hf 34, hf 35, hf 36, hf 37, hf 38, hf 39, hf 40, hf 41, hf 42, hf 43, hf 44, hf 45, hf 46, hf 47, hf 48, hf 49, hf 50, hf 51, hf 52, hf 53, hf 54, hf 55, hf 56, hf 57, hf 58, hf 59, hf 60, hf 61, hf 62, hf 63, hf 64, hf 65, hf 66, hf 67, hf 68, hf 69, hf 70, hf 71, hf 72, hf 73, hf 74, hf 75, hf 76, hf 77, hf 78, hf 79, hf 80, hf 81, hf 82, G83]
            clear haq hf hd hw
            try dsimp only
            refine h3 _ _ ?_
            go_meet
            exact ⟨rfl, hS.cells (⟨w.heap.size, 0, none⟩, .int .i64 5) (by simp), hS.cells (⟨w.heap.size, 1, none⟩, .string nm) (by simp), hS.cells (⟨w.heap.size, 2, none⟩, .string a) (by simp), hS.cells (⟨w.heap.size, 3, none⟩, .string b) (by simp), hS.cells (⟨w.heap.size, 4, none⟩, .int .i64 f0) (by simp), hS.cells (⟨w.heap.size, 5, none⟩, .int .i64 f1) (by simp), hS.cells (⟨w.heap.size, 6, none⟩, .int .i64 f2) (by simp), hS.cells (⟨w1.heap.size, 0, none⟩, .int .i64 (N.1)) (by simp), hS.cells (⟨w1.heap.size, 1, none⟩, .int .i64 (N.2.1)) (by simp), hS.cells (⟨w1.heap.size, 2, none⟩, .int .i64 (N.2.2)) (by simp), hS.cells (⟨w2.heap.size, 0, none⟩, .int .i64 (A.1)) (by simp), hS.cells (⟨w2.heap.size, 1, none⟩, .int .i64 (A.2.1)) (by simp), hS.cells (⟨w2.heap.size, 2, none⟩, .int .i64 (A.2.2)) (by simp), hS.cells (⟨w3.heap.size, 0, none⟩, .int .i64 (B.1)) (by simp), hS.cells (⟨w3.heap.size, 1, none⟩, .int .i64 (B.2.1)) (by simp), hS.cells (⟨w3.heap.size, 2, none⟩, .int .i64 (B.2.2)) (by simp), hS.below⟩
        try clear c00
        try clear c01
        try clear c02
        try clear c03
        try clear c04
        try clear c05
        try clear c06
        try clear c10
        try clear c11
        try clear c12
        try clear c20
        try clear c21
        try clear c22
        try clear c30
        try clear c31
        try clear c32
        clear hB3
        obtain ⟨rfl, c00, c01, c02, c03, c04, c05, c06, c10, c11, c12, c20, c21, c22, c30, c31, c32, hb0⟩ := hcut
        have z0 := World.block_lt_of_cell? _ _ c00
        have z1 := World.block_lt_of_cell? _ _ c10
        have z2 := World.block_lt_of_cell? _ _ c20
        have z3 := World.block_lt_of_cell? _ _ c30
        change w.heap.size < wc.heap.size at z0
        change w1.heap.size < wc.heap.size at z1
        change w2.heap.size < wc.heap.size at z2
        change w3.heap.size < wc.heap.size at z3
        rw [unhide HK]
        go_wp2
        refine bodyPost_ret (v := .int .i64 0) (by simp [results, Try.results73, go_sem, *]) rfl ?_
        exact ⟨by rw [unhide HV], byGG⟩
end Go.Proofs.Ytligbfegafkpjaa
