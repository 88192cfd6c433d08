/-
  runCommand, RunCommand (impl).
-/
import Derived.Test.YtligbfegafkpjaaRf
namespace Go.Proofs.Ytligbfegafkpjaa
open Go.RowKit
set_option linter.unusedVariables false
set_option linter.unusedSimpArgs false
attribute [local go_sem] q2 q3 q4 q5 q6 q7 q8 q9 q10 q11 q12

theorem compose_b (A B C : T3n) (w : World) (h1 : ClT A) (h2 : ClT B) (hd : dT B = dT A) (hC : C = cmp A B) : Calls Try.prog 76 #[.agg #[.int .i64 A.1, .int .i64 A.2.1, .int .i64 A.2.2], .agg #[.int .i64 B.1, .int .i64 B.2.1, .int .i64 B.2.2]] w fun e w' => e = .returned (.agg #[.int .i64 C.1, .int .i64 C.2.1, .int .i64 C.2.2]) ∧ Below w.heap.size w w' :=
  (compose_r A.1 A.2.1 A.2.2 B.1 B.2.1 B.2.2 w h1 h2 hd).mono fun e w' ⟨u, v, k, he, hc, hb⟩ => ⟨by rw [hC, show cmp A B = (u, v, k) from cmp_of hc]; exact he, hb⟩
theorem coMul_b (A B C : T3n) (w : World) (h1 : ClT A) (h2 : ClT B) (hd : dT B = dT A) (hC : C = cmp A B) : Calls Try.prog 71 #[.agg #[.int .i64 A.1, .int .i64 A.2.1, .int .i64 A.2.2], .agg #[.int .i64 B.1, .int .i64 B.2.1, .int .i64 B.2.2]] w fun e w' => e = .returned (.agg #[.int .i64 C.1, .int .i64 C.2.1, .int .i64 C.2.2]) ∧ Below w.heap.size w w' :=
  (coMul_r A.1 A.2.1 A.2.2 B.1 B.2.1 B.2.2 w h1 h2 hd).mono fun e w' ⟨u, v, k, he, hc, hb⟩ => ⟨by rw [hC, show cmp A B = (u, v, k) from cmp_of hc]; exact he, hb⟩
theorem cls_of {F : T3n} (h : classB F.1 F.2.1 F.2.2 = true) : ClT F := by
  refine ⟨okF_of h, prim_gcd ?_⟩
  unfold classB at h
  rw [Bool.and_eq_true] at h
  have h2 := h.2
  rw [beq_iff_eq, ← cont_alt] at h2
  unfold igcd at h2
  exact_mod_cast h2
theorem refusal_b (cd : Int) (g n c' : Nat) (E : Nat → Ent) (c : Cmd) (w : World) (hr : ∀ i, i < n → EntAt w g (i * 4) (E i)) (hn : n ≤ 2000000) (hcm : cmB c = true) (hct : ctG E n = true) (hcd : cd = rcC E n c) :
    Calls Try.prog 73 #[.slice (some ⟨g, 0, none⟩) n c', cmv c] w fun e w' => e = .returned (.int .i64 cd) ∧ Below w.heap.size w w' := by
  subst hcd; exact refusal_a g n c' E c w hr hn hcm hct
theorem withEntry_b (g n c : Nat) (E : Nat → Ent) (nm : ByteArray) (x y z : Int) (W : List Ent) (w : World) (hr : ∀ i, i < n → EntAt w g (i * 4) (E i)) (hn : n ≤ 2000000) (hW : W = weL (atE (woL E nm n)) ⟨nm, (x, y, z)⟩ (woL E nm n).length) :
    Calls Try.prog 78 #[.slice (some ⟨g, 0, none⟩) n c, .string nm, .agg #[.int .i64 x, .int .i64 y, .int .i64 z]] w fun e w' => ∃ v, e = .returned v ∧ EL w' w.heap.size v W ∧ Below w.heap.size w w' := by
  subst hW; exact withEntry_a g n c E nm x y z w hr hn
/-- A call that returns a list of entries of its own, and a code. -/
def RetEC (w : World) (zs : List Ent) (code : Int) (e : Ending) (w' : World) : Prop :=
  ∃ v, e = .returned (.tuple #[v, .int .i64 code]) ∧ EL w' w.heap.size v zs ∧ Below w.heap.size w w'

theorem withoutEntry_b (g n c : Nat) (E : Nat → Ent) (nm : ByteArray) (L : List Ent) (w : World) (hr : ∀ i, i < n → EntAt w g (i * 4) (E i)) (hn : n ≤ 2000000) (hL : L = woL E nm n) :
    Calls Try.prog 75 #[.slice (some ⟨g, 0, none⟩) n c, .string nm] w fun e w' => ∃ v, e = .returned v ∧ EL w' w.heap.size v L ∧ Below w.heap.size w w' := by
  subst hL; exact withoutEntry_a g n c E nm w hr hn
theorem byGE {a b : Nat} (h : a ≤ b := by (first | omega | (simp; omega))) : a ≤ b := h
theorem rcD_three {kn ka kb : Bool} {N A B F : T3n} (h : (0 : Int) = rcD 3 kn ka kb false false N A B F) : ka = true ∧ kb = true ∧ discI A.1 A.2.1 A.2.2 = discI B.1 B.2.1 B.2.2 := by
  unfold rcD at h
  cases kn <;> cases ka <;> cases kb <;> simp at h
  exact ⟨rfl, rfl, h⟩
theorem rcD_four {kn ka kb eb : Bool} {N A B F : T3n} (h : (0 : Int) = rcD 4 kn ka kb false eb N A B F) : ka = true := by
  unfold rcD at h
  cases kn <;> cases ka <;> cases kb <;> cases eb <;> first | rfl | (simp at h)

set_option maxRecDepth 100000 in
set_option maxHeartbeats 16000000 in
theorem runCommand_a (g n c' : Nat) (E : Nat → Ent) (c : Cmd) (w : World) (hr : ∀ i, i < n → EntAt w g (i * 4) (E i)) (hn : n ≤ 2000000) (hcm : cmB c = true) (hct : ctG E n = true) :
    Calls Try.prog 50 #[.slice (some ⟨g, 0, none⟩) n c', cmv c] w (RetEC w (rnL E n c) (rnC E n c)) := by
  obtain ⟨k, nm, a, b, f0, f1, f2⟩ := c
  obtain ⟨cd, hcd⟩ : ∃ cd, cd = rcC E n ⟨k, nm, a, b, f0, f1, f2⟩ := ⟨_, rfl⟩
  have HCD := hide hcd
  have HR := hide hr
  have HCM := hide hcm
  by_cases h0 : cd = 0
  · subst h0
    obtain ⟨-, hcs⟩ := cm_cases hcm
    simp only [] at hcs
    obtain ⟨A, hA⟩ : ∃ A, A = fdF E a n := ⟨_, rfl⟩
    obtain ⟨B, hB⟩ : ∃ B, B = fdF E b n := ⟨_, rfl⟩
    obtain ⟨ka, hka⟩ : ∃ k, k = fdB E a n := ⟨_, rfl⟩
    obtain ⟨kb, hkb⟩ : ∃ k, k = fdB E b n := ⟨_, rfl⟩
    have CA : Hid (ka = true → classB A.1 A.2.1 A.2.2 = true) := hide (fun h => by rw [hA]; exact fd_cls hct (by rw [← hka]; exact h))
    have CB : Hid (kb = true → classB B.1 B.2.1 B.2.2 = true) := hide (fun h => by rw [hB]; exact fd_cls hct (by rw [← hkb]; exact h))
    have HRC : Hid (rcC E n ⟨k, nm, a, b, f0, f1, f2⟩ = rcD k (fdB E nm n) ka kb (emB a) (emB b) (fdF E nm n) A B (f0, f1, f2)) := hide (by rw [hA, hB, hka, hkb]; rfl)
    have HA := hide hA
    have HB := hide hB
    have HBA := hide hka
    have HBB := hide hkb
    have HCS := hide hcs
    clear hA hB hka hkb hr hcs
    go_enter Try.func50, Try.ntmps50
    go_wp2_with fail
    refine (refusal_b 0 g n c' E ⟨k, nm, a, b, f0, f1, f2⟩ _ (fun i hi => (unhide HR i hi).below byGG) hn (unhide HCM) hct (unhide HCD)).mono ?_
    rintro e1 w1 ⟨rfl, hb1⟩
    have hcs9 := cells_calls hb1 [⟨w.heap.size, 0, none⟩, ⟨w.heap.size, 1, none⟩, ⟨w.heap.size, 2, none⟩, ⟨w.heap.size, 3, none⟩, ⟨w.heap.size, 4, none⟩, ⟨w.heap.size, 5, none⟩, ⟨w.heap.size, 6, none⟩] [.int .i64 k, .string nm, .string a, .string b, .int .i64 f0, .int .i64 f1, .int .i64 f2] (by refine ⟨?_, ?_, ?_, ?_, ?_, ?_, ?_, trivial⟩ <;> exact byCT)
    have hzs9 := blocks_calls hb1 [w.heap.size] (by refine ⟨?_, trivial⟩ <;> first | with_reducible assumption | omega | (simp; omega) | (simp; done))
    try clear c00 c01 c02 c03 c04 c05 c06
    obtain ⟨c00, c01, c02, c03, c04, c05, c06, -⟩ := hcs9
    obtain ⟨z0, -⟩ := hzs9
    have hs1 := hb1.size
    have hB1 : Below w.heap.size w w1 := byGG
    clear hb1
    go_wp2_with fail
    refine (find_b g n c' E a A ka _ (fun i hi => (unhide HR i hi).below byGG) hn (unhide HA) (unhide HBA)).mono ?_
    rintro e2 w2 ⟨rfl, hb2⟩
    have hcs9 := cells_calls hb2 [⟨w.heap.size, 0, none⟩, ⟨w.heap.size, 1, none⟩, ⟨w.heap.size, 2, none⟩, ⟨w.heap.size, 3, none⟩, ⟨w.heap.size, 4, none⟩, ⟨w.heap.size, 5, none⟩, ⟨w.heap.size, 6, none⟩, ⟨w1.heap.size, 0, none⟩, ⟨w1.heap.size, 1, none⟩, ⟨w1.heap.size, 2, none⟩] [.int .i64 k, .string nm, .string a, .string b, .int .i64 f0, .int .i64 f1, .int .i64 f2, .int .i64 f0, .int .i64 f1, .int .i64 f2] (by refine ⟨?_, ?_, ?_, ?_, ?_, ?_, ?_, ?_, ?_, ?_, trivial⟩ <;> exact byCT)
    have hfs9 := frees_calls hb2 [⟨w1.heap.size, 0, none⟩, ⟨w1.heap.size, 1, none⟩, ⟨w1.heap.size, 2, none⟩] (by refine ⟨?_, ?_, ?_, trivial⟩ <;> first | with_reducible assumption | omega | (simp; omega) | (simp; done)) (by refine ⟨?_, ?_, ?_, trivial⟩ <;> exact byFT)
    have hzs9 := blocks_calls hb2 [w.heap.size, w1.heap.size] (by refine ⟨?_, ?_, trivial⟩ <;> first | with_reducible assumption | omega | (simp; omega) | (simp; done))
    try clear c00 c01 c02 c03 c04 c05 c06
    try clear c10 c11 c12 f10 f11 f12
    obtain ⟨c00, c01, c02, c03, c04, c05, c06, c10, c11, c12, -⟩ := hcs9
    obtain ⟨f10, f11, f12, -⟩ := hfs9
    obtain ⟨z0, z1, -⟩ := hzs9
    have hs2 := hb2.size
    have hB2 : Below w.heap.size w w2 := byGG
    clear hb2
    go_wp2_with fail
    refine (find_b g n c' E b B kb _ (fun i hi => (unhide HR i hi).below byGG) hn (unhide HB) (unhide HBB)).mono ?_
    rintro e3 w3 ⟨rfl, hb3⟩
    have hcs9 := cells_calls hb3 [⟨w.heap.size, 0, none⟩, ⟨w.heap.size, 1, none⟩, ⟨w.heap.size, 2, none⟩, ⟨w.heap.size, 3, none⟩, ⟨w.heap.size, 4, none⟩, ⟨w.heap.size, 5, none⟩, ⟨w.heap.size, 6, none⟩, ⟨w1.heap.size, 0, none⟩, ⟨w1.heap.size, 1, none⟩, ⟨w1.heap.size, 2, none⟩, ⟨w2.heap.size, 0, none⟩, ⟨w2.heap.size, 1, none⟩, ⟨w2.heap.size, 2, none⟩] [.int .i64 k, .string nm, .string a, .string b, .int .i64 f0, .int .i64 f1, .int .i64 f2, .int .i64 f0, .int .i64 f1, .int .i64 f2, .int .i64 (A.1), .int .i64 (A.2.1), .int .i64 (A.2.2)] (by refine ⟨?_, ?_, ?_, ?_, ?_, ?_, ?_, ?_, ?_, ?_, ?_, ?_, ?_, trivial⟩ <;> exact byCT)
    have hfs9 := frees_calls hb3 [⟨w1.heap.size, 0, none⟩, ⟨w1.heap.size, 1, none⟩, ⟨w1.heap.size, 2, none⟩] (by refine ⟨?_, ?_, ?_, trivial⟩ <;> first | with_reducible assumption | omega | (simp; omega) | (simp; done)) (by refine ⟨?_, ?_, ?_, trivial⟩ <;> exact byFT)
    have hzs9 := blocks_calls hb3 [w.heap.size, w1.heap.size, w2.heap.size] (by refine ⟨?_, ?_, ?_, trivial⟩ <;> first | with_reducible assumption | omega | (simp; omega) | (simp; done))
    try clear c00 c01 c02 c03 c04 c05 c06
    try clear c10 c11 c12 f10 f11 f12
    try clear c20 c21 c22
    obtain ⟨c00, c01, c02, c03, c04, c05, c06, c10, c11, c12, c20, c21, c22, -⟩ := hcs9
    obtain ⟨f10, f11, f12, -⟩ := hfs9
    obtain ⟨z0, z1, z2, -⟩ := hzs9
    have hs3 := hb3.size
    have hB3 : Below w.heap.size w w3 := byGG
    clear hb3
    rcases unhide HCS with ⟨rfl, ea, eb, cf⟩ | ⟨rfl, ea, eb⟩ | ⟨rfl, ea, eb⟩ | ⟨rfl, ea, eb⟩ | ⟨rfl, ea, eb, cf⟩
    · obtain ⟨W, hW0⟩ : ∃ W, W = weL (atE (woL E nm n)) ⟨nm, (f0, f1, f2)⟩ (woL E nm n).length := ⟨_, rfl⟩
      have HW := hide hW0
      have HWW : Hid (W = rnW E n ⟨1, nm, a, b, f0, f1, f2⟩) := hide (by rw [hW0]; unfold rnW rnF; rfl)
      clear hW0
      go_wp2_with fail
      refine (withEntry_b g n c' E nm f0 f1 f2 W _ (fun i hi => (unhide HR i hi).below byGG) hn (unhide HW)).mono ?_
      rintro e8 w8 ⟨v8, rfl, hW, hb8⟩
      obtain ⟨a8, c8, rfl⟩ := hW.form
      have hB8 : Below w.heap.size w w8 := byGG
      have hW2 := hW.low (lo' := w.heap.size) byGE
      clear hb8
      by_cases hl : W.length ≤ 20
      · have HL : Hid (rnL E n ⟨1, nm, a, b, f0, f1, f2⟩ = W) := hide (by unfold rnL; rw [← unhide HCD, if_pos rfl, if_neg (by simp), ← unhide HWW, if_pos hl])
        have HC : Hid (rnC E n ⟨1, nm, a, b, f0, f1, f2⟩ = 0) := hide (by unfold rnC; rw [← unhide HCD, if_pos rfl, if_neg (by simp), ← unhide HWW, if_pos hl])
        have hl2 : ¬ (20 < (W.length : Int)) := by omega
        clear hl
        go_wp2
        refine bodyPost_ret (v := .tuple #[.slice a8 W.length c8, .int .i64 0]) (by simp [results, Try.results50, go_sem, *]) rfl ?_
        exact ⟨_, by rw [unhide HC], by rw [unhide HL]; exact hW2, byGG⟩
      · have HL : Hid (rnL E n ⟨1, nm, a, b, f0, f1, f2⟩ = []) := hide (by unfold rnL; rw [← unhide HCD, if_pos rfl, if_neg (by simp), ← unhide HWW, if_neg hl])
        have HC : Hid (rnC E n ⟨1, nm, a, b, f0, f1, f2⟩ = 5) := hide (by unfold rnC; rw [← unhide HCD, if_pos rfl, if_neg (by simp), ← unhide HWW, if_neg hl])
        have hl2 : (20 < (W.length : Int)) := by omega
        clear hl
        go_wp2
        refine bodyPost_ret (v := .tuple #[.slice (some ⟨w8.heap.size, 0, none⟩) 0 0, .int .i64 5]) (by simp [results, Try.results50, go_sem, *]) rfl ?_
        exact ⟨_, by rw [unhide HC], by rw [unhide HL]; exact EL.made _ _ hB8.size, byGG⟩
    · obtain ⟨L, hL0⟩ : ∃ L, L = woL E nm n := ⟨_, rfl⟩
      have HL : Hid (rnL E n ⟨2, nm, a, b, f0, f1, f2⟩ = L) := hide (by unfold rnL; rw [← unhide HCD, if_pos rfl, if_pos rfl, hL0])
      have HC : Hid (rnC E n ⟨2, nm, a, b, f0, f1, f2⟩ = 0) := hide (by unfold rnC; rw [← unhide HCD, if_pos rfl, if_pos rfl])
      have HL0 := hide hL0
      clear hL0
      go_wp2_with fail
      refine (withoutEntry_b g n c' E nm L _ (fun i hi => (unhide HR i hi).below byGG) hn (unhide HL0)).mono ?_
      rintro e8 w8 ⟨v8, rfl, hW, hb8⟩
      have hB8 : Below w.heap.size w w8 := byGG
      have hW2 := hW.low (lo' := w.heap.size) byGE
      clear hb8
      go_wp2
      refine bodyPost_ret (v := .tuple #[v8, .int .i64 0]) (by simp [results, Try.results50, go_sem, *]) rfl ?_
      exact ⟨_, by rw [unhide HC], by rw [unhide HL]; exact hW2, byGG⟩
    · replace ea := nm_em ea
      replace eb := nm_em eb
      have h3 := unhide HCD
      rw [unhide HRC, ea, eb] at h3
      obtain ⟨rfl, rfl, hdd⟩ := rcD_three h3
      have hcA := cls_of (unhide CA rfl)
      have hcB := cls_of (unhide CB rfl)
      obtain ⟨C, hC⟩ : ∃ C, C = cmp A B := ⟨_, rfl⟩
      have HCC := hide hC
      obtain ⟨W, hW0⟩ : ∃ W, W = weL (atE (woL E nm n)) ⟨nm, (C.1, C.2.1, C.2.2)⟩ (woL E nm n).length := ⟨_, rfl⟩
      have HW := hide hW0
      have HWW : Hid (W = rnW E n ⟨3, nm, a, b, f0, f1, f2⟩) := hide (by rw [hW0]; unfold rnW rnF; rw [if_pos rfl, ← unhide HA, ← unhide HB, ← hC])
      clear hW0
      clear h3 hC ea eb
      go_wp2_with fail
      refine (compose_b A B C _ hcA hcB hdd.symm (unhide HCC)).mono ?_
      rintro e4 w4 ⟨rfl, hb4⟩
      have hcs9 := cells_calls hb4 [⟨w.heap.size, 0, none⟩, ⟨w.heap.size, 1, none⟩, ⟨w.heap.size, 2, none⟩, ⟨w.heap.size, 3, none⟩, ⟨w.heap.size, 4, none⟩, ⟨w.heap.size, 5, none⟩, ⟨w.heap.size, 6, none⟩, ⟨w1.heap.size, 0, none⟩, ⟨w1.heap.size, 1, none⟩, ⟨w1.heap.size, 2, none⟩, ⟨w2.heap.size, 0, none⟩, ⟨w2.heap.size, 1, none⟩, ⟨w2.heap.size, 2, none⟩, ⟨w3.heap.size, 0, none⟩, ⟨w3.heap.size, 1, none⟩, ⟨w3.heap.size, 2, none⟩] [.int .i64 3, .string nm, .string a, .string b, .int .i64 f0, .int .i64 f1, .int .i64 f2, .int .i64 f0, .int .i64 f1, .int .i64 f2, .int .i64 (A.1), .int .i64 (A.2.1), .int .i64 (A.2.2), .int .i64 (B.1), .int .i64 (B.2.1), .int .i64 (B.2.2)] (by refine ⟨?_, ?_, ?_, ?_, ?_, ?_, ?_, ?_, ?_, ?_, ?_, ?_, ?_, ?_, ?_, ?_, trivial⟩ <;> exact byCT)
      have hfs9 := frees_calls hb4 [⟨w1.heap.size, 0, none⟩, ⟨w1.heap.size, 1, none⟩, ⟨w1.heap.size, 2, none⟩] (by refine ⟨?_, ?_, ?_, trivial⟩ <;> first | with_reducible assumption | omega | (simp; omega) | (simp; done)) (by refine ⟨?_, ?_, ?_, trivial⟩ <;> exact byFT)
      have hzs9 := blocks_calls hb4 [w.heap.size, w1.heap.size, w2.heap.size, w3.heap.size] (by refine ⟨?_, ?_, ?_, ?_, trivial⟩ <;> first | with_reducible assumption | omega | (simp; omega) | (simp; done))
      try clear c00 c01 c02 c03 c04 c05 c06
      try clear c10 c11 c12 f10 f11 f12
      try clear c20 c21 c22
      try clear c30 c31 c32
      obtain ⟨c00, c01, c02, c03, c04, c05, c06, c10, c11, c12, c20, c21, c22, c30, c31, c32, -⟩ := hcs9
      obtain ⟨f10, f11, f12, -⟩ := hfs9
      obtain ⟨z0, z1, z2, z3, -⟩ := hzs9
      have hs4 := hb4.size
      have hB4 : Below w.heap.size w w4 := byGG
      clear hb4
      go_wp2_with fail
      refine (withEntry_b g n c' E nm C.1 C.2.1 C.2.2 W _ (fun i hi => (unhide HR i hi).below byGG) hn (unhide HW)).mono ?_
      rintro e8 w8 ⟨v8, rfl, hW, hb8⟩
      obtain ⟨a8, c8, rfl⟩ := hW.form
      have hB8 : Below w.heap.size w w8 := byGG
      have hW2 := hW.low (lo' := w.heap.size) byGE
      clear hb8
      by_cases hl : W.length ≤ 20
      · have HL : Hid (rnL E n ⟨3, nm, a, b, f0, f1, f2⟩ = W) := hide (by unfold rnL; rw [← unhide HCD, if_pos rfl, if_neg (by simp), ← unhide HWW, if_pos hl])
        have HC : Hid (rnC E n ⟨3, nm, a, b, f0, f1, f2⟩ = 0) := hide (by unfold rnC; rw [← unhide HCD, if_pos rfl, if_neg (by simp), ← unhide HWW, if_pos hl])
        have hl2 : ¬ (20 < (W.length : Int)) := by omega
        clear hl
        go_wp2
        refine bodyPost_ret (v := .tuple #[.slice a8 W.length c8, .int .i64 0]) (by simp [results, Try.results50, go_sem, *]) rfl ?_
        exact ⟨_, by rw [unhide HC], by rw [unhide HL]; exact hW2, byGG⟩
      · have HL : Hid (rnL E n ⟨3, nm, a, b, f0, f1, f2⟩ = []) := hide (by unfold rnL; rw [← unhide HCD, if_pos rfl, if_neg (by simp), ← unhide HWW, if_neg hl])
        have HC : Hid (rnC E n ⟨3, nm, a, b, f0, f1, f2⟩ = 5) := hide (by unfold rnC; rw [← unhide HCD, if_pos rfl, if_neg (by simp), ← unhide HWW, if_neg hl])
        have hl2 : (20 < (W.length : Int)) := by omega
        clear hl
        go_wp2
        refine bodyPost_ret (v := .tuple #[.slice (some ⟨w8.heap.size, 0, none⟩) 0 0, .int .i64 5]) (by simp [results, Try.results50, go_sem, *]) rfl ?_
        exact ⟨_, by rw [unhide HC], by rw [unhide HL]; exact EL.made _ _ hB8.size, byGG⟩
    · replace ea := nm_em ea
      have h3 := unhide HCD
      rw [unhide HRC, ea] at h3
      obtain rfl := rcD_four h3
      have hcA := unhide CA rfl
      have hfA := (form_true (class_form hcA)).2.1
      have hoA := okF_opp (okF_of hcA) hfA
      obtain ⟨C, hC⟩ : ∃ C, C = rfN (A.1, -A.2.1, A.2.2) := ⟨_, rfl⟩
      have HCC := hide hC
      obtain ⟨W, hW0⟩ : ∃ W, W = weL (atE (woL E nm n)) ⟨nm, (C.1, C.2.1, C.2.2)⟩ (woL E nm n).length := ⟨_, rfl⟩
      have HW := hide hW0
      have HWW : Hid (W = rnW E n ⟨4, nm, a, b, f0, f1, f2⟩) := hide (by rw [hW0]; unfold rnW rnF; rw [if_neg (by simp), if_pos rfl, ← unhide HA, hC]; rfl)
      clear hW0
      clear h3 hC ea
      go_wp2_with fail
      refine (opposite_i A.1 A.2.1 A.2.2 _ hfA).mono ?_
      rintro e4 w4 ⟨rfl, hb4⟩
      have hcs9 := cells_calls hb4 [⟨w.heap.size, 0, none⟩, ⟨w.heap.size, 1, none⟩, ⟨w.heap.size, 2, none⟩, ⟨w.heap.size, 3, none⟩, ⟨w.heap.size, 4, none⟩, ⟨w.heap.size, 5, none⟩, ⟨w.heap.size, 6, none⟩, ⟨w1.heap.size, 0, none⟩, ⟨w1.heap.size, 1, none⟩, ⟨w1.heap.size, 2, none⟩, ⟨w2.heap.size, 0, none⟩, ⟨w2.heap.size, 1, none⟩, ⟨w2.heap.size, 2, none⟩, ⟨w3.heap.size, 0, none⟩, ⟨w3.heap.size, 1, none⟩, ⟨w3.heap.size, 2, none⟩] [.int .i64 4, .string nm, .string a, .string b, .int .i64 f0, .int .i64 f1, .int .i64 f2, .int .i64 f0, .int .i64 f1, .int .i64 f2, .int .i64 (A.1), .int .i64 (A.2.1), .int .i64 (A.2.2), .int .i64 (B.1), .int .i64 (B.2.1), .int .i64 (B.2.2)] (by refine ⟨?_, ?_, ?_, ?_, ?_, ?_, ?_, ?_, ?_, ?_, ?_, ?_, ?_, ?_, ?_, ?_, trivial⟩ <;> exact byCT)
      have hfs9 := frees_calls hb4 [⟨w1.heap.size, 0, none⟩, ⟨w1.heap.size, 1, none⟩, ⟨w1.heap.size, 2, none⟩] (by refine ⟨?_, ?_, ?_, trivial⟩ <;> first | with_reducible assumption | omega | (simp; omega) | (simp; done)) (by refine ⟨?_, ?_, ?_, trivial⟩ <;> exact byFT)
      have hzs9 := blocks_calls hb4 [w.heap.size, w1.heap.size, w2.heap.size, w3.heap.size] (by refine ⟨?_, ?_, ?_, ?_, trivial⟩ <;> first | with_reducible assumption | omega | (simp; omega) | (simp; done))
      try clear c00 c01 c02 c03 c04 c05 c06
      try clear c10 c11 c12 f10 f11 f12
      try clear c20 c21 c22
      try clear c30 c31 c32
      obtain ⟨c00, c01, c02, c03, c04, c05, c06, c10, c11, c12, c20, c21, c22, c30, c31, c32, -⟩ := hcs9
      obtain ⟨f10, f11, f12, -⟩ := hfs9
      obtain ⟨z0, z1, z2, z3, -⟩ := hzs9
      have hs4 := hb4.size
      have hB4 : Below w.heap.size w w4 := byGG
      clear hb4
      go_wp2_with fail
      refine (rdN_i A.1 (-A.2.1) A.2.2 C _ hoA (unhide HCC)).mono ?_
      rintro e5 w5 ⟨rfl, hb5⟩
      have hcs9 := cells_calls hb5 [⟨w.heap.size, 0, none⟩, ⟨w.heap.size, 1, none⟩, ⟨w.heap.size, 2, none⟩, ⟨w.heap.size, 3, none⟩, ⟨w.heap.size, 4, none⟩, ⟨w.heap.size, 5, none⟩, ⟨w.heap.size, 6, none⟩, ⟨w1.heap.size, 0, none⟩, ⟨w1.heap.size, 1, none⟩, ⟨w1.heap.size, 2, none⟩, ⟨w2.heap.size, 0, none⟩, ⟨w2.heap.size, 1, none⟩, ⟨w2.heap.size, 2, none⟩, ⟨w3.heap.size, 0, none⟩, ⟨w3.heap.size, 1, none⟩, ⟨w3.heap.size, 2, none⟩] [.int .i64 4, .string nm, .string a, .string b, .int .i64 f0, .int .i64 f1, .int .i64 f2, .int .i64 f0, .int .i64 f1, .int .i64 f2, .int .i64 (A.1), .int .i64 (A.2.1), .int .i64 (A.2.2), .int .i64 (B.1), .int .i64 (B.2.1), .int .i64 (B.2.2)] (by refine ⟨?_, ?_, ?_, ?_, ?_, ?_, ?_, ?_, ?_, ?_, ?_, ?_, ?_, ?_, ?_, ?_, trivial⟩ <;> exact byCT)
      have hfs9 := frees_calls hb5 [⟨w1.heap.size, 0, none⟩, ⟨w1.heap.size, 1, none⟩, ⟨w1.heap.size, 2, none⟩] (by refine ⟨?_, ?_, ?_, trivial⟩ <;> first | with_reducible assumption | omega | (simp; omega) | (simp; done)) (by refine ⟨?_, ?_, ?_, trivial⟩ <;> exact byFT)
      have hzs9 := blocks_calls hb5 [w.heap.size, w1.heap.size, w2.heap.size, w3.heap.size] (by refine ⟨?_, ?_, ?_, ?_, trivial⟩ <;> first | with_reducible assumption | omega | (simp; omega) | (simp; done))
      try clear c00 c01 c02 c03 c04 c05 c06
      try clear c10 c11 c12 f10 f11 f12
      try clear c20 c21 c22
      try clear c30 c31 c32
      obtain ⟨c00, c01, c02, c03, c04, c05, c06, c10, c11, c12, c20, c21, c22, c30, c31, c32, -⟩ := hcs9
      obtain ⟨f10, f11, f12, -⟩ := hfs9
      obtain ⟨z0, z1, z2, z3, -⟩ := hzs9
      have hs5 := hb5.size
      have hB5 : Below w.heap.size w w5 := byGG
      clear hb5
      go_wp2_with fail
      refine (withEntry_b g n c' E nm C.1 C.2.1 C.2.2 W _ (fun i hi => (unhide HR i hi).below byGG) hn (unhide HW)).mono ?_
      rintro e8 w8 ⟨v8, rfl, hW, hb8⟩
      obtain ⟨a8, c8, rfl⟩ := hW.form
      have hB8 : Below w.heap.size w w8 := byGG
      have hW2 := hW.low (lo' := w.heap.size) byGE
      clear hb8
      by_cases hl : W.length ≤ 20
      · have HL : Hid (rnL E n ⟨4, nm, a, b, f0, f1, f2⟩ = W) := hide (by unfold rnL; rw [← unhide HCD, if_pos rfl, if_neg (by simp), ← unhide HWW, if_pos hl])
        have HC : Hid (rnC E n ⟨4, nm, a, b, f0, f1, f2⟩ = 0) := hide (by unfold rnC; rw [← unhide HCD, if_pos rfl, if_neg (by simp), ← unhide HWW, if_pos hl])
        have hl2 : ¬ (20 < (W.length : Int)) := by omega
        clear hl
        go_wp2
        refine bodyPost_ret (v := .tuple #[.slice a8 W.length c8, .int .i64 0]) (by simp [results, Try.results50, go_sem, *]) rfl ?_
        exact ⟨_, by rw [unhide HC], by rw [unhide HL]; exact hW2, byGG⟩
      · have HL : Hid (rnL E n ⟨4, nm, a, b, f0, f1, f2⟩ = []) := hide (by unfold rnL; rw [← unhide HCD, if_pos rfl, if_neg (by simp), ← unhide HWW, if_neg hl])
        have HC : Hid (rnC E n ⟨4, nm, a, b, f0, f1, f2⟩ = 5) := hide (by unfold rnC; rw [← unhide HCD, if_pos rfl, if_neg (by simp), ← unhide HWW, if_neg hl])
        have hl2 : (20 < (W.length : Int)) := by omega
        clear hl
        go_wp2
        refine bodyPost_ret (v := .tuple #[.slice (some ⟨w8.heap.size, 0, none⟩) 0 0, .int .i64 5]) (by simp [results, Try.results50, go_sem, *]) rfl ?_
        exact ⟨_, by rw [unhide HC], by rw [unhide HL]; exact EL.made _ _ hB8.size, byGG⟩
    · obtain ⟨W, hW0⟩ : ∃ W, W = weL (atE (woL E nm n)) ⟨nm, (f0, f1, f2)⟩ (woL E nm n).length := ⟨_, rfl⟩
      have HW := hide hW0
      have HWW : Hid (W = rnW E n ⟨5, nm, a, b, f0, f1, f2⟩) := hide (by rw [hW0]; unfold rnW rnF; rfl)
      clear hW0
      go_wp2_with fail
      refine (withEntry_b g n c' E nm f0 f1 f2 W _ (fun i hi => (unhide HR i hi).below byGG) hn (unhide HW)).mono ?_
      rintro e8 w8 ⟨v8, rfl, hW, hb8⟩
      obtain ⟨a8, c8, rfl⟩ := hW.form
      have hB8 : Below w.heap.size w w8 := byGG
      have hW2 := hW.low (lo' := w.heap.size) byGE
      clear hb8
      by_cases hl : W.length ≤ 20
      · have HL : Hid (rnL E n ⟨5, nm, a, b, f0, f1, f2⟩ = W) := hide (by unfold rnL; rw [← unhide HCD, if_pos rfl, if_neg (by simp), ← unhide HWW, if_pos hl])
        have HC : Hid (rnC E n ⟨5, nm, a, b, f0, f1, f2⟩ = 0) := hide (by unfold rnC; rw [← unhide HCD, if_pos rfl, if_neg (by simp), ← unhide HWW, if_pos hl])
        have hl2 : ¬ (20 < (W.length : Int)) := by omega
        clear hl
        go_wp2
        refine bodyPost_ret (v := .tuple #[.slice a8 W.length c8, .int .i64 0]) (by simp [results, Try.results50, go_sem, *]) rfl ?_
        exact ⟨_, by rw [unhide HC], by rw [unhide HL]; exact hW2, byGG⟩
      · have HL : Hid (rnL E n ⟨5, nm, a, b, f0, f1, f2⟩ = []) := hide (by unfold rnL; rw [← unhide HCD, if_pos rfl, if_neg (by simp), ← unhide HWW, if_neg hl])
        have HC : Hid (rnC E n ⟨5, nm, a, b, f0, f1, f2⟩ = 5) := hide (by unfold rnC; rw [← unhide HCD, if_pos rfl, if_neg (by simp), ← unhide HWW, if_neg hl])
        have hl2 : (20 < (W.length : Int)) := by omega
        clear hl
        go_wp2
        refine bodyPost_ret (v := .tuple #[.slice (some ⟨w8.heap.size, 0, none⟩) 0 0, .int .i64 5]) (by simp [results, Try.results50, go_sem, *]) rfl ?_
        exact ⟨_, by rw [unhide HC], by rw [unhide HL]; exact EL.made _ _ hB8.size, byGG⟩
  · have HL : Hid (rnL E n ⟨k, nm, a, b, f0, f1, f2⟩ = []) := hide (by unfold rnL; rw [← hcd, if_neg h0])
    have HC : Hid (rnC E n ⟨k, nm, a, b, f0, f1, f2⟩ = cd) := hide (by unfold rnC; rw [← hcd, if_neg h0])
    clear hcd hr
    go_enter Try.func50, Try.ntmps50
    go_wp2_with fail
    refine (refusal_b cd g n c' E ⟨k, nm, a, b, f0, f1, f2⟩ _ (fun i hi => (unhide HR i hi).below byGG) hn (unhide HCM) hct (unhide HCD)).mono ?_
    rintro e1 w1 ⟨rfl, hb1⟩
    have hB1 : Below w.heap.size w w1 := byGG
    go_wp2
    refine bodyPost_ret (v := .tuple #[.slice (some ⟨w1.heap.size, 0, none⟩) 0 0, .int .i64 cd]) (by simp [results, Try.results50, go_sem, *]) rfl ?_
    exact ⟨_, by rw [unhide HC], by rw [unhide HL]; exact EL.made _ _ hB1.size, byGG⟩
end Go.Proofs.Ytligbfegafkpjaa
