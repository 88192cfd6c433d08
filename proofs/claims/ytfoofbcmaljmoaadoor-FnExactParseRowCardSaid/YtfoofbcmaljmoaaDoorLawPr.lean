/-
  The law FnExactParseRow.
-/
import Derived.Test.YtfoofbcmaljmoaaDoorPrz
namespace Go.Proofs.YtfoofbcmaljmoaaDoor
open Go.RowKit
set_option linter.unusedVariables false
set_option linter.unusedSimpArgs false
attribute [local go_sem] q2 q3 q4 q5 q6 q7 q8 q9 q10 q11 q12
/-- The five cells of a boxed row. -/
structure RowBx (W : World) (b : Nat) (r : RowV) (v : Value) : Prop where
  q0 : W.cell? ⟨b, 0, none⟩ = some (.int .i64 r.d)
  q1 : W.cell? ⟨b, 1, none⟩ = some (.int .i64 r.num)
  q2 : W.cell? ⟨b, 2, none⟩ = some v
  q3 : W.cell? ⟨b, 3, none⟩ = some (.int .i64 r.ge)
  q4 : W.cell? ⟨b, 4, none⟩ = some (.int .i64 r.ex)
theorem RowBx.blk {w w' : World} {b : Nat} {r : RowV} {v : Value} (h : RowBx w b r v) (e : w'.heap[b]? = w.heap[b]?) : RowBx w' b r v := by
  have k : ∀ o, w'.cell? ⟨b, o, none⟩ = w.cell? ⟨b, o, none⟩ := fun o => by simp [World.cell?, e]
  exact ⟨(k 0).trans h.q0, (k 1).trans h.q1, (k 2).trans h.q2, (k 3).trans h.q3, (k 4).trans h.q4⟩
theorem RowBx.below {w w' : World} {b : Nat} {r : RowV} {v : Value} (h : RowBx w b r v) (hb : Below w.heap.size w w') : RowBx w' b r v :=
  ⟨cell_call hb h.q0, cell_call hb h.q1, cell_call hb h.q2, cell_call hb h.q3, cell_call hb h.q4⟩
theorem RowBx.new (w : World) (r : RowV) (v : Value) : RowBx (w.alloc (.cells #[.int .i64 r.d, .int .i64 r.num, v, .int .i64 r.ge, .int .i64 r.ex] 24)) w.heap.size r v := by
  constructor <;> go_simp
theorem al_trans {w w1 w2 : World} {o : Obj} {B : Nat} (h1 : Below B w w1) (s : B ≤ w1.heap.size) (h2 : Below (w1.alloc o).heap.size (w1.alloc o) w2) : Below B w w2 :=
  h1.trans (((below_alloc_self w1 o).trans (h2.mono (by simp))).mono s)
set_option maxHeartbeats 2000000 in
theorem lawRow_y (s : ByteArray) (w : World) (r : RowV) (n : Nat) (f : Nat → Int) (ok : Bool) (hn : n ≤ 700) (hq : ¬ (1048576 : Int) < (s.size : Int))
    (HA : Hid (∀ W, Calls Tryd.prog 4 #[.string s] W (RetRowB W r n f ok))) (HB : Hid (∀ W, Below w.heap.size w W → Calls Tryd.prog 5 #[.string s] W (RetRowB W r n f ok))) :
    Calls Tryd.prog 3 #[.string s] w fun e w' => e = .returned (.bool true) ∧ Below w.heap.size w w' := by
  go_enter Tryd.func3, Tryd.ntmps3
  go_wp2_with fail
  refine ((unhide HA) _).mono ?_
  rintro e w1 ⟨a1, d1, rfl, i1, b1⟩
  have s1 := b1.size
  go_wp2_with fail
  refine ((unhide HB) _ (b1.trans ((below_alloc_self _ _).mono s1))).mono ?_
  rintro e w2 ⟨a2, d2, rfl, i2, b2⟩
  have s2 := b2.size
  simp only [World.size_alloc] at s2 i2
  have B3 := (RowBx.new w1 r (.slice a1 n d1)).below b2
  have J1 := hide ((i1.below (below_alloc_self _ _) (Nat.le_refl _)).below b2 (by simp))
  have J2 := hide i2
  clear i1 i2
  have B3' := hide B3
  have z1 : w1.heap.size < w2.heap.size := by omega
  have n1 : w2.heap.size ≠ w1.heap.size := by omega
  obtain ⟨y0, y1, y2, y3, y4⟩ := B3
  go_wp2_with fail
  refine (eqRow_b r a2 a1 _ _ _ _ n d2 d1 f _ (by omega) ((unhide J2).below (below_alloc_self _ _) (Nat.le_refl _)) ((unhide J1).below (below_alloc_self _ _) (by omega)) (by simp) (by simp; omega)).mono ?_
  rintro e w3 ⟨rfl, b3⟩
  have s3 := b3.size
  simp only [World.size_alloc] at s3
  have B5 := (RowBx.new w2 r (.slice a2 n d2)).below b3
  have B3b := hide (((unhide B3').below (below_alloc_self _ _)).below b3)
  have I1 := hide (((unhide J1).below (below_alloc_self _ _) (by omega)).below b3 (by simp; omega))
  have I2 := (((unhide J2).below (below_alloc_self _ _) (Nat.le_refl _)).below b3 (by simp))
  clear J1 J2 B3' y0 y1 y2 y3 y4
  have B5' := hide B5
  obtain ⟨y0, y1, y2, y3, y4⟩ := B5
  have I2' := hide I2
  clear I2
  go_wp2_with fail
  refine (markRow_b r a2 (w1.heap.size + 1) w2.heap.size n d2 1 f _ hn (by omega) (by omega) (by omega) (unhide I2')).mono ?_
  rintro e w4 ⟨rfl, i4, h4, s4, b4⟩
  have B5b := (unhide B5').blk (h4 _ (.inr (Nat.le_refl _)) (by omega))
  have B3c := (unhide B3b).blk (h4 _ (.inl (by omega)) (by omega))
  have I1b := hide ((unhide I1).keep (w' := w4) (fun k _ h2 => h4 k (.inl (by omega)) (by omega)))
  have I4 := hide i4
  clear i4 I1 B5' B3b I2' y0 y1 y2 y3 y4 h4
  have B3d := hide B3c
  have B5c := hide B5b
  obtain ⟨y0, y1, y2, y3, y4⟩ := B5b
  clear B3c
  go_wp2_with fail
  refine (heldRow_b r a2 (w1.heap.size + 1) w2.heap.size n d2 1 _ hn (by omega) (by omega) (unhide I4)).mono ?_
  rintro e w5 ⟨rfl, b5⟩
  have s5 := b5.size
  clear y0 y1 y2 y3 y4
  have B3e := hide ((unhide B3d).below b5)
  have B5e := hide ((unhide B5c).below b5)
  have I1c := hide ((unhide I1b).below b5 (by omega))
  have I4b := hide ((unhide I4).below b5 (by omega))
  clear B3d B5c I1b I4
  go_wp2_with fail
  have c2 := al_trans b1 s1 b2
  have c3 := al_trans c2 (by omega) b3
  have c5 := c3.trans (b4.mono (by omega))
  have c6 := c5.trans (b5.mono (by omega))
  refine ((unhide HB) _ c6).mono ?_
  rintro e w6 ⟨a6, d6, rfl, i6, b6⟩
  have s6 := b6.size
  have B3f := ((unhide B3e).below b6)
  have B5f := hide ((unhide B5e).below b6)
  have I1d := hide ((unhide I1c).below b6 (by omega))
  have I4c := hide ((unhide I4b).below b6 (by omega))
  have I6 := hide i6
  clear i6 B3e B5e I1c I4b
  have n2 : w6.heap.size ≠ w1.heap.size := by omega
  have z6 : w1.heap.size < w6.heap.size := by omega
  obtain ⟨y0, y1, y2, y3, y4⟩ := B3f
  go_wp2_with fail
  refine (eqRow_b r a6 a1 _ _ _ _ n d6 d1 f _ (by omega) ((unhide I6).below (below_alloc_self _ _) (Nat.le_refl _)) ((unhide I1d).below (below_alloc_self _ _) (by omega)) (by simp) (by simp; omega)).mono ?_
  rintro e w7 ⟨rfl, b7⟩
  have s7 := b7.size
  simp only [World.size_alloc] at s7
  clear y0 y1 y2 y3 y4
  have B5g := ((unhide B5f).below (below_alloc_self _ _)).below b7
  have I4d := hide (((unhide I4c).below (below_alloc_self _ _) (by omega)).below b7 (by simp; omega))
  clear B5f I4c n2 z6
  obtain ⟨y0, y1, y2, y3, y4⟩ := B5g
  go_wp2_with fail
  refine (heldRow_b r a2 (w1.heap.size + 1) w2.heap.size n d2 1 _ hn (by omega) (by omega) (unhide I4d)).mono ?_
  rintro e w8 ⟨rfl, b8⟩
  go_wp2
  go_ret
  refine ⟨rfl, ?_⟩
  have c7 := c6.trans (b6.mono (by omega))
  have c8 := al_trans c7 (by omega) b7
  exact c8.trans (b8.mono (by omega))
theorem lawParseRow (s : ByteArray) (w : World) (hE : Env w) :
    Calls Tryd.prog 3 #[.string s] w fun e w' => e = .returned (.bool true) ∧ Below w.heap.size w w' := by
  by_cases q : s.size ≤ 1048576
  · obtain ⟨r, n, z, ok, hP, hn⟩ := pr_ex s
    exact lawRow_y s w r n z ok hn (by omega) (hide fun W => specPr_a s (by omega) hP W) (hide fun W hb => implPr_a s (by omega) hP W (hE.below hb))
  · have hq : (1048576 : Int) < (s.size : Int) := by omega
    clear hE
    go_enter Tryd.func3, Tryd.ntmps3
    go_wp2
    go_ret
    exact ⟨rfl, byGG⟩
end Go.Proofs.YtfoofbcmaljmoaaDoor
