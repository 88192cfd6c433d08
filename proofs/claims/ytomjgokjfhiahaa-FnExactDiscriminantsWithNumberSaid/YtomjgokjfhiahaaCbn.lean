/-
  CountByNumber on both sides, and the law's walk.
-/
import Derived.Test.YtomjgokjfhiahaaGreat
namespace Go.Proofs.Ytomjgokjfhiahaa
open Go.RowKit
set_option linter.unusedVariables false
set_option linter.unusedSimpArgs false
attribute [local go_sem] q2 q3 q4 q5 q6 q7 q8 q9 q10 q11 q12

/-- A call that returns a slice of n elements of its own. -/
def RetLen (w : World) (n : Nat) (e : Ending) (w' : World) : Prop := ∃ a c, e = .returned (.slice a n c) ∧ Below w.heap.size w w'
theorem reducedForms_len (d : Int) (w : World) (h0 : -2000 ≤ d) (h1 : d ≤ -3) {h : Nat} (hh : h = (rfL d).length) :
    Calls Try.prog 94 #[.int .i64 d] w (RetLen w h) :=
  (reducedForms_a d w h0 h1).mono fun e w' ⟨a, c, he, _, hb⟩ => ⟨a, c, by rw [hh]; exact he, hb⟩
theorem reList_len (d : Int) (w : World) (h0 : -2000 ≤ d) (h1 : d ≤ -3) {h : Nat} (hh : h = (rfL d).length) :
    Calls Try.prog 91 #[.int .i64 d] w (RetLen w h) :=
  (reList_a d w h0 h1).mono fun e w' ⟨a, c, he, _, hb⟩ => ⟨a, c, by rw [hh]; exact he, hb⟩
def padL (cs : List Int) (j : Nat) : List Int := cs ++ List.replicate j 0
def bumpL (cs : List Int) (h : Nat) : List Int := (padL cs (h + 1 - cs.length)).set h ((padL cs (h + 1 - cs.length)).getD h 0 + 1)
def cbK (ds : List Int) : Nat → List Int
  | 0 => []
  | k + 1 => bumpL (cbK ds k) (rfL (ds.getD k 0)).length
theorem padL_len (cs : List Int) (j : Nat) : (padL cs j).length = cs.length + j := by simp [padL]
theorem padL_succ (cs : List Int) (j : Nat) : padL cs (j + 1) = padL cs j ++ [0] := by
  unfold padL; rw [List.replicate_succ', List.append_assoc]
theorem bumpL_len (cs : List Int) (h : Nat) : (bumpL cs h).length ≤ cs.length + (h + 1 - cs.length) := by
  unfold bumpL; rw [List.length_set, padL_len]; exact Nat.le_refl _
theorem cbK_ok (ds : List Int) (hd : ∀ x ∈ ds, (rfL x).length ≤ 676) : ∀ k, k ≤ ds.length → (cbK ds k).length ≤ 677 ∧ ∀ z ∈ cbK ds k, 0 ≤ z ∧ z ≤ k := by
  intro k
  induction k with
  | zero => intro _; exact ⟨by simp [cbK], fun z hz => by cases hz⟩
  | succ k ih =>
    intro hk
    obtain ⟨h1, h2⟩ := ih (by omega)
    have h3 := hd _ (getD_mem (show k < ds.length by omega))
    have hp : ∀ j z, z ∈ padL (cbK ds k) j → 0 ≤ z ∧ z ≤ k := fun j z hz => by
      unfold padL at hz
      rw [List.mem_append] at hz
      rcases hz with hz | hz
      · exact h2 z hz
      · have := List.eq_of_mem_replicate hz; omega
    refine ⟨?_, fun z hz => ?_⟩
    · rw [cbK]
      have := bumpL_len (cbK ds k) (rfL (ds.getD k 0)).length
      omega
    · rw [cbK] at hz
      unfold bumpL at hz
      rcases List.mem_or_eq_of_mem_set hz with hz | hz
      · have := hp _ z hz; omega
      · generalize hy : (padL (cbK ds k) ((rfL (ds.getD k 0)).length + 1 - (cbK ds k).length)).getD (rfL (ds.getD k 0)).length 0 = y at hz
        have hyb : 0 ≤ y ∧ y ≤ k := by
          by_cases q : (rfL (ds.getD k 0)).length < (padL (cbK ds k) ((rfL (ds.getD k 0)).length + 1 - (cbK ds k).length)).length
          · have := hp _ _ (getD_mem q); rw [hy] at this; exact this
          · rw [List.getD_eq_getElem?_getD, List.getElem?_eq_none (by omega)] at hy
            simp at hy; omega
        omega
def lenOf (v : Value) : Nat := match v with | .slice _ n _ => n | _ => 0
theorem IL.cellAt {w : World} {lo g n c : Nat} {zs : List Int} (h : IL w lo (.slice (some ⟨g, 0, none⟩) n c) zs) {j : Nat} (hj : j < zs.length) : w.cell? ⟨g, j, none⟩ = some (.int .i64 (zs.getD j 0)) := by
  have hn : n = zs.length := h.ints.1
  subst hn
  rw [World.ownsRow.cellAt h j (by omega), List.getElem?_map, List.getElem?_eq_getElem hj, List.getD_eq_getElem?_getD, List.getElem?_eq_getElem hj]
  rfl
theorem IL.frozenAt {w : World} {lo g n c : Nat} {zs : List Int} (h : IL w lo (.slice (some ⟨g, 0, none⟩) n c) zs) (j : Nat) : w.frozen? ⟨g, j, none⟩ = false := by
  have hn : n = zs.length := h.ints.1
  subst hn
  exact World.ownsRow.frozenAt h j
theorem IL.stored {w : World} {lo g n c : Nat} {zs : List Int} (h : IL w lo (.slice (some ⟨g, 0, none⟩) n c) zs) (j : Nat) (z : Int) :
    IL (w.setCell ⟨g, j, none⟩ (.int .i64 z)) lo (.slice (some ⟨g, 0, none⟩) n c) (zs.set j z) ∧ w.grownBy (w.setCell ⟨g, j, none⟩ (.int .i64 z)) (some g) := by
  have hn : n = zs.length := h.ints.1
  subst hn
  have := World.ownsRow.stored h j (.int .i64 z)
  rw [← List.map_set] at this
  unfold IL
  rw [List.length_set]
  exact this
theorem IL.some_of {w : World} {lo n c : Nat} {a : Option Addr} {zs : List Int} (h : IL w lo (.slice a n c) zs) (hz : 0 < zs.length) : ∃ g, a = some ⟨g, 0, none⟩ ∧ lo ≤ g := by
  rcases h.2 with ⟨h1, h2⟩ | ⟨g, cap, cur, h1, h2, _⟩
  · omega
  · simp only [Value.slice.injEq] at h1
    exact ⟨g, h1.1, h2⟩
theorem IntsAt.grown {w w' : World} {lo hi n : Nat} {a : Option Addr} {f : Nat → Int} {row : Option Nat} (h : IntsAt w lo hi a n f) (hg : w.grownBy w' row) (hr : ∀ k, row = some k → k < lo ∨ hi ≤ k) (hB : hi ≤ w.heap.size) : IntsAt w' lo hi a n f :=
  h.keep fun k h1 h2 => hg.block k (by omega) (fun e => by have := hr k e.symm; omega)
def cbL (lo hi : Int) : List Int := if rgB lo hi then cbK (dcL lo hi) (dcL lo hi).length else []
theorem cbL_len (lo hi : Int) : (cbL lo hi).length ≤ 1000000000 := by
  unfold cbL
  split
  · rename_i h
    obtain ⟨r0, r1, r2⟩ := rg_true h
    have := (cbK_ok (dcL lo hi) (fun x hx => by obtain ⟨q0, q1⟩ := neg_true (dcL_mem hx); exact rfL_len q0 q1) _ (Nat.le_refl _)).1
    omega
  · simp

set_option maxRecDepth 100000 in
set_option maxHeartbeats 4000000 in
theorem implCountByNumber_a (lo hi : Int) (w : World) :
    Calls Try.prog 44 #[.int .i64 lo, .int .i64 hi] w (RetInts w (cbL lo hi).length (fun i => (cbL lo hi).getD i 0) (rgB lo hi)) := by
  cases h : rgB lo hi
  · have hL : cbL lo hi = [] := by simp [cbL, h]
    have HL := hide hL
    have HK := hide h
    clear hL
    go_enter Try.func44, Try.ntmps44
    go_wp2_with (go_at_call 92; refine (isRange_a _ _ _).mono ?_; rintro e w' ⟨rfl, rfl⟩)
    go_ret2
    exact ⟨_, _, by rw [unhide HL]; rfl, .inl (by rw [unhide HL]; rfl), by (repeat' (first | (with_reducible exact Below.refl _ _) | (with_reducible assumption) | (with_reducible refine gr_alloc ?_ _) | (with_reducible refine below_drewN ?_ _) | (with_reducible refine below_drew ?_) | (with_reducible refine gr_call ?_ (by assumption)) | (with_reducible refine Below.setCell ?_ ?_ _) | go_size | omega | (simp; omega)))⟩
  · obtain ⟨r0, r1, r2⟩ := rg_true h
    have HC : Calls Try.prog 93 #[.int .i64 lo, .int .i64 hi] (w.alloc (.cells #[] 3)) (RetIL (w.alloc (.cells #[] 3)) (dcL lo hi)) := discsIn_a lo hi (w.alloc (.cells #[] 3)) r0 r2
    have hlen := dcL_len (lo := lo) (hi := hi) r0 r2
    have HM := fun x hx => dcL_mem (lo := lo) (hi := hi) (x := x) hx
    have hL : cbL lo hi = cbK (dcL lo hi) (dcL lo hi).length := by simp [cbL, h]
    have HL := hide hL
    clear hL
    generalize dcL lo hi = ds at *
    have HR : ∀ x ∈ ds, (rfL x).length ≤ 676 := fun x hx => by obtain ⟨q0, q1⟩ := neg_true (HM x hx); exact rfL_len q0 q1
    have HB := hide (cbK_ok ds HR)
    go_enter Try.func44, Try.ntmps44
    go_wp2_with (first | (go_at_call 92; refine (isRange_a _ _ _).mono ?_; rintro e w' ⟨rfl, rfl⟩) | (go_at_call 93; refine HC.mono ?_; rintro e wA ⟨a0, c0, rfl, hlA, hbA⟩))
    have hzw := hbA.size
    have hbw : Below w.heap.size w wA := ((Below.refl w.heap.size w).alloc (Nat.le_refl _) (.cells #[] 3)).trans (hbA.mono (by simp))
    have hl0 : IL wA w.heap.size (.slice (some ⟨w.heap.size, 0, none⟩) 0 0) [] := (IL.made w w.heap.size (Nat.le_refl _)).below hbA
    have hF0 : IntsAt wA (w.heap.size + 1) wA.heap.size a0 ds.length (fun i => ds.getD i 0) := hlA.ints.2.weak (by simp) (Nat.le_refl _)
    clear HC
    go_loopw [6, 20] (fun ls is wr => ∃ (k : Nat) (a : Option Addr) (c : Nat), k ≤ ds.length ∧ is = .int .i64 (k : Int) ∧ ls = .slice a (cbK ds k).length c ∧ IL wr w.heap.size (.slice a (cbK ds k).length c) (cbK ds k) ∧ (∀ b, (Value.slice a (cbK ds k).length c).ownBlock = some b → b < w.heap.size + 1 ∨ wA.heap.size ≤ b) ∧ Below w.heap.size w wr ∧ IntsAt wr (w.heap.size + 1) wA.heap.size a0 ds.length (fun i => ds.getD i 0) ∧ wA.heap.size ≤ wr.heap.size) (fun _ is _ => ds.length - (intOf is).toNat)
    case atStart => exact ⟨0, some ⟨w.heap.size, 0, none⟩, 0, by omega, rfl, rfl, hl0, fun b hb => .inl (by simp [Value.ownBlock] at hb; omega), hbw, hF0, Nat.le_refl _⟩
    case round =>
      obtain ⟨k, a, c, hk, rfl, rfl, hl, hbl, hb, hI, hzA⟩ := hrel
      obtain ⟨w1, rfl⟩ : ∃ w1 : World, w1 = wr := ⟨_, rfl⟩
      have hz := hb.size
      obtain ⟨hcl, hcz⟩ := unhide HB k hk
      by_cases c9 : k < ds.length
      · have hci : (k : Int) < (ds.length : Int) := by omega
        obtain ⟨g0, hga, hg2, c0⟩ := hI.cell c9
        have hx := HM _ (getD_mem c9)
        have hxr := HR _ (getD_mem c9)
        obtain ⟨hx0, hx1⟩ := neg_true hx
        have hbk : cbK ds (k + 1) = bumpL (cbK ds k) (rfL (ds.getD k 0)).length := rfl
        have HBK := hide hbk
        clear hbk hx
        subst hga
        generalize hxx : ds.getD k 0 = x at *
        have XX := hide hxx
        clear hxx
        obtain ⟨h9, hh⟩ : ∃ h9, h9 = (rfL x).length := ⟨_, rfl⟩
        have HH := hide hh
        have h9b : h9 ≤ 676 := by rw [hh]; exact hxr
        clear hh hxr
        have hck : cbK ds k = cbK ds k := rfl
        generalize hcs : cbK ds k = cs at *
        have HCS := hide hcs
        clear hcs hck
        go_wp2_with (go_at_call 94; refine (reducedForms_len _ _ hx0 hx1 (unhide HH)).mono ?_; rintro e w2 ⟨a2, c2, rfl, hb2⟩)
        have hz2 := hb2.size
        have hl2 := hl.below hb2
        have hb3 := hb.trans (hb2.mono hz)
        have hI2 := hI.below hb2 hzA
        have hzA2 : wA.heap.size ≤ w2.heap.size := by omega
        clear hl hb hI c0
        go_loopw [6] (fun ls wr => ∃ (j : Nat) (a : Option Addr) (c : Nat), j ≤ h9 + 1 - cs.length ∧ ls = .slice a (padL cs j).length c ∧ IL wr w.heap.size (.slice a (padL cs j).length c) (padL cs j) ∧ (∀ b, (Value.slice a (padL cs j).length c).ownBlock = some b → b < w.heap.size + 1 ∨ wA.heap.size ≤ b) ∧ Below w.heap.size w wr ∧ IntsAt wr (w.heap.size + 1) wA.heap.size (some ⟨g0, 0, none⟩) ds.length (fun i => ds.getD i 0) ∧ wA.heap.size ≤ wr.heap.size) (fun ls _ => h9 + 1 - lenOf ls)
        case atStart => exact ⟨0, a, c, by omega, by simp [padL], by simpa [padL] using hl2, by simpa [padL] using hbl, hb3, hI2, hzA2⟩
        case round =>
          clear hl2 hb3 hI2 hbl
          obtain ⟨j, a, c, hj, rfl, hl, hbl, hb, hI, hzA⟩ := hrel
          obtain ⟨w3, rfl⟩ : ∃ w3 : World, w3 = wr := ⟨_, rfl⟩
          have hz3 := hb.size
          have hpl := padL_len cs j
          by_cases c8 : (padL cs j).length ≤ h9
          · have hci8 : ((padL cs j).length : Int) ≤ (h9 : Int) := by omega
            have el := padL_succ cs j
            have EL := hide el
            have HPL := hide hpl
            clear el hpl
            go_wp2_with (at_builtin; refine app_int _ rfl (.tmp 31) (.tmp 32) rfl w.heap.size (.slice a (padL cs j).length c) (padL cs j) 0 w3.heap.size rfl rfl (hl.alloc _) (by go_simp) (by omega) (by first | omega | (simp; omega)) ?_; intro g cap w4 hown hgrow hat hlt)
            go_roundw
            case rel =>
              refine ⟨j + 1, some ⟨g, 0, none⟩, cap, by have := unhide HPL; omega, ?_, ?_, ?_, (hb.alloc hz3 _).grown hgrow (by simp; omega) (fun k hk => (hl.lt k hk).1), ?_, ?_⟩
              · rw [unhide EL, List.length_append]; rfl
              · rw [unhide EL, List.length_append]; exact hown
              · intro b hb9
                have e9 : b = g := by simp [Value.ownBlock] at hb9; omega
                subst e9
                rcases hat with q | q
                · exact hbl b q
                · right; rw [q]; simp; omega
              · exact (hI.below (below_alloc_self w3 _) hzA).grown hgrow hbl (by simp; omega)
              · have := hgrow.size; simp at this; omega
            case measure => simp [lenOf]; omega
          · have hci8 : (h9 : Int) < ((padL cs j).length : Int) := by omega
            have hjj : j = h9 + 1 - cs.length := by omega
            obtain ⟨g, hga, hgl⟩ := hl.some_of (show 0 < (padL cs j).length by omega)
            subst hga
            have d0 := hl.cellAt (show h9 < (padL cs j).length by omega)
            have d1 := hl.frozenAt h9
            have hzb : 0 ≤ (padL cs j).getD h9 0 ∧ (padL cs j).getD h9 0 ≤ 2000 := by
              have hm := getD_mem (show h9 < (padL cs j).length by omega)
              unfold padL at hm ⊢
              rw [List.mem_append] at hm
              rcases hm with hm | hm
              · have := hcz _ hm; omega
              · have := List.eq_of_mem_replicate hm; omega
            generalize hy : (padL cs j).getD h9 0 = y at *
            obtain ⟨st1, st2⟩ := hl.stored h9 (y + 1)
            have he : cbK ds (k + 1) = (padL cs j).set h9 (y + 1) := by
              rw [unhide HBK, ← unhide HH]; unfold bumpL; rw [← hjj, hy]
            have hle : ((padL cs j).set h9 (y + 1)).length = (padL cs j).length := List.length_set
            have HE := hide he
            have HLE := hide hle
            have HPL := hide hpl
            have HJ := hide hjj
            have HY := hide hy
            clear he hle hpl hjj hy
            go_wp2
            go_roundw
            case rel =>
              refine ⟨k + 1, some ⟨g, 0, none⟩, c, by omega, by go_num, ?_, ?_, ?_, hb.setCell hgl _, ?_, ?_⟩
              · rw [unhide HE, unhide HLE]
              · rw [unhide HE, unhide HLE]; exact st1
              · intro b hb9
                exact hbl b hb9
              · exact hI.grown st2 (fun b hb9 => hbl b hb9) hzA
              · simpa [World.setCell] using hzA
            case measure => simp [intOf]; omega
      · obtain rfl : k = ds.length := by omega
        go_wp2
        go_ret2
        refine ⟨a, c, ?_, ?_, hb⟩
        · rw [unhide HL]; rfl
        · rw [unhide HL]
          exact hl.ints.2

set_option maxRecDepth 100000 in
set_option maxHeartbeats 4000000 in
theorem specCountByNumber_a (lo hi : Int) (w : World) :
    Calls Try.prog 43 #[.int .i64 lo, .int .i64 hi] w (RetInts w (cbL lo hi).length (fun i => (cbL lo hi).getD i 0) (rgB lo hi)) := by
  cases h : rgB lo hi
  · have hL : cbL lo hi = [] := by simp [cbL, h]
    have HL := hide hL
    have HK := hide h
    clear hL
    go_enter Try.func43, Try.ntmps43
    go_wp2_with (go_at_call 89; refine (tbRange_a _ _ _).mono ?_; rintro e w' ⟨rfl, rfl⟩)
    go_ret2
    exact ⟨_, _, by rw [unhide HL]; rfl, .inl (by rw [unhide HL]; rfl), by (repeat' (first | (with_reducible exact Below.refl _ _) | (with_reducible assumption) | (with_reducible refine gr_alloc ?_ _) | (with_reducible refine below_drewN ?_ _) | (with_reducible refine below_drew ?_) | (with_reducible refine gr_call ?_ (by assumption)) | (with_reducible refine Below.setCell ?_ ?_ _) | go_size | omega | (simp; omega)))⟩
  · obtain ⟨r0, r1, r2⟩ := rg_true h
    have HC : Calls Try.prog 90 #[.int .i64 lo, .int .i64 hi] w (RetIL w (dcL lo hi)) := tbDiscs_a lo hi w r0 r2
    have hlen := dcL_len (lo := lo) (hi := hi) r0 r2
    have HM := fun x hx => dcL_mem (lo := lo) (hi := hi) (x := x) hx
    have hL : cbL lo hi = cbK (dcL lo hi) (dcL lo hi).length := by simp [cbL, h]
    have HL := hide hL
    clear hL
    generalize dcL lo hi = ds at *
    have HR : ∀ x ∈ ds, (rfL x).length ≤ 676 := fun x hx => by obtain ⟨q0, q1⟩ := neg_true (HM x hx); exact rfL_len q0 q1
    have HB := hide (cbK_ok ds HR)
    go_enter Try.func43, Try.ntmps43
    go_wp2_with (first | (go_at_call 89; refine (tbRange_a _ _ _).mono ?_; rintro e w' ⟨rfl, rfl⟩) | (go_at_call 90; refine HC.mono ?_; rintro e wA ⟨a0, c0, rfl, hlA, hbA⟩))
    have hzw := hbA.size
    have hF0 := hlA.ints.2
    clear HC
    go_loopw [6, 18] (fun ls is wr => ∃ (k : Nat) (a : Option Addr) (c : Nat), k ≤ ds.length ∧ is = .int .i64 (k : Int) ∧ ls = .slice a (cbK ds k).length c ∧ IL wr w.heap.size (.slice a (cbK ds k).length c) (cbK ds k) ∧ (∀ b, (Value.slice a (cbK ds k).length c).ownBlock = some b → b < w.heap.size ∨ wA.heap.size ≤ b) ∧ Below w.heap.size w wr ∧ IntsAt wr (w.heap.size) wA.heap.size a0 ds.length (fun i => ds.getD i 0) ∧ wA.heap.size ≤ wr.heap.size) (fun _ is _ => ds.length - (intOf is).toNat)
    case atStart => exact ⟨0, none, 0, by omega, rfl, rfl, IL.nil _ _, fun b hb => by simp [Value.ownBlock] at hb, hbA, hF0, Nat.le_refl _⟩
    case round =>
      obtain ⟨k, a, c, hk, rfl, rfl, hl, hbl, hb, hI, hzA⟩ := hrel
      obtain ⟨w1, rfl⟩ : ∃ w1 : World, w1 = wr := ⟨_, rfl⟩
      have hz := hb.size
      obtain ⟨hcl, hcz⟩ := unhide HB k hk
      by_cases c9 : k < ds.length
      · have hci : (k : Int) < (ds.length : Int) := by omega
        obtain ⟨g0, hga, hg2, c0⟩ := hI.cell c9
        have hx := HM _ (getD_mem c9)
        have hxr := HR _ (getD_mem c9)
        obtain ⟨hx0, hx1⟩ := neg_true hx
        have hbk : cbK ds (k + 1) = bumpL (cbK ds k) (rfL (ds.getD k 0)).length := rfl
        have HBK := hide hbk
        clear hbk hx
        subst hga
        generalize hxx : ds.getD k 0 = x at *
        have XX := hide hxx
        clear hxx
        obtain ⟨h9, hh⟩ : ∃ h9, h9 = (rfL x).length := ⟨_, rfl⟩
        have HH := hide hh
        have h9b : h9 ≤ 676 := by rw [hh]; exact hxr
        clear hh hxr
        have hck : cbK ds k = cbK ds k := rfl
        generalize hcs : cbK ds k = cs at *
        have HCS := hide hcs
        clear hcs hck
        go_wp2_with (go_at_call 91; refine (reList_len _ _ hx0 hx1 (unhide HH)).mono ?_; rintro e w2 ⟨a2, c2, rfl, hb2⟩)
        have hz2 := hb2.size
        have hl2 := hl.below hb2
        have hb3 := hb.trans (hb2.mono hz)
        have hI2 := hI.below hb2 hzA
        have hzA2 : wA.heap.size ≤ w2.heap.size := by omega
        clear hl hb hI c0
        go_loopw [6] (fun ls wr => ∃ (j : Nat) (a : Option Addr) (c : Nat), j ≤ h9 + 1 - cs.length ∧ ls = .slice a (padL cs j).length c ∧ IL wr w.heap.size (.slice a (padL cs j).length c) (padL cs j) ∧ (∀ b, (Value.slice a (padL cs j).length c).ownBlock = some b → b < w.heap.size ∨ wA.heap.size ≤ b) ∧ Below w.heap.size w wr ∧ IntsAt wr (w.heap.size) wA.heap.size (some ⟨g0, 0, none⟩) ds.length (fun i => ds.getD i 0) ∧ wA.heap.size ≤ wr.heap.size) (fun ls _ => h9 + 1 - lenOf ls)
        case atStart => exact ⟨0, a, c, by omega, by simp [padL], by simpa [padL] using hl2, by simpa [padL] using hbl, hb3, hI2, hzA2⟩
        case round =>
          clear hl2 hb3 hI2 hbl
          obtain ⟨j, a, c, hj, rfl, hl, hbl, hb, hI, hzA⟩ := hrel
          obtain ⟨w3, rfl⟩ : ∃ w3 : World, w3 = wr := ⟨_, rfl⟩
          have hz3 := hb.size
          have hpl := padL_len cs j
          by_cases c8 : (padL cs j).length ≤ h9
          · have hci8 : ((padL cs j).length : Int) ≤ (h9 : Int) := by omega
            have el := padL_succ cs j
            have EL := hide el
            have HPL := hide hpl
            clear el hpl
            go_wp2_with (at_builtin; refine app_int _ rfl (.tmp 29) (.tmp 30) rfl w.heap.size (.slice a (padL cs j).length c) (padL cs j) 0 w3.heap.size rfl rfl (hl.alloc _) (by go_simp) (by omega) (by first | omega | (simp; omega)) ?_; intro g cap w4 hown hgrow hat hlt)
            go_roundw
            case rel =>
              refine ⟨j + 1, some ⟨g, 0, none⟩, cap, by have := unhide HPL; omega, ?_, ?_, ?_, (hb.alloc hz3 _).grown hgrow (by simp; omega) (fun k hk => (hl.lt k hk).1), ?_, ?_⟩
              · rw [unhide EL, List.length_append]; rfl
              · rw [unhide EL, List.length_append]; exact hown
              · intro b hb9
                have e9 : b = g := by simp [Value.ownBlock] at hb9; omega
                subst e9
                rcases hat with q | q
                · exact hbl b q
                · right; rw [q]; simp; omega
              · exact (hI.below (below_alloc_self w3 _) hzA).grown hgrow hbl (by simp; omega)
              · have := hgrow.size; simp at this; omega
            case measure => simp [lenOf]; omega
          · have hci8 : (h9 : Int) < ((padL cs j).length : Int) := by omega
            have hjj : j = h9 + 1 - cs.length := by omega
            obtain ⟨g, hga, hgl⟩ := hl.some_of (show 0 < (padL cs j).length by omega)
            subst hga
            have d0 := hl.cellAt (show h9 < (padL cs j).length by omega)
            have d1 := hl.frozenAt h9
            have hzb : 0 ≤ (padL cs j).getD h9 0 ∧ (padL cs j).getD h9 0 ≤ 2000 := by
              have hm := getD_mem (show h9 < (padL cs j).length by omega)
              unfold padL at hm ⊢
              rw [List.mem_append] at hm
              rcases hm with hm | hm
              · have := hcz _ hm; omega
              · have := List.eq_of_mem_replicate hm; omega
            generalize hy : (padL cs j).getD h9 0 = y at *
            obtain ⟨st1, st2⟩ := hl.stored h9 (y + 1)
            have he : cbK ds (k + 1) = (padL cs j).set h9 (y + 1) := by
              rw [unhide HBK, ← unhide HH]; unfold bumpL; rw [← hjj, hy]
            have hle : ((padL cs j).set h9 (y + 1)).length = (padL cs j).length := List.length_set
            have HE := hide he
            have HLE := hide hle
            have HPL := hide hpl
            have HJ := hide hjj
            have HY := hide hy
            clear he hle hpl hjj hy
            go_wp2
            go_roundw
            case rel =>
              refine ⟨k + 1, some ⟨g, 0, none⟩, c, by omega, by go_num, ?_, ?_, ?_, hb.setCell hgl _, ?_, ?_⟩
              · rw [unhide HE, unhide HLE]
              · rw [unhide HE, unhide HLE]; exact st1
              · intro b hb9
                exact hbl b hb9
              · exact hI.grown st2 (fun b hb9 => hbl b hb9) hzA
              · simpa [World.setCell] using hzA
            case measure => simp [intOf]; omega
      · obtain rfl : k = ds.length := by omega
        go_wp2
        go_ret2
        refine ⟨a, c, ?_, ?_, hb⟩
        · rw [unhide HL]; rfl
        · rw [unhide HL]
          exact hl.ints.2

set_option maxHeartbeats 2000000 in
theorem lawCountByNumber (lo hi : Int) (w : World) :
    Calls Try.prog 12 #[.int .i64 lo, .int .i64 hi] w fun e w' => e = .returned (.bool true) ∧ Below w.heap.size w w' := by
  have hn : (cbL lo hi).length ≤ 1000000000 := cbL_len lo hi
  generalize hN : (cbL lo hi).length = N at *
  generalize hF : (fun i => (cbL lo hi).getD i 0) = f at *
  generalize hO : rgB lo hi = ok at *
  go_enter Try.func12, Try.ntmps12
  have HN := hide hN
  have HF := hide hF
  have HO := hide hO
  clear hN hF hO
  go_wp2_with fail
  have c1 := specCountByNumber_a lo hi w
  rw [unhide HN, unhide HF, unhide HO] at c1
  refine c1.mono ?_
  clear c1
  rintro e w1 ⟨a1, d1, rfl, i1, b1⟩
  go_wp2_with fail
  have c2 := implCountByNumber_a lo hi w1
  rw [unhide HN, unhide HF, unhide HO] at c2
  refine c2.mono ?_
  clear c2
  rintro e w2 ⟨a2, d2, rfl, i2, b2⟩
  have s1 := b1.size
  have s2 := b2.size
  have j1 := i1.below b2 (Nat.le_refl _)
  go_wp2_with fail
  refine (eqIntS_any a2 a1 _ _ _ _ N d2 d1 f w2 hn i2 j1).mono ?_
  rintro e w3 ⟨rfl, k3, rfl⟩
  go_wp2_with fail
  refine (markIntS_any a2 w1.heap.size w2.heap.size N d2 1 f (w2.drewN k3) hn (by omega) i2).mono ?_
  rintro e w4 ⟨rfl, i4, h4, s4, b4⟩
  have s4' : w4.heap.size = w2.heap.size := s4
  have S4 := hide s4'
  clear s4 s4'
  go_wp2_with fail
  refine (heldIntS_any a2 w1.heap.size w2.heap.size N d2 1 w4 hn (by omega) i4).mono ?_
  rintro e w5 ⟨rfl, rfl⟩
  go_wp2_with fail
  have c3 := implCountByNumber_a lo hi w4
  rw [unhide HN, unhide HF, unhide HO] at c3
  refine c3.mono ?_
  clear c3
  rintro e w6 ⟨a6, d6, rfl, i6, b6⟩
  have hs : w1.heap.size ≤ w4.heap.size := by have := unhide S4; omega
  have k1 : IntsAt w6 w.heap.size w1.heap.size a1 N f := (j1.keep (w' := w4) (fun k _ h2 => h4 k h2)).below b6 hs
  have k2 : IntsAt w6 w1.heap.size w2.heap.size a2 N (fun i => ((1 : Nat) : Int) + i) := i4.below b6 (by have := unhide S4; omega)
  go_wp2_with fail
  refine (eqIntS_any a6 a1 _ _ _ _ N d6 d1 f w6 hn i6 k1).mono ?_
  rintro e w7 ⟨rfl, k7, rfl⟩
  go_wp2_with fail
  refine (heldIntS_any a2 w1.heap.size w2.heap.size N d2 1 (w6.drewN k7) hn (by omega) k2).mono ?_
  rintro e w8 ⟨rfl, rfl⟩
  go_wp2
  go_ret
  exact ⟨rfl, below_drewN (((b1.trans (b2.mono s1)).trans ((below_drewN (Below.refl _ _) k3).trans (b4.mono s1))).trans (b6.mono (by omega))) k7⟩
end Go.Proofs.Ytomjgokjfhiahaa
