/-
  DiscriminantsWithNumber on both sides, and the law's walk.
-/
import Derived.Test.YtomjgokjfhiahaaCbn
import Derived.Deep.RegionWith
namespace Go.Proofs.Ytomjgokjfhiahaa
open Go.RowKit
set_option linter.unusedVariables false
set_option linter.unusedSimpArgs false
attribute [local go_sem] q2 q3 q4 q5 q6 q7 q8 q9 q10 q11 q12

def dnP (h : Int) (ds : List Int) (i : Nat) : Bool := hN (ds.getD i 0) == h
def dnE (ds : List Int) (i : Nat) : Int := ds.getD i 0
def dnL (h : Int) (ds : List Int) (k : Nat) : List Int := flN (dnP h ds) (dnE ds) k
theorem dn_yes {h : Int} {ds : List Int} {k : Nat} {x : Int} (hx : ds.getD k 0 = x) (e : hN x = h) : dnL h ds (k + 1) = dnL h ds k ++ [x] := by
  subst hx; exact flN_yes (p := dnP h ds) (by simpa [dnP] using e)
theorem dn_no {h : Int} {ds : List Int} {k : Nat} {x : Int} (hx : ds.getD k 0 = x) (e : hN x ≠ h) : dnL h ds (k + 1) = dnL h ds k := by
  subst hx; exact flN_no (p := dnP h ds) (by simpa [dnP] using e)
def dwD : List Int := dcL (-2000) (-3)
def dwL (h : Int) : List Int := if inB h 1 1000 then dnL h dwD dwD.length else []
theorem dwL_len (h : Int) : (dwL h).length ≤ 1000000000 := by
  unfold dwL
  split
  · have h1 := flN_len (dnP h dwD) (dnE dwD) dwD.length
    have h2 := dcL_len (lo := -2000) (hi := -3) (by omega) (by omega)
    unfold dnL
    unfold dwD at *
    omega
  · simp

set_option maxRecDepth 100000 in
set_option maxHeartbeats 2000000 in
theorem like_num (d h : Int) (p : Addr) (w : World) (h0 : -2000 ≤ d) (h1 : d ≤ -3) (hp : w.cell? p = some (.int .i64 h)) :
    Calls Try.prog 96 #[.int .i64 d, .pointer (some p)] w fun e w' => e = .returned (.bool (hN d == h)) ∧ Below w.heap.size w w' := by
  have hlen : ((rfL d).length : Int) = hN d := rfl
  have HL := hide hlen
  clear hlen
  go_enter Try.func96, Try.ntmps96
  go_wp2
  go_region_with (go_at_call 94; refine (reducedForms_len _ _ h0 h1 rfl).mono ?_; rintro e w1 ⟨a, c, rfl, hb⟩; have cc := cell_call hb (a := p) (v := .int .i64 h) (by first | assumption | go_simp))
  all_goals
    go_wp2
    go_ret
    refine ⟨ret_bool (by have := unhide HL; first | rw [this] | (simp [this])), ?_⟩
    (repeat' (first | (with_reducible exact Below.refl _ _) | (with_reducible assumption) | (with_reducible refine gr_alloc ?_ _) | (with_reducible refine below_drewN ?_ _) | (with_reducible refine below_drew ?_) | (with_reducible refine gr_call ?_ (by assumption)) | (with_reducible refine Below.setCell ?_ ?_ _) | go_size | omega | (simp; omega)))

set_option maxRecDepth 100000 in
set_option maxHeartbeats 4000000 in
theorem discsLike_num (lo hi h : Int) (p : Addr) (w : World) (r0 : -2000 ≤ lo) (r2 : hi ≤ -3) (hp : w.cell? p = some (.int .i64 h)) :
    Calls Try.prog 95 #[.int .i64 lo, .int .i64 hi, .func (.func 96) #[] #[.pointer (some p)]] w (RetIL w (dnL h (dcL lo hi) (dcL lo hi).length)) := by
  have HC : Calls Try.prog 93 #[.int .i64 lo, .int .i64 hi] (w.alloc (.cells #[] 3)) (RetIL (w.alloc (.cells #[] 3)) (dcL lo hi)) := discsIn_a lo hi _ r0 r2
  have hlen := dcL_len (lo := lo) (hi := hi) r0 r2
  have HM := fun x hx => dcL_mem (lo := lo) (hi := hi) (x := x) hx
  have hpl := World.block_lt_of_cell? _ _ hp
  generalize dcL lo hi = ds at *
  have HP := hide hp
  clear hp
  go_enter Try.func95, Try.ntmps95
  go_wp2_with (go_at_call 93; refine HC.mono ?_; rintro e wA ⟨a0, c0, rfl, hlA, hbA⟩)
  have hzw := hbA.size
  have hbw : Below w.heap.size w wA := ((Below.refl w.heap.size w).alloc (Nat.le_refl _) (.cells #[] 3)).trans (hbA.mono (by simp))
  have hl0 : IL wA w.heap.size (.slice (some ⟨w.heap.size, 0, none⟩) 0 0) [] := (IL.made w w.heap.size (Nat.le_refl _)).below hbA
  have hF0 : IntsAt wA (w.heap.size + 1) wA.heap.size a0 ds.length (fun i => ds.getD i 0) := hlA.ints.2.weak (by simp) (Nat.le_refl _)
  clear HC
  go_loopw [7, 15] (fun ls is wr => ∃ (k : Nat) (a : Option Addr) (c : Nat), k ≤ ds.length ∧ is = .int .i64 (k : Int) ∧ ls = .slice a (dnL h ds k).length c ∧ IL wr w.heap.size (.slice a (dnL h ds k).length c) (dnL h ds k) ∧ (∀ b, (Value.slice a (dnL h ds k).length c).ownBlock = some b → b < w.heap.size + 1 ∨ wA.heap.size ≤ b) ∧ Below w.heap.size w wr ∧ IntsAt wr (w.heap.size + 1) wA.heap.size a0 ds.length (fun i => ds.getD i 0) ∧ wA.heap.size ≤ wr.heap.size) (fun _ is _ => ds.length - (intOf is).toNat)
  case atStart => exact ⟨0, some ⟨w.heap.size, 0, none⟩, 0, by omega, rfl, rfl, hl0, fun b hb => .inl (by simp [Value.ownBlock] at hb; omega), hbw, hF0, Nat.le_refl _⟩
  case round =>
    obtain ⟨k, a, c, hk, rfl, rfl, hl, hbl, hb, hI, hzA⟩ := hrel
    obtain ⟨w1, rfl⟩ : ∃ w1 : World, w1 = wr := ⟨_, rfl⟩
    have hz := hb.size
    have hL : (dnL h ds k).length ≤ k := flN_len _ _ _
    by_cases c9 : k < ds.length
    · have hci : (k : Int) < (ds.length : Int) := by omega
      obtain ⟨g0, hga, hg2, c0⟩ := hI.cell c9
      have hx := HM _ (getD_mem c9)
      obtain ⟨hx0, hx1⟩ := neg_true hx
      subst hga
      have hcell : w1.cell? p = some (.int .i64 h) := by rw [hb.cell hpl]; exact unhide HP
      by_cases ce : hN (ds.getD k 0) = h
      · have el := dn_yes (k := k) rfl ce
        generalize hxx : ds.getD k 0 = x at *
        have EL := hide el
        have XX := hide hxx
        have tt : (hN x == h) = true := by simp [ce]
        clear el hxx hx ce
        go_wp2_with (first | (go_at_call 96; refine (like_num _ h p _ hx0 hx1 hcell).mono ?_; rintro e w2 ⟨rfl, hb2⟩; have hz2 := hb2.size; have hl2 := hl.below hb2; have hI2 := hI.below hb2 hzA) | (at_builtin; refine app_int _ rfl (.tmp 22) (.tmp 24) rfl w.heap.size (.slice a (dnL h ds k).length c) (dnL h ds k) x w2.heap.size rfl rfl (hl2.alloc _) (by go_simp) (by omega) (by first | omega | (simp; omega)) ?_; intro g cap w4 hown hgrow hat hlt))
        go_roundw
        case rel =>
          refine ⟨k + 1, some ⟨g, 0, none⟩, cap, by omega, by go_num, ?_, ?_, ?_, ((hb.trans (hb2.mono hz)).alloc (by omega) _).grown hgrow (by simp; omega) (fun k hk => (hl2.lt k hk).1), ?_, ?_⟩
          · rw [unhide EL, List.length_append]; rfl
          · rw [unhide EL, List.length_append]; exact hown
          · intro b hb9
            have e9 : b = g := by simp [Value.ownBlock] at hb9; omega
            subst e9
            rcases hat with q | q
            · exact hbl b q
            · right; rw [q]; simp; omega
          · exact (hI2.below (below_alloc_self w2 _) (by omega)).grown hgrow hbl (by simp; omega)
          · have := hgrow.size; simp at this; omega
        case measure => simp [intOf]; omega
      · have el := dn_no (k := k) rfl ce
        generalize hxx : ds.getD k 0 = x at *
        have EL := hide el
        have XX := hide hxx
        have tt : (hN x == h) = false := by simp [ce]
        clear el hxx hx ce
        go_wp2_with (go_at_call 96; refine (like_num _ h p _ hx0 hx1 hcell).mono ?_; rintro e w2 ⟨rfl, hb2⟩; have hz2 := hb2.size; have hl2 := hl.below hb2; have hI2 := hI.below hb2 hzA)
        go_roundw
        case rel => first | exact ⟨k + 1, a, c, by omega, by first | rfl | go_num, by rw [unhide EL], by rw [unhide EL]; exact hl2, by rw [unhide EL]; exact hbl, hb.trans (hb2.mono hz), hI2, by omega⟩ | ((repeat apply Exists.intro); exact ⟨⟨k + 1, a, c, by omega, by first | rfl | go_num, by rw [unhide EL], by rw [unhide EL]; exact hl2, by rw [unhide EL]; exact hbl, hb.trans (hb2.mono hz), hI2, by omega⟩, rfl⟩)
        case measure => simp [intOf]; omega
    · obtain rfl : k = ds.length := by omega
      go_wp2
      go_ret
      exact ⟨a, c, rfl, hl, hb⟩

set_option maxRecDepth 100000 in
set_option maxHeartbeats 4000000 in
theorem specDwn_a (h : Int) (w : World) :
    Calls Try.prog 41 #[.int .i64 h] w (RetInts w (dwL h).length (fun i => (dwL h).getD i 0) (inB h 1 1000)) := by
  cases q : inB h 1 1000
  · have hL : dwL h = [] := by simp [dwL, q]
    have HL := hide hL
    clear hL
    go_enter Try.func41, Try.ntmps41
    go_wp2_with (go_at_call 69; refine (l1In_any _ _ _ _).mono ?_; rintro e w' ⟨rfl, rfl⟩)
    go_ret2
    exact ⟨_, _, by rw [unhide HL]; rfl, .inl (by rw [unhide HL]; rfl), by (repeat' (first | (with_reducible exact Below.refl _ _) | (with_reducible assumption) | (with_reducible refine gr_alloc ?_ _) | (with_reducible refine below_drewN ?_ _) | (with_reducible refine below_drew ?_) | (with_reducible refine gr_call ?_ (by assumption)) | (with_reducible refine Below.setCell ?_ ?_ _) | go_size | omega | (simp; omega)))⟩
  · obtain ⟨q0, q1⟩ := inB_true q
    have HC : Calls Try.prog 90 #[.int .i64 (-2000), .int .i64 (-3)] w (RetIL w dwD) := tbDiscs_a (-2000) (-3) w (by omega) (by omega)
    have hlen := dcL_len (lo := -2000) (hi := -3) (by omega) (by omega)
    have HM := fun x hx => dcL_mem (lo := -2000) (hi := -3) (x := x) hx
    have hL : dwL h = dnL h dwD dwD.length := by simp [dwL, q]
    have HL := hide hL
    clear hL
    change dwD.length ≤ 2000 at hlen
    change ∀ x, x ∈ dwD → negB x = true at HM
    generalize dwD = ds at *
    go_enter Try.func41, Try.ntmps41
    go_wp2_with (first | (go_at_call 69; refine (l1In_any _ _ _ _).mono ?_; rintro e w' ⟨rfl, rfl⟩) | (go_at_call 90; refine HC.mono ?_; rintro e wA ⟨a0, c0, rfl, hlA, hbA⟩))
    have hzw := hbA.size
    have hF0 := hlA.ints.2
    clear HC
    go_loopw [4, 12] (fun ls is wr => ∃ (k : Nat) (a : Option Addr) (c : Nat), k ≤ ds.length ∧ is = .int .i64 (k : Int) ∧ ls = .slice a (dnL h ds k).length c ∧ IL wr w.heap.size (.slice a (dnL h ds k).length c) (dnL h ds k) ∧ (∀ b, (Value.slice a (dnL h ds k).length c).ownBlock = some b → b < w.heap.size ∨ wA.heap.size ≤ b) ∧ Below w.heap.size w wr ∧ IntsAt wr (w.heap.size) wA.heap.size a0 ds.length (fun i => ds.getD i 0) ∧ wA.heap.size ≤ wr.heap.size) (fun _ is _ => ds.length - (intOf is).toNat)
    case atStart => exact ⟨0, none, 0, by omega, rfl, rfl, IL.nil _ _, fun b hb => by simp [Value.ownBlock] at hb, hbA, hF0, Nat.le_refl _⟩
    case round =>
      obtain ⟨k, a, c, hk, rfl, rfl, hl, hbl, hb, hI, hzA⟩ := hrel
      obtain ⟨w1, rfl⟩ : ∃ w1 : World, w1 = wr := ⟨_, rfl⟩
      have hz := hb.size
      have hL : (dnL h ds k).length ≤ k := flN_len _ _ _
      by_cases c9 : k < ds.length
      · have hci : (k : Int) < (ds.length : Int) := by omega
        obtain ⟨g0, hga, hg2, c0⟩ := hI.cell c9
        have hx := HM _ (getD_mem c9)
        obtain ⟨hx0, hx1⟩ := neg_true hx
        subst hga
        
        by_cases ce : hN (ds.getD k 0) = h
        · have el := dn_yes (k := k) rfl ce
          generalize hxx : ds.getD k 0 = x at *
          have EL := hide el
          have XX := hide hxx
          obtain ⟨h9, hh⟩ : ∃ h9, h9 = (rfL x).length := ⟨_, rfl⟩
          have tt : ((h9 : Int) == h) = true := by rw [hh]; simpa [hN] using ce
          have HH := hide hh
          clear hh
          clear el hxx hx ce
          go_wp2_with (first | (go_at_call 91; refine (reList_len _ _ hx0 hx1 (unhide HH)).mono ?_; rintro e w2 ⟨a2, c2, rfl, hb2⟩; have hz2 := hb2.size; have hl2 := hl.below hb2; have hI2 := hI.below hb2 hzA) | (at_builtin; refine app_int _ rfl (.tmp 21) (.tmp 23) rfl w.heap.size (.slice a (dnL h ds k).length c) (dnL h ds k) x w2.heap.size rfl rfl (hl2.alloc _) (by go_simp) (by omega) (by first | omega | (simp; omega)) ?_; intro g cap w4 hown hgrow hat hlt))
          go_roundw
          case rel =>
            refine ⟨k + 1, some ⟨g, 0, none⟩, cap, by omega, by go_num, ?_, ?_, ?_, ((hb.trans (hb2.mono hz)).alloc (by omega) _).grown hgrow (by simp; omega) (fun k hk => (hl2.lt k hk).1), ?_, ?_⟩
            · rw [unhide EL, List.length_append]; rfl
            · rw [unhide EL, List.length_append]; exact hown
            · intro b hb9
              have e9 : b = g := by simp [Value.ownBlock] at hb9; omega
              subst e9
              rcases hat with q | q
              · exact hbl b q
              · right; rw [q]; simp; omega
            · exact (hI2.below (below_alloc_self w2 _) (by omega)).grown hgrow hbl (by simp; omega)
            · have := hgrow.size; simp at this; omega
          case measure => simp [intOf]; omega
        · have el := dn_no (k := k) rfl ce
          generalize hxx : ds.getD k 0 = x at *
          have EL := hide el
          have XX := hide hxx
          obtain ⟨h9, hh⟩ : ∃ h9, h9 = (rfL x).length := ⟨_, rfl⟩
          have tt : ((h9 : Int) == h) = false := by rw [hh]; simpa [hN] using ce
          have HH := hide hh
          clear hh
          clear el hxx hx ce
          go_wp2_with (go_at_call 91; refine (reList_len _ _ hx0 hx1 (unhide HH)).mono ?_; rintro e w2 ⟨a2, c2, rfl, hb2⟩; have hz2 := hb2.size; have hl2 := hl.below hb2; have hI2 := hI.below hb2 hzA)
          go_roundw
          case rel => first | exact ⟨k + 1, a, c, by omega, by first | rfl | go_num, by rw [unhide EL], by rw [unhide EL]; exact hl2, by rw [unhide EL]; exact hbl, hb.trans (hb2.mono hz), hI2, by omega⟩ | ((repeat apply Exists.intro); exact ⟨⟨k + 1, a, c, by omega, by first | rfl | go_num, by rw [unhide EL], by rw [unhide EL]; exact hl2, by rw [unhide EL]; exact hbl, hb.trans (hb2.mono hz), hI2, by omega⟩, rfl⟩)
          case measure => simp [intOf]; omega
      · obtain rfl : k = ds.length := by omega
        go_wp2
        go_ret2
        refine ⟨a, c, ?_, ?_, hb⟩
        · rw [unhide HL]; rfl
        · rw [unhide HL]; exact hl.ints.2

set_option maxRecDepth 100000 in
set_option maxHeartbeats 4000000 in
theorem implDwn_a (h : Int) (w : World) :
    Calls Try.prog 42 #[.int .i64 h] w (RetInts w (dwL h).length (fun i => (dwL h).getD i 0) (inB h 1 1000)) := by
  by_cases q0 : 1 ≤ h
  · by_cases q1 : h ≤ 1000
    · have hK : inB h 1 1000 = true := by simp [inB, q0, q1]
      have hL : dwL h = dnL h (dcL (-2000) (-3)) (dcL (-2000) (-3)).length := by simp [dwL, dwD, hK]
      have HL := hide hL
      have HK := hide hK
      clear hL hK
      go_enter Try.func42, Try.ntmps42
      go_wp2_with (go_at_call 95; refine (discsLike_num (-2000) (-3) h ⟨w.heap.size, 0, none⟩ _ (by omega) (by omega) (by go_simp)).mono ?_; rintro e w1 ⟨a, c, rfl, hl, hb⟩)
      go_ret2
      refine ⟨a, c, by rw [unhide HL, unhide HK]; rfl, ?_, by (repeat' (first | (with_reducible exact Below.refl _ _) | (with_reducible assumption) | (with_reducible refine gr_alloc ?_ _) | (with_reducible refine below_drewN ?_ _) | (with_reducible refine below_drew ?_) | (with_reducible refine gr_call ?_ (by assumption)) | (with_reducible refine Below.setCell ?_ ?_ _) | go_size | omega | (simp; omega)))⟩
      rw [unhide HL]
      exact hl.ints.2.weak (by simp) (Nat.le_refl _)
    · have hL : dwL h = [] := by simp [dwL, inB, q1] <;> (intros; omega)
      have hK : inB h 1 1000 = false := by simp [inB, q1] <;> (intros; omega)
      have HL := hide hL
      have HK := hide hK
      clear hL hK
      go_enter Try.func42, Try.ntmps42
      go_wp2
      go_ret2
      exact ⟨_, _, by rw [unhide HL, unhide HK]; rfl, .inl (by rw [unhide HL]; rfl), by (repeat' (first | (with_reducible exact Below.refl _ _) | (with_reducible assumption) | (with_reducible refine gr_alloc ?_ _) | (with_reducible refine below_drewN ?_ _) | (with_reducible refine below_drew ?_) | (with_reducible refine gr_call ?_ (by assumption)) | (with_reducible refine Below.setCell ?_ ?_ _) | go_size | omega | (simp; omega)))⟩
  · have hL : dwL h = [] := by simp [dwL, inB, q0] <;> (intros; omega)
    have hK : inB h 1 1000 = false := by simp [inB, q0] <;> (intros; omega)
    have HL := hide hL
    have HK := hide hK
    clear hL hK
    go_enter Try.func42, Try.ntmps42
    go_wp2
    go_ret2
    exact ⟨_, _, by rw [unhide HL, unhide HK]; rfl, .inl (by rw [unhide HL]; rfl), by (repeat' (first | (with_reducible exact Below.refl _ _) | (with_reducible assumption) | (with_reducible refine gr_alloc ?_ _) | (with_reducible refine below_drewN ?_ _) | (with_reducible refine below_drew ?_) | (with_reducible refine gr_call ?_ (by assumption)) | (with_reducible refine Below.setCell ?_ ?_ _) | go_size | omega | (simp; omega)))⟩

set_option maxHeartbeats 2000000 in
theorem lawDiscriminantsWithNumber (h : Int) (w : World) :
    Calls Try.prog 11 #[.int .i64 h] w fun e w' => e = .returned (.bool true) ∧ Below w.heap.size w w' := by
  have hn : (dwL h).length ≤ 1000000000 := dwL_len h
  generalize hN : (dwL h).length = N at *
  generalize hF : (fun i => (dwL h).getD i 0) = f at *
  generalize hO : inB h 1 1000 = ok at *
  go_enter Try.func11, Try.ntmps11
  have HN := hide hN
  have HF := hide hF
  have HO := hide hO
  clear hN hF hO
  go_wp2_with fail
  have c1 := specDwn_a h w
  rw [unhide HN, unhide HF, unhide HO] at c1
  refine c1.mono ?_
  clear c1
  rintro e w1 ⟨a1, d1, rfl, i1, b1⟩
  go_wp2_with fail
  have c2 := implDwn_a h w1
  rw [unhide HN, unhide HF, unhide HO] at c2
  refine c2.mono ?_
  clear c2
  rintro e w2 ⟨a2, d2, rfl, i2, b2⟩
  have s1 := b1.size
  have s2 := b2.size
  have j1 := i1.below b2 (Nat.le_refl _)
  go_wp2_with fail
  refine (eqIntS_any a2 a1 _ _ _ _ N d2 d1 f w2 hn i2 j1).mono ?_
  rintro e w3 ⟨rfl, k3, rfl⟩
  go_wp2_with fail
  refine (markIntS_any a2 w1.heap.size w2.heap.size N d2 1 f (w2.drewN k3) hn (by omega) i2).mono ?_
  rintro e w4 ⟨rfl, i4, h4, s4, b4⟩
  have s4' : w4.heap.size = w2.heap.size := s4
  have S4 := hide s4'
  clear s4 s4'
  go_wp2_with fail
  refine (heldIntS_any a2 w1.heap.size w2.heap.size N d2 1 w4 hn (by omega) i4).mono ?_
  rintro e w5 ⟨rfl, rfl⟩
  go_wp2_with fail
  have c3 := implDwn_a h w4
  rw [unhide HN, unhide HF, unhide HO] at c3
  refine c3.mono ?_
  clear c3
  rintro e w6 ⟨a6, d6, rfl, i6, b6⟩
  have hs : w1.heap.size ≤ w4.heap.size := by have := unhide S4; omega
  have k1 : IntsAt w6 w.heap.size w1.heap.size a1 N f := (j1.keep (w' := w4) (fun k _ h2 => h4 k h2)).below b6 hs
  have k2 : IntsAt w6 w1.heap.size w2.heap.size a2 N (fun i => ((1 : Nat) : Int) + i) := i4.below b6 (by have := unhide S4; omega)
  go_wp2_with fail
  refine (eqIntS_any a6 a1 _ _ _ _ N d6 d1 f w6 hn i6 k1).mono ?_
  rintro e w7 ⟨rfl, k7, rfl⟩
  go_wp2_with fail
  refine (heldIntS_any a2 w1.heap.size w2.heap.size N d2 1 (w6.drewN k7) hn (by omega) k2).mono ?_
  rintro e w8 ⟨rfl, rfl⟩
  go_wp2
  go_ret
  exact ⟨rfl, below_drewN (((b1.trans (b2.mono s1)).trans ((below_drewN (Below.refl _ _) k3).trans (b4.mono s1))).trans (b6.mono (by omega))) k7⟩
end Go.Proofs.Ytomjgokjfhiahaa
