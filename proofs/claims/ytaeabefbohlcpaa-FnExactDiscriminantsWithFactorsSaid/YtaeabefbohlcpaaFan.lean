/- l1Put at the end of an increasing list; nuPrimes. -/
import Derived.Test.YtaeabefbohlcpaaFap
import Derived.Test.YtaeabefbohlcpaaOwn
import Derived.Maps.AppendAt
namespace Go.Proofs.Ytaeabefbohlcpaa
open Go.RowKit
set_option linter.unusedVariables false
set_option linter.unusedSimpArgs false
attribute [local go_sem] q2 q3 q4 q5 q6 q7 q8 q9 q10 q11 q12

theorem nI_get2 {L : List Nat} {i : Nat} (h : i < L.length) : (nI L).getD i 0 = ((L[i] : Nat) : Int) := by rw [nI_get h, List.getD_eq_getElem?_getD, List.getElem?_eq_getElem h]; rfl
theorem dd_lt {l : List Nat} {p : Nat} (h : (l ++ [p]).Pairwise (· < ·)) : ∀ i, i < l.length → (nI l).getD i 0 < (p : Int) := fun i hi => by
 have := (List.pairwise_append.1 h).2.2 _ (List.getElem_mem hi) p (by simp)
 rw [nI_get2 hi]; exact_mod_cast this
theorem dd_lt2 {l : List Nat} {q : Nat} (h : l.Pairwise (· < ·)) (hq : q < l.length) : ∀ i, i < q → (nI l).getD i 0 < (nI l).getD q 0 := fun i hi => by
 have := List.pairwise_iff_getElem.1 h i q (by omega) hq hi
 rw [nI_get2 (by omega), nI_get2 hq]; exact_mod_cast this
theorem ints_one (zs : List Int) : ∀ u ∈ zs.map (Value.int .i64), u.oneCell' = true := by
 intro u hu
 rw [List.mem_map] at hu
 obtain ⟨x, _, rfl⟩ := hu
 rfl
theorem app_intsN (w : World) {ops : Array Oper} {rest : List Oper} {o : Oper} {a : Act} {Q : Exit → Act → World → Prop} (hgd : o.guard = none) (s x : Operand)
  (ho : o.op = .call { callee := .builtin .append, args := #[s, x], argTypes := #[22, 22] })
  (lo : Nat) (v : Value) (zs news : List Int) (ad : Addr) (nn c : Nat) (hnn : news.length = nn) (hs : a.eval s = v) (hx : a.eval x = .slice (some ad) nn c)
  (hown : IL w lo v zs) (hnews : ∀ j, j < nn → w.cell? (ad.add j) = some (.int .i64 (news.getD j 0))) (hlen : zs.length + nn ≤ 1000000000) (hlo : lo ≤ w.heap.size)
  (h : ∀ v' w', IL w' lo v' (zs ++ news) → w.grownBy w' v.ownBlock → (v'.ownBlock = v.ownBlock ∨ v'.ownBlock = some w.heap.size) →
   wpList Try.prog ops Q rest (a.put o.dst v') w') : wpList Try.prog ops Q (o :: rest) a w := by
 obtain ⟨i0, hi, hz0, hz1, hz2⟩ := info_parts Try.infoInt'
 refine wpList_append_own_at w hgd s x 22 ho lo 3 i0 (.int .i64 0) 1 8 Try.underlying22 hi hz0 hz1 hz2 rfl (by decide) v zs.length _ hs hown ad nn c (news.map (Value.int .i64)) hx (by simp [hnn]) (fun j u hu => ?_) (ints_one _) (by unfold maxLen; omega) (by omega) hlo ?_
 ·rw [List.getElem?_map] at hu
  by_cases hj : j < news.length
  ·rw [List.getElem?_eq_getElem hj] at hu
   simp at hu
   subst hu
   rw [hnews j (by omega), List.getD_eq_getElem?_getD, List.getElem?_eq_getElem hj]; rfl
  ·rw [List.getElem?_eq_none (by omega)] at hu; cases hu
 ·intro v' w' h2 h3 _ h5
  refine h v' w' ?_ h3 h5
  unfold IL
  rw [List.map_append, List.length_append, hnn]
  exact h2
theorem IL.own {w : World} {lo k : Nat} {v : Value} {zs : List Int} (h : IL w lo v zs) (hk : v.ownBlock = some k) : ∃ cap, v = .slice (some ⟨k, 0, none⟩) zs.length cap ∧ zs.length ≤ cap := by
 rcases h.2 with ⟨h1, h2⟩ | ⟨g, cap, cur, h1, h2, h3, h4, h5⟩
 ·rw [h1] at hk; cases hk
 ·rw [h1] at hk; cases hk; exact ⟨cap, h1, h4⟩
theorem add_at (g j k : Nat) : (⟨g, k, none⟩ : Addr).add j = ⟨g, k + j, none⟩ := by unfold Addr.add; split <;> simp_all
def RetPut (w : World) (l : List Int) (e : Ending) (w' : World) : Prop := ∃ g cap, e = .returned (.slice (some ⟨g, 0, none⟩) l.length cap) ∧ l.length ≤ cap ∧ IL w' w.heap.size (.slice (some ⟨g, 0, none⟩) l.length cap) l ∧ Below w.heap.size w w'
set_option maxRecDepth 100000 in
set_option maxHeartbeats 4000000 in
theorem l1Put_nil (p : Int) (w : World) : Calls Try.prog 82 #[.slice none 0 0, .int .i64 p] w (RetPut w [p]) := by
 go_enter Try.func82, Try.ntmps82
 go_wp2
 refine wp_loop_rounds 1 ?_
 rw [rounds_succ]
 obtain ⟨i0, hi, hz0, hz1, hz2⟩ := info_parts Try.infoInt'
 go_wp2_with (first | (at_builtin; refine wpList_append_own_none rfl (.tmp 34) (.tmp 37) 22 rfl w.heap.size 3 i0 1 Try.underlying22 hi (.slice (some ⟨w.heap.size, 0, none⟩) 0 0) 0 [] rfl (IL.made w _ (Nat.le_refl _)) rfl ?_) | (at_builtin; refine app_intsN _ rfl (.tmp 39) (.tmp 41) rfl w.heap.size (.slice (some ⟨w.heap.size, 0, none⟩) 0 0) [] [p] ⟨w.heap.size + 1, 0, none⟩ 1 1 rfl rfl rfl ((IL.made w _ (Nat.le_refl _)).alloc _) (fun j hj => by obtain rfl : j = 0 := (by omega); rw [add_at]; go_simp) (by simp) (by simp; omega) ?_; intro v1 w2 hown1 hgrow1 hat1; obtain ⟨k1, hk1⟩ : ∃ k, v1.ownBlock = some k := (by rcases hat1 with e | e <;> exact ⟨_, e⟩); obtain ⟨c1, rfl, hc1⟩ := hown1.own hk1) | (at_builtin; refine wpList_append_own_none rfl (.tmp 43) (.tmp 46) 22 rfl w.heap.size 3 i0 1 Try.underlying22 hi _ _ _ rfl hown1 rfl ?_))
 go_ret
 exact ⟨k1, c1, rfl, hc1, hown1, ((Below.refl _ _).alloc (Nat.le_refl _) _ |>.alloc (by simp) _).grown hgrow1 (by simp; omega) (fun k hk => by cases hk; exact Nat.le_refl _)⟩
set_option maxRecDepth 100000 in
set_option maxHeartbeats 4000000 in
theorem l1Put_new (g n c : Nat) (l : List Int) (p : Int) (w : World) (hl : Hid (n = l.length)) (hr : ∀ i, i < n → w.cell? ⟨g, i, none⟩ = some (.int .i64 (l.getD i 0))) (hn : n ≤ 100000) (hc : n ≤ c) (hlt : ∀ i, i < n → l.getD i 0 < p) (hn0 : 0 < n) :
  Calls Try.prog 82 #[.slice (some ⟨g, 0, none⟩) n c, .int .i64 p] w (RetPut w (l ++ [p])) := by
 have HR := hide hr
 have HT := hide hlt
 have hgw := World.block_lt_of_cell? _ _ (hr 0 hn0)
 clear hr hlt
 go_enter Try.func82, Try.ntmps82
 go_wp2
 go_loop [5] (fun is => ∃ jx : Nat, jx ≤ n ∧ is = .int .i64 (jx : Int)) (fun is => n - (intOf is).toNat)
 case atStart => exact ⟨0, by omega, rfl⟩
 case round =>
  obtain ⟨jx, hj, rfl⟩ := hrel
  by_cases k : jx < n
  ·have hci : (jx : Int) < (n : Int) := by omega
   have d0 := unhide HR jx k
   have t0 := unhide HT jx k
   obtain ⟨y, hy⟩ : ∃ y, l.getD jx 0 = y := ⟨_, rfl⟩
   rw [hy] at d0 t0
   clear hy
   go_wp2
   go_round
   case rel => exact ⟨jx + 1, by omega, by go_num⟩
   case measure => simp [intOf]; omega
  ·obtain rfl : jx = n := by omega
   by_cases hca : c = jx
   ·subst hca
    go_wp2_with (first | (at_builtin; refine app_intsN _ rfl (.tmp 34) (.tmp 37) rfl w.heap.size (.slice (some ⟨w.heap.size, 0, none⟩) 0 0) [] l ⟨g, 0, none⟩ _ _ (unhide hl).symm rfl rfl (IL.made w _ (Nat.le_refl _)) (fun j hj => by rw [add_at, Nat.zero_add]; exact cell_al _ (unhide HR j hj)) (by simp; omega) (by simp) ?_; intro v1 w2 hown1 hgrow1 hat1; obtain ⟨k1, hk1⟩ : ∃ k, v1.ownBlock = some k := (by rcases hat1 with e | e <;> exact ⟨_, e⟩); obtain ⟨c1, rfl, hc1⟩ := hown1.own hk1; have hlt1 := hown1.lt k1 rfl; have hz2 := hgrow1.size; simp only [World.size_alloc] at hz2) | (at_builtin; refine app_intsN _ rfl (.tmp 39) (.tmp 41) rfl w.heap.size (.slice (some ⟨k1, 0, none⟩) ([] ++ l).length c1) ([] ++ l) [p] ⟨w2.heap.size, 0, none⟩ 1 1 rfl rfl rfl (hown1.alloc _) (fun j hj => by obtain rfl : j = 0 := (by omega); rw [add_at]; go_simp) (by have := unhide hl; simp; omega) (by simp; omega) ?_; intro v2 w3 hown2 hgrow2 hat2; obtain ⟨k2, hk2⟩ : ∃ k, v2.ownBlock = some k := (by rcases hat2 with e | e <;> exact ⟨_, e⟩); obtain ⟨c2, rfl, hc2⟩ := hown2.own hk2; have hlt2 := hown2.lt k2 rfl; simp only [List.nil_append, List.length_append, List.length_cons, List.length_nil, Nat.zero_add] at hown2 hc2; have hz3 := hgrow2.size; simp only [World.size_alloc] at hz3) | (at_builtin; refine app_intsN _ rfl (.tmp 43) (.tmp 46) rfl w.heap.size (.slice (some ⟨k2, 0, none⟩) (l.length + 1) c2) (l ++ [p]) [] _ 0 _ rfl rfl rfl hown2 (fun j hj => absurd hj (by omega)) (by have := unhide hl; simp; omega) (by omega) ?_; intro v3 w4 hown3 hgrow3 hat3; obtain ⟨k3, hk3⟩ : ∃ k, v3.ownBlock = some k := (by rcases hat3 with e | e <;> exact ⟨_, e⟩); obtain ⟨c3, rfl, hc3⟩ := hown3.own hk3))
    go_ret
    have hg1 : Below w.heap.size w w2 := Below.grown ((Below.refl _ _).alloc (Nat.le_refl _) _) hgrow1 (by simp) (fun k hk => by cases hk; exact Nat.le_refl _)
    have hg2 : Below w.heap.size w w3 := Below.grown (hg1.alloc (by omega) _) hgrow2 (by simp; omega) (fun k hk => by cases hk; exact hlt1.1)
    have hg3 : Below w.heap.size w w4 := hg2.grown hgrow3 (by omega) (fun k hk => by cases hk; exact hlt2.1)
    rw [List.append_nil] at hown3 hc3
    exact ⟨k3, c3, by rw [show (l ++ [p]).length = l.length + 1 by simp]; rfl, hc3, hown3, hg3⟩
   ·have hca2 : jx < c := by omega
    go_wp2_with (first | (at_builtin; refine app_intsN _ rfl (.tmp 34) (.tmp 37) rfl w.heap.size (.slice (some ⟨w.heap.size, 0, none⟩) 0 0) [] l ⟨g, 0, none⟩ _ _ (unhide hl).symm rfl rfl (IL.made w _ (Nat.le_refl _)) (fun j hj => by rw [add_at, Nat.zero_add]; exact cell_al _ (unhide HR j hj)) (by simp; omega) (by simp) ?_; intro v1 w2 hown1 hgrow1 hat1; obtain ⟨k1, hk1⟩ : ∃ k, v1.ownBlock = some k := (by rcases hat1 with e | e <;> exact ⟨_, e⟩); obtain ⟨c1, rfl, hc1⟩ := hown1.own hk1; have hlt1 := hown1.lt k1 rfl; have hz2 := hgrow1.size; simp only [World.size_alloc] at hz2) | (at_builtin; refine app_intsN _ rfl (.tmp 39) (.tmp 41) rfl w.heap.size (.slice (some ⟨k1, 0, none⟩) ([] ++ l).length c1) ([] ++ l) [p] ⟨w2.heap.size, 0, none⟩ 1 1 rfl rfl rfl (hown1.alloc _) (fun j hj => by obtain rfl : j = 0 := (by omega); rw [add_at]; go_simp) (by have := unhide hl; simp; omega) (by simp; omega) ?_; intro v2 w3 hown2 hgrow2 hat2; obtain ⟨k2, hk2⟩ : ∃ k, v2.ownBlock = some k := (by rcases hat2 with e | e <;> exact ⟨_, e⟩); obtain ⟨c2, rfl, hc2⟩ := hown2.own hk2; have hlt2 := hown2.lt k2 rfl; simp only [List.nil_append, List.length_append, List.length_cons, List.length_nil, Nat.zero_add] at hown2 hc2; have hz3 := hgrow2.size; simp only [World.size_alloc] at hz3) | (at_builtin; refine app_intsN _ rfl (.tmp 43) (.tmp 46) rfl w.heap.size (.slice (some ⟨k2, 0, none⟩) (l.length + 1) c2) (l ++ [p]) [] _ 0 _ rfl rfl rfl hown2 (fun j hj => absurd hj (by omega)) (by have := unhide hl; simp; omega) (by omega) ?_; intro v3 w4 hown3 hgrow3 hat3; obtain ⟨k3, hk3⟩ : ∃ k, v3.ownBlock = some k := (by rcases hat3 with e | e <;> exact ⟨_, e⟩); obtain ⟨c3, rfl, hc3⟩ := hown3.own hk3))
    go_ret
    have hg1 : Below w.heap.size w w2 := Below.grown ((Below.refl _ _).alloc (Nat.le_refl _) _) hgrow1 (by simp) (fun k hk => by cases hk; exact Nat.le_refl _)
    have hg2 : Below w.heap.size w w3 := Below.grown (hg1.alloc (by omega) _) hgrow2 (by simp; omega) (fun k hk => by cases hk; exact hlt1.1)
    have hg3 : Below w.heap.size w w4 := hg2.grown hgrow3 (by omega) (fun k hk => by cases hk; exact hlt2.1)
    rw [List.append_nil] at hown3 hc3
    exact ⟨k3, c3, by rw [show (l ++ [p]).length = l.length + 1 by simp]; rfl, hc3, hown3, hg3⟩
set_option maxRecDepth 100000 in
set_option maxHeartbeats 4000000 in
theorem l1Put_old (g q c : Nat) (l : List Int) (p : Int) (w : World) (hr : ∀ i, i < q + 1 → w.cell? ⟨g, i, none⟩ = some (.int .i64 (l.getD i 0))) (hn : q ≤ 100000) (hc : q + 1 ≤ c) (hlt : ∀ i, i < q → l.getD i 0 < p) (he : l.getD q 0 = p) :
  Calls Try.prog 82 #[.slice (some ⟨g, 0, none⟩) (q + 1) c, .int .i64 p] w fun e w' => e = .returned (.slice (some ⟨g, 0, none⟩) (q + 1) c) ∧ w = w' := by
 have HR := hide hr
 have HT := hide hlt
 have dq := hr q (by omega)
 rw [he] at dq
 clear hr hlt he
 go_enter Try.func82, Try.ntmps82
 go_wp2
 go_loop [5] (fun is => ∃ jx : Nat, jx ≤ q ∧ is = .int .i64 (jx : Int)) (fun is => q - (intOf is).toNat)
 case atStart => exact ⟨0, by omega, rfl⟩
 case round =>
  obtain ⟨jx, hj, rfl⟩ := hrel
  by_cases k : jx < q
  ·have hci : (jx : Int) < (q : Int) + 1 := by omega
   have d0 := unhide HR jx (by omega)
   have t0 := unhide HT jx k
   obtain ⟨y, hy⟩ : ∃ y, l.getD jx 0 = y := ⟨_, rfl⟩
   rw [hy] at d0 t0
   clear hy
   go_wp2
   go_round
   case rel => exact ⟨jx + 1, by omega, by go_num⟩
   case measure => simp [intOf]; omega
  ·obtain rfl : jx = q := by omega
   go_wp2
   go_ret
   exact ⟨rfl, rfl⟩

set_option maxRecDepth 100000 in
set_option maxHeartbeats 4000000 in
theorem nuPrimes_a (n : Nat) (w : World) (h0 : 1 ≤ n) (h1 : n ≤ 2000) :
  Calls Try.prog 63 #[.int .i64 (n : Int)] w (RetIL w (nI (psL n))) := by
 have HC : ∀ W, Calls Try.prog 81 #[.int .i64 (n : Int)] W (RetIL W (nI (fcL 2 n))) := fun W => nuFactors_a n W h0 h1
 have HC := hide HC
 have hps : psL n = ddK (fcL 2 n) (fcL 2 n).length := rfl
 have hfl : (fcL 2 n).length ≤ 2000 := by have := fc_len h0; omega
 have hge := fs_ge h0
 have hdd := ps_dd h0
 rw [hps]
 clear hps
 generalize fcL 2 n = fs at *
 have hdd := hide hdd
 go_enter Try.func63, Try.ntmps63
 go_wp2_with (go_at_call 81; refine ((unhide HC) _).mono ?_; rintro e wA ⟨a0, c0, rfl, hlA, hbA⟩)
 have hS : IntsAt wA w.heap.size wA.heap.size a0 fs.length (fun i => (nI fs).getD i 0) := by
  have := hlA.ints.2; rw [nI_len] at this; exact this
 have hsd := SI.startN (LO := w.heap.size) (S := srcI w.heap.size wA.heap.size a0 fs.length (fun i => (nI fs).getD i 0)) hbA hS (Nat.le_refl _)
 have hN : (nI fs).length = fs.length := nI_len fs
 rw [hN]
 clear hN
 have hK := ints_kept (LO := w.heap.size) (HI := wA.heap.size) (n := fs.length) (a := a0) (f := fun i => (nI fs).getD i 0)
 obtain ⟨HI, hHI⟩ : ∃ HI, wA.heap.size = HI := ⟨_, rfl⟩
 rw [hHI] at hsd hK hS
 clear hlA hS
 go_loopw [3, 9] (fun ls is wr => ∃ (k n c : Nat) (a : Option Addr) (l : List Int), is = .int .i64 (k : Int) ∧ ls = .slice a n c ∧ k ≤ fs.length ∧ n ≤ k ∧ n ≤ c ∧ (n = 0 → a = none ∧ c = 0) ∧ Hid (l = nI (ddK fs k)) ∧ SI w w.heap.size HI (srcI w.heap.size HI a0 fs.length (fun i => (nI fs).getD i 0)) wr a n c l) (fun _ is _ => fs.length - (intOf is).toNat)
 case atStart => exact ⟨0, 0, 0, _, [], rfl, rfl, by omega, by omega, by omega, fun _ => ⟨rfl, rfl⟩, hide rfl, hsd⟩
 case round =>
  clear hsd hbA
  obtain ⟨k, n9, c, a, l, rfl, rfl, hk, hnk, hnc, hnn, hl, hsd⟩ := hrel
  obtain ⟨w1, rfl⟩ : ∃ w1 : World, w1 = wr := ⟨_, rfl⟩
  have hz := hsd.sd.bel.size
  have hln := hsd.len
  by_cases c9 : k < fs.length
  ·have hci : (k : Int) < (fs.length : Int) := by omega
   obtain ⟨g0, hg0, hg2, d0⟩ := IntsAt.cell hsd.sd.src c9
   rw [nI_get c9] at d0
   obtain ⟨p, hp⟩ : ∃ p, fs.getD k 0 = p := ⟨_, rfl⟩
   rw [hp] at d0
   subst hg0
   have hd1 := unhide hdd k (by omega)
   have hd2 := unhide hdd (k + 1) (by omega)
   have hge1 : 1 ≤ p := by rw [← hp]; exact hge _ (gdm c9)
   have LN : n9 = (ddK fs k).length := by have := unhide hln; rw [unhide hl, nI_len] at this; exact this
   by_cases cq : (ddK fs k).getD ((ddK fs k).length - 1) 0 = p
   ·have EL : l = nI (ddK fs (k + 1)) := by rw [unhide hl, dd_yes (by rw [hp]; exact cq)]
    cases n9 with
    | zero =>
     exfalso
     rw [List.getD_eq_getElem?_getD, List.getElem?_eq_none (by omega)] at cq
     simp at cq; omega
    | succ q =>
     obtain ⟨gl, hgl, hgl2, hcl⟩ := hsd.ptr (Nat.succ_pos q)
     subst hgl
     have hle : l.getD q 0 = (p : Int) := by rw [unhide hl, nI_get (by omega), ← cq, ← LN]; rfl
     have hlt : ∀ i, i < q → l.getD i 0 < (p : Int) := by rw [← hle, unhide hl]; exact dd_lt2 hd1.up (by omega)
     have HP : ∀ W, W = w1 → Calls Try.prog 82 #[.slice (some ⟨gl, 0, none⟩) (q + 1) c, .int .i64 (p : Int)] W fun e w' => e = .returned (.slice (some ⟨gl, 0, none⟩) (q + 1) c) ∧ W = w' := fun W hW => by subst hW; exact l1Put_old gl q c l p _ hcl (by omega) hnc hlt hle
     have HP := hide HP
     have EH := hide EL
     clear EL hle hlt hcl LN cq hd1 hd2 hp
     go_wp2_with (go_at_call 82; refine (unhide HP _ rfl).mono ?_; rintro e w' ⟨rfl, rfl⟩)
     go_roundw
     case rel => first | exact ⟨k + 1, q + 1, c, _, l, by first | rfl | go_num, rfl, by omega, by omega, hnc, fun h => by omega, EH, hsd⟩ | ((repeat apply Exists.intro); exact ⟨⟨k + 1, q + 1, c, _, l, by first | rfl | go_num, rfl, by omega, by omega, hnc, fun h => by omega, EH, hsd⟩, rfl⟩)
     case measure => simp [intOf]; omega
   ·have EL : l ++ [(p : Int)] = nI (ddK fs (k + 1)) := by rw [unhide hl, dd_no (by rw [hp]; exact cq), nI_app, hp]
    have hup := hd2.up
    rw [dd_no (by rw [hp]; exact cq), hp] at hup
    have hlt := dd_lt hup
    rw [← LN, ← unhide hl] at hlt
    have HP : ∀ W, W = w1 → Calls Try.prog 82 #[.slice a n9 c, .int .i64 (p : Int)] W (RetPut W (l ++ [(p : Int)])) := fun W hW => by
     subst hW
     cases n9 with
     | zero =>
      obtain ⟨rfl, rfl⟩ := hnn rfl
      have : l = [] := List.eq_nil_of_length_eq_zero (unhide hln).symm
      subst this
      exact l1Put_nil p _
     | succ q =>
      obtain ⟨gl, hgl, hgl2, hcl⟩ := hsd.ptr (Nat.succ_pos q)
      subst hgl
      exact l1Put_new gl (q + 1) c l p _ hln hcl (by omega) hnc hlt (Nat.succ_pos q)
    have HP := hide HP
    have EH := hide EL
    clear EL hlt LN cq hd1 hd2 hp hup hnn
    go_wp2_with (go_at_call 82; refine (unhide HP _ rfl).mono ?_; rintro e w2 ⟨g2, cap2, rfl, hcap, hl2, hb2⟩)
    go_roundw
    case rel =>
     have hll : (l ++ [(p : Int)]).length = l.length + 1 := by simp
     rw [hll] at hl2 hcap
     have hs2 : SI w w.heap.size HI _ w2 (some ⟨g2, 0, none⟩) (l.length + 1) cap2 (l ++ [(p : Int)]) := ⟨hide hll.symm, hsd.sd.put hK (by have := hl2; unfold IL at this; rw [hll] at this; exact this) hb2⟩
     clear hll
     first | exact ⟨k + 1, _, cap2, _, _, by first | rfl | go_num, rfl, by omega, by have := unhide hln; simp; omega, hcap, fun h => by simp at h, EH, hs2⟩ | ((repeat apply Exists.intro); exact ⟨⟨k + 1, _, cap2, _, _, by first | rfl | go_num, rfl, by omega, by have := unhide hln; simp; omega, hcap, fun h => by simp at h, EH, hs2⟩, rfl⟩)
    case measure => simp [intOf]; omega
  ·obtain rfl : k = fs.length := by omega
   go_wp2
   go_ret
   exact hsd.ret (unhide hl) rfl
end Go.Proofs.Ytaeabefbohlcpaa
