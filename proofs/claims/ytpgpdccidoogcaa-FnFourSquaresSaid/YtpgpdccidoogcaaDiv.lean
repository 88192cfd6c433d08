/-
  The walks of impl.divisors and spec.nuDivisors, of DivisorCount on both sides, and the law's walk.
-/
import Derived.Test.YtpgpdccidoogcaaRoot
import Derived.Test.YtpgpdccidoogcaaConv
import Derived.Test.YtpgpdccidoogcaaList
namespace Go.Proofs.Ytpgpdccidoogcaa
open Go.RowKit
set_option linter.unusedVariables false
set_option linter.unusedSimpArgs false

def lowN (n : Nat) : Nat → List Int
  | 0 => []
  | k + 1 => if n % (k + 1) = 0 then lowN n k ++ [((k + 1 : Nat) : Int)] else lowN n k
def highN (n : Nat) : Nat → List Int
  | 0 => []
  | k + 1 => if n % (k + 1) = 0 then (if (k + 1) * (k + 1) = n then highN n k else highN n k ++ [((n / (k + 1) : Nat) : Int)]) else highN n k
/-- The divisors of n, increasing. -/
def divsN (n : Nat) : List Int := lowN n (isqN n) ++ (highN n (isqN n)).reverse
theorem lowN_len (n k : Nat) : (lowN n k).length ≤ k := by
  induction k with
  | zero => simp [lowN]
  | succ k ih => simp only [lowN]; split <;> (try simp) <;> omega
theorem highN_len (n k : Nat) : (highN n k).length ≤ k := by
  induction k with
  | zero => simp [highN]
  | succ k ih => simp only [highN]; split <;> (try split) <;> (try simp) <;> omega
theorem divsN_len (n : Nat) : (divsN n).length ≤ 2 * isqN n := by
  have := lowN_len n (isqN n)
  have := highN_len n (isqN n)
  simp [divsN]; omega
theorem lowN_mem {n k : Nat} {z : Int} (h : z ∈ lowN n k) : 0 < z ∧ z ≤ k := by
  induction k with
  | zero => simp [lowN] at h
  | succ k ih =>
    simp only [lowN] at h
    split at h
    · rw [List.mem_append] at h
      rcases h with h | h
      · have := ih h; omega
      · simp at h; omega
    · have := ih h; omega
theorem highN_mem {n k : Nat} {z : Int} (h : z ∈ highN n k) : 0 ≤ z ∧ z ≤ n := by
  induction k with
  | zero => simp [highN] at h
  | succ k ih =>
    simp only [highN] at h
    split at h
    · split at h
      · exact ih h
      · rw [List.mem_append] at h
        rcases h with h | h
        · exact ih h
        · simp only [List.mem_singleton] at h
          have := Nat.div_le_self n (k + 1)
          rw [h]
          exact ⟨Int.natCast_nonneg _, Int.ofNat_le.2 this⟩
    · exact ih h
theorem divsN_mem {n : Nat} {z : Int} (h : z ∈ divsN n) : 0 ≤ z ∧ z ≤ n := by
  unfold divsN at h
  rw [List.mem_append, List.mem_reverse] at h
  rcases h with h | h
  · have := lowN_mem h
    have := isqN_le_self n
    omega
  · exact highN_mem h
theorem rev_drop {H : List Int} {j : Nat} (h : j < H.length) : (H.drop j).reverse = (H.drop (j + 1)).reverse ++ [H[j]] := by
  rw [List.drop_eq_getElem_cons h, List.reverse_cons]

/-- The test of a divisor, spelled as the walk spells it. -/
theorem mod_int {j k : Nat} (n : Nat) (h : j = k + 1) : (n : Int) % (j : Int) = ((n % (k + 1) : Nat) : Int) := by
  rw [h, Int.natCast_emod]
theorem div_int {j k : Nat} (n : Nat) (h : j = k + 1) : (n : Int) / (j : Int) = ((n / (k + 1) : Nat) : Int) := by
  rw [h, Int.natCast_ediv]
theorem sq_int {j k : Nat} (h : j = k + 1) : (j : Int) * (j : Int) = (((k + 1) * (k + 1) : Nat) : Int) := by
  rw [h, Int.natCast_mul]

/-! two own lists in blocks apart -/
theorem ne_own {a b : Option Addr} {n m c d : Nat} (h : ∀ x y, a = some x → b = some y → x.block ≠ y.block) : (Value.slice b m d).ownBlock = none ∨ (Value.slice b m d).ownBlock ≠ (Value.slice a n c).ownBlock := by
  cases b with
  | none => exact .inl rfl
  | some y =>
    right
    cases a with
    | none => simp [Value.ownBlock]
    | some x => simp only [Value.ownBlock, ne_eq, Option.some.injEq]; exact fun e => h x y rfl rfl e.symm
theorem ne_new {a b : Option Addr} {n m c d : Nat} {w : World} {lo g : Nat} {zs us : List Int} (h : ∀ x y, a = some x → b = some y → x.block ≠ y.block) (hl : IL w lo (.slice a n c) zs) (hh : IL w lo (.slice b m d) us)
    (hat : (Value.slice a n c).ownBlock = some g ∨ g = w.heap.size + 1) : ∀ x y, some (⟨g, 0, none⟩ : Addr) = some x → b = some y → x.block ≠ y.block := by
  intro x y h1 h2
  cases h1
  subst h2
  have hlt := (hh.lt y.block rfl).2
  rcases hat with hat | hat
  · cases a with
    | none => simp [Value.ownBlock] at hat
    | some z => simp only [Value.ownBlock, Option.some.injEq] at hat; have := h z y rfl rfl; show g ≠ _; omega
  · show g ≠ _; omega
theorem own_ge {w : World} {lo : Nat} {v : Value} {zs : List Int} (hl : IL w lo v zs) : ∀ k, v.ownBlock = some k → lo ≤ k := fun k hk => (hl.lt k hk).1

set_option maxRecDepth 100000 in
set_option maxHeartbeats 4000000 in
theorem implDivisors_any (n : Nat) (w : World) (hn : n ≤ 1000000) (h1 : 1 ≤ n) :
    Calls Try.prog 33 #[.int .i64 (n : Int)] w fun e w' => ∃ a c, e = .returned (.slice a (divsN n).length c) ∧ IL w' w.heap.size (.slice a (divsN n).length c) (divsN n) ∧ Below w.heap.size w w' := by
  have hq9 : isqN n ≤ 1000 := by
    by_cases c : isqN n ≤ 1000
    · exact c
    · have := (isqN_spec n).1
      have := Nat.mul_le_mul (show 1001 ≤ isqN n by omega) (show 1001 ≤ isqN n by omega)
      omega
  go_enter Try.func33, Try.ntmps33
  go_wp2
  go_loopw [3, 4, 5] (fun ls hs ks wr => ∃ (j k : Nat) (a b : Option Addr) (c d : Nat), j = k + 1 ∧ k ≤ isqN n ∧ ks = .int .i64 (j : Int) ∧ ls = .slice a (lowN n k).length c ∧ hs = .slice b (highN n k).length d ∧
    IL wr w.heap.size (.slice a (lowN n k).length c) (lowN n k) ∧ IL wr w.heap.size (.slice b (highN n k).length d) (highN n k) ∧ (∀ x y, a = some x → b = some y → x.block ≠ y.block) ∧ Below w.heap.size w wr) (fun _ _ ks _ => isqN n + 2 - (intOf ks).toNat)
  case atStart => exact ⟨1, 0, some ⟨w.heap.size, 0, none⟩, some ⟨w.heap.size + 1, 0, none⟩, 0, 0, rfl, by omega, rfl, rfl, rfl, (IL.made w _ (Nat.le_refl _)).alloc _, by have := IL.made (w.alloc (.cells #[] 3)) w.heap.size (by simp); simpa [highN] using this, by intro x y h1 h2; cases h1; cases h2; simp, ((Below.refl _ _).alloc (Nat.le_refl _) _).alloc (by simp) _⟩
  case round =>
    obtain ⟨j, k, a, b, c, d, hj, hk, rfl, rfl, rfl, hl, hh, hab, hbel⟩ := hrel
    have HJ := hide hj
    have hj9 : j ≤ 1001 := by omega
    have hj1 : 1 ≤ j := by omega
    obtain ⟨w1, rfl⟩ : ∃ w1 : World, w1 = wr := ⟨_, rfl⟩
    have hz := hbel.size
    have l1 := lowN_len n k
    have l2 := highN_len n k
    by_cases c1 : k < isqN n
    · have hq := isqN_sq_le (show k + 1 ≤ isqN n by omega)
      have hs := sq_int hj
      have hs1 : (j : Int) * (j : Int) ≤ (n : Int) := by omega
      have hs0 : 0 ≤ (j : Int) * (j : Int) := Int.mul_nonneg (by omega) (by omega)
      have HS := hide hs
      have hm := mod_int n hj
      have hd := div_int n hj
      have HD := hide hd
      have hd0 : 0 ≤ (n : Int) / (j : Int) := by rw [hd]; exact Int.natCast_nonneg _
      have hd1 : (n : Int) / (j : Int) ≤ (n : Int) := by rw [hd]; exact Int.ofNat_le.2 (Nat.div_le_self _ _)
      clear hs hd hj
      by_cases c2 : n % (k + 1) = 0
      · have hm1 : ((n : Int) % (j : Int) != 0) = false := by rw [hm, c2]; rfl
        have HM := hide hm
        clear hm
        by_cases c3 : (k + 1) * (k + 1) = n
        · have hs2 : ((j : Int) * (j : Int) != (n : Int)) = false := by rw [unhide HS, c3]; simp
          have el : lowN n (k + 1) = lowN n k ++ [(j : Int)] := by rw [unhide HJ]; simp [lowN, c2]
          have eh : highN n (k + 1) = highN n k := by simp [highN, c2, c3]
          have EL := hide el
          have EH := hide eh
          have C2 := hide c2
          have C3 := hide c3
          clear el eh c2 c3
          go_wp2_with (at_builtin; refine app_int _ rfl (.tmp 20) (.tmp 22) rfl w.heap.size (.slice a (lowN n k).length c) (lowN n k) (j : Int) w1.heap.size rfl rfl (hl.alloc _) (by simp) (by omega) (by simp; omega) ?_; intro g cap w2 hown hgrow hat hlt)
          have hat' : (Value.slice a (lowN n k).length c).ownBlock = some g ∨ g = w1.heap.size + 1 := by simpa using hat
          have hh2 : IL w2 w.heap.size (.slice b (highN n k).length d) (highN n k) := (hh.alloc _).kept hgrow (ne_own hab)
          go_roundw
          case rel =>
            refine ⟨j + 1, k + 1, some ⟨g, 0, none⟩, b, cap, d, by rw [unhide HJ], by omega, by go_num, ?_, ?_, ?_, ?_, ?_, ?_⟩
            · rw [unhide EL]; simp
            · rw [unhide EH]
            · rw [unhide EL, List.length_append]; exact hown
            · rw [unhide EH]; exact hh2
            · exact ne_new hab hl hh hat'
            · exact (hbel.alloc hz _).grown hgrow (by simp; omega) (own_ge hl)
          case measure => have := unhide HJ; simp [intOf]; omega
        · have hs2 : ((j : Int) * (j : Int) != (n : Int)) = true := by rw [unhide HS, bne_iff_ne]; omega
          have el : lowN n (k + 1) = lowN n k ++ [(j : Int)] := by rw [unhide HJ]; simp [lowN, c2]
          have eh : highN n (k + 1) = highN n k ++ [((n / (k + 1) : Nat) : Int)] := by simp [highN, c2, c3]
          have EL := hide el
          have EH := hide eh
          have C2 := hide c2
          have C3 := hide c3
          clear el eh c2 c3
          go_wp2_with (first
            | (at_builtin; refine app_int _ rfl (.tmp 20) (.tmp 22) rfl w.heap.size (.slice a (lowN n k).length c) (lowN n k) (j : Int) w1.heap.size rfl rfl (hl.alloc _) (by simp) (by omega) (by simp; omega) ?_; intro g cap w2 hown hgrow hat hlt; have hat' : (Value.slice a (lowN n k).length c).ownBlock = some g ∨ g = w1.heap.size + 1 := (by simpa using hat); have hh2 : IL w2 w.heap.size (.slice b (highN n k).length d) (highN n k) := (hh.alloc _).kept hgrow (ne_own hab); have hne := ne_new hab hl hh hat'; have hbel2 := (hbel.alloc hz (.cells #[.int .i64 (j : Int)] 3)).grown hgrow (by simp; omega) (own_ge hl); have hz2 := hbel2.size; clear hgrow hat hat')
            | (at_builtin; refine app_int _ rfl (.tmp 29) (.tmp 33) rfl w.heap.size (.slice b (highN n k).length d) (highN n k) ((n : Int) / (j : Int)) w2.heap.size rfl rfl (hh2.alloc _) (by simp) (by omega) (by simp; omega) ?_; intro g2 cap2 w3 hown2 hgrow2 hat2 hlt2))
          have hat2' : (Value.slice b (highN n k).length d).ownBlock = some g2 ∨ g2 = w2.heap.size + 1 := by simpa using hat2
          have hl2 : IL w3 w.heap.size (.slice (some ⟨g, 0, none⟩) ((lowN n k).length + 1) cap) (lowN n k ++ [(j : Int)]) := (hown.alloc _).kept hgrow2 (ne_own (fun x y h1 h2 => (hne y x h2 h1).symm))
          have hne2 := ne_new (fun x y h1 h2 => (hne y x h2 h1).symm) hh2 hown hat2'
          go_roundw
          case rel =>
            refine ⟨j + 1, k + 1, some ⟨g, 0, none⟩, some ⟨g2, 0, none⟩, cap, cap2, by rw [unhide HJ], by omega, by go_num, ?_, ?_, ?_, ?_, ?_, ?_⟩
            · rw [unhide EL]; simp
            · rw [unhide EH]; simp
            · rw [unhide EL, List.length_append]; exact hl2
            · rw [unhide EH, List.length_append, ← unhide HD]; exact hown2
            · intro x y h1 h2; exact (hne2 y x h2 h1).symm
            · exact (hbel2.alloc hz2 _).grown hgrow2 (by simp; omega) (own_ge hh2)
          case measure => have := unhide HJ; simp [intOf]; omega
      · have hm1 : ((n : Int) % (j : Int) != 0) = true := by rw [hm, bne_iff_ne]; omega
        have el : lowN n (k + 1) = lowN n k := by simp [lowN, c2]
        have eh : highN n (k + 1) = highN n k := by simp [highN, c2]
        have EL := hide el
        have EH := hide eh
        have HM := hide hm
        have C2 := hide c2
        clear el eh c2 hm
        go_wp2
        go_roundw
        case rel => exact ⟨j + 1, k + 1, a, b, c, d, by rw [unhide HJ], by omega, by go_num, by rw [unhide EL], by rw [unhide EH], by rw [unhide EL]; exact hl, by rw [unhide EH]; exact hh, hab, hbel⟩
        case measure => have := unhide HJ; simp [intOf]; omega
    · have hk2 : k = isqN n := by omega
      have hq : ¬ (k + 1) * (k + 1) ≤ n := fun h => c1 (by have := isqN_mono_sq h; omega)
      have hs := sq_int hj
      have hq3 : (k + 1) * (k + 1) ≤ 1001 * 1001 := Nat.mul_le_mul (by omega) (by omega)
      have hs1 : (n : Int) < (j : Int) * (j : Int) := by omega
      have hs2 : (j : Int) * (j : Int) ≤ 1002001 := by omega
      have HS := hide hs
      have HK := hide hk2
      clear hs hk2 hq hq3 hj
      go_wp2
      go_loopw [3, 6] (fun ls is wx => ∃ (t : Nat) (a' : Option Addr) (c' : Nat) (L : List Int), t ≤ (highN n k).length ∧ is = .int .i64 ((t : Int) - 1) ∧ L = lowN n k ++ ((highN n k).drop t).reverse ∧ ls = .slice a' L.length c' ∧
        IL wx w.heap.size (.slice a' L.length c') L ∧ IL wx w.heap.size (.slice b (highN n k).length d) (highN n k) ∧ (∀ x y, a' = some x → b = some y → x.block ≠ y.block) ∧ Below w.heap.size w wx) (fun _ is _ => (intOf is + 1).toNat)
      case atStart =>
        exact ⟨(highN n k).length, a, c, lowN n k, Nat.le_refl _, rfl, by simp, rfl, hl, hh, hab, hbel⟩
      case round =>
        obtain ⟨t, a', c', L, ht, rfl, hL, rfl, hl', hh', hab', hbel'⟩ := hrel
        obtain ⟨w2, rfl⟩ : ∃ w2 : World, w2 = wr := ⟨_, rfl⟩
        have hz' := hbel'.size
        have HL := hide hL
        clear hL
        by_cases c5 : 0 < t
        · obtain ⟨i, rfl⟩ : ∃ i, t = i + 1 := ⟨t - 1, by omega⟩
          have hi : i < (highN n k).length := by omega
          obtain ⟨_, hI⟩ := hh'.ints
          rcases hI with hI | ⟨g, cp, F, rfl, _, _, hcp, hrow, hF⟩
          · omega
          · have hcell := hrow.cell (i := i) (by omega)
            rw [hF i hi] at hcell
            have hcell : w2.cell? ⟨g, i, none⟩ = some (.int .i64 ((highN n k).getD i 0)) := hcell
            have hg0 : (highN n k).getD i 0 = (highN n k)[i] := by rw [List.getD_eq_getElem?_getD, List.getElem?_eq_getElem hi]; rfl
            rw [hg0] at hcell
            have hLl : L.length ≤ 1000000000 := by rw [unhide HL]; simp; omega
            have ei : ((i + 1 : Nat) : Int) - 1 = (i : Int) := by omega
            have hi9 : (i : Int) < 2000 := by omega
            rw [ei]
            have EI := hide ei
            clear ei
            go_wp2_with (at_builtin; refine app_int _ rfl (.tmp 42) (.tmp 47) rfl w.heap.size (.slice a' L.length c') L ((highN n k)[i]) w2.heap.size rfl rfl (hl'.alloc _) (by simp) (by omega) (by simp; omega) ?_; intro g2 cap2 w3 hown2 hgrow2 hat2 hlt2)
            have hat2' : (Value.slice a' L.length c').ownBlock = some g2 ∨ g2 = w2.heap.size + 1 := by simpa using hat2
            have hh2 := (hh'.alloc (.cells #[.int .i64 ((highN n k)[i])] 3)).kept hgrow2 (ne_own hab')
            go_roundw
            case rel =>
              refine ⟨i, some ⟨g2, 0, none⟩, cap2, L ++ [(highN n k)[i]], by omega, rfl, ?_, by simp, by rw [List.length_append]; exact hown2, hh2, ne_new hab' hl' hh' hat2', (hbel'.alloc hz' _).grown hgrow2 (by simp; omega) (own_ge hl')⟩
              rw [unhide HL, rev_drop hi, List.append_assoc]
            case measure => first | (simp [intOf]; done) | (simp [intOf]; omega)
        · have ht0 : t = 0 := by omega
          subst ht0
          have hfin : divsN n = L := by rw [unhide HL, List.drop_zero, unhide HK]; rfl
          have HF := hide hfin
          clear hfin
          go_wp2
          go_ret
          rw [unhide HF]
          exact ⟨a', c', rfl, hl', hbel'⟩

/-- How many of the first k divisors leave r modulo m. -/
def cm (L : List Int) (r m : Int) (k : Nat) : Int := sumN (fun i => if L.getD i 0 % m = r then 1 else 0) k
theorem cm_bd (L : List Int) (r m : Int) (k : Nat) : 0 ≤ cm L r m k ∧ cm L r m k ≤ k := by
  unfold cm
  refine ⟨sumN_nonneg (fun i _ => by split <;> omega), ?_⟩
  have := sumN_le (h := fun i => if L.getD i 0 % m = r then (1 : Int) else 0) (g := fun _ => 1) (n := k) (fun i _ => by
    show (if L.getD i 0 % m = r then (1 : Int) else 0) ≤ 1
    split <;> omega)
  rw [sumN_const] at this
  omega
theorem getD_mem {L : List Int} {i : Nat} (h : i < L.length) : L.getD i 0 ∈ L := by
  rw [List.getD_eq_getElem?_getD, List.getElem?_eq_getElem h]; exact List.getElem_mem h
def dcOk (n r m : Int) : Bool := inB n 1 10000 && inB m 1 100 && inB r 0 (m - 1)
def dcV (n r m : Int) : Int := if dcOk n r m then cm (divsN n.toNat) r m (divsN n.toNat).length else 0
theorem dc_no {n r m : Int} (h : dcOk n r m = false) : dcV n r m = 0 := by simp [dcV, h]
theorem dc_yes {n : Nat} {r m : Int} (h : dcOk (n : Int) r m = true) : dcV (n : Int) r m = cm (divsN n) r m (divsN n).length := by simp [dcV, h]
theorem cm_step {L : List Int} {r m z : Int} {k : Nat} {b : Bool} {v : Int} (hz : L.getD k 0 = z) (h : (z % m == r) = b) (hv : v = cm L r m k + (if b then 1 else 0)) : Value.int .i64 v = .int .i64 (cm L r m (k + 1)) := by
  rw [hv, ← h]
  show _ = Value.int .i64 (cm L r m k + (if L.getD k 0 % m = r then 1 else 0))
  rw [hz]
  congr 2
  simp only [beq_iff_eq]

set_option maxRecDepth 100000 in
set_option maxHeartbeats 2000000 in
theorem implDivisorCount_any (n r m : Int) (w : World) :
    Calls Try.prog 11 #[.int .i64 n, .int .i64 r, .int .i64 m] w fun e w' => e = .returned (.tuple #[.int .i64 (dcV n r m), .bool (dcOk n r m)]) ∧ Below w.heap.size w w' := by
  cases h : dcOk n r m
  · rw [dc_no h]
    have h1 : ¬ (1 ≤ n ∧ n ≤ 10000 ∧ 1 ≤ m ∧ m ≤ 100 ∧ 0 ≤ r ∧ r ≤ m - 1) := by intro c; simp [dcOk, inB] at h; omega
    go_enter Try.func11, Try.ntmps11
    by_cases k1 : n < 1
    · go_wp2
      go_ret2
      exact ⟨rfl, Below.refl _ _⟩
    · by_cases k2 : 10000 < n
      · go_wp2
        go_ret2
        exact ⟨rfl, Below.refl _ _⟩
      · by_cases k3 : m < 1
        · go_wp2
          go_ret2
          exact ⟨rfl, Below.refl _ _⟩
        · by_cases k4 : 100 < m
          · go_wp2
            go_ret2
            exact ⟨rfl, Below.refl _ _⟩
          · by_cases k5 : r < 0
            · go_wp2
              go_ret2
              exact ⟨rfl, Below.refl _ _⟩
            · have k6 : m ≤ r := by omega
              clear h1
              go_wp2
              go_ret2
              exact ⟨rfl, Below.refl _ _⟩
  · have hb1 : inB n 1 10000 = true := by simp [dcOk] at h; exact h.1.1
    have hb2 : inB m 1 100 = true := by simp [dcOk] at h; exact h.1.2
    have hb3 : inB r 0 (m - 1) = true := by simp [dcOk] at h; exact h.2
    obtain ⟨h0, h1⟩ := inB_true hb1
    obtain ⟨h2, h3⟩ := inB_true hb2
    obtain ⟨h4, h5⟩ := inB_true hb3
    obtain ⟨N, rfl⟩ := Int.eq_ofNat_of_zero_le (by omega : 0 ≤ n)
    rw [dc_yes h]
    have hl := divsN_len N
    have hq := isqN_le_self N
    go_enter Try.func11, Try.ntmps11
    go_wp2_with (first | (go_at_call 33; refine (implDivisors_any N _ (by omega) (by omega)).mono ?_; rintro e w1 ⟨a, c, rfl, hil, hbel⟩))
    obtain ⟨_, hI⟩ := hil.ints
    clear hil
    generalize hD : divsN N = D at *
    have hmem : ∀ i, i < D.length → 0 ≤ D.getD i 0 ∧ D.getD i 0 ≤ N := fun i hi => by rw [← hD]; exact divsN_mem (getD_mem (by rw [hD]; exact hi))
    have HM := hide hmem
    have HD := hide hD
    clear hmem hD
    have hDl : D.length ≤ 20000 := by omega
    go_loop [8, 37] (fun cs ks => ∃ k : Nat, k ≤ D.length ∧ ks = .int .i64 (k : Int) ∧ cs = .int .i64 (cm D r m k)) (fun _ ks => D.length - (intOf ks).toNat)
    case atStart => exact ⟨0, by omega, rfl, rfl⟩
    case round =>
      obtain ⟨k, hk, rfl, rfl⟩ := hrel
      have hcb := cm_bd D r m k
      by_cases c : k < D.length
      · have hci : (k : Int) < (D.length : Int) := by omega
        obtain ⟨g0, g1⟩ := unhide HM k c
        rcases hI with hI | ⟨g, cp, F, rfl, _, _, hcp, hrow, hF⟩
        · omega
        · have hcell0 := hrow.cell (i := k) (by omega)
          rw [hF k c] at hcell0
          have hcell : w1.cell? ⟨g, k, none⟩ = some (.int .i64 (D.getD k 0)) := hcell0
          clear hcell0
          generalize hZ : D.getD k 0 = z at *
          have HZ := hide hZ
          clear hZ hrow hF
          go_wp2
          all_goals
            go_round
            case rel => exact ⟨k + 1, by omega, by go_num, cm_step (unhide HZ) (by assumption) (by simp)⟩
            case measure => simp [intOf]; omega
      · have hk2 : k = D.length := by omega
        have HK := hide hk2
        clear hk2
        go_wp2
        go_ret2
        exact ⟨ret_ib (by rw [unhide HK]; first | rfl | (rw [unhide HD]; done)) rfl, hbel⟩

end Go.Proofs.Ytpgpdccidoogcaa
