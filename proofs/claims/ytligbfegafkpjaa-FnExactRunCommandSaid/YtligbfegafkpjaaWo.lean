/-
  withoutEntry.
-/
import Derived.Test.YtligbfegafkpjaaFd
namespace Go.Proofs.Ytligbfegafkpjaa
open Go.RowKit
set_option linter.unusedVariables false
set_option linter.unusedSimpArgs false
attribute [local go_sem] q2 q3 q4 q5 q6 q7 q8 q9 q10 q11 q12

/-- The entries among the first k with another name. -/
def woL (E : Nat → Ent) (nm : ByteArray) : Nat → List Ent
  | 0 => []
  | k + 1 => if (E k).n = nm then woL E nm k else woL E nm k ++ [E k]
theorem woL_yes {E : Nat → Ent} {nm : ByteArray} {k : Nat} (h : (E k).n = nm) : woL E nm (k + 1) = woL E nm k := by rw [woL, if_pos h]
theorem woL_no {E : Nat → Ent} {nm : ByteArray} {k : Nat} (h : ¬ (E k).n = nm) : woL E nm (k + 1) = woL E nm k ++ [E k] := by rw [woL, if_neg h]
theorem woL_len (E : Nat → Ent) (nm : ByteArray) : ∀ k, (woL E nm k).length ≤ k
  | 0 => Nat.le_refl _
  | k + 1 => by
    have := woL_len E nm k
    rw [woL]
    split
    · omega
    · rw [List.length_append]; simp only [List.length_cons, List.length_nil]; omega
theorem news_ent {w : World} {B : Nat} {e : Ent} (h : EntAt w B 0 e) : ∀ j u, ([e].flatMap cE)[j]? = some u → w.cell? ((⟨B, 0, none⟩ : Addr).add j) = some u := by
  obtain ⟨c0, c1, c2, c3⟩ := h
  intro j u hu
  have hadd : (⟨B, 0, none⟩ : Addr).add j = ⟨B, j, none⟩ := by unfold Addr.add; split <;> simp_all
  rw [hadd]
  match j, hu with
  | 0, hu => cases hu; exact c0
  | 1, hu => cases hu; exact c1
  | 2, hu => cases hu; exact c2
  | 3, hu => cases hu; exact c3
  | j + 4, hu => cases hu
set_option maxRecDepth 100000 in
set_option maxHeartbeats 4000000 in
theorem withoutEntry_a (g n c : Nat) (E : Nat → Ent) (nm : ByteArray) (w : World) (hr : ∀ i, i < n → EntAt w g (i * 4) (E i)) (hn : n ≤ 2000000) :
    Calls Try.prog 75 #[.slice (some ⟨g, 0, none⟩) n c, .string nm] w fun e w' => ∃ v, e = .returned v ∧ EL w' w.heap.size v (woL E nm n) ∧ Below w.heap.size w w' := by
  have HR := hide hr
  clear hr
  go_enter Try.func75, Try.ntmps75
  go_wp2
  go_loopw [5, 11] (fun ls is wr => ∃ jx : Nat, jx ≤ n ∧ is = .int .i64 (jx : Int) ∧ EL wr w.heap.size ls (woL E nm jx) ∧ Below w.heap.size w wr) (fun _ is _ => n - (intOf is).toNat)
  case atStart => exact ⟨0, by omega, rfl, EL.made _ _ (Nat.le_refl _), byGG⟩
  case round =>
    obtain ⟨jx, hj, rfl, hl, hb⟩ := hrel
    obtain ⟨wl, rfl⟩ : ∃ wl : World, wl = wr := ⟨_, rfl⟩
    have hzl := hb.size
    have hL := woL_len E nm jx
    by_cases q : jx < n
    · have hci : (jx : Int) < (n : Int) := by omega
      obtain ⟨c0, c1, c2, c3⟩ := (unhide HR jx q).below hb
      obtain ⟨en, hen⟩ : ∃ s, s = (E jx).n := ⟨_, rfl⟩
      obtain ⟨x, hx⟩ : ∃ x, x = (E jx).f.1 := ⟨_, rfl⟩
      obtain ⟨y, hy⟩ : ∃ x, x = (E jx).f.2.1 := ⟨_, rfl⟩
      obtain ⟨z, hz⟩ : ∃ x, x = (E jx).f.2.2 := ⟨_, rfl⟩
      have hE : E jx = ⟨en, (x, y, z)⟩ := by rw [hen, hx, hy, hz]
      rw [← hen] at c0
      rw [← hx] at c1
      rw [← hy] at c2
      rw [← hz] at c3
      by_cases k : en = nm
      · have EQ : Hid (woL E nm (jx + 1) = woL E nm jx) := hide (woL_yes (by rw [← hen]; exact k))
        have kb : (en.toList == nm.toList) = true := by rw [k]; simp
        clear hx hy hz hen k hE
        go_wp2
        go_roundw
        case rel => exact ⟨jx + 1, by omega, by first | rfl | go_num, by rw [unhide EQ]; exact hl.alloc _, byGG⟩
        case measure => simp [intOf]; omega
      · have EQ : Hid (woL E nm (jx + 1) = woL E nm jx ++ [⟨en, (x, y, z)⟩]) := hide (by rw [← hE]; exact woL_no (by rw [← hen]; exact k))
        have kb : (en.toList == nm.toList) = false := by
          rw [beq_eq_false_iff_ne]
          exact fun h => k (bytes_toList h)
        clear hx hy hz hen k hE
        obtain ⟨av, cv, rfl⟩ := hl.form
        have hlt0 := hl.lt
        go_wp2_with (at_builtin; refine app_ents _ rfl (.tmp 19) (.tmp 21) rfl w.heap.size (.slice av (woL E nm jx).length cv) (woL E nm jx) [⟨en, (x, y, z)⟩] ⟨wl.heap.size + 1, 0, none⟩ 1 rfl rfl ((hl.alloc _).alloc _) (news_ent ⟨byCT, byCT, byCT, byCT⟩) (by simp; omega) (by simp; omega) ?_; intro v' w2 hown hgrow hat)
        go_roundw
        case rel => exact ⟨jx + 1, by omega, by first | rfl | go_num, by rw [unhide EQ]; exact hown, Below.grown ((hb.alloc hzl _).alloc (by simp; omega) _) hgrow (by simp; omega) (fun k hk => (hlt0 k hk).1)⟩
        case measure => simp [intOf]; omega
    · obtain rfl : jx = n := by omega
      go_wp2
      go_ret
      exact ⟨_, rfl, hl, hb⟩
end Go.Proofs.Ytligbfegafkpjaa
