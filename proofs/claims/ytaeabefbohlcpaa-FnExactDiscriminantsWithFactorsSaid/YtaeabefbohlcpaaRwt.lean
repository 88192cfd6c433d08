/- Rows on both sides. The row of a discriminant: rowOf, tbRow, RowOf. The row of a discriminant: tbGroup, tbRow. -/
import Derived.Test.YtaeabefbohlcpaaCha
import Derived.Test.YtaeabefbohlcpaaLevel
import Derived.Test.YtaeabefbohlcpaaIvi
import Derived.Test.YtaeabefbohlcpaaIvs
import Derived.Test.YtaeabefbohlcpaaGoo
import Derived.Test.YtaeabefbohlcpaaArI
namespace Go.Proofs.Ytaeabefbohlcpaa
open Go.RowKit
set_option linter.unusedVariables false
set_option linter.unusedSimpArgs false
attribute [local go_sem] q2 q3 q4 q5 q6 q7 q8 q9 q10 q11 q12

end Go.Proofs.Ytaeabefbohlcpaa
namespace Go.Proofs.Ytaeabefbohlcpaa
open Go.RowKit
set_option linter.unusedVariables false
set_option linter.unusedSimpArgs false
attribute [local go_sem] q2 q3 q4 q5 q6 q7 q8 q9 q10 q11 q12

noncomputable def rowFL (d : Int) : List Int := nI (fsL (orL d)).reverse
theorem rowFL_len {d : Int} (hd : negB d = true) : (rowFL d).length ≤ 700 := by
 unfold rowFL
 rw [nI_len, List.length_reverse]
 have hq := os_q hd
 unfold fsL fsK
 rw [List.take_length]
 have key : ∀ (ps : List Nat), (∀ p ∈ ps, p ∈ psL (orL d).length) → ∀ l : List Nat, l.length ≤ 676 → (fsP (orL d) ps l).length ≤ 676 := by
  intro ps
  induction ps with
  | nil => intro _ l hl; exact hl
  | cons p ps ih =>
   intro hp l hl
   refine ih (fun q hq => hp q (by simp [hq])) _ ?_
   have hpm := hp p (by simp)
   have hr : ∀ k, k ≤ exN (orL d).length p → (rnd (orL d) p l k).length ≤ 676 := by
    intro k
    induction k with
    | zero => intro _; exact hl
    | succ k ik =>
     intro hk
     rw [rnd, mulF_len]
     have h1 := hq.ck1 p hpm (k + 1) hk
     have h2 := hq.dv1 p hpm k
     have h3 := ex_le (p := p) (hq.le p hpm).1 h2
     have h4 : cK (orL d) p (k + 1) / cK (orL d) p k ≤ cK (orL d) p (k + 1) := Nat.div_le_self _ _
     have h5 := hq.n2
     have h6 := ik (by omega)
     omega
   exact hr _ (Nat.le_refl _)
 have := key _ (fun p hp => hp) [] (by simp)
 omega
end Go.Proofs.Ytaeabefbohlcpaa
namespace Go.Proofs.Ytaeabefbohlcpaa
open Go.RowKit
set_option linter.unusedVariables false
set_option linter.unusedSimpArgs false
attribute [local go_sem] q2 q3 q4 q5 q6 q7 q8 q9 q10 q11 q12

set_option maxHeartbeats 1000000 in
theorem tbGroup_a (d : Int) (w : World) (hd : negB d = true) : Calls Try.prog 24 #[.int .i64 d] w (RetIL w (rowFL d)) := by
 have hR := rfs hd
 obtain ⟨T, HT⟩ := gtt_T hR
 have HQ := hide (os_q hd)
 have h1 := grTable_a d w hd HT
 have H2 : Hid (∀ (W : World) (g : Nat), tabS W.heap.size g (rfL d).length T W → Calls Try.prog 42 #[.slice (some ⟨g, 0, none⟩) (rfL d).length (rfL d).length] W (RetIL W (orL d))) := hide fun W g hT => grOrders_a d W.heap.size g _ T W hd hT (Nat.le_refl _) (hide rfl) HT
 have H3 : Hid (∀ (W : World) (a : Option Addr) (c lo hi : Nat), hi ≤ W.heap.size → IntsAt W lo hi a (orL d).length (fun i => (orL d).getD i 0) → Calls Try.prog 41 #[.slice a (orL d).length c] W (RetIL W (rowFL d))) := hide fun W a c lo hi h1 h2 => grFactors_a (orL d) a _ c lo hi W (unhide HQ) (hide rfl) h1 h2
 have H1 := hide h1
 clear h1 HT hR HQ
 generalize rowFL d = FL9 at *
 generalize (orL d) = os at *
 generalize (rfL d).length = n9 at *
 go_enter Try.func24, Try.ntmps24
 go_wp2_with fail
 refine ((unhide H1)).mono ?_
 rintro e w1 ⟨g, rfl, hT, hb1⟩
 have hs1 := hb1.size
 have HH := hide hT
 clear hT
 go_wp2_with fail
 refine ((unhide H2) _ _ (unhide HH)).mono ?_
 rintro e w2 ⟨a2, c2, rfl, hl2, hb2⟩
 have hs2 := hb2.size
 have hO2 := hl2.ints.2
 go_wp2_with fail
 refine ((unhide H3) _ _ _ _ _ (Nat.le_refl _) hO2).mono ?_
 rintro e w3 ⟨a3, c3, rfl, hl3, hb3⟩
 have hs3 := hb3.size
 go_wp2
 go_ret
 exact ⟨a3, c3, rfl, hl3.raise (by omega), byGG⟩
end Go.Proofs.Ytaeabefbohlcpaa
