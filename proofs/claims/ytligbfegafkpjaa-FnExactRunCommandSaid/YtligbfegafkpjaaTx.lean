/-
  The marks as texts.
-/
import Derived.Laws.BytesArg
import Derived.Laws.Concat
import Derived.Test.YtligbfegafkpjaaNm
import Derived.Test.YtligbfegafkpjaaRule
import Derived.Test.YtligbfegafkpjaaOwn
namespace Go.Proofs.Ytligbfegafkpjaa
open Go.RowKit
set_option linter.unusedVariables false
set_option linter.unusedSimpArgs false
attribute [local go_sem] q2 q3 q4 q5 q6 q7 q8 q9 q10 q11 q12

def dgT (k : Nat) : ByteArray := strOfNums [48 + (k : Int) % 10]
def mkR (k : Nat) (s : ByteArray) : ByteArray := if h : k = 0 then s else mkR (k / 10) (dgT k ++ s)
termination_by k
decreasing_by omega
theorem mkR_zero (s : ByteArray) : mkR 0 s = s := by rw [mkR]; simp
theorem mkR_next {k : Nat} (s : ByteArray) (h : 0 < k) : mkR k s = mkR (k / 10) (dgT k ++ s) := by rw [mkR, dif_neg (by omega)]
theorem dgT_size (k : Nat) : (dgT k).size = 1 := strOfNums_size _
def mkT (k : Nat) : ByteArray := ⟨#[109]⟩ ++ mkR k ⟨#[]⟩
theorem str_one (w : World) (x : Int) : (convert 85 9 (.slice (some ⟨w.heap.size, 0, none⟩) 1 1)).run Try.prog (w.alloc (.cells #[.int .u8 x] 5)) = .ok (.string (strOfNums [x])) (w.alloc (.cells #[.int .u8 x] 5)) := by
  refine run_convert_bytes_arg _ 85 5 Try.underlying85 Try.underlying5 w.heap.size 0 1 1 [x] rfl ?_ 9 Try.underlying9
  intro i hi
  obtain rfl : i = 0 := by omega
  simp
set_option maxRecDepth 100000 in
set_option maxHeartbeats 2000000 in
theorem markText_a (k : Nat) (w : World) (h0 : 1 ≤ k) (h1 : k ≤ 1000000000) :
    Calls Try.prog 48 #[.int .i64 (k : Int)] w fun e w' => e = .returned (.string (mkT k)) ∧ Below w.heap.size w w' := by
  have kc := str_one
  have hk : ¬ (k : Int) ≤ 0 := by omega
  have HM : Hid (mkT k = ⟨#[109]⟩ ++ mkR k ⟨#[]⟩) := hide rfl
  go_enter Try.func48, Try.ntmps48
  go_wp2
  go_loopw [0, 3] (fun ks ss wr => ∃ (q : Nat) (s : ByteArray), ks = .int .i64 (q : Int) ∧ ss = .string s ∧ Hid (mkR q s = mkR k ⟨#[]⟩) ∧ s.size + q ≤ k ∧ Below w.heap.size w wr) (fun ks _ _ => (intOf ks).toNat)
  case atStart => exact ⟨k, ⟨#[]⟩, rfl, rfl, hide rfl, by show 0 + k ≤ k; omega, byGG⟩
  case round =>
    obtain ⟨q, s, rfl, rfl, HR, hsz, hb⟩ := hrel
    obtain ⟨wl, rfl⟩ : ∃ wl : World, wl = wr := ⟨_, rfl⟩
    have hz := hb.size
    by_cases c : 0 < q
    · have hc : (0 : Int) < (q : Int) := by omega
      have hq : Int.tmod (q : Int) 10 = (q : Int) % 10 := Int.tmod_eq_emod_of_nonneg (by omega)
      have hq2 : Int.tdiv (q : Int) 10 = ((q / 10 : Nat) : Int) := by rw [Int.tdiv_eq_ediv_of_nonneg (by omega)]; omega
      have hm0 : 0 ≤ (q : Int) % 10 := by omega
      have hm1 : (q : Int) % 10 < 10 := by omega
      have ha := fun x : Int => (show ¬ ((strOfNums [x]).size + s.size > 9223372036854775807) by rw [strOfNums_size]; simp only [List.length_cons, List.length_nil]; omega)
      go_wp2
      go_roundw
      case rel => exact ⟨q / 10, dgT q ++ s, by first | rfl | go_num, by first | rfl | (unfold dgT; rfl), hide ((mkR_next s c).symm.trans (unhide HR)), by rw [ByteArray.size_append, dgT_size]; omega, byGG⟩
      case measure => simp [intOf]; omega
    · obtain rfl : q = 0 := by omega
      have hm : mkR k ⟨#[]⟩ = s := by rw [← unhide HR, mkR_zero]
      have ha : ¬ ((⟨#[109]⟩ : ByteArray).size + s.size > 9223372036854775807) := by show ¬ (1 + s.size > 9223372036854775807); omega
      have HM2 : Hid (mkT k = ⟨#[109]⟩ ++ s) := hide (by rw [unhide HM, hm])
      clear hm HR
      go_wp2
      go_ret
      exact ⟨by rw [unhide HM2]; rfl, hb⟩
end Go.Proofs.Ytligbfegafkpjaa
