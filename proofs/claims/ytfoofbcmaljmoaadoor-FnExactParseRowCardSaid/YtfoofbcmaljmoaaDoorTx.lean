/-
  The marks as texts.
-/
import Derived.Laws.BytesArg
import Derived.Laws.Concat
import Derived.Test.YtfoofbcmaljmoaaDoorNm
import Derived.Test.YtfoofbcmaljmoaaDoorRule
import Derived.Test.YtfoofbcmaljmoaaDoorOwn
namespace Go.Proofs.YtfoofbcmaljmoaaDoor
open Go.RowKit
set_option linter.unusedVariables false
set_option linter.unusedSimpArgs false
attribute [local go_sem] q2 q3 q4 q5 q6 q7 q8 q9 q10 q11 q12

def dgT (k : Nat) : ByteArray := strOfNums [48 + (k : Int) % 10]
def mkR (k : Nat) (s : ByteArray) : ByteArray := if h : k = 0 then s else mkR (k / 10) (dgT k ++ s)
termination_by k
decreasing_by omega
theorem mkR_zero (s : ByteArray) : mkR 0 s = s := by rw [mkR]; simp
theorem mkR_next {k : Nat} (s : ByteArray) (h : 0 < k) : mkR k s = mkR (k / 10) (dgT k ++ s) := by rw [mkR, dif_neg (by omega)]
theorem dgT_size (k : Nat) : (dgT k).size = 1 := strOfNums_size _
def mkT (k : Nat) : ByteArray := ⟨#[109]⟩ ++ mkR k ⟨#[]⟩
theorem str_one (w : World) (x : Int) : (convert 54 9 (.slice (some ⟨w.heap.size, 0, none⟩) 1 1)).run Tryd.prog (w.alloc (.cells #[.int .u8 x] 5)) = .ok (.string (strOfNums [x])) (w.alloc (.cells #[.int .u8 x] 5)) := by
  refine run_convert_bytes_arg _ 54 5 Tryd.underlying54 Tryd.underlying5 w.heap.size 0 1 1 [x] rfl ?_ 9 Tryd.underlying9
  intro i hi
  obtain rfl : i = 0 := by omega
  simp
end Go.Proofs.YtfoofbcmaljmoaaDoor
