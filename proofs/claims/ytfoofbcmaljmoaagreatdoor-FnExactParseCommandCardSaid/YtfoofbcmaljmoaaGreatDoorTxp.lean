/- Texts, plainly. -/
import Derived.Lib.ItoaLen
import Derived.Lib.AppendIntMem
import Derived.Lib.Strings
import Derived.Laws.Concat
import Derived.Laws.BytesArg
import Derived.Test.YtfoofbcmaljmoaaGreatDoorNum
namespace Go.Proofs.YtfoofbcmaljmoaaGreatDoor
open Go.RowKit
set_option linter.unusedVariables false
set_option linter.unusedSimpArgs false

def tx (l : List UInt8) : ByteArray := ⟨l.toArray⟩
theorem tx_app (a b : List UInt8) : tx a ++ tx b = tx (a ++ b) := ByteArray.mk_append_mk a b
theorem tx_size (a : List UInt8) : (tx a).size = a.length := by simp [tx, ByteArray.size]
theorem tx_of (s : ByteArray) : tx s.data.toList = s := Lib.mk_data s
theorem tx_list (a : List UInt8) : (tx a).data.toList = a := by simp [tx]
theorem vtx (a b : List UInt8) : Value.string (tx a ++ tx b) = Value.string (tx (a ++ b)) := congrArg Value.string (tx_app a b)
theorem itoa_len {x : Int} (h : I64 x) : (Lib.itoa x).length ≤ 21 := Lib.itoa_length_le x h.1 h.2
theorem dg_len {u : Nat} (h : u ≤ 9223372036854775807) : (Lib.decDigits u).length ≤ 20 := by
 rw [Lib.decDigits_length]; exact Lib.nDigits_le20 u (by omega)
def dgb (d : Nat) : UInt8 := UInt8.ofNat (48 + d)
theorem dg_small {u : Nat} (h : u < 10) : Lib.decDigits u = [dgb u] := by rw [Lib.decDigits, dif_pos h]; rfl
theorem dg_next {u q d : Nat} (h : ¬ u < 10) (hq : u / 10 = q) (hd : u % 10 = d) : Lib.decDigits u = Lib.decDigits q ++ [dgb d] := by
 rw [Lib.decDigits, dif_neg h, hq, hd]; rfl
theorem itoa_pos {x : Int} (h : 0 ≤ x) : Lib.itoa x = Lib.decDigits x.toNat := by rw [Lib.itoa, if_neg (by omega)]
theorem itoa_neg' {x : Int} (h : x < 0) : Lib.itoa x = 45 :: Lib.decDigits x.natAbs := by rw [Lib.itoa, if_pos h]
theorem strOne (d : Nat) : strOfNums [48 + (d : Int)] = tx [dgb d] := by
 unfold strOfNums tx dgb
 have e : (48 + (d : Int)).toNat = 48 + d := by omega
 simp [e]
def fmT (a b c : Int) : List UInt8 := [40] ++ Lib.itoa a ++ [44] ++ Lib.itoa b ++ [44] ++ Lib.itoa c ++ [41]
theorem fmT_len {a b c : Int} (h0 : I64 a) (h1 : I64 b) (h2 : I64 c) : (fmT a b c).length ≤ 67 := by
 have := itoa_len h0; have := itoa_len h1; have := itoa_len h2
 unfold fmT
 simp only [List.length_append, List.length_cons, List.length_nil]; omega
end Go.Proofs.YtfoofbcmaljmoaaGreatDoor
