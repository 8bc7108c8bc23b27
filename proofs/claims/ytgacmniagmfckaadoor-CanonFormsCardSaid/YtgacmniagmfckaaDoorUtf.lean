/- Plain words of this session: characters written as bytes, and read again. No program in sight. -/
import Derived.Test.YtgacmniagmfckaaDoorPl
import Derived.Lib.DecodeN
import Derived.Lib.RuneBytes
import Derived.Lib.SplitLaws
import Derived.RowKit
namespace Go.Proofs.YtgacmniagmfckaaDoorX
open Go.Lib
def scal (c : Int) : Prop := 0 ≤ c ∧ c ≤ 1114111 ∧ (c < 55296 ∨ 57344 ≤ c)
def enc (c : Int) : List UInt8 := (Utf8.encode c).data.toList
theorem decode_scal (l : List UInt8) : scal ((decodeL l).1 : Int) := by
  rw [decodeL_N]
  unfold decodeN scal
  have b0 := (l.getD 0 0).toNat_lt
  have b1 := (l.getD 1 0).toNat_lt
  have b2 := (l.getD 2 0).toNat_lt
  have b3 := (l.getD 3 0).toNat_lt
  repeat' split
  all_goals (simp only; omega)
theorem w64 {x : Int} (h0 : -9223372036854775808 ≤ x) (h1 : x ≤ 9223372036854775807) : Go.RowKit.wrap64 x = x := by
  unfold Go.RowKit.wrap64
  omega
end Go.Proofs.YtgacmniagmfckaaDoorX
