/- Plain words of this session: characters written as bytes, and read again. No program in sight. -/
import Derived.Test.YtgacmniagmfckaaDoorPl
import Derived.Lib.DecodeN
import Derived.Lib.RuneBytes
import Derived.Lib.SplitLaws
import Derived.RowKit
namespace Go.Proofs.YtgacmniagmfckaaDoorX
open Go.Lib
def enc (c : Int) : List UInt8 := (Utf8.encode c).data.toList
end Go.Proofs.YtgacmniagmfckaaDoorX
