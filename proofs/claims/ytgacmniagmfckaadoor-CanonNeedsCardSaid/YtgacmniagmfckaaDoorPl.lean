/- Plain words of this session: the characters of a text, over the kit's own decoder. No program in sight. -/
import Derived.Lib.ValidU
import Derived.Lib.ValidLaws
import Derived.Lib.MapLaws
import Derived.Lib.TrimUEq
import Derived.Laws.IdiomStrings
namespace Go.Proofs.YtgacmniagmfckaaDoorX
open Go.Lib
def runesN : Nat → List UInt8 → List Int
  | 0, _ => []
  | n + 1, l => if l = [] then [] else ((decodeL l).1 : Int) :: runesN n (l.drop (decodeL l).2)
def runesI (s : ByteArray) : List Int := runesN s.size s.data.toList
theorem runesN_len : ∀ n l, (runesN n l).length ≤ n
  | 0, _ => by simp [runesN]
  | n + 1, l => by
    unfold runesN
    split
    · simp
    · have := runesN_len n (l.drop (decodeL l).2)
      simp; omega
theorem runesI_len (s : ByteArray) : (runesI s).length ≤ s.size := runesN_len _ _
theorem runesFrom_eq (s : ByteArray) : ∀ n i (acc : Array Value), Conv.runesFrom s n i acc = acc ++ ((runesN n (s.data.toList.drop i)).map fun x => Value.int .i32 x).toArray
  | 0, i, acc => by simp [Conv.runesFrom, runesN]
  | n + 1, i, acc => by
    unfold Conv.runesFrom runesN
    have hlen : s.data.toList.length = s.size := Array.length_toList
    by_cases h : i < s.size
    · have hne : s.data.toList.drop i ≠ [] := by
        intro e
        have := congrArg List.length e
        rw [List.length_drop, hlen] at this
        simp only [List.length_nil] at this; omega
      rw [if_pos h, if_neg hne]
      simp only []
      rw [runesFrom_eq s n, decodeL_drop, List.drop_drop]
      simp
    · have he : s.data.toList.drop i = [] := List.drop_eq_nil_of_le (by rw [hlen]; omega)
      rw [if_neg h, if_pos he]
      simp
theorem runes_conv (s : ByteArray) : Conv.runesFrom s s.size 0 #[] = ((runesI s).map fun x => Value.int .i32 x).toArray := by
  rw [runesFrom_eq]
  simp [runesI]
def mayB (c : Int) : Bool := c == 9 || c == 10 || c == 13 || (decide (32 ≤ c) && decide (c ≤ 65533)) || (decide (65536 ≤ c) && decide (c ≤ 1114111))
def validT (s : ByteArray) : Bool := validD s.data.toList && (runesI s).all mayB
end Go.Proofs.YtgacmniagmfckaaDoorX
