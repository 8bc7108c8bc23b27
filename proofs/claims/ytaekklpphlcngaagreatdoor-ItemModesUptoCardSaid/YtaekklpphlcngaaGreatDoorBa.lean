/- Plain words of this session: texts as lists of bytes. No program in sight. -/
import Derived.Test.YtaekklpphlcngaaGreatDoorUtf
import Derived.Test.YtaekklpphlcngaaGreatDoorWWords
namespace Go.Proofs.YtaekklpphlcngaaGreatDoor.P
open Go.RowKit Go.Lib Go.Proofs.YtaekklpphlcngaaGreatDoorX Go.Proofs.YtaekklpphlcngaaGreatDoorW.PrintWords
set_option linter.unusedVariables false
set_option linter.unusedSimpArgs false
def ba (l : List UInt8) : ByteArray := ⟨l.toArray⟩
theorem ba_list (l : List UInt8) : (ba l).data.toList = l := by simp [ba]
theorem ba_toList (l : List UInt8) : (ba l).toList = l := by rw [ByteArray.toList_eq]; exact ba_list l
theorem ba_of (s : ByteArray) : ba s.data.toList = s := rfl
theorem ba_size (l : List UInt8) : (ba l).size = l.length := by simp [ba, ByteArray.size]
theorem size_list (s : ByteArray) : s.data.toList.length = s.size := Array.length_toList
theorem ba_append (a b : List UInt8) : ba a ++ ba b = ba (a ++ b) := by
  apply ByteArray.ext
  simp [ba]
theorem ba_extract (l : List UInt8) (i j : Nat) : (ba l).extract i j = ba ((l.take j).drop i) := by
  rw [← ba_of ((ba l).extract i j)]
  congr 1
  simp [ba, List.extract_eq_take_drop, List.take_drop]
  rcases Nat.le_total i j with h | h
  · rw [show i + (j - i) = j from by omega]
  · rw [show j - i = 0 from by omega, Nat.add_zero, List.drop_eq_nil_of_le (by rw [List.length_take]; omega), List.drop_eq_nil_of_le (by rw [List.length_take]; omega)]
theorem wrap_small {x : Int} (h0 : -9223372036854775808 ≤ x) (h1 : x ≤ 9223372036854775807) : wrap64 x = x := by
  unfold wrap64
  omega
theorem index_none (c : UInt8) : ∀ l : List UInt8, c ∉ l → Lib.index l [c] = -1
  | [], _ => rfl
  | b :: l, h => by
    have h1 : b ≠ c := fun e => h (by rw [e]; exact .head _)
    have hp : ([c] : List UInt8).isPrefixOf (b :: l) = false := by simp [List.isPrefixOf, Ne.symm h1]
    rw [Lib.index, hp, index_none c l (fun e => h (.tail _ e))]
    rfl
theorem index_some (c : UInt8) : ∀ (p q : List UInt8), c ∉ p → Lib.index (p ++ c :: q) [c] = p.length
  | [], q, _ => by rw [List.nil_append, Lib.index]; simp [List.isPrefixOf]
  | b :: p, q, h => by
    have h1 : b ≠ c := fun e => h (by rw [e]; exact .head _)
    have hp : ([c] : List UInt8).isPrefixOf (b :: (p ++ c :: q)) = false := by simp [List.isPrefixOf, Ne.symm h1]
    rw [List.cons_append, Lib.index, hp, index_some c p q (fun e => h (.tail _ e))]
    have : (((p.length : Nat) : Int) == -1) = false := by rw [beq_eq_false_iff_ne]; omega
    rw [this]
    simp
theorem cut_none (c : UInt8) (l : List UInt8) (h : c ∉ l) : Lib.cut l [c] = (l, [], false) := by
  unfold Lib.cut
  rw [index_none c l h]
  rfl
theorem cut_some (c : UInt8) (p q : List UInt8) (h : c ∉ p) : Lib.cut (p ++ c :: q) [c] = (p, q, true) := by
  unfold Lib.cut
  rw [index_some c p q h, if_pos (by omega)]
  simp
theorem cut_len (l sep : List UInt8) : (Lib.cut l sep).1.length ≤ l.length ∧ (Lib.cut l sep).2.1.length ≤ l.length := by
  unfold Lib.cut
  split
  · simp only [List.length_take, List.length_drop]; omega
  · simp
end Go.Proofs.YtaekklpphlcngaaGreatDoor.P
