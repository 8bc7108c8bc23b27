/- canon in plain words: what nodes lie in a node, and flat trees: they are right, and what they are as a file. -/
import Derived.Test.YtgacmniagmfckaaDoorEscC
import Derived.Test.YtgacmniagmfckaaDoorRefV
namespace Go.Proofs.YtgacmniagmfckaaDoor.P
open Go.RowKit Go.Lib Go.Proofs.YtgacmniagmfckaaDoorX Go.Proofs.YtgacmniagmfckaaDoorW.PrintWords Go.Proofs.YtgacmniagmfckaaDoor.Q
set_option linter.unusedVariables false
set_option linter.unusedSimpArgs false
theorem le_rounds {α : Type} {f : Nat → Option α} (h : ∀ k, LeO (f k) (f (k + 1))) {k0 : Nat} {r : α} (h0 : f k0 = some r) : ∀ k, k0 ≤ k → f k = some r := by
  intro k hk
  obtain ⟨d, rfl⟩ : ∃ d, k = k0 + d := ⟨k - k0, by omega⟩
  clear hk
  induction d with
  | zero => exact h0
  | succ d ih => exact h _ _ ih
theorem up1 (i : Nat) (h : i < 1000000000) : wrap64 ((i : Int) + 1) = ((i + 1 : Nat) : Int) := by
  rw [w64 (by omega) (by omega)]; omega
theorem rd32_get (l : List S32) (i : Nat) (h : i < l.length) : rd_T32 l (i : Int) = l[i] := by
  unfold rd_T32
  rw [Int.toNat_natCast, List.getD_eq_getElem?_getD, List.getElem?_eq_getElem h]; rfl
def kidsP (p : Int) : List S32 → Nat → List Int
  | [], _ => []
  | x :: r, i => if x.f0 = p then (i : Int) :: kidsP p r (i + 1) else kidsP p r (i + 1)
theorem kids_loop (l : List S32) (p : Int) (hl : l.length < 1000000000) : ∀ (d i k : Nat) (acc : List Int), i + d = l.length → acc.length ≤ i → tree_Kids.l0 (k + d + 1) p acc l (l.length : Int) (i : Int) = some (acc ++ kidsP p (l.drop i) i)
  | 0, i, k, acc, hi, ha => by
    rw [tree_Kids.l0, if_neg (by omega), List.drop_eq_nil_of_le (by omega)]
    simp [kidsP]
  | d + 1, i, k, acc, hi, ha => by
    have hlt : i < l.length := by omega
    rw [show k + (d + 1) + 1 = (k + d + 1) + 1 by omega, tree_Kids.l0, if_pos (by omega), if_pos (by omega), if_pos (by omega), up1 i (by omega), rd32_get l i hlt, List.drop_eq_getElem_cons hlt, kidsP]
    by_cases h : l[i].f0 = p
    · rw [if_pos h, if_pos h, if_pos (by omega), kids_loop l p hl d (i + 1) k _ (by omega) (by simp <;> omega), List.append_assoc]
      rfl
    · rw [if_neg h, if_neg h, kids_loop l p hl d (i + 1) k _ (by omega) (by omega)]
theorem kids_ev (l : List S32) (i : Nat) (hl : l.length < 1000000000) (hi : i < l.length) (k : Nat) (hk : l.length + 2 ≤ k) : tree_Kids.f k l (i : Int) = some (kidsP (i : Int) l 0) := by
  obtain ⟨k', rfl⟩ : ∃ k', k = (k' + l.length + 1) + 1 := ⟨k - l.length - 2, by omega⟩
  unfold tree_Kids.f
  rw [if_neg (by omega), decide_eq_false (by omega), tree_Kids.j0, if_neg Bool.false_ne_true]
  exact kids_loop l i hl l.length 0 k' [] (by omega) (by simp)
theorem valid_f (s : ByteArray) (h : s.size ≤ 17592186044415) : utf_Valid.f s = some (validT s) := if_pos h
theorem escL_len : ∀ l : List UInt8, (escL l).length ≤ 6 * l.length
  | [] => Nat.le_refl _
  | b :: r => by
    have h1 := escB_len b
    have h2 := escL_len r
    have e : escL (b :: r) = escB b ++ escL r := rfl
    rw [e, List.length_append, List.length_cons]
    omega
theorem escT_len (v : ByteArray) : (escT v).size ≤ 6 * v.size := by
  have h := escL_len v.data.toList
  have e : (escT v).size = (escL v.data.toList).length := by show (escL v.data.toList).toArray.size = _; simp
  rw [e]
  have : v.data.toList.length = v.size := rfl
  omega
theorem emp_app (x : ByteArray) : (⟨#[]⟩ : ByteArray) ++ x = x := ByteArray.empty_append
theorem app_emp (x : ByteArray) : x ++ (⟨#[]⟩ : ByteArray) = x := ByteArray.append_empty
end Go.Proofs.YtgacmniagmfckaaDoor.P
