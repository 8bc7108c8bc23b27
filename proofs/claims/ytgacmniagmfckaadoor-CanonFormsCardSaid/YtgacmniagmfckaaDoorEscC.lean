/- Plain law of this session: the document's escaped text is the program's (beside canon). -/
import Derived.Test.YtgacmniagmfckaaDoorBa
import Derived.Test.YtgacmniagmfckaaDoorQ
namespace Go.Proofs.YtgacmniagmfckaaDoor.P
open Go.RowKit Go.Lib Go.Proofs.YtgacmniagmfckaaDoorX Go.Proofs.YtgacmniagmfckaaDoorW.PrintWords Go.Proofs.YtgacmniagmfckaaDoor.Q
set_option linter.unusedVariables false
set_option linter.unusedSimpArgs false
theorem bt_at_get (s : ByteArray) (i : Nat) (h : i < s.size) : ∃ (b : UInt8) (t : List UInt8), s.data.toList.drop i = b :: t ∧ bt s (i : Int) = (b.toNat : Int) ∧ s.data.toList.drop (i + 1) = t ∧ s.extract i (i + 1) = ba [b] := by
  have hl : i < s.data.toList.length := by rw [size_list]; exact h
  refine ⟨s.data.toList[i], s.data.toList.drop (i + 1), List.drop_eq_getElem_cons hl, ?_, rfl, ?_⟩
  · unfold bt
    rw [Int.toNat_natCast, dif_pos h]; rfl
  · have e := ba_extract s.data.toList i (i + 1)
    rw [ba_of] at e
    rw [e]
    congr 1
    rw [List.drop_take, show i + 1 - i = 1 by omega, List.take_one, List.head?_drop, List.getElem?_eq_getElem hl]; rfl
theorem byte_eq (b : UInt8) (n : Nat) (h : n < 256) : ((b.toNat : Int) = (n : Int)) ↔ b = UInt8.ofNat n := by
  constructor
  · intro e
    apply UInt8.toNat_inj.1
    rw [UInt8.toNat_ofNat']
    omega
  · rintro rfl
    rw [UInt8.toNat_ofNat']
    omega
theorem esc_step (s acc : ByteArray) (i k : Nat) (b : UInt8) (hi : i < s.size) (hb : bt s (i : Int) = (b.toNat : Int)) (hx : s.extract i (i + 1) = ba [b]) (hs : s.size ≤ 1000000000) (ha : acc.size ≤ 6000000000) :
    cardexref01_Escape.l0 (k + 1) s acc (i : Int) = cardexref01_Escape.l0 k s (acc ++ ba (escB b)) ((i + 1 : Nat) : Int) := by
  have hw : wrap64 ((i : Int) + 1) = ((i + 1 : Nat) : Int) := by rw [wrap_small (by omega) (by omega)]; omega
  rw [cardexref01_Escape.l0, if_pos (by omega), if_pos (by omega), hb, hw]
  unfold escB signB
  by_cases h1 : b = 38
  · subst h1
    rw [if_pos (by decide), if_pos (by omega), if_pos rfl]; rfl
  rw [if_neg (by rw [show (38 : Int) = ((38 : Nat) : Int) from rfl, byte_eq b 38 (by decide)]; exact h1), if_neg h1]
  by_cases h2 : b = 60
  · subst h2
    rw [if_pos (by decide), if_pos (by omega), if_pos rfl]; rfl
  rw [if_neg (by rw [show (60 : Int) = ((60 : Nat) : Int) from rfl, byte_eq b 60 (by decide)]; exact h2), if_neg h2]
  by_cases h3 : b = 62
  · subst h3
    rw [if_pos (by decide), if_pos (by omega), if_pos rfl]; rfl
  rw [if_neg (by rw [show (62 : Int) = ((62 : Nat) : Int) from rfl, byte_eq b 62 (by decide)]; exact h3), if_neg h3]
  by_cases h4 : b = 34
  · subst h4
    rw [if_pos (by decide), if_pos (by omega), if_pos rfl]; rfl
  rw [if_neg (by rw [show (34 : Int) = ((34 : Nat) : Int) from rfl, byte_eq b 34 (by decide)]; exact h4), if_neg h4]
  by_cases h5 : b = 39
  · subst h5
    rw [if_pos (by decide), if_pos (by omega), if_pos rfl]; rfl
  rw [if_neg (by rw [show (39 : Int) = ((39 : Nat) : Int) from rfl, byte_eq b 39 (by decide)]; exact h5), if_neg h5]
  by_cases h6 : b = 9
  · subst h6
    rw [if_pos (by decide), if_pos (by omega), if_pos rfl]; rfl
  rw [if_neg (by rw [show (9 : Int) = ((9 : Nat) : Int) from rfl, byte_eq b 9 (by decide)]; exact h6), if_neg h6]
  by_cases h7 : b = 10
  · subst h7
    rw [if_pos (by decide), if_pos (by omega), if_pos rfl]; rfl
  rw [if_neg (by rw [show (10 : Int) = ((10 : Nat) : Int) from rfl, byte_eq b 10 (by decide)]; exact h7), if_neg h7]
  by_cases h8 : b = 13
  · subst h8
    rw [if_pos (by decide), if_pos (by omega), if_pos rfl]; rfl
  rw [if_neg (by rw [show (13 : Int) = ((13 : Nat) : Int) from rfl, byte_eq b 13 (by decide)]; exact h8), if_neg h8]
  rw [if_pos (by omega), if_pos (by omega)]
  simp only [Option.bind_some, Int.toNat_natCast]
  rw [hx, if_pos (by rw [ba_size]; simp only [List.length_cons, List.length_nil]; omega)]; rfl
theorem esc_loop (s : ByteArray) (hs : s.size ≤ 1000000000) : ∀ (d i k : Nat) (acc : ByteArray), i + d = s.size → d < k → acc.size ≤ 6 * i → cardexref01_Escape.l0 k s acc (i : Int) = some (acc ++ ba (escL (s.data.toList.drop i)))
  | 0, i, k, acc, hi, hk, ha => by
    obtain ⟨k, rfl⟩ : ∃ j, k = j + 1 := ⟨k - 1, by omega⟩
    rw [cardexref01_Escape.l0, if_neg (by omega), List.drop_eq_nil_of_le (by rw [size_list]; omega)]
    congr 1
    rw [← ba_of acc, ba_append]
    simp [escL]
  | d + 1, i, k, acc, hi, hk, ha => by
    obtain ⟨k, rfl⟩ : ∃ j, k = j + 1 := ⟨k - 1, by omega⟩
    obtain ⟨b, t, h1, h2, h3, h4⟩ := bt_at_get s i (by omega)
    rw [esc_step s acc i k b (by omega) h2 h4 hs (by omega)]
    have hl := escB_len b
    rw [esc_loop s hs d (i + 1) k _ (by omega) (by omega) (by rw [ByteArray.size_append, ba_size]; omega), h1, h3]
    congr 1
    rw [← ba_of acc, ba_append, ba_append, ba_append]
    unfold escL
    rw [List.flatMap_cons, List.append_assoc]
theorem ref_escape (s : ByteArray) (hs : s.size ≤ 1000000000) (k : Nat) (hk : s.size < k) : cardexref01_Escape.f k s = some (ba (escL s.data.toList)) := by
  unfold cardexref01_Escape.f
  have := esc_loop s hs s.size 0 k ⟨#[]⟩ (by omega) hk (by decide)
  rw [show ((0 : Nat) : Int) = 0 from rfl, List.drop_zero] at this
  rw [this]
  rw [show (⟨#[]⟩ : ByteArray) = ba [] from rfl, ba_append, List.nil_append]
end Go.Proofs.YtgacmniagmfckaaDoor.P
