/- Plain law of this session: the reference's addresses are the program's. -/
import Derived.Test.YtmhfjeekhkoikaaGreatDoorRef2
namespace Go.Proofs.YtmhfjeekhkoikaaGreatDoor.P
open Go.RowKit Go.Lib Go.Proofs.YtmhfjeekhkoikaaGreatDoorX Go.Proofs.YtmhfjeekhkoikaaGreatDoorW.PrintWords Go.Proofs.YtmhfjeekhkoikaaGreatDoor.Q
set_option linter.unusedVariables false
set_option linter.unusedSimpArgs false
theorem byte_get (s : ByteArray) (i : Nat) (h : i < s.size) : ∃ h' : i < s.data.toList.length, byte s i = (s.data.toList[i]).toNat := by
  have hl : i < s.data.toList.length := by rw [Array.length_toList]; exact h
  exact ⟨hl, by unfold byte; rw [List.getD_eq_getElem?_getD, List.getElem?_eq_getElem hl, Option.getD_some]⟩
theorem cut_loop (s : ByteArray) (b : UInt8) (hs : s.size ≤ 140737488351232) : ∀ (d i k : Nat), i + d = s.size → d < k → b ∉ s.data.toList.take i →
    cardexref01_cut.l0 k s (b.toNat : Int) (i : Int) = some (ba (Lib.cut s.data.toList [b]).1, ba (Lib.cut s.data.toList [b]).2.1, (Lib.cut s.data.toList [b]).2.2)
  | 0, i, k, hi, hk, hn => by
    obtain ⟨k, rfl⟩ : ∃ j, k = j + 1 := ⟨k - 1, by omega⟩
    rw [List.take_of_length_le (by rw [size_list]; omega)] at hn
    rw [cardexref01_cut.l0, if_neg (by omega), cut_none b _ hn]
    rfl
  | d + 1, i, k, hi, hk, hn => by
    obtain ⟨k, rfl⟩ : ∃ j, k = j + 1 := ⟨k - 1, by omega⟩
    obtain ⟨hl, hb⟩ := byte_get s i (by omega)
    rw [cardexref01_cut.l0, if_pos (by omega), if_pos (by omega), bt_byte, w64 (x := (i : Int) + 1) (by omega) (by omega), hb]
    by_cases h : s.data.toList[i] = b
    · rw [if_pos (by rw [h]), if_pos (by omega), if_pos (by omega), if_pos (by omega)]
      have hsp : s.data.toList = s.data.toList.take i ++ b :: s.data.toList.drop (i + 1) := by
        have := List.drop_eq_getElem_cons hl
        rw [h] at this
        rw [← this, List.take_append_drop]
      have hc := cut_some b (s.data.toList.take i) (s.data.toList.drop (i + 1)) hn
      rw [← hsp] at hc
      rw [hc]
      have e1 : s.extract 0 (i : Int).toNat = ba (s.data.toList.take i) := by
        have := ba_extract s.data.toList 0 i
        rw [ba_of] at this
        rw [Int.toNat_natCast, this, List.drop_zero]
      have e2 : s.extract ((i : Int) + 1).toNat s.size = ba (s.data.toList.drop (i + 1)) := by
        have := ba_extract s.data.toList (i + 1) s.size
        rw [ba_of] at this
        rw [show ((i : Int) + 1).toNat = i + 1 by omega, this, List.take_of_length_le (by rw [size_list]; omega)]
      rw [e1, e2]
    · rw [if_neg (by
        intro e
        apply h
        exact UInt8.toNat_inj.1 (by omega)), show (i : Int) + 1 = ((i + 1 : Nat) : Int) by omega]
      refine cut_loop s b hs d (i + 1) k (by omega) (by omega) ?_
      rw [List.take_succ_eq_append_getElem hl]
      intro e
      rcases List.mem_append.1 e with e | e
      · exact hn e
      · exact h (List.mem_singleton.1 e).symm
theorem ref_cut (s : ByteArray) (b : UInt8) (hs : s.size ≤ 140737488351232) (k : Nat) (hk : s.size < k) :
    cardexref01_cut.f k s (b.toNat : Int) = some (ba (Lib.cut s.data.toList [b]).1, ba (Lib.cut s.data.toList [b]).2.1, (Lib.cut s.data.toList [b]).2.2) :=
  cut_loop s b hs s.size 0 k (by omega) hk (by simp)
theorem pieces_span (c : UInt8) : ∀ (p q : List UInt8), c ∉ p → pieces c (p ++ c :: q) = p :: pieces c q
  | [], q, _ => by rw [List.nil_append, pieces, if_pos rfl]
  | b :: p, q, h => by
    have h1 : b ≠ c := fun e => h (by rw [e]; exact .head _)
    rw [List.cons_append, pieces, if_neg h1, pieces_span c p q (fun e => h (.tail _ e))]
theorem pieces_last_one (c : UInt8) : ∀ l : List UInt8, c ∉ l → pieces c l = [l]
  | [], _ => rfl
  | b :: l, h => by
    have h1 : b ≠ c := fun e => h (by rw [e]; exact .head _)
    rw [pieces, if_neg h1, pieces_last_one c l (fun e => h (.tail _ e))]
theorem getD_last (s : ByteArray) (h : 0 < s.size) : bt s ((s.size : Int) - 1) = ((s.data.toList.getLast (by intro e; have := size_list s; rw [e] at this; simp at this; omega)).toNat : Int) := by
  rw [show (s.size : Int) - 1 = ((s.size - 1 : Nat) : Int) by omega, bt_byte]
  obtain ⟨hl, hb⟩ := byte_get s (s.size - 1) (by omega)
  rw [hb, List.getLast_eq_getElem]
  congr 2
theorem piece_eq (s x : ByteArray) (X4 : ByteArray) (e : Int) (i : Nat) (k : Nat) (hx : x.size ≤ 140737488351232) (R : Option (ByteArray × Int)) :
    (if x.toList = ([] : List UInt8) then (some ((⟨#[]⟩ : ByteArray), (14 : Int))) else (if 0 < (x.size : Int) then (if (bt x 0) = 45 then (some ((⟨#[]⟩ : ByteArray), 14)) else (if 0 ≤ (wrap64 ((x.size : Int) - 1)) then (if (wrap64 ((x.size : Int) - 1)) < (x.size : Int) then (if (bt x (wrap64 ((x.size : Int) - 1))) = 45 then (some ((⟨#[]⟩ : ByteArray), 14)) else R) else (none)) else (none))) else (none))) =
    if pOk x.data.toList = true then R else some (ba [], 14) := by
  rw [ByteArray.toList_eq]
  unfold pOk
  by_cases h : x.data.toList = []
  · rw [if_pos h, h]; rfl
  · have hp : 0 < x.size := by
      rw [← size_list]
      exact List.length_pos_iff.2 h
    have hd : x.data.toList.head? = some (x.data.toList.head h) := List.head?_eq_some_head h
    have hla : x.data.toList.getLast? = some (x.data.toList.getLast h) := List.getLast?_eq_some_getLast h
    have hb0 : bt x 0 = ((x.data.toList.head h).toNat : Int) := by
      rw [show (0 : Int) = ((0 : Nat) : Int) from rfl, bt_byte]
      obtain ⟨hl, hb⟩ := byte_get x 0 hp
      rw [hb, List.head_eq_getElem]
    have w1 : wrap64 ((x.size : Int) - 1) = (x.size : Int) - 1 := w64 (by omega) (by omega)
    rw [if_neg h, if_pos (show 0 < (x.size : Int) by omega), hb0, w1, if_pos (show (0 : Int) ≤ (x.size : Int) - 1 by omega), if_pos (show (x.size : Int) - 1 < (x.size : Int) by omega), getD_last x hp, hd, hla]
    have h1 : (x.data.toList == []) = false := beq_eq_false_iff_ne.2 h
    rw [h1]
    have cmp : ∀ c : UInt8, ((c.toNat : Nat) : Int) = 45 ↔ c = 45 := fun c => ⟨fun e => UInt8.toNat_inj.1 (by have : (45 : UInt8).toNat = 45 := rfl; omega), fun e => by rw [e]; rfl⟩
    by_cases c1 : x.data.toList.head h = 45
    · rw [if_pos ((cmp _).2 c1), c1]; rfl
    · rw [if_neg (fun e => c1 ((cmp _).1 e))]
      have b1 : (some (x.data.toList.head h) == some (45 : UInt8)) = false := by rw [beq_eq_false_iff_ne]; intro e; exact c1 (Option.some.inj e)
      rw [b1]
      by_cases c2 : x.data.toList.getLast h = 45
      · rw [if_pos ((cmp _).2 c2), c2]; rfl
      · rw [if_neg (fun e => c2 ((cmp _).1 e))]
        have b2 : (some (x.data.toList.getLast h) == some (45 : UInt8)) = false := by rw [beq_eq_false_iff_ne]; intro e; exact c2 (Option.some.inj e)
        rw [b2]; rfl
theorem dom_loop (l : List UInt8) (e : Int) (hs : l.length ≤ 100000000) : ∀ (d fr i k : Nat), i + d = l.length → fr ≤ i → (46 : UInt8) ∉ (l.drop fr).take (i - fr) →
    cardexref01_Domain.l0 (2 * d + 4 + k) (ba l) e (fr : Int) (i : Int) = some (if (pieces 46 (l.drop fr)).all pOk = true then (ba l, e) else (ba [], 14))
  | 0, fr, i, k, hi, hf, hn => by
    have hdr : (l.drop fr).take (i - fr) = l.drop fr := List.take_of_length_le (by rw [List.length_drop]; omega)
    rw [hdr] at hn
    have ex : (ba l).extract (fr : Int).toNat (i : Int).toNat = ba (l.drop fr) := by
      rw [Int.toNat_natCast, Int.toNat_natCast, ba_extract, List.take_of_length_le (by omega)]
    rw [show 2 * 0 + 4 + k = (3 + k) + 1 by omega, cardexref01_Domain.l0, ba_size, if_pos (by omega), if_neg (by omega), show 3 + k = (2 + k) + 1 by omega, cardexref01_Domain.j4, if_neg (by decide), if_pos (by omega), if_pos (by omega), ba_size, if_pos (by omega)]
    simp only [Option.bind_some]
    rw [ex, w64 (x := (i : Int) + 1) (by omega) (by omega)]
    have hend : cardexref01_Domain.l0 (2 + k) (ba l) e ((i : Int) + 1) ((i : Int) + 1) = some (ba l, e) := by
      rw [show 2 + k = (1 + k) + 1 by omega, cardexref01_Domain.l0, ba_size, if_neg (by omega)]
    rw [hend]
    have := piece_eq (ba l) (ba (l.drop fr)) (ba l) e i k (by rw [ba_size, List.length_drop]; omega) (some (ba l, e))
    rw [this, ba_list, pieces_last_one 46 _ hn]
    simp only [List.all_cons, List.all_nil, Bool.and_true]
    split <;> rfl
  | d + 1, fr, i, k, hi, hf, hn => by
    have hlt : i < l.length := by omega
    have hb : bt (ba l) (i : Int) = ((l[i]).toNat : Int) := by
      rw [bt_byte]
      unfold byte
      rw [ba_list, List.getD_eq_getElem?_getD, List.getElem?_eq_getElem hlt, Option.getD_some]
    rw [show 2 * (d + 1) + 4 + k = ((2 * d + 4 + k) + 1) + 1 by omega, cardexref01_Domain.l0, ba_size, if_pos (by omega), if_pos (by omega), if_pos (by omega), hb, cardexref01_Domain.j4, w64 (x := (i : Int) + 1) (by omega) (by omega), show (i : Int) + 1 = ((i + 1 : Nat) : Int) by omega]
    by_cases h46 : l[i] = 46
    · have h0 : ((((l[i]).toNat : Nat) : Int) != 46) = false := by rw [h46]; rfl
      rw [h0, if_neg (by decide), if_pos (by omega), if_pos (by omega), ba_size, if_pos (by omega)]
      simp only [Option.bind_some]
      have ex : (ba l).extract (fr : Int).toNat (i : Int).toNat = ba ((l.drop fr).take (i - fr)) := by
        rw [Int.toNat_natCast, Int.toNat_natCast, ba_extract, List.drop_take]
      rw [ex]
      have hsp : l.drop fr = (l.drop fr).take (i - fr) ++ 46 :: l.drop (i + 1) := by
        have h1 := (List.take_append_drop (i - fr) (l.drop fr)).symm
        rw [List.drop_drop, show fr + (i - fr) = i by omega, List.drop_eq_getElem_cons hlt, h46] at h1
        exact h1
      have ih := dom_loop l e hs d (i + 1) (i + 1) k (by omega) (Nat.le_refl _) (by simp)
      rw [ih]
      have := piece_eq (ba l) (ba ((l.drop fr).take (i - fr))) (ba l) e i k (by rw [ba_size, List.length_take, List.length_drop]; omega) (some (if (pieces 46 (l.drop (i + 1))).all pOk = true then (ba l, e) else (ba [], 14)))
      rw [this, ba_list]
      have hpc : pieces 46 (l.drop fr) = (l.drop fr).take (i - fr) :: pieces 46 (l.drop (i + 1)) := by
        have := pieces_span 46 ((l.drop fr).take (i - fr)) (l.drop (i + 1)) hn
        rw [← hsp] at this
        exact this
      rw [hpc, List.all_cons]
      cases pOk ((l.drop fr).take (i - fr)) with
      | true => rfl
      | false => rfl
    · have h1 : ((((l[i]).toNat : Nat) : Int) != 46) = true := by
        rw [bne_iff_ne]
        intro e1
        apply h46
        exact UInt8.toNat_inj.1 (by have : (46 : UInt8).toNat = 46 := rfl; omega)
      rw [h1, if_pos rfl]
      refine (congrArg (fun z => cardexref01_Domain.l0 z (ba l) e (fr : Int) ((i + 1 : Nat) : Int)) (show 2 * d + 4 + k = 2 * d + 4 + k from rfl)).trans (dom_loop l e hs d fr (i + 1) k (by omega) (by omega) ?_)
      rw [show i + 1 - fr = (i - fr) + 1 by omega, List.take_succ_eq_append_getElem (by rw [List.length_drop]; omega)]
      intro e1
      rcases List.mem_append.1 e1 with e1 | e1
      · exact hn e1
      · have := List.mem_singleton.1 e1
        rw [List.getElem_drop] at this
        apply h46
        rw [this]
        congr 1
        omega
theorem ref_host (s : ByteArray) (hs : s.size ≤ 1000000) : ∃ K, ∀ k, K ≤ k → cardexref01_Host.f k s = some (ofP smallL hostOk s) := by
  obtain ⟨K, hK⟩ := prep_eq s (by omega) 2
  refine ⟨K, fun k hk => ?_⟩
  unfold cardexref01_Host.f
  rw [hK k hk]
  rfl
theorem ref_node (s : ByteArray) (hs : s.size ≤ 1000000) : ∃ K, ∀ k, K ≤ k → cardexref01_Node.f k s = some (ofP smallL nodeOk s) := by
  obtain ⟨K, hK⟩ := prep_eq s (by omega) 1
  refine ⟨K, fun k hk => ?_⟩
  unfold cardexref01_Node.f
  rw [hK k hk]
  rfl
theorem ref_res (s : ByteArray) (hs : s.size ≤ 1000000) : ∃ K, ∀ k, K ≤ k → cardexref01_Resource.f k s = some (ofP keptL resOk s) := by
  obtain ⟨K, hK⟩ := prep_eq s (by omega) 3
  refine ⟨K, fun k hk => ?_⟩
  unfold cardexref01_Resource.f
  rw [hK k hk]
  rfl
theorem dom_tail (l : List UInt8) (hs : l.length ≤ 100000000) (k : Nat) (hk : 2 * l.length + 10 ≤ k) :
    cardexref01_Domain.j1 k (ba l) 0 = some (if 100 < l.length then (ba [], 14) else if rightP l = true then (ba l, 0) else (ba [], 14)) := by
  obtain ⟨k, rfl⟩ : ∃ j, k = (2 * l.length + 4 + j) + 2 := ⟨k - (2 * l.length + 6), by omega⟩
  rw [cardexref01_Domain.j1, ba_size]
  by_cases h0 : (l.length : Int) < 1
  · have hn : l = [] := List.length_eq_zero_iff.1 (by omega)
    subst hn
    rw [if_pos h0, cardexref01_Domain.j2, if_pos rfl, if_neg (by simp), right_nil]
    rfl
  · rw [if_neg h0, cardexref01_Domain.j2]
    by_cases h1 : 100 < l.length
    · rw [decide_eq_true (show (l.length : Int) > 100 by omega), if_pos rfl, if_pos h1]
      rfl
    · rw [decide_eq_false (show ¬ (l.length : Int) > 100 by omega), if_neg (by decide), if_neg h1]
      have := dom_loop l 0 hs l.length 0 0 k (by omega) (Nat.le_refl _) (by simp)
      rw [show ((0 : Nat) : Int) = (0 : Int) from rfl, List.drop_zero] at this
      rw [this, right_pieces]
theorem ref_domain (s : ByteArray) (hs : s.size ≤ 1000000) : ∃ K, ∀ k, K ≤ k → cardexref01_Domain.f k s = some (domP s) := by
  obtain ⟨K, hK⟩ := ref_host s hs
  have hz := of_size smallL hostOk smallL_len s
  have hz2 := trimDot_len (ofP smallL hostOk s).1.data.toList
  rw [size_list] at hz2
  refine ⟨K + 2 * (8 * s.size) + 100, fun k hk => ?_⟩
  unfold cardexref01_Domain.f domP
  rw [hK k (by omega)]
  simp only [Option.bind_some]
  obtain ⟨⟨y, e⟩, hy⟩ : ∃ y, ofP smallL hostOk s = y := ⟨_, rfl⟩
  rw [hy] at hz hz2 ⊢
  simp only at hz hz2 ⊢
  by_cases he : e = 0
  · subst he
    rw [if_pos rfl, if_pos rfl, ByteArray.toList_eq]
    obtain ⟨k, rfl⟩ : ∃ j, k = j + 1 := ⟨k - 1, by omega⟩
    have hj0 : ∀ (b : Bool), b = decide (y.data.toList.getLast? = some 46) → cardexref01_Domain.j0 (k + 1) y 0 b = some (if 100 < (trimDot y.data.toList).length then (ba [], 14) else if rightP (trimDot y.data.toList) = true then (ba (trimDot y.data.toList), 0) else (ba [], 14)) := by
      intro b hb
      rw [cardexref01_Domain.j0, hb]
      by_cases hd : y.data.toList.getLast? = some 46
      · have hp : 0 < y.size := by
          rw [← size_list]
          cases hl : y.data.toList with
          | nil => rw [hl] at hd; cases hd
          | cons _ _ => simp
        have ht : trimDot y.data.toList = y.data.toList.dropLast := by unfold trimDot; rw [if_pos hd]
        rw [decide_eq_true hd, if_pos rfl, w64 (by omega) (by omega), if_pos (by omega), if_pos (by omega)]
        have ex : y.extract 0 ((y.size : Int) - 1).toNat = ba (trimDot y.data.toList) := by
          have := ba_extract y.data.toList 0 (y.size - 1)
          rw [ba_of, List.drop_zero] at this
          rw [show ((y.size : Int) - 1).toNat = y.size - 1 by omega, this, ht, List.dropLast_eq_take, size_list]
        rw [ex, dom_tail _ (by omega) k (by omega)]
      · have ht : trimDot y.data.toList = y.data.toList := by unfold trimDot; rw [if_neg hd]
        rw [decide_eq_false hd, if_neg (by decide), ht]
        have := dom_tail y.data.toList (by rw [size_list]; omega) k (by rw [size_list]; omega)
        rw [ba_of] at this
        exact this
    by_cases hn : y.data.toList = []
    · rw [if_pos hn, hj0 false (by rw [hn]; rfl)]
    · have hp : 0 < y.size := by rw [← size_list]; exact List.length_pos_iff.2 hn
      have w1 : wrap64 ((y.size : Int) - 1) = (y.size : Int) - 1 := w64 (by omega) (by omega)
      rw [if_neg hn, w1, if_pos (by omega), if_pos (by omega), getD_last y hp]
      refine hj0 _ ?_
      rw [List.getLast?_eq_some_getLast hn]
      by_cases hc : y.data.toList.getLast hn = 46
      · rw [hc]; rfl
      · rw [decide_eq_false (fun e => hc (Option.some.inj e)), beq_eq_false_iff_ne]
        intro e
        apply hc
        exact UInt8.toNat_inj.1 (by have : (46 : UInt8).toNat = 46 := rfl; omega)
  · rw [if_neg he, if_neg he]
    rfl
end Go.Proofs.YtmhfjeekhkoikaaGreatDoor.P
