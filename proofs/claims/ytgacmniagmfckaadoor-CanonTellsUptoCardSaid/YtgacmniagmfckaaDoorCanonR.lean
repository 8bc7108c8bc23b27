/- canon in plain words: names, attributes, and which nodes are right: the program's and the document's are one. -/
import Derived.Test.YtgacmniagmfckaaDoorCanon
namespace Go.Proofs.YtgacmniagmfckaaDoor.P
open Go.RowKit Go.Lib Go.Proofs.YtgacmniagmfckaaDoorX Go.Proofs.YtgacmniagmfckaaDoorW.PrintWords Go.Proofs.YtgacmniagmfckaaDoor.Q
set_option linter.unusedVariables false
set_option linter.unusedSimpArgs false
def firstC : List UInt8 := [65, 66, 67, 68, 69, 70, 71, 72, 73, 74, 75, 76, 77, 78, 79, 80, 81, 82, 83, 84, 85, 86, 87, 88, 89, 90, 97, 98, 99, 100, 101, 102, 103, 104, 105, 106, 107, 108, 109, 110, 111, 112, 113, 114, 115, 116, 117, 118, 119, 120, 121, 122, 95]
def otherC : List UInt8 := firstC ++ [48, 49, 50, 51, 52, 53, 54, 55, 56, 57, 45, 46]
def nameL (l : List UInt8) : Bool := match l with | [] => false | b :: r => firstC.contains b && (b :: r).all (otherC.contains ·)
theorem drop_nil (p : UInt8 → Bool) : ∀ l : List UInt8, l.dropWhile p = [] ↔ l.all p = true
  | [] => by simp
  | b :: r => by
    by_cases hb : p b = true
    · rw [List.dropWhile_cons_of_pos hb, drop_nil p r, List.all_cons, hb, Bool.true_and]
    · rw [List.dropWhile_cons_of_neg hb, List.all_cons]
      constructor
      · intro h; cases h
      · intro h
        rw [Bool.and_eq_true] at h
        exact absurd h.1 hb
theorem all_rev (p : UInt8 → Bool) (l : List UInt8) : l.reverse.all p = l.all p := by rw [List.all_reverse]
theorem strip_all (p : UInt8 → Bool) (l : List UInt8) : ((l.reverse.dropWhile p).reverse.dropWhile p = []) ↔ l.all p = true := by
  rw [drop_nil]
  constructor
  · intro h
    rw [all_rev] at h
    have h2 : l.reverse.dropWhile p = [] := by
      cases hd : l.reverse.dropWhile p with
      | nil => rfl
      | cons b r =>
        rw [hd, List.all_cons, Bool.and_eq_true] at h
        have := List.head?_dropWhile_not p l.reverse
        rw [hd] at this
        simp only [List.head?_cons] at this
        rw [h.1] at this
        cases this
    rw [drop_nil, all_rev] at h2
    exact h2
  · intro h
    rw [all_rev]
    rw [← all_rev, ← drop_nil] at h
    rw [h]; rfl
theorem trim_nil (l : List UInt8) : ((Lib.trimS l otherC) == []) = l.all (otherC.contains ·) := by
  have h := strip_all (otherC.contains ·) l
  have e : Lib.trimS l otherC = (l.reverse.dropWhile (otherC.contains ·)).reverse.dropWhile (otherC.contains ·) := rfl
  rw [e]
  cases ha : l.all (otherC.contains ·) with
  | true => rw [h.2 ha]; rfl
  | false =>
    refine beq_eq_false_iff_ne.mpr (fun hn => ?_)
    rw [h.1 hn] at ha
    cases ha
theorem name_f (s : ByteArray) (hs : s.size ≤ 1000000000) : canon_name.f s = some (nameL s.data.toList) := by
  have hC : canon_name.f s = if s.toList = ([] : List UInt8) then some false else if (0 : Int) ≤ 1 then if (1 : Int) ≤ (s.size : Int) then (strings_Contains.f (ba firstC) (s.extract 0 1)).bind fun t => if t = true then (strings_Trim.f s (ba otherC)).bind fun u => some (u.toList == ([] : List UInt8)) else some false else none else none := rfl
  rw [hC, ByteArray.toList_eq]
  cases hl : s.data.toList with
  | nil => rw [if_pos rfl]; rfl
  | cons b r =>
    have hz : s.size = r.length + 1 := by rw [← size_list, hl]; rfl
    have hx : s.extract 0 1 = ba [b] := by
      have e := ba_extract s.data.toList 0 1
      rw [ba_of, hl] at e
      rw [e]; rfl
    rw [if_neg (by simp), if_pos (by decide), if_pos (by omega), hx]
    rw [show strings_Contains.f (ba firstC) (ba [b]) = some (firstC.contains b) from rfl, Option.bind_some]
    cases hc : firstC.contains b with
    | false =>
      rw [if_neg Bool.false_ne_true]
      show some false = some (firstC.contains b && _)
      rw [hc]; rfl
    | true =>
      rw [if_pos rfl]
      have ht : strings_Trim.f s (ba otherC) = some (ba (Lib.trimS (b :: r) otherC)) := by
        unfold strings_Trim.f
        rw [if_pos ⟨by omega, by decide, by decide +kernel⟩, hl]
        rfl
      rw [ht, Option.bind_some, ByteArray.toList_eq]
      show some (Lib.trimS (b :: r) otherC == []) = some (firstC.contains b && _)
      rw [hc, Bool.true_and, trim_nil]
theorem letter_all : ∀ n : Fin 256, cardexref08_letter.f (n.val : Int) = some ((firstC.contains (UInt8.ofNat n.val)) && !(n.val == 95)) := by decide +kernel
theorem within_all : ∀ n : Fin 256, cardexref08_within.f (n.val : Int) = some (otherC.contains (UInt8.ofNat n.val)) := by decide +kernel
theorem u8_of (b : UInt8) : UInt8.ofNat b.toNat = b := by
  apply UInt8.toNat_inj.1
  rw [UInt8.toNat_ofNat']
  have := UInt8.toNat_lt b
  omega
theorem letter_b (b : UInt8) : cardexref08_letter.f (b.toNat : Int) = some (firstC.contains b && !(b.toNat == 95)) := by
  have h := letter_all ⟨b.toNat, UInt8.toNat_lt b⟩
  rw [u8_of] at h; exact h
theorem within_b (b : UInt8) : cardexref08_within.f (b.toNat : Int) = some (otherC.contains b) := by
  have h := within_all ⟨b.toNat, UInt8.toNat_lt b⟩
  rw [u8_of] at h; exact h
theorem refname_loop (s : ByteArray) (hs : s.size ≤ 1000000000) : ∀ (d i k : Nat), i + d = s.size → (s.data.toList.take i).all (otherC.contains ·) = true → cardexref08_Name.l0 (k + d + 1) s (i : Int) = some (nameL s.data.toList)
  | 0, i, k, hi, ha => by
    rw [cardexref08_Name.l0, if_neg (by omega), ByteArray.toList_eq]
    rw [List.take_of_length_le (by rw [size_list]; omega)] at ha
    cases hl : s.data.toList with
    | nil => rw [if_pos rfl]; rfl
    | cons b r =>
      have hz : s.size = r.length + 1 := by rw [← size_list, hl]; rfl
      obtain ⟨b', t, h1, h2, _, _⟩ := bt_at_get s 0 (by omega)
      rw [List.drop_zero, hl] at h1
      injection h1 with h1 _
      subst h1
      rw [if_neg (by simp), if_pos (by omega), show (0 : Int) = ((0 : Nat) : Int) from rfl, h2, letter_b, Option.bind_some]
      rw [hl] at ha
      show _ = some (firstC.contains b && (b :: r).all _)
      rw [ha, Bool.and_true]
      cases hc : firstC.contains b with
      | false =>
        rw [Bool.false_and, if_neg Bool.false_ne_true]
        refine congrArg some (beq_eq_false_iff_ne.mpr (fun h => ?_))
        have hb : b = 95 := (byte_eq b 95 (by decide)).1 h
        rw [hb] at hc
        exact absurd hc (by decide)
      | true =>
        cases h5 : (b.toNat == 95) with
        | false => rw [if_pos (by rfl)]
        | true =>
          rw [if_neg (by decide)]
          exact congrArg some (beq_iff_eq.mpr (by have := eq_of_beq h5; omega))
  | d + 1, i, k, hi, ha => by
    obtain ⟨b, t, h1, h2, h3, _⟩ := bt_at_get s i (by omega)
    rw [show k + (d + 1) + 1 = (k + d + 1) + 1 by omega, cardexref08_Name.l0, if_pos (by omega), if_pos (by omega), h2, within_b, Option.bind_some, up1 i (by omega)]
    cases hc : otherC.contains b with
    | true =>
      rw [if_pos rfl]
      refine refname_loop s hs d (i + 1) k (by omega) ?_
      have e : s.data.toList.take (i + 1) = s.data.toList.take i ++ [b] := by
        have hlt : i < s.data.toList.length := by rw [size_list]; omega
        have hb : s.data.toList[i] = b := by
          rw [List.drop_eq_getElem_cons hlt] at h1
          injection h1
        rw [List.take_succ_eq_append_getElem hlt, hb]
      rw [e, List.all_append, ha, List.all_cons, hc]
      rfl
    | false =>
      rw [if_neg Bool.false_ne_true]
      have hm : b ∈ s.data.toList := List.mem_of_mem_drop (i := i) (by rw [h1]; exact .head _)
      have hn : s.data.toList.all (otherC.contains ·) = false := by
        rw [List.all_eq_false]
        exact ⟨b, hm, by rw [hc]; exact Bool.false_ne_true⟩
      cases hl : s.data.toList with
      | nil => rw [hl] at hm; cases hm
      | cons c r =>
        rw [hl] at hn
        show _ = some (firstC.contains c && (c :: r).all _)
        rw [hn, Bool.and_false]
theorem ref_name (s : ByteArray) (hs : s.size ≤ 1000000000) (k : Nat) (hk : s.size < k) : cardexref08_Name.f k s = some (nameL s.data.toList) := by
  obtain ⟨k', rfl⟩ : ∃ k', k = k' + s.size + 1 := ⟨k - s.size - 1, by omega⟩
  exact refname_loop s hs s.size 0 k' (by omega) rfl
def sameN (x : ByteArray) (a : S29) : Bool := a.f0.toList == x.toList
def attrOk (P : List S29) (a : S29) : Bool := !(P.any (sameN a.f0)) && nameL a.f0.data.toList && !(a.f0.toList == [120, 109, 108, 110, 115]) && validT a.f1
def attrsB : List S29 → List S29 → Bool
  | _, [] => true
  | P, a :: r => attrOk P a && attrsB (P ++ [a]) r
def SmallA (l : List S29) : Prop := ∀ a ∈ l, a.f0.size ≤ 10000000 ∧ a.f1.size ≤ 10000000
theorem attrs_G : ∀ (l P : List S29) (S : List ByteArray), SmallA l → (∀ x, inS x S = P.any (sameN x)) → attrsF S l = some (attrsB P l)
  | [], _, _, _, _ => rfl
  | a :: r, P, S, hs, h => by
    obtain ⟨h1, h2⟩ := hs a (.head _)
    have ih := attrs_G r (P ++ [a]) (a.f0 :: S) (fun y hy => hs y (.tail _ hy)) (fun x => by
      have := h x
      unfold inS at this ⊢
      rw [List.any_cons, this, List.any_append, List.any_cons, List.any_nil, Bool.or_false, Bool.or_comm]
      rfl)
    rw [attrsF, if_pos (by omega), name_f _ (by omega), Option.bind_some, attrsB, attrOk]
    cases hn : nameL a.f0.data.toList with
    | false => rw [if_neg Bool.false_ne_true]; simp
    | true =>
      rw [if_pos rfl]
      by_cases hx : a.f0.toList = ([120, 109, 108, 110, 115] : List UInt8)
      · rw [if_pos hx, beq_iff_eq.mpr hx]; simp
      · rw [if_neg hx, beq_eq_false_iff_ne.mpr hx, valid_f _ (by omega), Option.bind_some]
        cases hv : validT a.f1 with
        | false => rw [if_neg Bool.false_ne_true]; simp
        | true =>
          rw [if_pos rfl, h a.f0, ih]
          cases P.any (sameN a.f0) with
          | true => rw [if_pos rfl]; rfl
          | false => rw [if_neg Bool.false_ne_true]; simp
theorem attrs_f (l : List S29) (hs : SmallA l) : canon_attrs.f l = some (attrsB [] l && decide (l.length < 10)) := by
  unfold canon_attrs.f
  rw [attrs_G l [] [] hs (fun x => rfl), Option.bind_some]
  cases attrsB [] l with
  | false => rw [if_neg Bool.false_ne_true]; rfl
  | true =>
    rw [if_pos rfl, Bool.true_and]
    exact congrArg some (decide_eq_decide.2 (by omega))
theorem rd29_get (l : List S29) (i : Nat) (h : i < l.length) : rd_T29 l (i : Int) = l[i] := by
  unfold rd_T29
  rw [Int.toNat_natCast, List.getD_eq_getElem?_getD, List.getElem?_eq_getElem h]; rfl
theorem same_loop (l : List S29) (i : Nat) (hi : i < l.length) (hl : l.length < 1000000000) : ∀ (d j k : Nat), j + d = i →
    cardexref08_rightAttrs.l1 (k + d + 1) l (i : Int) (j : Int) = if ((l.take i).drop j).any (sameN l[i].f0) = true then some false else cardexref08_rightAttrs.l1 (k + 1) l (i : Int) (i : Int)
  | 0, j, k, hj => by
    obtain rfl : j = i := by omega
    rw [List.drop_eq_nil_of_le (by rw [List.length_take]; omega)]
    rw [if_neg (by simp)]
  | d + 1, j, k, hj => by
    have hjl : j < (l.take i).length := by rw [List.length_take]; omega
    rw [show k + (d + 1) + 1 = (k + d + 1) + 1 by omega, cardexref08_rightAttrs.l1, if_pos (by omega), if_pos (by omega), if_pos (by omega), if_pos (by omega), if_pos (by omega), rd29_get l j (by omega), rd29_get l i hi, up1 j (by omega), List.drop_eq_getElem_cons hjl, List.any_cons, List.getElem_take]
    by_cases h : l[j].f0.toList = l[i].f0.toList
    · rw [if_pos h, show sameN l[i].f0 l[j] = true from beq_iff_eq.mpr h, Bool.true_or, if_pos rfl]
    · rw [if_neg h, show sameN l[i].f0 l[j] = false from beq_eq_false_iff_ne.mpr h, Bool.false_or, same_loop l i hi hl d (j + 1) k (by omega)]
theorem refattrs_loop (l : List S29) (hs : SmallA l) (hl : l.length < 1000000000) (kk : Nat) (hkk : 10000020 ≤ kk) : ∀ (d i k : Nat), i + d = l.length → kk + l.length ≤ k →
    cardexref08_rightAttrs.l0 (k + (l.length + 3) * d + 1) l (i : Int) = some (attrsB (l.take i) (l.drop i) && decide (l.length < 10))
  | 0, i, k, hi, hk => by
    rw [cardexref08_rightAttrs.l0, if_neg (by omega), List.drop_eq_nil_of_le (by omega), attrsB, Bool.true_and]
    exact congrArg some (decide_eq_decide.2 (by omega))
  | d + 1, i, k, hi, hk => by
    have hlt : i < l.length := by omega
    obtain ⟨h1, h2⟩ := hs _ (List.getElem_mem hlt)
    obtain ⟨K, hK⟩ : ∃ K, K = k + (l.length + 3) * d := ⟨_, rfl⟩
    have hm : (l.length + 3) * (d + 1) = (l.length + 3) * d + l.length + 3 := by rw [Nat.mul_succ]; omega
    have hge : kk + l.length ≤ K := by omega
    have ih := refattrs_loop l hs hl kk hkk d (i + 1) k (by omega) hk
    rw [← hK] at ih
    have ih2 : ∀ q, K + 1 ≤ q → cardexref08_rightAttrs.l0 q l ((i + 1 : Nat) : Int) = some (attrsB (l.take (i + 1)) (l.drop (i + 1)) && decide (l.length < 10)) :=
      le_rounds (f := fun q => cardexref08_rightAttrs.l0 q l ((i + 1 : Nat) : Int)) (fun q => (cardexref08_rightAttrs.mono_l q).1 _ _) ih
    rw [show k + (l.length + 3) * (d + 1) + 1 = (K + 2 + (l.length - i) + i + 1) + 1 by omega, cardexref08_rightAttrs.l0, if_pos (by omega), show (0 : Int) = ((0 : Nat) : Int) from rfl, same_loop l i hlt hl i 0 (K + 2 + (l.length - i)) (by omega), List.drop_zero]
    rw [List.drop_eq_getElem_cons hlt, attrsB, attrOk]
    cases ha : (l.take i).any (sameN l[i].f0) with
    | true => rw [if_pos rfl]; simp
    | false =>
      rw [if_neg Bool.false_ne_true, cardexref08_rightAttrs.l1, if_neg (by omega), if_pos (by omega), if_pos (by omega), rd29_get l i hlt, ref_name _ (by omega) _ (by omega), Option.bind_some]
      cases hn : nameL l[i].f0.data.toList with
      | false => rw [if_neg Bool.false_ne_true]; simp
      | true =>
        rw [if_pos rfl]
        by_cases hx : l[i].f0.toList = ([120, 109, 108, 110, 115] : List UInt8)
        · rw [if_pos hx, beq_iff_eq.mpr hx]; simp
        · rw [if_neg hx, beq_eq_false_iff_ne.mpr hx, ref_valid _ (by omega) _ (by omega), Option.bind_some]
          cases hv : validT l[i].f1 with
          | false => rw [if_neg Bool.false_ne_true]; simp
          | true =>
            rw [if_pos rfl, up1 i (by omega), ih2 _ (by omega), List.take_succ_eq_append_getElem hlt]
            simp
theorem ref_attrs (l : List S29) (hs : SmallA l) (hl : l.length ≤ 10000000) : ∃ K, ∀ k, K ≤ k → cardexref08_rightAttrs.f k l = some (attrsB [] l && decide (l.length < 10)) := by
  refine ⟨_, le_rounds (f := fun k => cardexref08_rightAttrs.f k l) (fun k => cardexref08_rightAttrs.mono l k) (refattrs_loop l hs (by omega) 10000020 (Nat.le_refl _) l.length 0 (10000020 + l.length) (by omega) (Nat.le_refl _))⟩
def aloneB (x : S32) : Bool := nameL x.f2.data.toList && validT x.f5 && validT x.f3 && (attrsB [] x.f4 && decide (x.f4.length < 10))
def SmallN (x : S32) : Prop := x.f2.size ≤ 10000000 ∧ x.f3.size ≤ 10000000 ∧ x.f5.size ≤ 10000000 ∧ x.f4.length ≤ 10000000 ∧ SmallA x.f4
theorem alone_f (x : S32) (h : SmallN x) : canon_alone.f x.f0 x.f1 x.f2 x.f3 x.f4 x.f5 = some (aloneB x) := by
  obtain ⟨h2, h3, h5, h4, ha⟩ := h
  unfold canon_alone.f aloneB
  rw [name_f _ (by omega), Option.bind_some]
  cases nameL x.f2.data.toList with
  | false => rw [if_neg Bool.false_ne_true]; rfl
  | true =>
    rw [if_pos rfl, valid_f _ (by omega), Option.bind_some]
    cases validT x.f5 with
    | false => rw [if_neg Bool.false_ne_true]; rfl
    | true =>
      rw [if_pos rfl, valid_f _ (by omega), Option.bind_some]
      cases validT x.f3 with
      | false => rw [if_neg Bool.false_ne_true]; rfl
      | true =>
        rw [if_pos rfl, attrs_f _ ha, Option.bind_some]
        rfl
end Go.Proofs.YtgacmniagmfckaaDoor.P
