/- Plain law of this session: the reference's walk over a file, place by place, is the same as the program's. -/
import Derived.Test.YtjijbncheikagaaGreatDoorTok3
import Derived.Test.YtjijbncheikagaaGreatDoorEscR
import Derived.Test.YtjijbncheikagaaGreatDoorRefV
section
namespace Go.Proofs.YtjijbncheikagaaGreatDoor.P
open Go Go.RowKit Go.Lib Go.Proofs.YtjijbncheikagaaGreatDoorX Go.Proofs.YtjijbncheikagaaGreatDoorW.PrintWords Go.Proofs.YtjijbncheikagaaGreatDoor.Q
set_option linter.unusedVariables false
set_option linter.unusedSimpArgs false
def At (s : ByteArray) (i : Nat) (l : Text) : Prop := i + l.length = s.size ∧ s.data.toList.drop i = l
theorem at_zero (s : ByteArray) : At s 0 s.data.toList := ⟨by rw [size_list]; omega, List.drop_zero⟩
theorem at_cons {s : ByteArray} {i : Nat} {b : UInt8} {t : Text} (h : At s i (b :: t)) : i < s.size ∧ bt s (i : Int) = (b.toNat : Int) ∧ At s (i + 1) t := by
  obtain ⟨h1, h2⟩ := h
  rw [List.length_cons] at h1
  have hi : i < s.size := by omega
  obtain ⟨b', t', e1, e2, e3, e4⟩ := bt_at_get s i hi
  rw [h2] at e1
  injection e1 with e5 e6
  subst e5; subst e6
  exact ⟨hi, e2, by omega, e3⟩
theorem at_nil {s : ByteArray} {i : Nat} (h : At s i []) : i = s.size := by
  have := h.1
  rw [List.length_nil] at this
  omega
theorem at_app {s : ByteArray} {i : Nat} {p q : Text} (h : At s i (p ++ q)) : At s (i + p.length) q := by
  obtain ⟨h1, h2⟩ := h
  rw [List.length_append] at h1
  refine ⟨by omega, ?_⟩
  rw [← List.drop_drop, h2, List.drop_append_of_le_length (Nat.le_refl _), List.drop_length, List.nil_append]
theorem at_ext {s : ByteArray} {i : Nat} {p q : Text} (h : At s i (p ++ q)) : s.extract i (i + p.length) = ba p := by
  have e := ba_extract s.data.toList i (i + p.length)
  rw [ba_of] at e
  rw [e, List.drop_take, h.2, show i + p.length - i = p.length by omega, List.take_append_of_le_length (Nat.le_refl _), List.take_length]
theorem at_le {s : ByteArray} {i : Nat} {l : Text} (h : At s i l) : i ≤ s.size ∧ l.length ≤ s.size := by
  have := h.1
  omega
theorem at_dw {s : ByteArray} {i : Nat} {l : Text} (p : UInt8 → Bool) (h : At s i l) : At s (i + (l.takeWhile p).length) (l.dropWhile p) := at_app (by rw [tw_dw]; exact h)
theorem blank_all : ∀ b : Fin 256, cardexref08_blank.f (b.val : Int) = some (blankC.contains (UInt8.ofNat b.val)) := by decide +kernel
theorem letter_all : ∀ b : Fin 256, cardexref08_letter.f (b.val : Int) = some (firstC.contains (UInt8.ofNat b.val) && !(b.val == 95)) := by decide +kernel
theorem within_all : ∀ b : Fin 256, cardexref08_within.f (b.val : Int) = some (otherC.contains (UInt8.ofNat b.val)) := by decide +kernel
theorem first_95 : ∀ b : Fin 256, ((firstC.contains (UInt8.ofNat b.val) && !(b.val == 95)) || b.val == 95) = firstC.contains (UInt8.ofNat b.val) := by decide +kernel
theorem u8_of (b : UInt8) : UInt8.ofNat b.toNat = b := by
  apply UInt8.toNat_inj.1
  rw [UInt8.toNat_ofNat']
  have := UInt8.toNat_lt b
  omega
theorem blank_f (b : UInt8) : cardexref08_blank.f (b.toNat : Int) = some (blankC.contains b) := by
  have := blank_all ⟨b.toNat, UInt8.toNat_lt b⟩
  simp only [u8_of] at this
  exact this
theorem within_f (b : UInt8) : cardexref08_within.f (b.toNat : Int) = some (otherC.contains b) := by
  have := within_all ⟨b.toNat, UInt8.toNat_lt b⟩
  simp only [u8_of] at this
  exact this
theorem letter_f (b : UInt8) : cardexref08_letter.f (b.toNat : Int) = some (firstC.contains b && !(b.toNat == 95)) := by
  have := letter_all ⟨b.toNat, UInt8.toNat_lt b⟩
  simp only [u8_of] at this
  exact this
theorem first_f (b : UInt8) : ((firstC.contains b && !(b.toNat == 95)) || b.toNat == 95) = firstC.contains b := by
  have := first_95 ⟨b.toNat, UInt8.toNat_lt b⟩
  simp only [u8_of] at this
  exact this
theorem blanks_loop (s : ByteArray) (hs : s.size ≤ 1000000) : ∀ (l : Text) (i n k : Nat), At s i l → n ≤ i → l.length < k →
    cardexref08_walk_blanks.l0 k (n : Int) s (i : Int) = some (((n + (l.takeWhile (blankC.contains ·)).length : Nat) : Int), s, ((i + (l.takeWhile (blankC.contains ·)).length : Nat) : Int))
  | [], i, n, k, ha, hn, hk => by
    obtain ⟨k, rfl⟩ : ∃ j, k = j + 1 := ⟨k - 1, by omega⟩
    have := at_nil ha
    rw [cardexref08_walk_blanks.l0, if_neg (by omega)]; rfl
  | b :: t, i, n, k, ha, hn, hk => by
    rw [List.length_cons] at hk
    obtain ⟨k, rfl⟩ : ∃ j, k = j + 1 := ⟨k - 1, by omega⟩
    obtain ⟨hi, hb, ht⟩ := at_cons ha
    rw [cardexref08_walk_blanks.l0, if_pos (by omega), if_pos (by omega), hb, blank_f, Option.bind_some]
    by_cases h : blankC.contains b = true
    · rw [if_pos h, List.takeWhile_cons, if_pos h, wrap_small (by omega) (by omega), wrap_small (by omega) (by omega)]
      have := blanks_loop s hs t (i + 1) (n + 1) k ht (by omega) (by omega)
      rw [show ((n : Int) + 1) = ((n + 1 : Nat) : Int) by omega, show ((i : Int) + 1) = ((i + 1 : Nat) : Int) by omega, this, List.length_cons]
      rw [show n + 1 + (t.takeWhile (blankC.contains ·)).length = n + ((t.takeWhile (blankC.contains ·)).length + 1) by omega, show i + 1 + (t.takeWhile (blankC.contains ·)).length = i + ((t.takeWhile (blankC.contains ·)).length + 1) by omega]
    · rw [if_neg h, List.takeWhile_cons, if_neg h]; rfl
theorem blanks_r (s : ByteArray) (hs : s.size ≤ 1000000) (l : Text) (i k : Nat) (ha : At s i l) (hk : 1000001 ≤ k) :
    cardexref08_walk_blanks.f k s (i : Int) = some (((l.takeWhile (blankC.contains ·)).length : Int), s, ((i + (l.takeWhile (blankC.contains ·)).length : Nat) : Int)) := by
  have := blanks_loop s hs l i 0 k ha (by omega) (by have := at_le ha; omega)
  rw [Nat.zero_add] at this
  exact this
theorem is_r (s : ByteArray) (hs : s.size ≤ 1000000) (l p : Text) (i : Nat) (ha : At s i l) (hp : p.length ≤ 1000) :
    cardexref08_walk_is.f s (i : Int) (ba p) = some (decide (p <+: l), s, if p <+: l then ((i + p.length : Nat) : Int) else (i : Int)) := by
  have h1 := ha.1
  unfold cardexref08_walk_is.f
  rw [ba_size, wrap_small (by omega) (by omega)]
  by_cases hc : ((i : Int) + (p.length : Int)) > (s.size : Int)
  · have hn : ¬ p <+: l := fun h => by have := h.length_le; omega
    rw [if_pos hc, decide_eq_false hn, if_neg hn]
  rw [if_neg hc, if_pos (by omega), if_pos (by omega), if_pos (by omega), ba_toList]
  have e : s.extract (i : Int).toNat ((i : Int) + (p.length : Int)).toNat = ba (l.take p.length) := by
    have e := ba_extract s.data.toList i (i + p.length)
    rw [ba_of] at e
    rw [show (i : Int).toNat = i by omega, show ((i : Int) + (p.length : Int)).toNat = i + p.length by omega, e, List.drop_take, ha.2, show i + p.length - i = p.length by omega]
  rw [e, ba_toList]
  by_cases h : p <+: l
  · rw [if_pos (List.prefix_iff_eq_take.1 h).symm, decide_eq_true h, if_pos h]
    rw [show ((i : Int) + (p.length : Int)) = ((i + p.length : Nat) : Int) by omega]
  · rw [if_neg (fun e => h (List.prefix_iff_eq_take.2 e.symm)), decide_eq_false h, if_neg h]
theorem at_is {s : ByteArray} {i : Nat} {l p : Text} (ha : At s i l) (h : p <+: l) : At s (i + p.length) (l.drop p.length) := by
  obtain ⟨t, rfl⟩ := h
  rw [List.drop_append_of_le_length (Nat.le_refl _), List.drop_length, List.nil_append]
  exact at_app ha
def nameB (l : Text) : Bool := match l with
  | [] => false
  | c :: _ => l.all (otherC.contains ·) && firstC.contains c
theorem nameB_cons (c : UInt8) (t : Text) : nameB (c :: t) = ((c :: t).all (otherC.contains ·) && firstC.contains c) := rfl
theorem nm_loop (s : ByteArray) (hs : s.size ≤ 1000000) : ∀ (l : Text) (i k : Nat), At s i l → l.length < k →
    cardexref08_Name.l0 k s (i : Int) = if l.all (otherC.contains ·) = true then some (match s.data.toList with | [] => false | c :: _ => firstC.contains c) else some false
  | [], i, k, ha, hk => by
    obtain ⟨k, rfl⟩ : ∃ j, k = j + 1 := ⟨k - 1, by omega⟩
    have hi := at_nil ha
    have e0 : ([] : Text).all (otherC.contains ·) = true := rfl
    rw [cardexref08_Name.l0, if_neg (by omega), if_pos e0]
    have hz := at_zero s
    have hx : s.toList = s.data.toList := by rw [ByteArray.toList_eq]
    rw [hx]
    generalize s.data.toList = q at *
    match q, hz with
    | [], _ => rw [if_pos rfl]
    | c :: t, hz =>
      obtain ⟨h1, h2, _⟩ := at_cons hz
      have h2 : bt s 0 = (c.toNat : Int) := h2
      rw [if_neg (by simp), if_pos (by omega), h2, letter_f, Option.bind_some]
      have := first_f c
      by_cases h : (firstC.contains c && !(c.toNat == 95)) = true
      · rw [if_pos h]
        rw [h, Bool.true_or] at this
        simp only
        rw [← this]
      · rw [if_neg h]
        have h' : (firstC.contains c && !(c.toNat == 95)) = false := by simpa using h
        rw [h', Bool.false_or] at this
        simp only
        rw [← this]
        congr 1
        rw [Bool.eq_iff_iff, beq_iff_eq, beq_iff_eq]
        omega
  | b :: t, i, k, ha, hk => by
    rw [List.length_cons] at hk
    obtain ⟨k, rfl⟩ : ∃ j, k = j + 1 := ⟨k - 1, by omega⟩
    obtain ⟨hi, hb, ht⟩ := at_cons ha
    rw [cardexref08_Name.l0, if_pos (by omega), if_pos (by omega), hb, within_f, Option.bind_some, List.all_cons]
    by_cases h : otherC.contains b = true
    · rw [if_pos h, wrap_small (by omega) (by omega), show ((i : Int) + 1) = ((i + 1 : Nat) : Int) by omega, nm_loop s hs t (i + 1) k ht (by omega), h, Bool.true_and]
    · have h' : otherC.contains b = false := by simpa using h
      rw [if_neg h, h', Bool.false_and, if_neg Bool.false_ne_true]
theorem nm_r (l : Text) (hl : l.length ≤ 1000000) (k : Nat) (hk : 1000001 ≤ k) : cardexref08_Name.f k (ba l) = some (nameB l) := by
  have h := nm_loop (ba l) (by rw [ba_size]; exact hl) l 0 k (by have := at_zero (ba l); rw [ba_list] at this; exact this) (by omega)
  unfold cardexref08_Name.f nameB
  rw [ba_list] at h
  change cardexref08_Name.l0 k (ba l) 0 = _ at h
  rw [h]
  match l with
  | [] => rfl
  | c :: t =>
    simp only
    by_cases h : (c :: t).all (otherC.contains ·) = true
    · rw [if_pos h, h, Bool.true_and]
    · have h' : (c :: t).all (otherC.contains ·) = false := by simpa using h
      rw [if_neg h, h', Bool.false_and]
theorem tw_all (p : UInt8 → Bool) : ∀ l : Text, (l.takeWhile p).all p = true
  | [] => rfl
  | b :: t => by
    rw [List.takeWhile_cons]
    split
    · rename_i h
      rw [List.all_cons, h, tw_all p t]; rfl
    · rfl
theorem name_eq (l : Text) : (if nameB (l.takeWhile (otherC.contains ·)) = true then l.takeWhile (otherC.contains ·) else []) = (nameL l).1 := by
  match l with
  | [] => rfl
  | c :: t =>
    by_cases hf : firstC.contains c = true
    · have ho : otherC.contains c = true := by
        have : ∀ b : Fin 256, firstC.contains (UInt8.ofNat b.val) = true → otherC.contains (UInt8.ofNat b.val) = true := by decide +kernel
        have := this ⟨c.toNat, UInt8.toNat_lt c⟩
        simp only [u8_of] at this
        exact this hf
      have ha := tw_all (otherC.contains ·) (c :: t)
      rw [nameL_yes hf]
      rw [List.takeWhile_cons, if_pos ho] at ha ⊢
      rw [nameB_cons, ha, hf]; rfl
    · rw [nameL_no hf]
      have hf' : firstC.contains c = false := by simpa using hf
      rw [List.takeWhile_cons]
      by_cases ho : otherC.contains c = true
      · rw [if_pos ho]
        rw [nameB_cons, hf', Bool.and_false, if_neg Bool.false_ne_true]
      · rw [if_neg ho]; rfl
theorem name_two (l : Text) (h : (nameL l).1 ≠ []) : (nameL l).1 = l.takeWhile (otherC.contains ·) ∧ (nameL l).2 = l.dropWhile (otherC.contains ·) := by
  match l, h with
  | [], h => exact absurd rfl h
  | c :: t, h =>
    by_cases hf : firstC.contains c = true
    · rw [nameL_yes hf]; exact ⟨rfl, rfl⟩
    · rw [nameL_no hf] at h; exact absurd rfl h
theorem name_loop (s : ByteArray) (hs : s.size ≤ 1000000) (f : Nat) (w : Text) : ∀ (l p : Text) (k : Nat), At s f (p ++ l) → l.length + 1000001 < k →
    w = p ++ l.takeWhile (otherC.contains ·) → cardexref08_walk_name.l0 k (f : Int) s ((f + p.length : Nat) : Int) = some (ba (if nameB w = true then w else []), s, ((f + w.length : Nat) : Int))
  | [], p, k, ha, hk, hw => by
    obtain ⟨k, rfl⟩ : ∃ j, k = j + 1 := ⟨k - 1, by omega⟩
    have hi := at_nil (at_app ha)
    have he := at_ext ha
    have hl := (at_le ha).2
    rw [List.length_append] at hl
    rw [List.takeWhile_nil, List.append_nil] at hw
    subst hw
    rw [cardexref08_walk_name.l0, if_neg (by omega), if_pos (by omega), if_pos (by omega), if_pos (by omega), Int.toNat_natCast, Int.toNat_natCast, he, Option.bind_some, nm_r w (by omega) k (by simp only [List.length_nil] at hk; omega), Option.bind_some]
    by_cases h : nameB w = true
    · rw [if_pos h, if_pos h]
    · rw [if_neg h, if_neg h]; rfl
  | b :: t, p, k, ha, hk, hw => by
    rw [List.length_cons] at hk
    obtain ⟨k, rfl⟩ : ∃ j, k = j + 1 := ⟨k - 1, by omega⟩
    obtain ⟨hi, hb, ht⟩ := at_cons (at_app ha)
    have he := at_ext ha
    have hl := (at_le ha).2
    rw [List.length_append] at hl
    rw [cardexref08_walk_name.l0, if_pos (by omega), if_pos (by omega), hb, within_f, Option.bind_some]
    rw [List.takeWhile_cons] at hw
    by_cases h : otherC.contains b = true
    · rw [if_pos h] at hw
      rw [if_pos h, wrap_small (by omega) (by omega)]
      have := name_loop s hs f w t (p ++ [b]) k (by rw [List.append_assoc]; exact ha) (by omega) (by rw [hw, List.append_assoc]; rfl)
      rw [List.length_append, List.length_singleton] at this
      rw [show (((f + p.length : Nat) : Int) + 1) = ((f + (p.length + 1) : Nat) : Int) by omega]
      exact this
    · rw [if_neg h, List.append_nil] at hw
      subst hw
      rw [if_neg h, if_pos (by omega), if_pos (by omega), if_pos (by omega), Int.toNat_natCast, Int.toNat_natCast, he, Option.bind_some, nm_r w (by omega) k (by omega), Option.bind_some]
      by_cases h : nameB w = true
      · rw [if_pos h, if_pos h]
      · rw [if_neg h, if_neg h]; rfl
theorem name_r (s : ByteArray) (hs : s.size ≤ 1000000) (l : Text) (i : Nat) (ha : At s i l) :
    ∃ j : Nat, ∃ r : Text, At s j r ∧ ((nameL l).1 ≠ [] → r = (nameL l).2) ∧ ∀ k, 3000000 ≤ k → cardexref08_walk_name.f k s (i : Int) = some (ba (nameL l).1, s, (j : Int)) := by
  have hl := (at_le ha).2
  refine ⟨_, _, at_dw (otherC.contains ·) ha, fun hn => ((name_two l hn).2).symm, fun k hk => ?_⟩
  have h := name_loop s hs i _ l [] k ha (by omega) rfl
  rw [List.nil_append, name_eq] at h
  exact h
end Go.Proofs.YtjijbncheikagaaGreatDoor.P
end
section
namespace Go.Proofs.YtjijbncheikagaaGreatDoor.P
open Go Go.RowKit Go.Lib Go.Proofs.YtjijbncheikagaaGreatDoorX Go.Proofs.YtjijbncheikagaaGreatDoorW.PrintWords Go.Proofs.YtjijbncheikagaaGreatDoor.Q
set_option linter.unusedVariables false
set_option linter.unusedSimpArgs false
theorem mkA_len (ats : Attrs) : (mkA ats).length = ats.length := by unfold mkA; rw [List.length_map]
theorem rd_mkA (ats : Attrs) (i : Nat) (h : i < ats.length) : (rd_T45 (mkA ats) (i : Int)).f0 = ba (ats[i]).1 := by
  unfold rd_T45 mkA
  rw [Int.toNat_natCast]
  simp [h]
theorem mkA_snoc (ats : Attrs) (n v : Text) : mkA ats ++ [(⟨ba n, ba v⟩ : S45)] = mkA (ats ++ [(n, v)]) := by unfold mkA; rw [List.map_append]; rfl
theorem dup_loop (s : ByteArray) (j : Int) (n : Text) (ats : Attrs) (hl : ats.length ≤ 1000000) (k : Nat) : ∀ (d i : Nat), i + d = ats.length →
    cardexref08_walk_attr.l0 (d + (k + 1)) (mkA ats) (ba n) (i : Int) s j = if (ats.drop i).any (fun a => a.1 == n) = true then some ([], false, s, j) else cardexref08_walk_attr.l0 (k + 1) (mkA ats) (ba n) (ats.length : Int) s j
  | 0, i, h => by
    rw [List.drop_of_length_le (by omega), List.any_nil, if_neg Bool.false_ne_true, Nat.zero_add, show i = ats.length by omega]
  | d + 1, i, h => by
    have hi : i < ats.length := by omega
    rw [show d + 1 + (k + 1) = (d + (k + 1)) + 1 by omega, cardexref08_walk_attr.l0, mkA_len, if_pos (by omega), if_pos (by omega), rd_mkA ats i hi, ba_toList, ba_toList, List.drop_eq_getElem_cons hi, List.any_cons]
    by_cases hn : (ats[i]).1 = n
    · rw [if_pos hn, beq_iff_eq.2 hn, Bool.true_or, if_pos rfl]
    · rw [if_neg hn, beq_eq_false_iff_ne.2 hn, Bool.false_or, wrap_small (by omega) (by omega), show ((i : Int) + 1) = ((i + 1 : Nat) : Int) by omega]
      exact dup_loop s j n ats hl k d (i + 1) (by omega)
theorem val_loop (s : ByteArray) (hs : s.size ≤ 1000000) (n : Text) (ats : Attrs) (hl : ats.length ≤ 1000000) (c : UInt8) (f : Nat) (W : Text) (B : ByteArray × Int) (KB : Nat) (hB : ∀ k, KB ≤ k → cardexref01_Back.f k (ba W) = some B) :
    ∀ (t p : Text) (k : Nat), At s f (p ++ t) → W = p ++ t.takeWhile (· != c) → t.length + KB < k →
    cardexref08_walk_attr.l1 k (mkA ats) (ba n) (c.toNat : Int) (f : Int) s ((f + p.length : Nat) : Int) = if t.dropWhile (· != c) = [] then some ([], false, s, (s.size : Int)) else some (mkA ats ++ [(⟨ba n, B.1⟩ : S45)], B.2 == 0, s, ((f + W.length + 1 : Nat) : Int))
  | [], p, k, ha, hw, hk => by
    obtain ⟨k, rfl⟩ : ∃ j, k = j + 1 := ⟨k - 1, by omega⟩
    have := at_nil (at_app ha)
    rw [cardexref08_walk_attr.l1, if_neg (by omega), if_pos (by omega), List.dropWhile_nil, if_pos rfl, this]
  | b :: t, p, k, ha, hw, hk => by
    rw [List.length_cons] at hk
    obtain ⟨k, rfl⟩ : ∃ j, k = j + 1 := ⟨k - 1, by omega⟩
    obtain ⟨hi, hb, ht⟩ := at_cons (at_app ha)
    have he := at_ext ha
    rw [cardexref08_walk_attr.l1, if_pos (by omega), if_pos (by omega), hb]
    by_cases h : b = c
    · subst h
      have h0 : ((b != b) = true) = False := by simp
      rw [List.takeWhile_cons, if_neg (by simp), List.append_nil] at hw
      subst hw
      rw [if_pos rfl, if_neg (by omega), if_pos (by omega), if_pos (by omega), if_pos (by omega), Int.toNat_natCast, Int.toNat_natCast, he, hB k (by omega), Option.bind_some, mkA_len, if_pos (by omega), List.dropWhile_cons, if_neg (by simp), wrap_small (by omega) (by omega)]
      rw [show (((f + W.length : Nat) : Int) + 1) = ((f + W.length + 1 : Nat) : Int) by omega]
    · have hbc : (b != c) = true := by rw [bne_iff_ne]; exact h
      have hn : ¬ ((b.toNat : Int) = (c.toNat : Int)) := fun e => h (UInt8.toNat_inj.1 (by omega))
      rw [List.takeWhile_cons, if_pos hbc] at hw
      rw [if_neg hn, wrap_small (by omega) (by omega), List.dropWhile_cons, if_pos hbc]
      have := val_loop s hs n ats hl c f W B KB hB t (p ++ [b]) k (by rw [List.append_assoc]; exact ha) (by rw [hw, List.append_assoc]; rfl) (by omega)
      rw [List.length_append, List.length_singleton] at this
      rw [show (((f + p.length : Nat) : Int) + 1) = ((f + (p.length + 1) : Nat) : Int) by omega]
      exact this
theorem j1_true (k : Nat) (x : List S45) (n s : ByteArray) (j : Int) : cardexref08_walk_attr.j1 (k + 1) x n true s j = some ([], false, s, j) := by
  rw [cardexref08_walk_attr.j1, if_pos rfl]
theorem j2_true (k : Nat) (x : List S45) (n s : ByteArray) (j : Int) : cardexref08_walk_attr.j2 (k + 1) x n true s j = some ([], false, s, j) := by
  rw [cardexref08_walk_attr.j2, if_pos rfl]
theorem valM_r (s : ByteArray) (hs : s.size ≤ 1000000) (n : Text) (ats : Attrs) (hl : ats.length ≤ 1000000) (c : UInt8) (t : Text) (j : Nat) (ha : At s j (c :: t)) : ∃ K, ∀ k, K ≤ k →
    (∀ v r, valM c t = some (v, r) → ∃ i : Nat, At s i r ∧ cardexref08_walk_attr.j2 k (mkA ats) (ba n) false s (j : Int) = some (mkA (ats ++ [(n, v)]), true, s, (i : Int))) ∧ (valM c t = none → ∃ a b, cardexref08_walk_attr.j2 k (mkA ats) (ba n) false s (j : Int) = some (a, false, s, b)) := by
  obtain ⟨hi, hb, ht⟩ := at_cons ha
  have hsz := (at_le ht).2
  have hw : (t.takeWhile (· != c)).length ≤ t.length := by
    have := congrArg List.length (tw_dw (· != c) t)
    rw [List.length_append] at this
    omega
  obtain ⟨KB, hB⟩ := ref_back (ba (t.takeWhile (· != c))) (by rw [ba_size]; omega)
  refine ⟨KB + s.size + 10, fun k hk => ?_⟩
  obtain ⟨k, rfl⟩ : ∃ j, k = j + 1 := ⟨k - 1, by omega⟩
  have hv := val_loop s hs n ats hl c (j + 1) (t.takeWhile (· != c)) _ KB hB t [] k ht rfl (by omega)
  rw [cardexref08_walk_attr.j2, if_neg Bool.false_ne_true, if_pos (by omega), if_pos (by omega), hb, wrap_small (by omega) (by omega), show ((j : Int) + 1) = ((j + 1 : Nat) : Int) by omega]
  rw [List.length_nil, Nat.add_zero] at hv
  rw [hv]
  unfold valM
  have hd := at_dw (· != c) ht
  cases he : t.dropWhile (· != c) with
  | nil =>
    rw [if_pos rfl, if_pos rfl]
    exact ⟨(fun v r h => by cases h), fun _ => ⟨_, _, rfl⟩⟩
  | cons b r =>
    rw [if_neg (by simp), if_neg (by simp)]
    rw [he] at hd
    have hd := (at_cons hd).2.2
    cases ho : backO (t.takeWhile (· != c)) with
    | none =>
      rw [beq_eq_false_iff_ne.2 (back_none ho)]
      exact ⟨(fun v r h => by cases h), fun _ => ⟨_, _, rfl⟩⟩
    | some v =>
      rw [back_some ho]
      refine ⟨fun v' r' h => ?_, fun h => by cases h⟩
      cases h
      refine ⟨_, hd, ?_⟩
      rw [mkA_snoc]; rfl
def eqO (l : Text) : Option (Text × Text) := match gapL l with
  | 61 :: t => valO (gapL t)
  | _ => none
theorem attr_end (s : ByteArray) (hs : s.size ≤ 1000000) (ats : Attrs) (hl : ats.length ≤ 1000000) (n : Text) (hn : n ≠ []) (l : Text) (j : Nat) (ha : At s j l) : ∃ K, ∀ k, K ≤ k →
    (∀ v r, eqO l = some (v, r) → ∃ i : Nat, At s i r ∧ cardexref08_walk_attr.l0 (k + 1) (mkA ats) (ba n) (ats.length : Int) s (j : Int) = some (mkA (ats ++ [(n, v)]), true, s, (i : Int))) ∧ (eqO l = none → ∃ a b, cardexref08_walk_attr.l0 (k + 1) (mkA ats) (ba n) (ats.length : Int) s (j : Int) = some (a, false, s, b)) := by
  have h1 : ∀ k, 2000000 ≤ k → cardexref08_walk_attr.l0 (k + 1) (mkA ats) (ba n) (ats.length : Int) s (j : Int) = cardexref08_walk_attr.j1 k (mkA ats) (ba n) (!(decide ([61] <+: gapL l))) s (if [61] <+: gapL l then ((j + (l.takeWhile (blankC.contains ·)).length + 1 : Nat) : Int) else ((j + (l.takeWhile (blankC.contains ·)).length : Nat) : Int)) := by
    intro k hk
    rw [cardexref08_walk_attr.l0, mkA_len, if_neg (by omega), blanks_r s hs l j k ha (by omega), Option.bind_some]
    simp only
    rw [ba_toList, if_neg hn, show (⟨#[61]⟩ : ByteArray) = ba [61] from rfl, is_r s hs (gapL l) [61] _ (at_dw (blankC.contains ·) ha) (by decide), Option.bind_some]
    rfl
  have a1 : At s (j + (l.takeWhile (blankC.contains ·)).length) (gapL l) := at_dw (blankC.contains ·) ha
  unfold eqO
  by_cases hp : [61] <+: gapL l
  · obtain ⟨t, he⟩ := hp
    rw [← he] at a1
    have a2 : At s (j + (l.takeWhile (blankC.contains ·)).length + 1) t := (at_cons a1).2.2
    have a3 : At s (j + (l.takeWhile (blankC.contains ·)).length + 1 + (t.takeWhile (blankC.contains ·)).length) (gapL t) := at_dw (blankC.contains ·) a2
    have hp : [61] <+: gapL l := ⟨t, he⟩
    have h2 : ∀ k, 2000000 ≤ k → cardexref08_walk_attr.l0 (k + 2) (mkA ats) (ba n) (ats.length : Int) s (j : Int) = (if ((j + (l.takeWhile (blankC.contains ·)).length + 1 + (t.takeWhile (blankC.contains ·)).length : Nat) : Int) ≥ (s.size : Int) then cardexref08_walk_attr.j2 k (mkA ats) (ba n) true s ((j + (l.takeWhile (blankC.contains ·)).length + 1 + (t.takeWhile (blankC.contains ·)).length : Nat) : Int) else if 0 ≤ ((j + (l.takeWhile (blankC.contains ·)).length + 1 + (t.takeWhile (blankC.contains ·)).length : Nat) : Int) then if ((j + (l.takeWhile (blankC.contains ·)).length + 1 + (t.takeWhile (blankC.contains ·)).length : Nat) : Int) < (s.size : Int) then if bt s ((j + (l.takeWhile (blankC.contains ·)).length + 1 + (t.takeWhile (blankC.contains ·)).length : Nat) : Int) = 34 then cardexref08_walk_attr.j2 k (mkA ats) (ba n) false s ((j + (l.takeWhile (blankC.contains ·)).length + 1 + (t.takeWhile (blankC.contains ·)).length : Nat) : Int) else cardexref08_walk_attr.j2 k (mkA ats) (ba n) (bt s ((j + (l.takeWhile (blankC.contains ·)).length + 1 + (t.takeWhile (blankC.contains ·)).length : Nat) : Int) != 39) s ((j + (l.takeWhile (blankC.contains ·)).length + 1 + (t.takeWhile (blankC.contains ·)).length : Nat) : Int) else none else none) := by
      intro k hk
      rw [h1 (k + 1) (by omega), decide_eq_true hp, if_pos hp, cardexref08_walk_attr.j1, Bool.not_true, if_neg Bool.false_ne_true, blanks_r s hs t _ k a2 (by omega), Option.bind_some]
    generalize j + (l.takeWhile (blankC.contains ·)).length + 1 + (t.takeWhile (blankC.contains ·)).length = q at *
    rw [← he]
    show ∃ K, ∀ k, K ≤ k → (∀ v r, valO (gapL t) = some (v, r) → _) ∧ (valO (gapL t) = none → _)
    generalize gapL t = g at *
    match g, a3 with
    | [], a3 =>
      refine ⟨3000000, fun k hk => ?_⟩
      obtain ⟨k, rfl⟩ : ∃ j, k = j + 2 := ⟨k - 2, by omega⟩
      have := at_nil a3
      rw [h2 (k + 1) (by omega), if_pos (by omega), j2_true]
      exact ⟨(fun v r h => by cases h), fun _ => ⟨_, _, rfl⟩⟩
    | c :: u, a3 =>
      obtain ⟨hi, hb, _⟩ := at_cons a3
      obtain ⟨K, hK⟩ := valM_r s hs n ats hl c u q a3
      refine ⟨3000000 + K, fun k hk => ?_⟩
      obtain ⟨k, rfl⟩ : ∃ j, k = j + 2 := ⟨k - 2, by omega⟩
      rw [h2 (k + 1) (by omega), if_neg (by omega), if_pos (by omega), if_pos (by omega), hb]
      have hyes : c = 39 ∨ c = 34 → valO (c :: u) = valM c u := fun h => by unfold valO; simp only; rw [if_pos h]
      have b34 : ((c.toNat : Int) = 34) ↔ c = 34 := byte_eq c 34 (by decide)
      have b39 : ((c.toNat : Int) = 39) ↔ c = 39 := byte_eq c 39 (by decide)
      by_cases h34 : c = 34
      · rw [if_pos (b34.2 h34), hyes (.inr h34)]
        exact hK (k + 1) (by omega)
      rw [if_neg (fun e => h34 (b34.1 e))]
      by_cases h39 : c = 39
      · rw [show ((c.toNat : Int) != 39) = false by rw [bne_eq_false_iff_eq]; exact b39.2 h39, hyes (.inl h39)]
        exact hK (k + 1) (by omega)
      have hno : valO (c :: u) = none := by unfold valO; simp only; rw [if_neg (fun h => h.elim h39 h34)]
      rw [show ((c.toNat : Int) != 39) = true by rw [bne_iff_ne]; exact fun e => h39 (b39.1 e), j2_true, hno]
      exact ⟨(fun v r h => by cases h), fun _ => ⟨_, _, rfl⟩⟩
  · refine ⟨3000000, fun k hk => ?_⟩
    obtain ⟨k, rfl⟩ : ∃ j, k = j + 1 := ⟨k - 1, by omega⟩
    rw [h1 (k + 1) (by omega), decide_eq_false hp, Bool.not_false, j1_true]
    have hno : (match gapL l with | 61 :: t => valO (gapL t) | _ => none) = (none : Option (Text × Text)) := by
      generalize gapL l = g at hp
      split
      · exact absurd ⟨_, rfl⟩ hp
      · rfl
    rw [hno]
    exact ⟨(fun v r h => by cases h), fun _ => ⟨_, _, rfl⟩⟩
theorem attrO_eq (l : Text) : attrO l = if (nameL l).1 = [] then none else (eqO (nameL l).2).map fun x => ((nameL l).1, x.1, x.2) := by
  unfold attrO eqO
  split
  · rfl
  · have hm : ∀ (g n : Text), (match g with | 61 :: t => (valO (gapL t)).map (fun x : Text × Text => (n, x.1, x.2)) | _ => none) = (match g with | 61 :: t => valO (gapL t) | _ => none).map (fun x : Text × Text => (n, x.1, x.2)) := by
      intro g n
      split
      · rfl
      · rfl
    exact hm _ _
theorem attr_r (s : ByteArray) (hs : s.size ≤ 1000000) (ats : Attrs) (hl : ats.length ≤ 1000000) (l : Text) (i : Nat) (ha : At s i l) : ∃ K, ∀ k, K ≤ k →
    (∀ n v r, attrO l = some (n, v, r) → ats.any (fun a => a.1 == n) = false → ∃ j : Nat, At s j r ∧ cardexref08_walk_attr.f k s (i : Int) (mkA ats) = some (mkA (ats ++ [(n, v)]), true, s, (j : Int))) ∧
    ((attrO l = none ∨ ∃ n v r, attrO l = some (n, v, r) ∧ ats.any (fun a => a.1 == n) = true) → ∃ a b, cardexref08_walk_attr.f k s (i : Int) (mkA ats) = some (a, false, s, b)) := by
  obtain ⟨j, r1, a1, hr1, e1⟩ := name_r s hs l i ha
  have hd := fun k => dup_loop s (j : Int) (nameL l).1 ats hl k ats.length 0 (by omega)
  rw [attrO_eq]
  by_cases hn : (nameL l).1 = []
  · refine ⟨4000000 + ats.length, fun k hk => ?_⟩
    obtain ⟨k, rfl⟩ : ∃ j, k = ats.length + (j + 1 + 1) := ⟨k - ats.length - 2, by omega⟩
    rw [if_pos hn]
    refine ⟨(fun n v r h => by cases h), fun _ => ?_⟩
    unfold cardexref08_walk_attr.f
    rw [e1 _ (by omega), Option.bind_some]
    simp only
    have := hd (k + 1)
    rw [List.drop_zero] at this
    change ∃ a b, cardexref08_walk_attr.l0 _ _ _ ((0 : Nat) : Int) s (j : Int) = _
    rw [this]
    split
    · exact ⟨_, _, rfl⟩
    · rw [cardexref08_walk_attr.l0, mkA_len, if_neg (by omega), blanks_r s hs r1 j (k + 1) a1 (by omega), Option.bind_some]
      simp only
      rw [ba_toList, if_pos hn, j1_true]
      exact ⟨_, _, rfl⟩
  · rw [if_neg hn]
    have hr1 := hr1 hn
    subst hr1
    obtain ⟨K, hK⟩ := attr_end s hs ats hl (nameL l).1 hn (nameL l).2 j a1
    refine ⟨4000000 + ats.length + K, fun k hk => ?_⟩
    obtain ⟨k, rfl⟩ : ∃ j, k = ats.length + (j + 1) := ⟨k - ats.length - 1, by omega⟩
    obtain ⟨h2, h3⟩ := hK k (by omega)
    have hd := hd k
    rw [List.drop_zero] at hd
    unfold cardexref08_walk_attr.f
    rw [e1 _ (by omega), Option.bind_some]
    simp only
    change (∀ n v r, _ → _ → ∃ j' : Nat, At s j' r ∧ cardexref08_walk_attr.l0 _ _ _ ((0 : Nat) : Int) s (j : Int) = _) ∧ (_ → ∃ a b, cardexref08_walk_attr.l0 _ _ _ ((0 : Nat) : Int) s (j : Int) = _)
    rw [hd]
    cases he : eqO (nameL l).2 with
    | none =>
      refine ⟨(fun n v r h => by cases h), fun _ => ?_⟩
      split
      · exact ⟨_, _, rfl⟩
      · exact h3 he
    | some x =>
      obtain ⟨v, r⟩ := x
      constructor
      · intro n v' r' h hany
        cases h
        rw [hany, if_neg Bool.false_ne_true]
        exact h2 v r he
      · rintro (h | ⟨n, v', r', h, hany⟩)
        · cases h
        · cases h
          rw [hany, if_pos rfl]
          exact ⟨_, _, rfl⟩
end Go.Proofs.YtjijbncheikagaaGreatDoor.P
end
section
namespace Go.Proofs.YtjijbncheikagaaGreatDoor.P
open Go Go.RowKit Go.Lib Go.Proofs.YtjijbncheikagaaGreatDoorX Go.Proofs.YtjijbncheikagaaGreatDoorW.PrintWords Go.Proofs.YtjijbncheikagaaGreatDoor.Q
set_option linter.unusedVariables false
set_option linter.unusedSimpArgs false
theorem open_false (k : Nat) (s : ByteArray) (j a b : Int) (c d : ByteArray) (x : List S45) (e : Bool) : cardexref08_walk_open.l0 (k + 1) false s j a b c d x e = some (a, b, c, d, x, e, false, s, j) := by
  rw [cardexref08_walk_open.l0, if_neg Bool.false_ne_true]
theorem open_loop_r (s : ByteArray) (hs : s.size ≤ 1000000) (at' : Int) (nm tx : ByteArray) : ∀ (d : Nat) (l : Text) (i : Nat) (ats : Attrs), At s i l → l.length < d → ats.length + l.length ≤ 1000000 → ∃ K, ∀ k, K ≤ k →
    (∀ ats' e r, openG d ats l = some (ats', e, r) → ∃ j : Nat, At s j r ∧ cardexref08_walk_open.l0 k true s (i : Int) 1 at' nm tx (mkA ats) false = some (1, at', nm, tx, mkA ats', e, true, s, (j : Int))) ∧
    (openG d ats l = none → ∃ a b c d' x e y z, cardexref08_walk_open.l0 k true s (i : Int) 1 at' nm tx (mkA ats) false = some (a, b, c, d', x, e, false, y, z))
  | 0, l, i, ats, ha, hd, hb => by omega
  | d + 1, l, i, ats, ha, hd, hb => by
    have hg := gapL_len l
    have a1 : At s (i + (l.takeWhile (blankC.contains ·)).length) (gapL l) := at_dw (blankC.contains ·) ha
    have head : ∀ k, 2000000 ≤ k → cardexref08_walk_open.l0 (k + 1) true s (i : Int) 1 at' nm tx (mkA ats) false = (if [47, 62] <+: gapL l then some (1, at', nm, tx, mkA ats, true, true, s, ((i + (l.takeWhile (blankC.contains ·)).length + 2 : Nat) : Int)) else if [62] <+: gapL l then some (1, at', nm, tx, mkA ats, false, true, s, ((i + (l.takeWhile (blankC.contains ·)).length + 1 : Nat) : Int)) else if l.takeWhile (blankC.contains ·) = [] then some (1, at', nm, tx, mkA ats, false, false, s, ((i + (l.takeWhile (blankC.contains ·)).length : Nat) : Int)) else (cardexref08_walk_attr.f k s ((i + (l.takeWhile (blankC.contains ·)).length : Nat) : Int) (mkA ats)).bind fun bt => cardexref08_walk_open.l0 k bt.2.1 bt.2.2.1 bt.2.2.2 1 at' nm tx bt.1 false) := by
      intro k hk
      rw [cardexref08_walk_open.l0, if_pos rfl, blanks_r s hs l i k ha (by omega), Option.bind_some]
      simp only
      rw [show (⟨#[47, 62]⟩ : ByteArray) = ba [47, 62] from rfl, is_r s hs (gapL l) [47, 62] _ a1 (by decide), Option.bind_some]
      simp only
      by_cases h1 : [47, 62] <+: gapL l
      · rw [decide_eq_true h1, if_pos rfl, if_pos h1, if_pos h1]; rfl
      rw [decide_eq_false h1, if_neg Bool.false_ne_true, if_neg h1, if_neg h1, show (⟨#[62]⟩ : ByteArray) = ba [62] from rfl, is_r s hs (gapL l) [62] _ a1 (by decide), Option.bind_some]
      simp only
      by_cases h2 : [62] <+: gapL l
      · rw [decide_eq_true h2, if_pos rfl, if_pos h2, if_pos h2]; rfl
      rw [decide_eq_false h2, if_neg Bool.false_ne_true, if_neg h2, if_neg h2]
      by_cases h3 : l.takeWhile (blankC.contains ·) = []
      · rw [if_pos h3, if_pos (by rw [h3]; rfl)]
      · have : (l.takeWhile (blankC.contains ·)).length ≠ 0 := fun e => h3 (List.length_eq_zero_iff.1 e)
        rw [if_neg h3, if_neg (by omega)]
    generalize hq : i + (l.takeWhile (blankC.contains ·)).length = q at *
    unfold openG
    by_cases h1 : [47, 62] <+: gapL l
    · refine ⟨3000000, fun k hk => ?_⟩
      obtain ⟨k, rfl⟩ : ∃ j, k = j + 1 := ⟨k - 1, by omega⟩
      rw [if_pos h1, head k (by omega), if_pos h1]
      refine ⟨fun ats' e r h => ?_, fun h => by cases h⟩
      cases h
      exact ⟨q + 2, at_is a1 h1, rfl⟩
    rw [if_neg h1]
    by_cases h2 : [62] <+: gapL l
    · refine ⟨3000000, fun k hk => ?_⟩
      obtain ⟨k, rfl⟩ : ∃ j, k = j + 1 := ⟨k - 1, by omega⟩
      rw [if_pos h2, head k (by omega), if_neg h1, if_pos h2]
      refine ⟨fun ats' e r h => ?_, fun h => by cases h⟩
      cases h
      exact ⟨q + 1, at_is a1 h2, rfl⟩
    rw [if_neg h2]
    obtain ⟨KA, hKA⟩ := attr_r s hs ats (by omega) (gapL l) q a1
    have bad : (attrO (gapL l) = none ∨ ∃ n v r, attrO (gapL l) = some (n, v, r) ∧ ats.any (fun a => a.1 == n) = true) → ∀ k, 3000000 + KA ≤ k → ∃ a b c d' x e y z, cardexref08_walk_open.l0 k true s (i : Int) 1 at' nm tx (mkA ats) false = some (a, b, c, d', x, e, false, y, z) := by
      intro h k hk
      obtain ⟨k, rfl⟩ : ∃ j, k = j + 2 := ⟨k - 2, by omega⟩
      rw [head (k + 1) (by omega), if_neg h1, if_neg h2]
      split
      · exact ⟨_, _, _, _, _, _, _, _, rfl⟩
      · obtain ⟨a, b, e⟩ := (hKA (k + 1) (by omega)).2 h
        rw [e, Option.bind_some]
        simp only
        rw [open_false]
        exact ⟨_, _, _, _, _, _, _, _, rfl⟩
    cases hat : attrO (gapL l) with
    | none => exact ⟨3000000 + KA, fun k hk => ⟨(fun ats' e r h => by cases h), fun _ => bad (.inl hat) k hk⟩⟩
    | some x =>
      obtain ⟨n, v, r⟩ := x
      simp only
      have hr := attrO_len hat
      by_cases h3 : l.takeWhile (blankC.contains ·) = []
      · refine ⟨3000000, fun k hk => ?_⟩
        obtain ⟨k, rfl⟩ : ∃ j, k = j + 1 := ⟨k - 1, by omega⟩
        rw [if_pos h3, head k (by omega), if_neg h1, if_neg h2, if_pos h3]
        exact ⟨(fun ats' e r h => by cases h), fun _ => ⟨_, _, _, _, _, _, _, _, rfl⟩⟩
      rw [if_neg h3]
      by_cases h4 : ats.any (fun a => a.1 == n) = true
      · rw [if_pos h4]
        exact ⟨3000000 + KA, fun k hk => ⟨(fun ats' e r h => by cases h), fun _ => bad (.inr ⟨n, v, r, hat, h4⟩) k hk⟩⟩
      rw [if_neg h4]
      have h4' : ats.any (fun a => a.1 == n) = false := Bool.eq_false_iff.2 h4
      obtain ⟨j, hj, _⟩ := (hKA KA (Nat.le_refl _)).1 n v r hat h4'
      obtain ⟨K, hK⟩ := open_loop_r s hs at' nm tx d r j (ats ++ [(n, v)]) hj (by omega) (by rw [List.length_append, List.length_singleton]; omega)
      refine ⟨K + KA + 3000000, fun k hk => ?_⟩
      obtain ⟨k, rfl⟩ : ∃ j, k = j + 1 := ⟨k - 1, by omega⟩
      obtain ⟨j', hj', e⟩ := (hKA k (by omega)).1 n v r hat h4'
      have : j' = j := by have := hj.1; have := hj'.1; omega
      subst this
      rw [head k (by omega), if_neg h1, if_neg h2, if_neg h3, e, Option.bind_some]
      exact hK k (by omega)
theorem open_r (s : ByteArray) (hs : s.size ≤ 400000) (at' : Int) (l : Text) (i : Nat) (ha : At s i l) : ∃ K, ∀ k, K ≤ k →
    (∀ p r, openO l = some (p, r) → ∃ j : Nat, At s j r ∧ cardexref08_walk_open.f k s (i : Int) 0 at' ⟨#[]⟩ ⟨#[]⟩ [] false = some (p.kind, at', ba p.name, ba p.text, mkA p.ats, p.shut, true, s, (j : Int))) ∧
    (openO l = none → ∃ a b c d x e y z, cardexref08_walk_open.f k s (i : Int) 0 at' ⟨#[]⟩ ⟨#[]⟩ [] false = some (a, b, c, d, x, e, false, y, z)) := by
  have hl := (at_le ha).2
  have hnl := nameL_len l
  obtain ⟨j, r1, a1, hr1, e1⟩ := name_r s (by omega) l i ha
  by_cases hn : (nameL l).1 = []
  · refine ⟨4000000, fun k hk => ?_⟩
    obtain ⟨k, rfl⟩ : ∃ j, k = j + 1 := ⟨k - 1, by omega⟩
    unfold openO cardexref08_walk_open.f
    rw [e1 _ (by omega), Option.bind_some, if_pos hn]
    simp only
    rw [ba_toList, show ((nameL l).1 != []) = false by rw [bne_eq_false_iff_eq]; exact hn, open_false]
    exact ⟨(fun p r h => by cases h), fun _ => ⟨_, _, _, _, _, _, _, _, rfl⟩⟩
  · have hr1 := hr1 hn
    subst hr1
    obtain ⟨K, hK⟩ := open_loop_r s (by omega) at' (ba (nameL l).1) ⟨#[]⟩ (l.length + 1) (nameL l).2 j [] a1 (by omega) (by simp only [List.length_nil]; omega)
    refine ⟨K + 4000000, fun k hk => ?_⟩
    obtain ⟨h2, h3⟩ := hK k (by omega)
    unfold openO cardexref08_walk_open.f
    rw [e1 _ (by omega), Option.bind_some, if_neg hn]
    simp only
    rw [ba_toList, show ((nameL l).1 != []) = true by rw [bne_iff_ne]; exact hn]
    change (∀ p r, _ → ∃ j' : Nat, At s j' r ∧ cardexref08_walk_open.l0 k true s (j : Int) 1 at' (ba (nameL l).1) ⟨#[]⟩ (mkA []) false = _) ∧ (_ → ∃ a b c d x e y z, cardexref08_walk_open.l0 k true s (j : Int) 1 at' (ba (nameL l).1) ⟨#[]⟩ (mkA []) false = _)
    cases ho : openG (l.length + 1) [] (nameL l).2 with
    | none => exact ⟨(fun p r h => by cases h), fun _ => h3 ho⟩
    | some x =>
      obtain ⟨a, e, r⟩ := x
      refine ⟨fun p r' h => ?_, fun h => by cases h⟩
      cases h
      exact h2 a e r ho
theorem shut_r (s : ByteArray) (hs : s.size ≤ 400000) (at' : Int) (l : Text) (i : Nat) (ha : At s i l) (k : Nat) (hk : 4000000 ≤ k) (F : Option (Int × Int × ByteArray × ByteArray × List S45 × Bool × Bool × ByteArray × Int))
    (hF : F = (cardexref08_walk_name.f k s (i : Int)).bind fun bt385 => ((cardexref08_walk_blanks.f k bt385.2.1 bt385.2.2).bind fun bt388 => (if bt385.1.toList = ([] : List UInt8) then (some (2, at', bt385.1, (⟨#[]⟩ : ByteArray), ([] : List S45), false, false, bt388.2.1, bt388.2.2)) else ((cardexref08_walk_is.f bt388.2.1 bt388.2.2 (⟨#[62]⟩ : ByteArray)).bind fun bt391 => (some (2, at', bt385.1, (⟨#[]⟩ : ByteArray), ([] : List S45), false, bt391.1, bt391.2.1, bt391.2.2)))))) :
    (∀ p r, shutO l = some (p, r) → ∃ j : Nat, At s j r ∧ F = some (p.kind, at', ba p.name, ba p.text, mkA p.ats, p.shut, true, s, (j : Int))) ∧ (shutO l = none → ∃ a b c d x e y z, F = some (a, b, c, d, x, e, false, y, z)) := by
  obtain ⟨j, r1, a1, hr1, e1⟩ := name_r s (by omega) l i ha
  rw [e1 k (by omega), Option.bind_some] at hF
  simp only at hF
  rw [blanks_r s (by omega) r1 j k a1 (by omega), Option.bind_some, ba_toList] at hF
  simp only at hF
  unfold shutO
  by_cases hn : (nameL l).1 = []
  · rw [if_pos hn] at hF ⊢
    exact ⟨(fun p r h => by cases h), fun _ => ⟨_, _, _, _, _, _, _, _, hF⟩⟩
  have hr1 := hr1 hn
  subst hr1
  have a2 : At s (j + ((nameL l).2.takeWhile (blankC.contains ·)).length) (gapL (nameL l).2) := at_dw (blankC.contains ·) a1
  rw [if_neg hn, show (⟨#[62]⟩ : ByteArray) = ba [62] from rfl, is_r s (by omega) (gapL (nameL l).2) [62] _ a2 (by decide), Option.bind_some] at hF
  rw [if_neg hn]
  generalize gapL (nameL l).2 = g at *
  by_cases hp : [62] <+: g
  · rw [decide_eq_true hp, if_pos hp] at hF
    have a3 := at_is a2 hp
    obtain ⟨t, rfl⟩ := hp
    refine ⟨fun p r h => ?_, fun h => by cases h⟩
    cases h
    exact ⟨_, a3, hF⟩
  · rw [decide_eq_false hp, if_neg hp] at hF
    refine ⟨fun p r h => ?_, fun _ => ⟨_, _, _, _, _, _, _, _, hF⟩⟩
    split at h
    · exact absurd ⟨_, rfl⟩ hp
    · cases h
theorem text_loop (s : ByteArray) (hs : s.size ≤ 400000) (x0 x1 : Int) (x2 x3 : ByteArray) (x5 : Bool) (f : Nat) (W : Text) (B : ByteArray × Int) (KB : Nat) (hB : ∀ k, KB ≤ k → cardexref01_Back.f k (ba W) = some B) :
    ∀ (t p : Text) (k : Nat), At s f (p ++ t) → W = p ++ t.takeWhile (· != 60) → t.length + KB < k →
    cardexref08_walk_token.l0 k (f : Int) s ((f + p.length : Nat) : Int) x0 x1 x2 x3 x5 = some (3, x1, x2, B.1, [], x5, B.2 == 0, s, ((f + W.length : Nat) : Int))
  | [], p, k, ha, hw, hk => by
    obtain ⟨k, rfl⟩ : ∃ j, k = j + 1 := ⟨k - 1, by omega⟩
    have := at_nil (at_app ha)
    have he := at_ext ha
    rw [List.takeWhile_nil, List.append_nil] at hw
    subst hw
    simp only [List.length_nil] at hk
    rw [cardexref08_walk_token.l0, if_neg (by omega), if_pos (by omega), if_pos (by omega), if_pos (by omega), Int.toNat_natCast, Int.toNat_natCast, he, hB k (by omega), Option.bind_some]
  | b :: t, p, k, ha, hw, hk => by
    rw [List.length_cons] at hk
    obtain ⟨k, rfl⟩ : ∃ j, k = j + 1 := ⟨k - 1, by omega⟩
    obtain ⟨hi, hb, ht⟩ := at_cons (at_app ha)
    have he := at_ext ha
    have b60 : ((b.toNat : Int) = 60) ↔ b = 60 := byte_eq b 60 (by decide)
    rw [cardexref08_walk_token.l0, if_pos (by omega), if_pos (by omega), hb]
    by_cases h : b = 60
    · rw [if_pos (b60.2 h)]
      rw [List.takeWhile_cons, if_neg (by rw [h]; simp), List.append_nil] at hw
      subst hw
      rw [if_pos (by omega), if_pos (by omega), if_pos (by omega), Int.toNat_natCast, Int.toNat_natCast, he, hB k (by omega), Option.bind_some]
    · rw [if_neg (fun e => h (b60.1 e)), wrap_small (by omega) (by omega)]
      rw [List.takeWhile_cons, if_pos (by rw [bne_iff_ne]; exact h)] at hw
      have := text_loop s hs x0 x1 x2 x3 x5 f W B KB hB t (p ++ [b]) k (by rw [List.append_assoc]; exact ha) (by rw [hw, List.append_assoc]; rfl) (by omega)
      rw [List.length_append, List.length_singleton] at this
      rw [show (((f + p.length : Nat) : Int) + 1) = ((f + (p.length + 1) : Nat) : Int) by omega]
      exact this
theorem token_r (s : ByteArray) (hs : s.size ≤ 400000) (l : Text) (i : Nat) (ha : At s i l) : ∃ K, ∀ k, K ≤ k →
    (∀ p r, nextO l = some (p, r) → ∃ j : Nat, At s j r ∧ cardexref08_walk_token.f k s (i : Int) = some (p.kind, (i : Int), ba p.name, ba p.text, mkA p.ats, p.shut, true, s, (j : Int))) ∧
    (nextO l = none → ∃ a b c d x e y z, cardexref08_walk_token.f k s (i : Int) = some (a, b, c, d, x, e, false, y, z)) := by
  have hl := (at_le ha).2
  unfold nextO
  by_cases h1 : [60, 47] <+: l
  · refine ⟨4000000, fun k hk => ?_⟩
    rw [if_pos h1]
    refine shut_r s hs (i : Int) (l.drop 2) (i + 2) (at_is ha h1) k hk _ ?_
    unfold cardexref08_walk_token.f
    rw [show (⟨#[60, 47]⟩ : ByteArray) = ba [60, 47] from rfl, is_r s (by omega) l [60, 47] i ha (by decide), Option.bind_some, decide_eq_true h1, if_pos rfl, if_pos h1]
    rfl
  rw [if_neg h1]
  by_cases h2 : [60] <+: l
  · obtain ⟨K, hK⟩ := open_r s hs (i : Int) (l.drop 1) (i + 1) (at_is ha h2)
    refine ⟨K + 1, fun k hk => ?_⟩
    have e : cardexref08_walk_token.f k s (i : Int) = cardexref08_walk_open.f k s ((i + 1 : Nat) : Int) 0 (i : Int) ⟨#[]⟩ ⟨#[]⟩ [] false := by
      unfold cardexref08_walk_token.f
      rw [show (⟨#[60, 47]⟩ : ByteArray) = ba [60, 47] from rfl, is_r s (by omega) l [60, 47] i ha (by decide), Option.bind_some, decide_eq_false h1, if_neg Bool.false_ne_true, if_neg h1]
      simp only
      rw [show (⟨#[60]⟩ : ByteArray) = ba [60] from rfl, is_r s (by omega) l [60] i ha (by decide), Option.bind_some, decide_eq_true h2, if_pos rfl, if_pos h2]
      show Option.bind (cardexref08_walk_open.f k s ((i + 1 : Nat) : Int) 0 (i : Int) ⟨#[]⟩ ⟨#[]⟩ [] false) _ = _
      cases cardexref08_walk_open.f k s ((i + 1 : Nat) : Int) 0 (i : Int) ⟨#[]⟩ ⟨#[]⟩ [] false <;> rfl
    rw [if_pos h2, e]
    exact hK k (by omega)
  · have hw := congrArg List.length (tw_dw (· != 60) l)
    rw [List.length_append] at hw
    obtain ⟨KB, hB⟩ := ref_back (ba (l.takeWhile (· != 60))) (by rw [ba_size]; omega)
    refine ⟨KB + 1000000, fun k hk => ?_⟩
    have e : cardexref08_walk_token.f k s (i : Int) = cardexref08_walk_token.l0 k (i : Int) s (i : Int) 0 (i : Int) ⟨#[]⟩ ⟨#[]⟩ false := by
      unfold cardexref08_walk_token.f
      rw [show (⟨#[60, 47]⟩ : ByteArray) = ba [60, 47] from rfl, is_r s (by omega) l [60, 47] i ha (by decide), Option.bind_some, decide_eq_false h1, if_neg Bool.false_ne_true, if_neg h1]
      simp only
      rw [show (⟨#[60]⟩ : ByteArray) = ba [60] from rfl, is_r s (by omega) l [60] i ha (by decide), Option.bind_some, decide_eq_false h2, if_neg Bool.false_ne_true, if_neg h2]
    have ht := text_loop s hs 0 (i : Int) ⟨#[]⟩ ⟨#[]⟩ false i (l.takeWhile (· != 60)) _ KB hB l [] k ha rfl (by omega)
    rw [List.length_nil, Nat.add_zero] at ht
    rw [if_neg h2, e, ht]
    cases hb : backO (l.takeWhile (· != 60)) with
    | none =>
      refine ⟨(fun p r h => by cases h), fun _ => ?_⟩
      rw [beq_eq_false_iff_ne.2 (back_none hb)]
      exact ⟨_, _, _, _, _, _, _, _, rfl⟩
    | some v =>
      refine ⟨fun p r h => ?_, fun h => by cases h⟩
      cases h
      rw [back_some hb]
      exact ⟨_, at_dw (· != 60) ha, rfl⟩
theorem rtoks_loop (s : ByteArray) (hs : s.size ≤ 400000) : ∀ (d : Nat) (l : Text) (i : Nat) (acc : List S30), At s i l → l.length < d → acc.length + l.length ≤ 10000000 → ∃ K, ∀ k, K ≤ k → cardexref08_Tokens.l0 k s acc s (i : Int) = some (toksR acc (toksG d s.size l))
  | 0, l, i, acc, _, h, _ => by omega
  | d + 1, l, i, acc, hat, hd, ha => by
    have hi := hat.1
    have hpos : (i : Int) = ((s.size - l.length : Nat) : Int) := by omega
    rw [toksG]
    by_cases h0 : l = []
    · refine ⟨1, fun k hk => ?_⟩
      obtain ⟨k, rfl⟩ : ∃ j, k = j + 1 := ⟨k - 1, by omega⟩
      rw [h0, List.length_nil] at hi
      rw [if_pos h0, cardexref08_Tokens.l0, if_neg (by omega)]
      show some (acc, 0, 0) = some (acc ++ [], 0, 0)
      rw [List.append_nil]
    have hlen : l.length ≠ 0 := fun e => h0 (List.length_eq_zero_iff.1 e)
    rw [if_neg h0]
    obtain ⟨K1, hK1⟩ := token_r s hs l i hat
    cases hn : nextO l with
    | none =>
      refine ⟨K1 + 1, fun k hk => ?_⟩
      obtain ⟨k, rfl⟩ : ∃ j, k = j + 1 := ⟨k - 1, by omega⟩
      obtain ⟨a, b, c, e, x, f, y, z, h2⟩ := (hK1 k (by omega)).2 hn
      rw [cardexref08_Tokens.l0, if_pos (by omega), h2, Option.bind_some]
      simp only
      rw [if_neg Bool.false_ne_true, hpos]; rfl
    | some x =>
      obtain ⟨p, r⟩ := x
      simp only
      have hr := nextO_len h0 hn
      obtain ⟨j, hj, _⟩ := (hK1 K1 (Nat.le_refl _)).1 p r hn
      by_cases hc : p.ats.length > 10
      · refine ⟨K1 + 1, fun k hk => ?_⟩
        obtain ⟨k, rfl⟩ : ∃ j, k = j + 1 := ⟨k - 1, by omega⟩
        obtain ⟨j', hj', e⟩ := (hK1 k (by omega)).1 p r hn
        rw [cardexref08_Tokens.l0, if_pos (by omega), e, Option.bind_some]
        simp only [if_true]
        rw [if_pos (by rw [mkA_len]; omega), if_pos hc, hpos]; rfl
      · obtain ⟨K2, hK2⟩ := rtoks_loop s hs d r j (acc ++ [mkT (p, ((s.size - l.length : Nat) : Int))]) hj (by omega) (by rw [List.length_append, List.length_singleton]; omega)
        refine ⟨K1 + K2 + 1, fun k hk => ?_⟩
        obtain ⟨k, rfl⟩ : ∃ j, k = j + 1 := ⟨k - 1, by omega⟩
        obtain ⟨j', hj', e⟩ := (hK1 k (by omega)).1 p r hn
        have : j' = j := by have := hj.1; have := hj'.1; omega
        subst this
        rw [cardexref08_Tokens.l0, if_pos (by omega), e, Option.bind_some]
        simp only [if_true]
        rw [if_neg (by rw [mkA_len]; omega), if_pos (by omega), if_neg hc]
        have := hK2 k (by omega)
        unfold mkT at this
        rw [hpos, this]
        cases toksG d s.size r with
        | error e => rfl
        | ok x =>
          show some ((acc ++ [_]) ++ x.map mkT, (0 : Int), (0 : Int)) = some (acc ++ (_ :: x).map mkT, 0, 0)
          rw [List.append_assoc]; rfl
theorem rTokens_f (s : ByteArray) (hs : s.size ≤ 140737488351232) : ∃ K, ∀ k, K ≤ k → cardexref08_Tokens.f k s = some (toksF s) := by
  unfold toksF cardexref08_Tokens.f
  by_cases h1 : s.size > 20000
  · refine ⟨0, fun k hk => ?_⟩
    rw [if_pos (by omega), if_pos h1]
  rw [if_neg h1]
  have hz := at_zero s
  have key : ∀ i : Nat, At s i (isL prologC s.data.toList) → ∃ K, ∀ k, K ≤ k → cardexref08_Tokens.l0 k s [] s (i : Int) = some (toksR [] (toksG (s.size + 1) s.size (isL prologC s.data.toList))) := by
    intro i hi
    exact rtoks_loop s (by omega) (s.size + 1) _ i [] hi (by have := (at_le hi).2; omega) (by simp only [List.length_nil]; have := (at_le hi).2; omega)
  have his := is_r s (by omega) s.data.toList prologC 0 hz (by decide)
  have ha : ∃ i : Nat, (if prologC <+: s.data.toList then ((0 + prologC.length : Nat) : Int) else ((0 : Nat) : Int)) = (i : Int) ∧ At s i (isL prologC s.data.toList) := by
    unfold isL
    by_cases h : prologC <+: s.data.toList
    · rw [if_pos h, if_pos h]; exact ⟨_, rfl, at_is hz h⟩
    · rw [if_neg h, if_neg h]; exact ⟨_, rfl, hz⟩
  obtain ⟨i, e, hi⟩ := ha
  obtain ⟨K, hK⟩ := key i hi
  refine ⟨K + s.size + 9, fun k hk => ?_⟩
  rw [if_neg (by omega), ref_valid s hs k (by omega), Option.bind_some]
  cases hv : validT s with
  | false => rfl
  | true =>
    rw [if_pos rfl, if_pos rfl]
    change (cardexref08_walk_is.f s ((0 : Nat) : Int) (ba prologC)).bind _ = _
    rw [his, e, Option.bind_some]
    exact hK k (by omega)
end Go.Proofs.YtjijbncheikagaaGreatDoor.P
end
