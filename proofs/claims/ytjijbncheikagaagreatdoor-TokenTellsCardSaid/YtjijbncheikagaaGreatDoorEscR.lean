/- Plain law of this session: a text escaped, and back, as the program has it: one machine over the bytes. -/
import Derived.Test.YtjijbncheikagaaGreatDoorBa
import Derived.Test.YtjijbncheikagaaGreatDoorQ
import Derived.Test.YtjijbncheikagaaGreatDoorRefV
section
namespace Go.Proofs.YtjijbncheikagaaGreatDoor.P
open Go.RowKit Go.Lib Go.Proofs.YtjijbncheikagaaGreatDoorX Go.Proofs.YtjijbncheikagaaGreatDoorW.PrintWords Go.Proofs.YtjijbncheikagaaGreatDoor.Q
set_option linter.unusedVariables false
set_option linter.unusedSimpArgs false
theorem bt_at_get (s : ByteArray) (i : Nat) (h : i < s.size) : ∃ (b : UInt8) (t : List UInt8), s.data.toList.drop i = b :: t ∧ bt s (i : Int) = (b.toNat : Int) ∧ s.data.toList.drop (i + 1) = t ∧ s.extract i (i + 1) = ba [b] := by
  have hl : i < s.data.toList.length := by rw [size_list]; exact h
  refine ⟨s.data.toList[i], s.data.toList.drop (i + 1), List.drop_eq_getElem_cons hl, ?_, rfl, ?_⟩
  · unfold bt
    rw [Int.toNat_natCast, dif_pos h]; rfl
  · have e := ba_extract s.data.toList i (i + 1)
    rw [ba_of] at e
    rw [e]
    congr 1
    rw [List.drop_take, show i + 1 - i = 1 by omega, List.take_one, List.head?_drop, List.getElem?_eq_getElem hl]; rfl
theorem byte_eq (b : UInt8) (n : Nat) (h : n < 256) : ((b.toNat : Int) = (n : Int)) ↔ b = UInt8.ofNat n := by
  constructor
  · intro e
    apply UInt8.toNat_inj.1
    rw [UInt8.toNat_ofNat']
    omega
  · rintro rfl
    rw [UInt8.toNat_ofNat']
    omega
theorem low_enc (c : Int) : Utf8.encode c = ba (enc c) := (ba_of (Utf8.encode c)).symm
theorem validT_enc {c : Int} (h : scal c) : validT (ba (enc c)) = mayB c := by
  have hL : ∀ x ∈ [c], scal x := fun x hx => by rw [List.mem_singleton.1 hx]; exact h
  have h1 := valid_wrs [c] hL
  have h2 := runes_wrs (ba (enc c)).size [c] hL (by rw [ba_size]; simp [wrs])
  have e : wrs [c] = enc c := by simp [wrs]
  unfold validT runesI
  rw [ba_list]
  rw [e] at h1 h2
  rw [h1, h2]
  simp
theorem numR_nil (B : Nat) (most : Int) : numR B most (ba []) = ⟨#[]⟩ := by
  unfold numR
  rw [ba_list]
  unfold parseN
  rw [if_pos rfl]
theorem numR_long (B : Nat) (most : Int) (l : List UInt8) (h : (l.length : Int) > most) : numR B most (ba l) = ⟨#[]⟩ := by
  unfold numR
  rw [ba_list, ba_size]
  cases parseN B l with
  | none => rfl
  | some v => simp only; rw [if_pos (.inl h)]
theorem valid_scal {c : Int} (h : scal c) : Lib.validRune c = true := by
  unfold Lib.validRune
  obtain ⟨h0, g1, g2⟩ := h
  rw [decide_eq_true_eq]
  rcases g2 with g2 | g2
  · exact .inl ⟨h0, g2⟩
  · exact .inr ⟨g2, by omega⟩
theorem not_scal {v : Nat} (h : ¬ scal (v : Int)) : Lib.validRune (v : Int) = false := by
  unfold Lib.validRune
  rw [decide_eq_false_iff_not]
  intro h2
  exact h ⟨by omega, by omega, by omega⟩
theorem numR_some (B : Nat) (most : Int) (l : List UInt8) (v : Nat) (hm : ¬ (l.length : Int) > most) (h : parseN B l = some v) : numR B most (ba l) = if Lib.validRune (v : Int) = true ∧ mayB (v : Int) = true then Utf8.encode (v : Int) else ⟨#[]⟩ := by
  unfold numR
  rw [ba_list, ba_size, h]
  simp only
  by_cases hsc : scal (v : Int)
  · have hb := hsc.2.1
    have hvt : validT (Utf8.encode (v : Int)) = mayB v := by rw [low_enc]; exact validT_enc hsc
    rw [hvt, valid_scal hsc]
    cases mayB (v : Int) with
    | false => rw [if_pos (.inr (.inr (.inr rfl))), if_neg (fun h => by cases h.2)]
    | true =>
      have hn : ¬ ((l.length : Int) > most ∨ (1114111 : Int) < (v : Int) ∨ true = false ∨ true = false) := by
        intro g
        rcases g with g | g | g | g
        · exact hm g
        · exact absurd g (Int.not_lt.2 hb)
        · cases g
        · cases g
      rw [if_neg hn, if_pos ⟨rfl, rfl⟩]
  · rw [not_scal hsc, if_pos (.inr (.inr (.inl rfl))), if_neg (fun h => by cases h.1)]
def backM : Option (List UInt8) → List UInt8 → Option (List UInt8)
  | none, [] => some []
  | some _, [] => none
  | none, b :: t => if b = 60 then none else if b = 38 then backM (some []) t else (backM none t).map (fun x => b :: x)
  | some nm, b :: t => if b = 59 then (if sgnL nm = [] then none else (backM none t).map (fun x => sgnL nm ++ x)) else backM (some (nm ++ [b])) t
theorem sgnL_len (l : List UInt8) : (sgnL l).length ≤ 4 := by
  unfold sgnL
  repeat' split
  any_goals decide
  · exact numR_len _ _ _
  · exact numR_len _ _ _
theorem numR_lt (B : Nat) (hB : B ≤ 16) (most : Int) (l : List UInt8) (h : 60 ∈ l) : numR B most (ba l) = ⟨#[]⟩ := by
  have hg : ∀ (l : List UInt8) (v : Nat), 60 ∈ l → parseG B v l = none := by
    intro l
    induction l with
    | nil => intro v h; cases h
    | cons c t ih =>
      intro v h
      rw [parseG]
      rcases List.mem_cons.1 h with h1 | h1
      · subst h1
        have : digN (60 : UInt8).toNat = none := by decide
        rw [this]
      · cases digN c.toNat with
        | none => rfl
        | some d =>
          simp only
          by_cases h2 : B ≤ d
          · rw [if_pos h2]
          · rw [if_neg h2]
            by_cases h3 : 4294967295 < v * B + d
            · rw [if_pos h3]
            · rw [if_neg h3]; exact ih _ h1
  have hp : parseN B l = none := by
    unfold parseN
    by_cases h2 : l = []
    · rw [if_pos h2]
    · rw [if_neg h2, hg l 0 h]
  unfold numR
  rw [ba_list, hp]
theorem sgnL_lt (l : List UInt8) (h : 60 ∈ l) : sgnL l = [] := by
  unfold sgnL
  rw [if_neg (by rintro rfl; revert h; decide), if_neg (by rintro rfl; revert h; decide), if_neg (by rintro rfl; revert h; decide), if_neg (by rintro rfl; revert h; decide), if_neg (by rintro rfl; revert h; decide)]
  split
  · rename_i t
    have h1 : 60 ∈ t := by
      rcases List.mem_cons.1 h with h1 | h1
      · exact absurd h1 (by decide)
      · rcases List.mem_cons.1 h1 with h2 | h2
        · exact absurd h2 (by decide)
        · exact h2
    have := numR_lt 16 (by decide) 6 t h1
    rw [show (⟨t.toArray⟩ : ByteArray) = ba t from rfl, this]
  · rename_i t _
    have h1 : 60 ∈ t := by
      rcases List.mem_cons.1 h with h1 | h1
      · exact absurd h1 (by decide)
      · exact h1
    have := numR_lt 10 (by decide) 7 t h1
    rw [show (⟨t.toArray⟩ : ByteArray) = ba t from rfl, this]
  · rfl
def resM (acc : ByteArray) : Option (List UInt8) → ByteArray × Int
  | none => (⟨#[]⟩, 5)
  | some t => (acc ++ ba t, 0)
theorem resM_map (acc : ByteArray) (p : List UInt8) (o : Option (List UInt8)) : resM acc (o.map (fun x => p ++ x)) = resM (acc ++ ba p) o := by
  cases o with
  | none => rfl
  | some t =>
    show (acc ++ ba (p ++ t), 0) = ((acc ++ ba p) ++ ba t, 0)
    rw [← ba_append, ByteArray.append_assoc]
def backT (s : ByteArray) : ByteArray × Int := if validT s = true then resM ⟨#[]⟩ (backM none s.data.toList) else (⟨#[]⟩, 3)
theorem backM_lt : ∀ (l : List UInt8), (60 ∈ l → backM none l = none) ∧ (∀ nm : List UInt8, 60 ∈ nm ∨ 60 ∈ l → backM (some nm) l = none)
  | [] => ⟨(fun h => by cases h), fun nm _ => rfl⟩
  | b :: t => by
    obtain ⟨i0, i1⟩ := backM_lt t
    constructor
    · intro h
      rw [backM]
      by_cases c1 : b = 60
      · rw [if_pos c1]
      · have ht : 60 ∈ t := by
          rcases List.mem_cons.1 h with h1 | h1
          · exact absurd h1.symm c1
          · exact h1
        rw [if_neg c1, i0 ht]
        by_cases c2 : b = 38
        · rw [if_pos c2]; exact i1 [] (.inr ht)
        · rw [if_neg c2]; rfl
    · intro nm h
      rw [backM]
      by_cases c1 : b = 59
      · rw [if_pos c1]
        by_cases c2 : 60 ∈ nm
        · rw [if_pos (sgnL_lt nm c2)]
        · have ht : 60 ∈ t := by
            rcases h with h | h
            · exact absurd h c2
            · rcases List.mem_cons.1 h with h1 | h1
              · rw [c1] at h1; exact absurd h1 (by decide)
              · exact h1
          rw [i0 ht]
          split <;> rfl
      · rw [if_neg c1]
        refine i1 _ ?_
        rcases h with h | h
        · exact .inl (List.mem_append_left _ h)
        · rcases List.mem_cons.1 h with h1 | h1
          · left; rw [h1]; simp
          · exact .inr h1
theorem backM_plain : ∀ (p q : List UInt8), 38 ∉ p → 60 ∉ p → backM none (p ++ q) = (backM none q).map (fun x => p ++ x)
  | [], q, _, _ => by cases h : backM none q <;> simp [h]
  | b :: p, q, h1, h2 => by
    rw [List.cons_append, backM, if_neg (fun e => h2 (by rw [e]; exact .head _)), if_neg (fun e => h1 (by rw [e]; exact .head _)), backM_plain p q (fun e => h1 (.tail _ e)) (fun e => h2 (.tail _ e))]
    cases backM none q <;> rfl
theorem backM_name : ∀ (p q nm : List UInt8), 59 ∉ p → backM (some nm) (p ++ 59 :: q) = if sgnL (nm ++ p) = [] then none else (backM none q).map (fun x => sgnL (nm ++ p) ++ x)
  | [], q, nm, _ => by rw [List.nil_append, backM, if_pos rfl, List.append_nil]
  | b :: p, q, nm, h => by
    rw [List.cons_append, backM, if_neg (fun e => h (by rw [e]; exact .head _)), backM_name p q _ (fun e => h (.tail _ e)), List.append_assoc]; rfl
theorem backM_open : ∀ (p nm : List UInt8), 59 ∉ p → backM (some nm) p = none
  | [], nm, _ => rfl
  | b :: p, nm, h => by rw [backM, if_neg (fun e => h (by rw [e]; exact .head _)), backM_open p _ (fun e => h (.tail _ e))]
theorem first_of (c : UInt8) (l : List UInt8) : (c ∉ l) ∨ ∃ p q, l = p ++ c :: q ∧ c ∉ p := by
  by_cases h : c ∈ l
  · right
    obtain ⟨p, q, h1, h2⟩ := List.eq_append_cons_of_mem h
    exact ⟨p, q, h1, h2⟩
  · exact .inl h
theorem backG_M : ∀ (n : Nat) (l : List UInt8), l.length < n → 60 ∉ l → backG n l = backM none l
  | 0, l, h, _ => by omega
  | n + 1, l, h, h60 => by
    rw [backG]
    rcases first_of 38 l with h1 | ⟨p, q, rfl, hp⟩
    · rw [cut_none 38 l h1, if_pos rfl]
      have := backM_plain l [] h1 h60
      rw [List.append_nil] at this
      rw [this, backM]
      show some l = some (l ++ [])
      rw [List.append_nil]
    · rw [cut_some 38 p q hp, if_neg (fun e => by cases e)]
      simp only
      have hp60 : 60 ∉ p := fun e => h60 (List.mem_append_left _ e)
      have hq60 : 60 ∉ q := fun e => h60 (List.mem_append_right _ (.tail _ e))
      rw [List.length_append, List.length_cons] at h
      rw [backM_plain p _ hp hp60, show backM none (38 :: q) = backM (some []) q by rw [backM, if_neg (by decide), if_pos rfl]]
      rcases first_of 59 q with h2 | ⟨a, t, rfl, ha⟩
      · rw [cut_none 59 q h2, if_pos (.inl rfl), backM_open q _ h2]; rfl
      · rw [cut_some 59 a t ha]
        simp only
        rw [backM_name a t [] ha, List.nil_append]
        rw [List.length_append, List.length_cons] at h
        by_cases c : sgnL a = []
        · rw [if_pos (.inr c), if_pos c]; rfl
        · rw [if_neg (by rintro (g | g); · cases g
                         · exact c g), if_neg c, backG_M n t (by omega) (fun e => hq60 (List.mem_append_right _ (.tail _ e)))]
          cases backM none t with
          | none => rfl
          | some x =>
            show some (p ++ sgnL a ++ x) = some (p ++ (sgnL a ++ x))
            rw [List.append_assoc]
theorem backR_T (s : ByteArray) : backR s = backT s := by
  unfold backR backT
  cases validT s with
  | false => rw [if_pos rfl, if_neg (by decide)]
  | true =>
    rw [if_neg (by decide), if_pos rfl]
    by_cases c : 60 ∈ s.data.toList
    · rw [if_pos (by rw [List.contains_iff_mem]; exact c), (backM_lt _).1 c]; rfl
    · rw [if_neg (by rw [List.contains_iff_mem]; exact c), backG_M _ _ (by rw [size_list]; omega) c]
      cases backM none s.data.toList with
      | none => rfl
      | some t =>
        show (ba t, 0) = ((⟨#[]⟩ : ByteArray) ++ ba t, 0)
        rw [show (⟨#[]⟩ : ByteArray) = ba [] from rfl, ba_append, List.nil_append]
theorem back_f (s : ByteArray) (hs : s.size ≤ 1000000000) : escape_Back.f s = some (backT s) := by
  unfold escape_Back.f
  rw [if_pos (by omega), backR_T]
end Go.Proofs.YtjijbncheikagaaGreatDoor.P
end
section
namespace Go.Proofs.YtjijbncheikagaaGreatDoor.P
open Go.RowKit Go.Lib Go.Proofs.YtjijbncheikagaaGreatDoorX Go.Proofs.YtjijbncheikagaaGreatDoorW.PrintWords Go.Proofs.YtjijbncheikagaaGreatDoor.Q
set_option linter.unusedVariables false
set_option linter.unusedSimpArgs false
theorem char_any (v : Nat) : cardexref01_Char.f (v : Int) = some (Lib.validRune v && mayB v) := by
  by_cases h : scal (v : Int)
  · rw [char_eq h]
    have : Lib.validRune (v : Int) = true := by
      unfold Lib.validRune
      obtain ⟨h0, h1, h2⟩ := h
      rw [decide_eq_true_eq]; omega
    rw [this]; rfl
  · have hv : Lib.validRune (v : Int) = false := by
      unfold Lib.validRune
      rw [decide_eq_false_iff_not]
      intro h2
      exact h ⟨by omega, by omega, by omega⟩
    rw [hv]
    have hc : 55296 ≤ (v : Int) ∧ (v : Int) ≤ 57343 ∨ 1114111 < (v : Int) := by
      rcases Nat.lt_or_ge 1114111 v with h1 | h1
      · right; omega
      · left
        constructor
        · rcases Int.lt_or_le (v : Int) 55296 with h2 | h2
          · exact absurd ⟨by omega, by omega, .inl h2⟩ h
          · exact h2
        · rcases Int.lt_or_le 57343 (v : Int) with h2 | h2
          · exact absurd ⟨by omega, by omega, .inr (by omega)⟩ h
          · exact h2
    unfold cardexref01_Char.f
    rw [if_neg (by omega), if_neg (by omega), if_neg (by omega), if_pos (by omega), if_neg (by omega)]
    rcases hc with ⟨g1, g2⟩ | g1
    · rw [if_neg (by omega), if_neg (by omega)]; rfl
    · rw [if_pos (by omega), if_neg (by omega), if_pos (by omega), decide_eq_false (by omega)]; rfl
def digR (c : Nat) : Nat := if 48 ≤ c ∧ c ≤ 57 then c - 48 else if 97 ≤ c ∧ c ≤ 102 then c - 87 else if 65 ≤ c ∧ c ≤ 70 then c - 55 else 99
theorem digR_dig (B : Nat) (hB : B ≤ 16) (c : Nat) (hc : c < 256) : (match digN c with | none => True | some d => B ≤ d) = (B ≤ digR c) ∧ (digR c < B → digN c = some (digR c)) := by
  unfold digN digR
  by_cases h1 : 48 ≤ c ∧ c ≤ 57
  · rw [if_pos h1, if_pos h1]; exact ⟨rfl, fun _ => rfl⟩
  · rw [if_neg h1, if_neg h1]
    by_cases h2 : 97 ≤ c ∧ c ≤ 102
    · rw [if_pos h2, if_pos (by omega)]; exact ⟨rfl, fun _ => rfl⟩
    · rw [if_neg h2]
      by_cases h3 : 65 ≤ c ∧ c ≤ 70
      · rw [if_pos h3, if_neg (by omega), if_pos (by omega)]; exact ⟨rfl, fun _ => rfl⟩
      · rw [if_neg h3]
        refine ⟨?_, fun h => by omega⟩
        by_cases h4 : 97 ≤ c ∧ c ≤ 122
        · rw [if_pos h4]; apply propext; constructor <;> intro _ <;> omega
        · rw [if_neg h4]
          by_cases h5 : 65 ≤ c ∧ c ≤ 90
          · rw [if_pos h5]; apply propext; constructor <;> intro _ <;> omega
          · rw [if_neg h5]; apply propext; constructor
            · intro _; omega
            · intro _; trivial
def numG (B : Nat) : Nat → List UInt8 → Int
  | v, [] => v
  | v, c :: l => if B ≤ digR c.toNat then -1 else numG B (v * B + digR c.toNat) l
theorem num_step (s : ByteArray) (B i k v : Nat) (b : UInt8) (hi : i < s.size) (hb : bt s (i : Int) = (b.toNat : Int)) (hs : s.size ≤ 1000000000) (hB : B ≤ 16) (hv : v < 1000000000000) :
    ∃ k', k ≤ k' ∧ cardexref01_numeral.l0 (k + 4) s (B : Int) (v : Int) (i : Int) = if B ≤ digR b.toNat then some (-1) else cardexref01_numeral.l0 k' s (B : Int) ((v * B + digR b.toNat : Nat) : Int) ((i + 1 : Nat) : Int) := by
  have hlt := b.toNat_lt
  have hw : wrap64 ((i : Int) + 1) = ((i + 1 : Nat) : Int) := by rw [wrap_small (by omega) (by omega)]; omega
  have hvB : v * B ≤ 16000000000000 := Nat.le_trans (Nat.mul_le_mul_left v hB) (by omega)
  have hvb : ((v : Int) * (B : Int)) = ((v * B : Nat) : Int) := by rw [Int.natCast_mul]
  have hw1 : wrap64 ((v : Int) * (B : Int)) = ((v * B : Nat) : Int) := by rw [hvb, wrap_small (by omega) (by omega)]
  have fin : ∀ (d : Nat) (k' : Nat), d ≤ 99 → (if (d : Int) ≥ (B : Int) then (some (-1) : Option Int) else cardexref01_numeral.l0 k' s (B : Int) (wrap64 ((wrap64 ((v : Int) * (B : Int))) + (d : Int))) (wrap64 ((i : Int) + 1))) = if B ≤ d then some (-1) else cardexref01_numeral.l0 k' s (B : Int) ((v * B + d : Nat) : Int) ((i + 1 : Nat) : Int) := by
    intro d k' hd
    rw [hw, hw1, wrap_small (by omega) (by omega), show ((v * B : Nat) : Int) + (d : Int) = ((v * B + d : Nat) : Int) by omega]
    by_cases h : B ≤ d
    · rw [if_pos (by omega), if_pos h]
    · rw [if_neg (by omega), if_neg h]
  rw [cardexref01_numeral.l0, if_pos (by omega), if_pos (by omega), hb]
  unfold digR
  by_cases h1 : 48 ≤ b.toNat ∧ b.toNat ≤ 57
  · refine ⟨k + 2, by omega, ?_⟩
    rw [if_pos (by omega), decide_eq_true (by omega), cardexref01_numeral.j2, if_pos rfl, if_pos h1]
    rw [show ((b.toNat : Int) - 48) % 256 = ((b.toNat - 48 : Nat) : Int) by omega]
    exact fin _ _ (by omega)
  · rw [if_neg h1]
    have hj : (if (b.toNat : Int) ≥ 48 then cardexref01_numeral.j2 (k + 3) s (B : Int) (v : Int) (i : Int) (b.toNat : Int) 99 (decide ((b.toNat : Int) ≤ 57)) else cardexref01_numeral.j2 (k + 3) s (B : Int) (v : Int) (i : Int) (b.toNat : Int) 99 false) = cardexref01_numeral.j2 (k + 3) s (B : Int) (v : Int) (i : Int) (b.toNat : Int) 99 false := by
      by_cases h : (b.toNat : Int) ≥ 48
      · rw [if_pos h, decide_eq_false (by omega)]
      · rw [if_neg h]
    rw [hj, cardexref01_numeral.j2, if_neg (by decide)]
    by_cases h2 : 97 ≤ b.toNat ∧ b.toNat ≤ 102
    · refine ⟨k + 1, by omega, ?_⟩
      rw [if_pos (by omega), decide_eq_true (by omega), cardexref01_numeral.j3, if_pos rfl, if_pos h2]
      rw [show ((b.toNat : Int) - 97) % 256 + 10 = ((b.toNat - 87 : Nat) : Int) by omega]
      exact fin _ _ (by omega)
    · rw [if_neg h2]
      have hj : (if (b.toNat : Int) ≥ 97 then cardexref01_numeral.j3 (k + 2) s (B : Int) (v : Int) (i : Int) (b.toNat : Int) 99 (decide ((b.toNat : Int) ≤ 102)) else cardexref01_numeral.j3 (k + 2) s (B : Int) (v : Int) (i : Int) (b.toNat : Int) 99 false) = cardexref01_numeral.j3 (k + 2) s (B : Int) (v : Int) (i : Int) (b.toNat : Int) 99 false := by
        by_cases h : (b.toNat : Int) ≥ 97
        · rw [if_pos h, decide_eq_false (by omega)]
        · rw [if_neg h]
      refine ⟨k, Nat.le_refl _, ?_⟩
      rw [hj, cardexref01_numeral.j3, if_neg (by decide)]
      by_cases h3 : 65 ≤ b.toNat ∧ b.toNat ≤ 70
      · rw [if_pos (by omega), decide_eq_true (by omega), cardexref01_numeral.j4, if_pos rfl, if_pos h3]
        rw [show ((b.toNat : Int) - 65) % 256 + 10 = ((b.toNat - 55 : Nat) : Int) by omega]
        exact fin _ _ (by omega)
      · have hj : (if (b.toNat : Int) ≥ 65 then cardexref01_numeral.j4 (k + 1) s (B : Int) (v : Int) (i : Int) (b.toNat : Int) 99 (decide ((b.toNat : Int) ≤ 70)) else cardexref01_numeral.j4 (k + 1) s (B : Int) (v : Int) (i : Int) (b.toNat : Int) 99 false) = cardexref01_numeral.j4 (k + 1) s (B : Int) (v : Int) (i : Int) (b.toNat : Int) 99 false := by
          by_cases h : (b.toNat : Int) ≥ 65
          · rw [if_pos h, decide_eq_false (by omega)]
          · rw [if_neg h]
        rw [hj, cardexref01_numeral.j4, if_neg (by decide), if_neg h3]
        exact fin 99 _ (by omega)
theorem num_loop (s : ByteArray) (B : Nat) (hs : s.size ≤ 7) (hB : B ≤ 16) : ∀ (d i v : Nat), i + d = s.size → v < 16 ^ i → ∃ K, ∀ k, K ≤ k → cardexref01_numeral.l0 k s (B : Int) (v : Int) (i : Int) = some (numG B v (s.data.toList.drop i))
  | 0, i, v, hi, hv => ⟨1, fun k hk => by
    obtain ⟨k, rfl⟩ : ∃ j, k = j + 1 := ⟨k - 1, by omega⟩
    rw [cardexref01_numeral.l0, if_neg (by omega), List.drop_eq_nil_of_le (by rw [size_list]; omega)]; rfl⟩
  | d + 1, i, v, hi, hv => by
    obtain ⟨b, t, h1, h2, h3, h4⟩ := bt_at_get s i (by omega)
    have hv2 : v < 1000000000000 := Nat.lt_of_lt_of_le hv (Nat.le_trans (Nat.pow_le_pow_right (by decide) (show i ≤ 7 by omega)) (by decide))
    by_cases hd : B ≤ digR b.toNat
    · refine ⟨4, fun k hk => ?_⟩
      obtain ⟨k, rfl⟩ : ∃ j, k = j + 4 := ⟨k - 4, by omega⟩
      obtain ⟨k', hk', e⟩ := num_step s B i k v b (by omega) h2 (by omega) hB hv2
      rw [e, if_pos hd, h1, numG, if_pos hd]
    · have hv3 : v * B + digR b.toNat < 16 ^ (i + 1) := by
        rw [Nat.pow_succ]
        have : v * B ≤ v * 16 := Nat.mul_le_mul_left v hB
        omega
      obtain ⟨K, hK⟩ := num_loop s B hs hB d (i + 1) (v * B + digR b.toNat) (by omega) hv3
      refine ⟨K + 4, fun k hk => ?_⟩
      obtain ⟨k, rfl⟩ : ∃ j, k = j + 4 := ⟨k - 4, by omega⟩
      obtain ⟨k', hk', e⟩ := num_step s B i k v b (by omega) h2 (by omega) hB hv2
      rw [e, if_neg hd, hK k' (by omega), h1, numG, if_neg hd, h3]
theorem num_parse (B : Nat) (hB : B ≤ 16) : ∀ (l : List UInt8) (v : Nat), v < 16 ^ (7 - l.length) → l.length ≤ 7 → (match parseG B v l with | none => (-1 : Int) | some x => (x : Int)) = numG B v l
  | [], v, _, _ => rfl
  | c :: l, v, hv, hl => by
    simp only [List.length_cons] at hv hl
    have hd := digR_dig B hB c.toNat c.toNat_lt
    rw [parseG, numG]
    by_cases h : B ≤ digR c.toNat
    · rw [if_pos h]
      have h1 := hd.1
      cases hdd : digN c.toNat with
      | none => rfl
      | some d =>
        rw [hdd] at h1
        simp only at h1 ⊢
        rw [if_pos (h1.symm ▸ h)]
    · rw [if_neg h, hd.2 (by omega)]
      simp only
      have hv3 : v * B + digR c.toNat < 16 ^ (7 - l.length) := by
        rw [show 7 - l.length = 7 - (l.length + 1) + 1 by omega, Nat.pow_succ]
        have : v * B ≤ v * 16 := Nat.mul_le_mul_left v hB
        omega
      have h28 : 16 ^ (7 - l.length) ≤ 16 ^ 7 := Nat.pow_le_pow_right (by decide) (by omega)
      have h29 : (16 : Nat) ^ 7 = 268435456 := by decide
      rw [if_neg h, if_neg (by omega)]
      exact num_parse B hB l _ hv3 (by omega)
def numV (B : Nat) (most : Int) (l : List UInt8) : Int := if (l.length : Int) < 1 ∨ (l.length : Int) > most then -1 else numG B 0 l
theorem numeral_ev (s : ByteArray) (B : Nat) (most : Int) (hs : s.size ≤ 1000000000) (hB : B ≤ 16) (hm : most ≤ 7) : ∃ K, ∀ k, K ≤ k → cardexref01_numeral.f k s (B : Int) most = some (numV B most s.data.toList) := by
  unfold numV
  rw [size_list]
  by_cases h1 : (s.size : Int) < 1
  · refine ⟨1, fun k hk => ?_⟩
    obtain ⟨k, rfl⟩ : ∃ j, k = j + 1 := ⟨k - 1, by omega⟩
    unfold cardexref01_numeral.f
    rw [if_pos h1, cardexref01_numeral.j0, if_pos rfl, if_pos (.inl h1)]
  · by_cases h2 : (s.size : Int) > most
    · refine ⟨1, fun k hk => ?_⟩
      obtain ⟨k, rfl⟩ : ∃ j, k = j + 1 := ⟨k - 1, by omega⟩
      unfold cardexref01_numeral.f
      rw [if_neg h1, decide_eq_true h2, cardexref01_numeral.j0, if_pos rfl, if_pos (.inr h2)]
    · obtain ⟨K, hK⟩ := num_loop s B (by omega) hB s.size 0 0 (by omega) (by decide)
      refine ⟨K + 1, fun k hk => ?_⟩
      obtain ⟨k, rfl⟩ : ∃ j, k = j + 1 := ⟨k - 1, by omega⟩
      unfold cardexref01_numeral.f
      rw [if_neg h1, decide_eq_false h2, cardexref01_numeral.j0, if_neg (by decide), if_neg (by omega)]
      have := hK k (by omega)
      rw [List.drop_zero] at this
      exact this
theorem numG_up (B : Nat) (hB : B ≤ 16) : ∀ (l : List UInt8) (v : Nat), v < 16 ^ (7 - l.length) → l.length ≤ 7 → numG B v l ≤ 268435455
  | [], v, hv, _ => by
    unfold numG
    have h29 : (16 : Nat) ^ (7 - ([] : List UInt8).length) = 268435456 := by decide
    omega
  | c :: l, v, hv, hl => by
    simp only [List.length_cons] at hv hl
    unfold numG
    split
    · decide
    · rename_i h
      refine numG_up B hB l _ ?_ (by omega)
      rw [show 7 - l.length = 7 - (l.length + 1) + 1 by omega, Nat.pow_succ]
      have : v * B ≤ v * 16 := Nat.mul_le_mul_left v hB
      omega
theorem j2_none (k : Nat) : cardexref01_entity.j2 (k + 1) (-1) = some ⟨#[]⟩ := by
  rw [cardexref01_entity.j2]
  rw [if_pos (by decide)]
theorem utf_eq (v : Int) (h0 : 0 ≤ v) (h1 : v < 2147483648) : cardexref01_utf.f v = some (Utf8.encode v) := by
  unfold cardexref01_utf.f
  rw [show wrap32 v = v by unfold wrap32; omega]
theorem j2_some (v : Nat) (k : Nat) (hv : v < 2147483648) : cardexref01_entity.j2 (k + 1) (v : Int) = some (if Lib.validRune (v : Int) = true ∧ mayB (v : Int) = true then Utf8.encode (v : Int) else ⟨#[]⟩) := by
  rw [cardexref01_entity.j2, if_neg (Int.not_lt.2 (Int.natCast_nonneg v)), char_any]
  have hu := utf_eq (v : Int) (Int.natCast_nonneg v) (by omega)
  cases Lib.validRune (v : Int) with
  | false => rw [if_neg (fun h => by cases h.1)]; rfl
  | true =>
    cases mayB (v : Int) with
    | false => rw [if_neg (fun h => by cases h.2)]; rfl
    | true =>
      rw [if_pos ⟨rfl, rfl⟩, hu]; rfl
theorem num_text (B : Nat) (hB : B ≤ 16) (most : Int) (hm : most ≤ 7) (l : List UInt8) (k : Nat) : cardexref01_entity.j2 (k + 1) (numV B most l) = some (numR B most (ba l)) := by
  by_cases h1 : (l.length : Int) < 1 ∨ (l.length : Int) > most
  · have hv : numV B most l = -1 := by unfold numV; rw [if_pos h1]
    rw [hv, j2_none]
    rcases h1 with h1 | h1
    · have : l = [] := List.length_eq_zero_iff.1 (by omega)
      subst this; rw [numR_nil]
    · rw [numR_long B most l h1]
  · have hv : numV B most l = numG B 0 l := by unfold numV; rw [if_neg h1]
    have hne : l ≠ [] := by rintro rfl; simp at h1
    have hp := num_parse B hB l 0 (Nat.pow_pos (by decide)) (by omega)
    have hup := numG_up B hB l 0 (Nat.pow_pos (by decide)) (by omega)
    have hpn : parseN B l = parseG B 0 l := by unfold parseN; rw [if_neg hne]
    rw [hv]
    cases hg : parseG B 0 l with
    | none =>
      rw [hg] at hp
      simp only at hp
      rw [← hp, j2_none]
      unfold numR
      rw [ba_list, hpn, hg]
    | some v =>
      rw [hg] at hp
      simp only at hp
      rw [← hp] at hup
      rw [← hp, j2_some v k (by omega), numR_some B most l v (fun h => h1 (.inr h)) (by rw [hpn, hg])]
theorem ent_names (s : ByteArray) (k : Nat) : cardexref01_entity.f (k + 7) s = if s.data.toList = [97, 109, 112] then some ⟨#[38]⟩ else if s.data.toList = [108, 116] then some ⟨#[60]⟩ else if s.data.toList = [103, 116] then some ⟨#[62]⟩ else if s.data.toList = [113, 117, 111, 116] then some ⟨#[34]⟩ else if s.data.toList = [97, 112, 111, 115] then some ⟨#[39]⟩
    else (if (s.size : Int) > 2 then cardexref01_entity.j1 (k + 1) s (-1) ((s.extract 0 2).toList == ([35, 120] : List UInt8)) else cardexref01_entity.j1 (k + 1) s (-1) false) := by
  unfold cardexref01_entity.f
  have r0 : (rdOf ByteArray.empty [(⟨#[97, 109, 112]⟩ : ByteArray), (⟨#[108, 116]⟩ : ByteArray), (⟨#[103, 116]⟩ : ByteArray), (⟨#[113, 117, 111, 116]⟩ : ByteArray), (⟨#[97, 112, 111, 115]⟩ : ByteArray)] 0).toList = [97, 109, 112] := by rw [ByteArray.toList_eq]; rfl
  have r1 : (rdOf ByteArray.empty [(⟨#[97, 109, 112]⟩ : ByteArray), (⟨#[108, 116]⟩ : ByteArray), (⟨#[103, 116]⟩ : ByteArray), (⟨#[113, 117, 111, 116]⟩ : ByteArray), (⟨#[97, 112, 111, 115]⟩ : ByteArray)] 1).toList = [108, 116] := by rw [ByteArray.toList_eq]; rfl
  have r2 : (rdOf ByteArray.empty [(⟨#[97, 109, 112]⟩ : ByteArray), (⟨#[108, 116]⟩ : ByteArray), (⟨#[103, 116]⟩ : ByteArray), (⟨#[113, 117, 111, 116]⟩ : ByteArray), (⟨#[97, 112, 111, 115]⟩ : ByteArray)] 2).toList = [103, 116] := by rw [ByteArray.toList_eq]; rfl
  have r3 : (rdOf ByteArray.empty [(⟨#[97, 109, 112]⟩ : ByteArray), (⟨#[108, 116]⟩ : ByteArray), (⟨#[103, 116]⟩ : ByteArray), (⟨#[113, 117, 111, 116]⟩ : ByteArray), (⟨#[97, 112, 111, 115]⟩ : ByteArray)] 3).toList = [113, 117, 111, 116] := by rw [ByteArray.toList_eq]; rfl
  have r4 : (rdOf ByteArray.empty [(⟨#[97, 109, 112]⟩ : ByteArray), (⟨#[108, 116]⟩ : ByteArray), (⟨#[103, 116]⟩ : ByteArray), (⟨#[113, 117, 111, 116]⟩ : ByteArray), (⟨#[97, 112, 111, 115]⟩ : ByteArray)] 4).toList = [97, 112, 111, 115] := by rw [ByteArray.toList_eq]; rfl
  have w0 : wrap64 (0 + 1) = 1 := by unfold wrap64; omega
  have w1 : wrap64 (1 + 1) = 2 := by unfold wrap64; omega
  have w2 : wrap64 (2 + 1) = 3 := by unfold wrap64; omega
  have w3 : wrap64 (3 + 1) = 4 := by unfold wrap64; omega
  have w4 : wrap64 (4 + 1) = 5 := by unfold wrap64; omega
  generalize hn : ([(⟨#[97, 109, 112]⟩ : ByteArray), (⟨#[108, 116]⟩ : ByteArray), (⟨#[103, 116]⟩ : ByteArray), (⟨#[113, 117, 111, 116]⟩ : ByteArray), (⟨#[97, 112, 111, 115]⟩ : ByteArray)] : List ByteArray) = ns at *
  have hnl : (ns.length : Int) = 5 := by rw [← hn]; rfl
  have sy : ∀ l : List UInt8, (l = s.toList) = (s.data.toList = l) := fun l => by rw [ByteArray.toList_eq]; exact propext eq_comm
  by_cases h0 : s.data.toList = [97, 109, 112]
  · rw [cardexref01_entity.l0, hnl, if_pos (by decide), if_pos (by decide), r0, if_pos (by rw [sy]; exact h0), if_pos (by decide), if_pos h0]; rfl
  rw [if_neg h0, cardexref01_entity.l0, hnl, if_pos (by decide), if_pos (by decide), r0, if_neg (by rw [sy]; exact h0), w0]
  by_cases h1 : s.data.toList = [108, 116]
  · rw [cardexref01_entity.l0, hnl, if_pos (by decide), if_pos (by decide), r1, if_pos (by rw [sy]; exact h1), if_pos (by decide), if_pos h1]; rfl
  rw [if_neg h1, cardexref01_entity.l0, hnl, if_pos (by decide), if_pos (by decide), r1, if_neg (by rw [sy]; exact h1), w1]
  by_cases h2 : s.data.toList = [103, 116]
  · rw [cardexref01_entity.l0, hnl, if_pos (by decide), if_pos (by decide), r2, if_pos (by rw [sy]; exact h2), if_pos (by decide), if_pos h2]; rfl
  rw [if_neg h2, cardexref01_entity.l0, hnl, if_pos (by decide), if_pos (by decide), r2, if_neg (by rw [sy]; exact h2), w2]
  by_cases h3 : s.data.toList = [113, 117, 111, 116]
  · rw [cardexref01_entity.l0, hnl, if_pos (by decide), if_pos (by decide), r3, if_pos (by rw [sy]; exact h3), if_pos (by decide), if_pos h3]; rfl
  rw [if_neg h3, cardexref01_entity.l0, hnl, if_pos (by decide), if_pos (by decide), r3, if_neg (by rw [sy]; exact h3), w3]
  by_cases h4 : s.data.toList = [97, 112, 111, 115]
  · rw [cardexref01_entity.l0, hnl, if_pos (by decide), if_pos (by decide), r4, if_pos (by rw [sy]; exact h4), if_pos (by decide), if_pos h4]; rfl
  rw [if_neg h4, cardexref01_entity.l0, hnl, if_pos (by decide), if_pos (by decide), r4, if_neg (by rw [sy]; exact h4), w4]
  rw [cardexref01_entity.l0, hnl, if_neg (by decide)]
  by_cases h5 : (s.size : Int) > 2
  · rw [if_pos h5, if_pos h5, if_pos (by decide), if_pos (by omega)]
  · rw [if_neg h5, if_neg h5]
theorem entity_ev (l : List UInt8) (hl : l.length ≤ 1000000000) : ∃ K, ∀ k, K ≤ k → cardexref01_entity.f k (ba l) = some (ba (sgnL l)) := by
  obtain ⟨K1, h1⟩ := numeral_ev (ba (l.drop 2)) 16 6 (by rw [ba_size, List.length_drop]; omega) (by decide) (by decide)
  obtain ⟨K2, h2⟩ := numeral_ev (ba (l.drop 1)) 10 7 (by rw [ba_size, List.length_drop]; omega) (by decide) (by decide)
  refine ⟨K1 + K2 + 9, fun k hk => ?_⟩
  obtain ⟨k, rfl⟩ : ∃ j, k = j + 7 := ⟨k - 7, by omega⟩
  rw [ent_names]
  rw [ba_list, ba_size]
  rw [ba_list] at h1 h2
  unfold sgnL
  by_cases g0 : l = [97, 109, 112]
  · rw [if_pos g0, if_pos g0]; rfl
  rw [if_neg g0, if_neg g0]
  by_cases g1 : l = [108, 116]
  · rw [if_pos g1, if_pos g1]; rfl
  rw [if_neg g1, if_neg g1]
  by_cases g2 : l = [103, 116]
  · rw [if_pos g2, if_pos g2]; rfl
  rw [if_neg g2, if_neg g2]
  by_cases g3 : l = [113, 117, 111, 116]
  · rw [if_pos g3, if_pos g3]; rfl
  rw [if_neg g3, if_neg g3]
  by_cases g4 : l = [97, 112, 111, 115]
  · rw [if_pos g4, if_pos g4]; rfl
  rw [if_neg g4, if_neg g4]
  clear g0 g1 g2 g3 g4
  have none_ : ∀ k, cardexref01_entity.j2 (k + 1) (-1) = some (⟨#[]⟩ : ByteArray) := fun k => by rw [cardexref01_entity.j2, if_pos (by decide)]
  have hx : ∀ (v : Int) (b : Bool), b = false → (l.length : Int) ≤ 1 ∨ (∃ a t, l = a :: t ∧ a ≠ 35) → cardexref01_entity.j1 (k + 1) (ba l) (-1) b = some (⟨#[]⟩ : ByteArray) := by
    intro v b hb h
    subst hb
    obtain ⟨k, rfl⟩ : ∃ j, k = j + 1 := ⟨k - 1, by omega⟩
    rw [cardexref01_entity.j1, if_neg (by decide), ba_size]
    rcases h with h | ⟨a, t, rfl, ha⟩
    · rw [if_neg (by omega), none_]
    · by_cases h5 : (((a :: t).length : Nat) : Int) > 1
      · rw [if_pos h5, if_pos (by omega)]
        have hb : bt (ba (a :: t)) 0 = (a.toNat : Int) := by
          unfold bt
          rw [dif_pos (by rw [ba_size]; simp)]; rfl
        rw [hb, if_neg (by rw [show (35 : Int) = ((35 : Nat) : Int) from rfl, byte_eq a 35 (by decide)]; exact ha), none_]
      · rw [if_neg h5, none_]
  match l, hl, h1, h2, hx with
  | [], hl, h1, h2, hx => rw [if_neg (by simp), hx 0 false rfl (.inl (by simp))]; rfl
  | [a], hl, h1, h2, hx =>
    rw [if_neg (by simp), hx 0 false rfl (.inl (by simp))]
    by_cases ha : a = 35
    · subst ha; rfl
    · split
      · rename_i heq; simp at heq
      · rename_i heq; simp at heq; exact absurd heq.1 ha
      · rfl
  | a :: b :: t, hl, h1, h2, hx =>
    by_cases ha : a = 35
    · subst ha
      have hb0 : bt (ba (35 :: b :: t)) 0 = 35 := by
        unfold bt
        rw [dif_pos (by rw [ba_size]; simp)]; rfl
      have hdec : ∀ k2, K2 ≤ k2 → cardexref01_entity.j1 (k2 + 2) (ba (35 :: b :: t)) (-1) false = some (numR 10 7 (ba (b :: t))) := by
        intro k2 hk2
        rw [cardexref01_entity.j1, if_neg (by decide), ba_size, if_pos (by simp only [List.length_cons]; omega), if_pos (by simp only [List.length_cons]; omega), hb0, if_pos rfl, if_pos (by simp only [List.length_cons]; omega)]
        rw [ba_extract, List.take_of_length_le (Nat.le_refl _)]
        have := h2 (k2 + 1) (by omega)
        rw [show ((10 : Nat) : Int) = 10 from rfl] at this
        rw [this]
        simp only [Option.bind_some]
        exact num_text 10 (by decide) 7 (by decide) _ _
      by_cases hb : b = 120
      · subst hb
        have hpre : ((ba (35 :: 120 :: t)).extract 0 2).toList = [35, 120] := by
          rw [ba_extract, ba_toList]; rfl
        by_cases ht : t = []
        · subst ht
          rw [if_neg (by simp)]
          obtain ⟨k2, rfl⟩ : ∃ j, k = j + 1 := ⟨k - 1, by omega⟩
          rw [hdec k2 (by omega)]
          have e1 : numR 10 7 (ba [120]) = ⟨#[]⟩ := by decide +kernel
          have e2 : numR 16 6 ⟨([] : List UInt8).toArray⟩ = ⟨#[]⟩ := by decide +kernel
          rw [e1]
          simp only
          rw [e2]; rfl
        · have hlen : 0 < t.length := List.length_pos_iff.2 ht
          rw [if_pos (by simp; omega), hpre]
          obtain ⟨k2, rfl⟩ : ∃ j, k = j + 1 := ⟨k - 1, by omega⟩
          rw [cardexref01_entity.j1, if_pos (by decide), ba_size, if_pos (by simp; omega)]
          rw [ba_extract, List.take_of_length_le (Nat.le_refl _)]
          have := h1 (k2 + 1) (by omega)
          rw [show ((16 : Nat) : Int) = 16 from rfl] at this
          rw [this]
          simp only [Option.bind_some]
          rw [num_text 16 (by decide) 6 (by decide)]; rfl
      · have hj : (if (((35 :: b :: t).length : Nat) : Int) > 2 then cardexref01_entity.j1 (k + 1) (ba (35 :: b :: t)) (-1) (((ba (35 :: b :: t)).extract 0 2).toList == [35, 120]) else cardexref01_entity.j1 (k + 1) (ba (35 :: b :: t)) (-1) false) = cardexref01_entity.j1 (k + 1) (ba (35 :: b :: t)) (-1) false := by
          have : (((ba (35 :: b :: t)).extract 0 2).toList == [35, 120]) = false := by
            rw [ba_extract, ba_toList, beq_eq_false_iff_ne]
            simp
            exact hb
          rw [this]
          split <;> rfl
        rw [hj]
        obtain ⟨k2, rfl⟩ : ∃ j, k = j + 1 := ⟨k - 1, by omega⟩
        rw [hdec k2 (by omega)]
        split
        · rename_i heq; simp at heq; exact absurd heq.1 hb
        · rename_i heq; simp at heq; subst heq; rfl
        · rename_i h5 h6; exact absurd rfl (h6 _)
    · have hj : (if (((a :: b :: t).length : Nat) : Int) > 2 then cardexref01_entity.j1 (k + 1) (ba (a :: b :: t)) (-1) (((ba (a :: b :: t)).extract 0 2).toList == [35, 120]) else cardexref01_entity.j1 (k + 1) (ba (a :: b :: t)) (-1) false) = cardexref01_entity.j1 (k + 1) (ba (a :: b :: t)) (-1) false := by
        have : (((ba (a :: b :: t)).extract 0 2).toList == [35, 120]) = false := by
          rw [ba_extract, ba_toList, beq_eq_false_iff_ne]
          simp
          intro e; exact absurd e ha
        rw [this]
        split <;> rfl
      rw [hj, hx 0 false rfl (.inr ⟨a, b :: t, rfl, ha⟩)]
      split
      · rename_i heq; simp at heq; exact absurd heq.1 ha
      · rename_i heq; simp at heq; exact absurd heq.1 ha
      · rfl
theorem take_snoc (l : List UInt8) (i j : Nat) (b : UInt8) (t : List UInt8) (h1 : i ≤ j) (h : l.drop j = b :: t) : ((l.take (j + 1)).drop i) = ((l.take j).drop i) ++ [b] := by
  have hj : j < l.length := by
    rcases Nat.lt_or_ge j l.length with h2 | h2
    · exact h2
    · rw [List.drop_eq_nil_of_le h2] at h; cases h
  have e : l[j] = b := by
    have := List.drop_eq_getElem_cons hj
    rw [h] at this
    exact (List.cons.inj this).1.symm
  rw [List.take_succ_eq_append_getElem hj, List.drop_append_of_le_length (by rw [List.length_take]; omega), e]
theorem back_loops (s : ByteArray) (hs : s.size ≤ 1000000000) : ∀ (d : Nat),
    (∀ (i : Nat) (acc : ByteArray), i + d = s.size → acc.size ≤ 4 * i → ∃ K, ∀ k, K ≤ k → cardexref01_Back.l0 k s acc (i : Int) = some (resM acc (backM none (s.data.toList.drop i)))) ∧
    (∀ (i j : Nat) (acc : ByteArray), i < j → j + d = s.size → acc.size ≤ 4 * i → ∃ K, ∀ k, K ≤ k → cardexref01_Back.l1 k s acc (i : Int) (j : Int) = some (resM acc (backM (some ((s.data.toList.take j).drop (i + 1))) (s.data.toList.drop j)))) := by
  intro d
  induction d with
  | zero =>
    constructor
    · intro i acc hi ha
      refine ⟨1, fun k hk => ?_⟩
      obtain ⟨k, rfl⟩ : ∃ j, k = j + 1 := ⟨k - 1, by omega⟩
      rw [cardexref01_Back.l0, if_neg (by omega), List.drop_eq_nil_of_le (by rw [size_list]; omega), backM]
      show some (acc, 0) = some (acc ++ ba [], 0)
      rw [← ba_of acc, ba_append, List.append_nil]
    · intro i j acc hij hj ha
      refine ⟨2, fun k hk => ?_⟩
      obtain ⟨k, rfl⟩ : ∃ j, k = j + 2 := ⟨k - 2, by omega⟩
      rw [cardexref01_Back.l1, if_neg (by omega), cardexref01_Back.j2, if_neg (by omega), show s.data.toList.drop j = [] from List.drop_eq_nil_of_le (by rw [size_list]; omega), backM]
      rfl
  | succ d ih =>
    obtain ⟨ih0, ih1⟩ := ih
    have hw : ∀ i : Nat, i < s.size → wrap64 ((i : Int) + 1) = ((i + 1 : Nat) : Int) := fun i hi => by rw [wrap_small (by omega) (by omega)]; omega
    constructor
    · intro i acc hi ha
      obtain ⟨b, t, h1, h2, h3, h4⟩ := bt_at_get s i (by omega)
      rw [h1, backM]
      by_cases c1 : b = 60
      · subst c1
        refine ⟨1, fun k hk => ?_⟩
        obtain ⟨k, rfl⟩ : ∃ j, k = j + 1 := ⟨k - 1, by omega⟩
        rw [cardexref01_Back.l0, if_pos (by omega), if_pos (by omega), h2, if_pos (by decide), if_pos rfl]; rfl
      rw [if_neg c1]
      by_cases c2 : b = 38
      · subst c2
        have hi1 := ih1 i (i + 1) acc (by omega) (by omega) ha
        obtain ⟨K, hK⟩ := hi1
        rw [List.drop_eq_nil_of_le (by rw [List.length_take]; omega)] at hK
        refine ⟨K + 3, fun k hk => ?_⟩
        obtain ⟨k, rfl⟩ : ∃ j, k = j + 2 := ⟨k - 2, by omega⟩
        rw [cardexref01_Back.l0, if_pos (by omega), if_pos (by omega), h2, if_neg (by decide), if_pos (by decide), if_pos rfl]
        rw [cardexref01_Back.l1, if_pos (by omega), if_pos (by omega), h2, if_neg (by decide), hw i (by omega), hK k (by omega), h3]
      rw [if_neg c2]
      obtain ⟨K, hK⟩ := ih0 (i + 1) (acc ++ ba [b]) (by omega) (by rw [ByteArray.size_append, ba_size]; simp only [List.length_cons, List.length_nil]; omega)
      refine ⟨K + 1, fun k hk => ?_⟩
      obtain ⟨k, rfl⟩ : ∃ j, k = j + 1 := ⟨k - 1, by omega⟩
      rw [cardexref01_Back.l0, if_pos (by omega), if_pos (by omega), h2, if_neg (by rw [show (60 : Int) = ((60 : Nat) : Int) from rfl, byte_eq b 60 (by decide)]; exact c1), if_neg (by rw [show (38 : Int) = ((38 : Nat) : Int) from rfl, byte_eq b 38 (by decide)]; exact c2), hw i (by omega), if_pos (by omega), if_pos (by omega)]
      simp only [Option.bind_some, Int.toNat_natCast]
      rw [h4, if_pos (by rw [ba_size]; simp only [List.length_cons, List.length_nil]; omega), hK k (by omega), h3]
      congr 1
      exact (resM_map acc [b] _).symm
    · intro i j acc hij hj ha
      obtain ⟨b, t, h1, h2, h3, h4⟩ := bt_at_get s j (by omega)
      rw [h1, backM]
      by_cases c1 : b = 59
      · subst c1
        rw [if_pos rfl]
        obtain ⟨K1, hK1⟩ := entity_ev ((s.data.toList.take j).drop (i + 1)) (by rw [List.length_drop, List.length_take, size_list]; omega)
        have hx : s.extract (i + 1) j = ba ((s.data.toList.take j).drop (i + 1)) := by
          have := ba_extract s.data.toList (i + 1) j
          rw [ba_of] at this
          exact this
        obtain ⟨K2, hK2⟩ := ih0 (j + 1) (acc ++ ba (sgnL ((s.data.toList.take j).drop (i + 1)))) (by omega) (by have := sgnL_len ((s.data.toList.take j).drop (i + 1)); rw [ByteArray.size_append, ba_size]; omega)
        refine ⟨K1 + K2 + 2, fun k hk => ?_⟩
        obtain ⟨k, rfl⟩ : ∃ j, k = j + 2 := ⟨k - 2, by omega⟩
        rw [cardexref01_Back.l1, if_pos (by omega), if_pos (by omega), h2, if_pos (by decide), cardexref01_Back.j2, if_pos (by omega), hw i (by omega), if_pos (by omega), if_pos (by omega), if_pos (by omega)]
        rw [Int.toNat_natCast, Int.toNat_natCast, hx, hK1 k (by omega)]
        simp only [Option.bind_some]
        rw [ba_toList]
        by_cases c2 : sgnL ((s.data.toList.take j).drop (i + 1)) = []
        · rw [if_pos c2, if_pos c2]; rfl
        · have := sgnL_len ((s.data.toList.take j).drop (i + 1))
          rw [if_neg c2, if_neg c2, if_pos (by rw [ba_size]; omega), hw j (by omega), hK2 k (by omega), h3, resM_map]
      · rw [if_neg c1]
        obtain ⟨K, hK⟩ := ih1 i (j + 1) acc (by omega) (by omega) ha
        refine ⟨K + 1, fun k hk => ?_⟩
        obtain ⟨k, rfl⟩ : ∃ j, k = j + 1 := ⟨k - 1, by omega⟩
        rw [cardexref01_Back.l1, if_pos (by omega), if_pos (by omega), h2, if_neg (by rw [show (59 : Int) = ((59 : Nat) : Int) from rfl, byte_eq b 59 (by decide)]; exact c1), hw j (by omega), hK k (by omega), h3, take_snoc _ _ _ b t (by omega) h1]
theorem ref_back (s : ByteArray) (hs : s.size ≤ 1000000000) : ∃ K, ∀ k, K ≤ k → cardexref01_Back.f k s = some (backT s) := by
  obtain ⟨K, hK⟩ := (back_loops s hs s.size).1 0 ⟨#[]⟩ (by omega) (by decide)
  refine ⟨K + s.size + 9, fun k hk => ?_⟩
  unfold cardexref01_Back.f backT
  rw [ref_valid s (by omega) k (by omega)]
  simp only [Option.bind_some]
  have := hK k (by omega)
  rw [List.drop_zero] at this
  rw [show (0 : Int) = ((0 : Nat) : Int) from rfl, this]
  split <;> rfl
end Go.Proofs.YtjijbncheikagaaGreatDoor.P
end
