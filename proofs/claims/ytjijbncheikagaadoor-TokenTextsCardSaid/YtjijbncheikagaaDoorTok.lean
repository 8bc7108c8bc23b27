/- Plain law of this session: the pieces of a file, in closed form: each of the program's steps over what is left. -/
import Derived.Test.YtjijbncheikagaaDoorEscP
namespace Go.Proofs.YtjijbncheikagaaDoor.P
open Go Go.RowKit Go.Lib Go.Proofs.YtjijbncheikagaaDoorX Go.Proofs.YtjijbncheikagaaDoorW.PrintWords Go.Proofs.YtjijbncheikagaaDoor.Q
set_option linter.unusedVariables false
set_option linter.unusedSimpArgs false
def firstC : List UInt8 := [65, 66, 67, 68, 69, 70, 71, 72, 73, 74, 75, 76, 77, 78, 79, 80, 81, 82, 83, 84, 85, 86, 87, 88, 89, 90, 97, 98, 99, 100, 101, 102, 103, 104, 105, 106, 107, 108, 109, 110, 111, 112, 113, 114, 115, 116, 117, 118, 119, 120, 121, 122, 95]
def otherC : List UInt8 := [65, 66, 67, 68, 69, 70, 71, 72, 73, 74, 75, 76, 77, 78, 79, 80, 81, 82, 83, 84, 85, 86, 87, 88, 89, 90, 97, 98, 99, 100, 101, 102, 103, 104, 105, 106, 107, 108, 109, 110, 111, 112, 113, 114, 115, 116, 117, 118, 119, 120, 121, 122, 95, 48, 49, 50, 51, 52, 53, 54, 55, 56, 57, 45, 46]
def blankC : List UInt8 := [9, 10, 13, 32]
def prologC : List UInt8 := [60, 63, 120, 109, 108, 32, 118, 101, 114, 115, 105, 111, 110, 61, 39, 49, 46, 48, 39, 32, 101, 110, 99, 111, 100, 105, 110, 103, 61, 39, 85, 84, 70, 45, 56, 39, 63, 62]
def isL (p l : List UInt8) : List UInt8 := if p <+: l then l.drop p.length else l
theorem is_f (s0 : ByteArray) (l p : List UInt8) : token_walk_string_is.f s0 (ba l) (ba p) = some (decide (p <+: l), s0, ba (isL p l)) := by
  unfold token_walk_string_is.f isL
  rw [cutPre, ba_list, ba_list, ba_size]
  by_cases h : p <+: l
  · rw [if_pos h, if_pos h, decide_eq_true h]; rfl
  · rw [if_neg h, if_neg h, decide_eq_false h]; rfl
theorem isL_len (p l : List UInt8) : (isL p l).length ≤ l.length := by
  unfold isL
  split
  · rw [List.length_drop]; omega
  · exact Nat.le_refl _
theorem tw_dw (p : UInt8 → Bool) (l : List UInt8) : l.takeWhile p ++ l.dropWhile p = l := List.takeWhile_append_dropWhile
theorem dw_len (p : UInt8 → Bool) (l : List UInt8) : (l.dropWhile p).length ≤ l.length := by
  have := congrArg List.length (tw_dw p l)
  rw [List.length_append] at this
  omega
theorem take_tw (p : UInt8 → Bool) (l : List UInt8) : l.take (l.takeWhile p).length = l.takeWhile p := (List.prefix_iff_eq_take.1 (List.takeWhile_prefix p)).symm
theorem run_f (s0 : ByteArray) (l cs : List UInt8) (hl : l.length ≤ 1000000000) (hc : cs.length ≤ 1000) (ha : cs.all (fun b => decide (b.toNat < 128)) = true) :
    token_run_string.f s0 (ba l) (ba cs) = some (ba (l.takeWhile (cs.contains ·)), s0, ba (l.dropWhile (cs.contains ·))) := by
  have hsplit := tw_dw (cs.contains ·) l
  have hlen := congrArg List.length hsplit
  rw [List.length_append] at hlen
  unfold token_run_string.f strings_TrimLeft.f
  rw [ba_list, ba_list, ba_size, if_pos ⟨by omega, ha⟩]
  simp only [Option.bind_some]
  unfold Lib.trimLeftS
  rw [show (⟨(l.dropWhile (cs.contains ·)).toArray⟩ : ByteArray) = ba (l.dropWhile (cs.contains ·)) from rfl, ba_size, ba_size, wrap_small (by omega) (by omega), if_pos (by omega), if_pos (by omega)]
  rw [show ((l.length : Int) - ((l.dropWhile (cs.contains ·)).length : Int)).toNat = (l.takeWhile (cs.contains ·)).length by omega, ba_extract, List.drop_zero]
  rw [take_tw]
def nameL (l : List UInt8) : List UInt8 × List UInt8 := match l with
  | [] => ([], [])
  | c :: t => if firstC.contains c = true then ((c :: t).takeWhile (otherC.contains ·), (c :: t).dropWhile (otherC.contains ·)) else ([], c :: t)
theorem nameL_yes {c : UInt8} {t : List UInt8} (h : firstC.contains c = true) : nameL (c :: t) = ((c :: t).takeWhile (otherC.contains ·), (c :: t).dropWhile (otherC.contains ·)) := by
  unfold nameL
  simp only
  rw [if_pos h]
theorem nameL_no {c : UInt8} {t : List UInt8} (h : ¬ firstC.contains c = true) : nameL (c :: t) = ([], c :: t) := by
  unfold nameL
  simp only
  rw [if_neg h]
theorem name_f (s0 : ByteArray) (l : List UInt8) (hl : l.length ≤ 1000000000) : token_name.f s0 (ba l) = some (ba (nameL l).1, s0, ba (nameL l).2) := by
  unfold token_name.f
  rw [ba_toList, ba_size]
  match l, hl with
  | [], _ => rw [if_pos rfl]; rfl
  | c :: t, hl =>
    rw [if_neg (by simp), if_pos (by decide), if_pos (by simp only [List.length_cons]; omega)]
    have hx : (ba (c :: t)).extract 0 1 = ba [c] := by rw [ba_extract]; rfl
    rw [hx]
    unfold strings_Contains.f
    rw [if_pos (by rw [ba_size]; rfl), ba_list]
    rw [Option.bind_some]
    change (if firstC.contains c = true then (token_run_string.f s0 (ba (c :: t)) (ba otherC)).bind (fun bt => some (bt.1, bt.2.1, bt.2.2)) else some (ba [], s0, ba (c :: t))) = _
    rw [run_f s0 (c :: t) otherC hl (by decide) (by decide), Option.bind_some]
    by_cases h : firstC.contains c = true
    · rw [if_pos h, nameL_yes h]
    · rw [if_neg h, nameL_no h]
theorem nameL_eq (l : List UInt8) : (nameL l).1 ++ (nameL l).2 = l := by
  unfold nameL
  split
  · rfl
  · split
    · exact tw_dw _ _
    · rfl
theorem tw_none (c : UInt8) : ∀ l : List UInt8, c ∉ l → l.takeWhile (· != c) = l ∧ l.dropWhile (· != c) = []
  | [], _ => ⟨rfl, rfl⟩
  | b :: t, h => by
    have hb : (b != c) = true := by rw [bne_iff_ne]; exact fun e => h (e ▸ .head _)
    have := tw_none c t (fun e => h (.tail _ e))
    rw [List.takeWhile_cons, List.dropWhile_cons, if_pos hb, if_pos hb, this.1, this.2]
    exact ⟨rfl, rfl⟩
theorem tw_some (c : UInt8) : ∀ p q : List UInt8, c ∉ p → (p ++ c :: q).takeWhile (· != c) = p ∧ (p ++ c :: q).dropWhile (· != c) = c :: q
  | [], q, _ => by simp
  | b :: t, q, h => by
    have hb : (b != c) = true := by rw [bne_iff_ne]; exact fun e => h (e ▸ .head _)
    have := tw_some c t q (fun e => h (.tail _ e))
    rw [List.cons_append, List.takeWhile_cons, List.dropWhile_cons, if_pos hb, if_pos hb, this.1, this.2]
    exact ⟨rfl, rfl⟩
theorem upTo_f (s0 : ByteArray) (l : List UInt8) (c : UInt8) (hl : l.length ≤ 1000000000) : token_upTo_string.f s0 (ba l) (ba [c]) = some (ba (l.takeWhile (· != c)), (l.dropWhile (· != c)) != [], s0, ba (l.dropWhile (· != c))) := by
  unfold token_upTo_string.f strings_Index.f
  rw [if_pos (by rw [ba_size]; rfl), ba_list, ba_list, ba_size]
  simp only [Option.bind_some, List.getD_cons_zero]
  have nope : ∀ p : List UInt8, c ∉ p → Lib.indexByte p c = -1 := by
    intro p
    induction p with
    | nil => intro _; rfl
    | cons b t ih =>
      intro h
      unfold Lib.indexByte
      rw [ih (fun e => h (.tail _ e)), if_neg (by rw [beq_iff_eq]; exact fun e => h (e ▸ .head _))]; rfl
  have yes : ∀ p q : List UInt8, c ∉ p → Lib.indexByte (p ++ c :: q) c = p.length := by
    intro p q
    induction p with
    | nil => intro _; unfold Lib.indexByte; simp
    | cons b t ih =>
      intro h
      rw [List.cons_append]
      unfold Lib.indexByte
      rw [ih (fun e => h (.tail _ e)), if_neg (by rw [beq_iff_eq]; exact fun e => h (e ▸ .head _)), if_neg (by rw [beq_iff_eq]; omega)]
      simp
  rcases first_of c l with h | ⟨p, q, rfl, h⟩
  · obtain ⟨e1, e2⟩ := tw_none c l h
    rw [nope l h, if_pos (by decide), if_pos (by omega), if_pos (by omega), e1, e2]
    rfl
  · obtain ⟨e1, e2⟩ := tw_some c p q h
    rw [yes p q h, if_neg (by omega), if_pos (by omega), if_pos (by rw [List.length_append]; omega), e1, e2]
    simp only [Option.bind_some, Int.toNat_natCast]
    have x1 : (ba (p ++ c :: q)).extract 0 p.length = ba p := by rw [ba_extract, List.take_append_of_le_length (Nat.le_refl _), List.take_length, List.drop_zero]
    have x2 : (ba (p ++ c :: q)).extract p.length (p ++ c :: q).length = ba (c :: q) := by rw [ba_extract, List.take_of_length_le (Nat.le_refl _), List.drop_append_of_le_length (Nat.le_refl _), List.drop_length, List.nil_append]
    rw [x1, x2, ba_toList]
def backO (l : List UInt8) : Option (List UInt8) := if validT (ba l) = true then backM none l else none
theorem back_some {l v : List UInt8} (h : backO l = some v) : backT (ba l) = (ba v, 0) := by
  unfold backO at h
  unfold backT
  by_cases hv : validT (ba l) = true
  · rw [if_pos hv] at h ⊢
    rw [ba_list, h]
    show ((⟨#[]⟩ : ByteArray) ++ ba v, (0 : Int)) = _
    rw [show (⟨#[]⟩ : ByteArray) = ba [] from rfl, ba_append, List.nil_append]
  · rw [if_neg hv] at h; cases h
theorem back_none {l : List UInt8} (h : backO l = none) : (backT (ba l)).2 ≠ 0 := by
  unfold backO at h
  unfold backT
  by_cases hv : validT (ba l) = true
  · rw [if_pos hv] at h ⊢
    rw [ba_list, h]; decide
  · rw [if_neg hv]; decide
def valM (c : UInt8) (t : List UInt8) : Option (List UInt8 × List UInt8) :=
  if t.dropWhile (· != c) = [] then none else (backO (t.takeWhile (· != c))).map fun v => (v, (t.dropWhile (· != c)).drop 1)
def valO (l : List UInt8) : Option (List UInt8 × List UInt8) := match l with
  | [] => none
  | c :: t => if c = 39 ∨ c = 34 then valM c t else none
theorem is_one (s0 : ByteArray) (l : List UInt8) (c : UInt8) : token_walk_string_is.f s0 (ba l) (ba [c]) = match l with | [] => some (false, s0, ba l) | b :: t => if b = c then some (true, s0, ba t) else some (false, s0, ba l) := by
  rw [is_f]
  unfold isL
  match l with
  | [] => simp
  | b :: t =>
    by_cases h : b = c
    · subst h
      simp
    · have hn : ¬ ([c] <+: b :: t) := fun e => h ((List.cons_prefix_cons.1 e).1).symm
      rw [if_neg hn, decide_eq_false hn]
      simp only
      rw [if_neg h]
theorem valM_f (c : UInt8) (s0 : ByteArray) (t : List UInt8) (hl : t.length ≤ 1000000000) :
    ∀ f, f = ((token_upTo_string.f s0 (ba t) (ba [c])).bind fun bt174 => ((escape_Back.f bt174.1).bind fun bt178 => (if bt174.2.1 = true then ((token_walk_string_is.f bt174.2.2.1 bt174.2.2.2 (ba [c])).bind fun bt180 => (if bt180.1 = true then (some (bt178.1, (bt178.2 == 0), bt180.2.1, bt180.2.2)) else (some (bt178.1, false, bt180.2.1, bt180.2.2)))) else (some (bt178.1, false, bt174.2.2.1, bt174.2.2.2))))) →
    (∀ v r, valM c t = some (v, r) → f = some (ba v, true, s0, ba r)) ∧ (valM c t = none → ∃ a d, f = some (a, false, s0, d)) := by
  intro f hf
  have hb := back_f (ba (t.takeWhile (· != c))) (by
    rw [ba_size]
    have := congrArg List.length (tw_dw (· != c) t)
    rw [List.length_append] at this; omega)
  rw [upTo_f s0 t c hl, Option.bind_some, hb, Option.bind_some] at hf
  unfold valM
  cases hd : t.dropWhile (· != c) with
  | nil =>
    rw [hd] at hf
    rw [if_pos rfl]
    rw [if_neg (by simp)] at hf
    exact ⟨(fun v r h => by cases h), fun _ => ⟨_, _, hf⟩⟩
  | cons b r =>
    have hbc : b = c := by
      have := List.head?_dropWhile_not (· != c) t
      rw [hd] at this
      simpa using this
    subst hbc
    rw [hd, is_one] at hf
    rw [if_neg (by simp)]
    simp only [if_true] at hf
    rw [if_pos (by rfl), Option.bind_some, if_pos rfl] at hf
    cases ho : backO (t.takeWhile (· != b)) with
    | none =>
      rw [beq_eq_false_iff_ne.2 (back_none ho)] at hf
      exact ⟨(fun v r h => by cases h), fun _ => ⟨_, _, hf⟩⟩
    | some v =>
      rw [back_some ho] at hf
      refine ⟨fun v' r' h => ?_, fun h => by cases h⟩
      cases h
      exact hf
theorem value_f (s0 : ByteArray) (l : List UInt8) (hl : l.length ≤ 1000000000) :
    (∀ v r, valO l = some (v, r) → token_value.f s0 (ba l) = some (ba v, true, s0, ba r)) ∧ (valO l = none → ∃ a d, token_value.f s0 (ba l) = some (a, false, s0, d)) := by
  unfold token_value.f
  rw [show (⟨#[39]⟩ : ByteArray) = ba [39] from rfl, show (⟨#[34]⟩ : ByteArray) = ba [34] from rfl, is_one]
  match l, hl with
  | [], _ =>
    refine ⟨(fun v r h => by cases h), fun _ => ⟨ba [], ba [], ?_⟩⟩
    simp only [Option.bind_some]
    rw [if_neg (by decide), is_one]
    simp only [Option.bind_some]
    rw [if_neg (by decide)]; rfl
  | b :: t, hl =>
    simp only [List.length_cons] at hl
    by_cases h39 : b = 39
    · have e : valO (b :: t) = valM 39 t := by subst h39; simp [valO]
      rw [e]
      simp only
      rw [if_pos h39, Option.bind_some]
      simp only [if_true]
      exact valM_f 39 s0 t (by omega) _ rfl
    · simp only
      rw [if_neg h39, Option.bind_some]
      simp only
      rw [if_neg Bool.false_ne_true, is_one]
      by_cases h34 : b = 34
      · have e : valO (b :: t) = valM 34 t := by subst h34; simp [valO]
        rw [e]
        simp only
        rw [if_pos h34, Option.bind_some]
        simp only [if_true]
        exact valM_f 34 s0 t (by omega) _ rfl
      · have e : valO (b :: t) = none := by simp [valO, h39, h34]
        rw [e]
        simp only
        rw [if_neg h34, Option.bind_some]
        simp only
        rw [if_neg Bool.false_ne_true]
        exact ⟨(fun v r h => by cases h), fun _ => ⟨ba [], ba (b :: t), rfl⟩⟩
end Go.Proofs.YtjijbncheikagaaDoor.P
