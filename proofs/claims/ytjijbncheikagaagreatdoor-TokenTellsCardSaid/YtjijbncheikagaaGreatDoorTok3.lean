/- Plain law of this session: the pieces of a file, in closed form: each of the program's steps over what is left. -/
import Derived.Test.YtjijbncheikagaaGreatDoorEscR
section
namespace Go.Proofs.YtjijbncheikagaaGreatDoor.P
open Go Go.RowKit Go.Lib Go.Proofs.YtjijbncheikagaaGreatDoorX Go.Proofs.YtjijbncheikagaaGreatDoorW.PrintWords Go.Proofs.YtjijbncheikagaaGreatDoor.Q
set_option linter.unusedVariables false
set_option linter.unusedSimpArgs false
def firstC : List UInt8 := [65, 66, 67, 68, 69, 70, 71, 72, 73, 74, 75, 76, 77, 78, 79, 80, 81, 82, 83, 84, 85, 86, 87, 88, 89, 90, 97, 98, 99, 100, 101, 102, 103, 104, 105, 106, 107, 108, 109, 110, 111, 112, 113, 114, 115, 116, 117, 118, 119, 120, 121, 122, 95]
def otherC : List UInt8 := [65, 66, 67, 68, 69, 70, 71, 72, 73, 74, 75, 76, 77, 78, 79, 80, 81, 82, 83, 84, 85, 86, 87, 88, 89, 90, 97, 98, 99, 100, 101, 102, 103, 104, 105, 106, 107, 108, 109, 110, 111, 112, 113, 114, 115, 116, 117, 118, 119, 120, 121, 122, 95, 48, 49, 50, 51, 52, 53, 54, 55, 56, 57, 45, 46]
def blankC : List UInt8 := [9, 10, 13, 32]
def prologC : List UInt8 := [60, 63, 120, 109, 108, 32, 118, 101, 114, 115, 105, 111, 110, 61, 39, 49, 46, 48, 39, 32, 101, 110, 99, 111, 100, 105, 110, 103, 61, 39, 85, 84, 70, 45, 56, 39, 63, 62]
def isL (p l : List UInt8) : List UInt8 := if p <+: l then l.drop p.length else l
theorem is_f (s0 : ByteArray) (l p : List UInt8) : token_walk_string_is.f s0 (ba l) (ba p) = some (decide (p <+: l), s0, ba (isL p l)) := by
  unfold token_walk_string_is.f isL
  rw [cutPre, ba_list, ba_list, ba_size]
  by_cases h : p <+: l
  · rw [if_pos h, if_pos h, decide_eq_true h]; rfl
  · rw [if_neg h, if_neg h, decide_eq_false h]; rfl
theorem isL_len (p l : List UInt8) : (isL p l).length ≤ l.length := by
  unfold isL
  split
  · rw [List.length_drop]; omega
  · exact Nat.le_refl _
theorem tw_dw (p : UInt8 → Bool) (l : List UInt8) : l.takeWhile p ++ l.dropWhile p = l := List.takeWhile_append_dropWhile
theorem dw_len (p : UInt8 → Bool) (l : List UInt8) : (l.dropWhile p).length ≤ l.length := by
  have := congrArg List.length (tw_dw p l)
  rw [List.length_append] at this
  omega
theorem take_tw (p : UInt8 → Bool) (l : List UInt8) : l.take (l.takeWhile p).length = l.takeWhile p := (List.prefix_iff_eq_take.1 (List.takeWhile_prefix p)).symm
theorem run_f (s0 : ByteArray) (l cs : List UInt8) (hl : l.length ≤ 1000000000) (hc : cs.length ≤ 1000) (ha : cs.all (fun b => decide (b.toNat < 128)) = true) :
    token_run_string.f s0 (ba l) (ba cs) = some (ba (l.takeWhile (cs.contains ·)), s0, ba (l.dropWhile (cs.contains ·))) := by
  have hsplit := tw_dw (cs.contains ·) l
  have hlen := congrArg List.length hsplit
  rw [List.length_append] at hlen
  unfold token_run_string.f strings_TrimLeft.f
  rw [ba_list, ba_list, ba_size, if_pos ⟨by omega, ha⟩]
  simp only [Option.bind_some]
  unfold Lib.trimLeftS
  rw [show (⟨(l.dropWhile (cs.contains ·)).toArray⟩ : ByteArray) = ba (l.dropWhile (cs.contains ·)) from rfl, ba_size, ba_size, wrap_small (by omega) (by omega), if_pos (by omega), if_pos (by omega)]
  rw [show ((l.length : Int) - ((l.dropWhile (cs.contains ·)).length : Int)).toNat = (l.takeWhile (cs.contains ·)).length by omega, ba_extract, List.drop_zero]
  rw [take_tw]
def nameL (l : List UInt8) : List UInt8 × List UInt8 := match l with
  | [] => ([], [])
  | c :: t => if firstC.contains c = true then ((c :: t).takeWhile (otherC.contains ·), (c :: t).dropWhile (otherC.contains ·)) else ([], c :: t)
theorem nameL_yes {c : UInt8} {t : List UInt8} (h : firstC.contains c = true) : nameL (c :: t) = ((c :: t).takeWhile (otherC.contains ·), (c :: t).dropWhile (otherC.contains ·)) := by
  unfold nameL
  simp only
  rw [if_pos h]
theorem nameL_no {c : UInt8} {t : List UInt8} (h : ¬ firstC.contains c = true) : nameL (c :: t) = ([], c :: t) := by
  unfold nameL
  simp only
  rw [if_neg h]
theorem name_f (s0 : ByteArray) (l : List UInt8) (hl : l.length ≤ 1000000000) : token_name.f s0 (ba l) = some (ba (nameL l).1, s0, ba (nameL l).2) := by
  unfold token_name.f
  rw [ba_toList, ba_size]
  match l, hl with
  | [], _ => rw [if_pos rfl]; rfl
  | c :: t, hl =>
    rw [if_neg (by simp), if_pos (by decide), if_pos (by simp only [List.length_cons]; omega)]
    have hx : (ba (c :: t)).extract 0 1 = ba [c] := by rw [ba_extract]; rfl
    rw [hx]
    unfold strings_Contains.f
    rw [if_pos (by rw [ba_size]; rfl), ba_list]
    rw [Option.bind_some]
    change (if firstC.contains c = true then (token_run_string.f s0 (ba (c :: t)) (ba otherC)).bind (fun bt => some (bt.1, bt.2.1, bt.2.2)) else some (ba [], s0, ba (c :: t))) = _
    rw [run_f s0 (c :: t) otherC hl (by decide) (by decide), Option.bind_some]
    by_cases h : firstC.contains c = true
    · rw [if_pos h, nameL_yes h]
    · rw [if_neg h, nameL_no h]
theorem nameL_eq (l : List UInt8) : (nameL l).1 ++ (nameL l).2 = l := by
  unfold nameL
  split
  · rfl
  · split
    · exact tw_dw _ _
    · rfl
theorem tw_none (c : UInt8) : ∀ l : List UInt8, c ∉ l → l.takeWhile (· != c) = l ∧ l.dropWhile (· != c) = []
  | [], _ => ⟨rfl, rfl⟩
  | b :: t, h => by
    have hb : (b != c) = true := by rw [bne_iff_ne]; exact fun e => h (e ▸ .head _)
    have := tw_none c t (fun e => h (.tail _ e))
    rw [List.takeWhile_cons, List.dropWhile_cons, if_pos hb, if_pos hb, this.1, this.2]
    exact ⟨rfl, rfl⟩
theorem tw_some (c : UInt8) : ∀ p q : List UInt8, c ∉ p → (p ++ c :: q).takeWhile (· != c) = p ∧ (p ++ c :: q).dropWhile (· != c) = c :: q
  | [], q, _ => by simp
  | b :: t, q, h => by
    have hb : (b != c) = true := by rw [bne_iff_ne]; exact fun e => h (e ▸ .head _)
    have := tw_some c t q (fun e => h (.tail _ e))
    rw [List.cons_append, List.takeWhile_cons, List.dropWhile_cons, if_pos hb, if_pos hb, this.1, this.2]
    exact ⟨rfl, rfl⟩
theorem upTo_f (s0 : ByteArray) (l : List UInt8) (c : UInt8) (hl : l.length ≤ 1000000000) : token_upTo_string.f s0 (ba l) (ba [c]) = some (ba (l.takeWhile (· != c)), (l.dropWhile (· != c)) != [], s0, ba (l.dropWhile (· != c))) := by
  unfold token_upTo_string.f strings_Index.f
  rw [if_pos (by rw [ba_size]; rfl), ba_list, ba_list, ba_size]
  simp only [Option.bind_some, List.getD_cons_zero]
  have nope : ∀ p : List UInt8, c ∉ p → Lib.indexByte p c = -1 := by
    intro p
    induction p with
    | nil => intro _; rfl
    | cons b t ih =>
      intro h
      unfold Lib.indexByte
      rw [ih (fun e => h (.tail _ e)), if_neg (by rw [beq_iff_eq]; exact fun e => h (e ▸ .head _))]; rfl
  have yes : ∀ p q : List UInt8, c ∉ p → Lib.indexByte (p ++ c :: q) c = p.length := by
    intro p q
    induction p with
    | nil => intro _; unfold Lib.indexByte; simp
    | cons b t ih =>
      intro h
      rw [List.cons_append]
      unfold Lib.indexByte
      rw [ih (fun e => h (.tail _ e)), if_neg (by rw [beq_iff_eq]; exact fun e => h (e ▸ .head _)), if_neg (by rw [beq_iff_eq]; omega)]
      simp
  rcases first_of c l with h | ⟨p, q, rfl, h⟩
  · obtain ⟨e1, e2⟩ := tw_none c l h
    rw [nope l h, if_pos (by decide), if_pos (by omega), if_pos (by omega), e1, e2]
    rfl
  · obtain ⟨e1, e2⟩ := tw_some c p q h
    rw [yes p q h, if_neg (by omega), if_pos (by omega), if_pos (by rw [List.length_append]; omega), e1, e2]
    simp only [Option.bind_some, Int.toNat_natCast]
    have x1 : (ba (p ++ c :: q)).extract 0 p.length = ba p := by rw [ba_extract, List.take_append_of_le_length (Nat.le_refl _), List.take_length, List.drop_zero]
    have x2 : (ba (p ++ c :: q)).extract p.length (p ++ c :: q).length = ba (c :: q) := by rw [ba_extract, List.take_of_length_le (Nat.le_refl _), List.drop_append_of_le_length (Nat.le_refl _), List.drop_length, List.nil_append]
    rw [x1, x2, ba_toList]
def backO (l : List UInt8) : Option (List UInt8) := if validT (ba l) = true then backM none l else none
theorem back_some {l v : List UInt8} (h : backO l = some v) : backT (ba l) = (ba v, 0) := by
  unfold backO at h
  unfold backT
  by_cases hv : validT (ba l) = true
  · rw [if_pos hv] at h ⊢
    rw [ba_list, h]
    show ((⟨#[]⟩ : ByteArray) ++ ba v, (0 : Int)) = _
    rw [show (⟨#[]⟩ : ByteArray) = ba [] from rfl, ba_append, List.nil_append]
  · rw [if_neg hv] at h; cases h
theorem back_none {l : List UInt8} (h : backO l = none) : (backT (ba l)).2 ≠ 0 := by
  unfold backO at h
  unfold backT
  by_cases hv : validT (ba l) = true
  · rw [if_pos hv] at h ⊢
    rw [ba_list, h]; decide
  · rw [if_neg hv]; decide
def valM (c : UInt8) (t : List UInt8) : Option (List UInt8 × List UInt8) :=
  if t.dropWhile (· != c) = [] then none else (backO (t.takeWhile (· != c))).map fun v => (v, (t.dropWhile (· != c)).drop 1)
def valO (l : List UInt8) : Option (List UInt8 × List UInt8) := match l with
  | [] => none
  | c :: t => if c = 39 ∨ c = 34 then valM c t else none
theorem is_one (s0 : ByteArray) (l : List UInt8) (c : UInt8) : token_walk_string_is.f s0 (ba l) (ba [c]) = match l with | [] => some (false, s0, ba l) | b :: t => if b = c then some (true, s0, ba t) else some (false, s0, ba l) := by
  rw [is_f]
  unfold isL
  match l with
  | [] => simp
  | b :: t =>
    by_cases h : b = c
    · subst h
      simp
    · have hn : ¬ ([c] <+: b :: t) := fun e => h ((List.cons_prefix_cons.1 e).1).symm
      rw [if_neg hn, decide_eq_false hn]
      simp only
      rw [if_neg h]
theorem valM_f (c : UInt8) (s0 : ByteArray) (t : List UInt8) (hl : t.length ≤ 1000000000) :
    ∀ f, f = ((token_upTo_string.f s0 (ba t) (ba [c])).bind fun bt174 => ((escape_Back.f bt174.1).bind fun bt178 => (if bt174.2.1 = true then ((token_walk_string_is.f bt174.2.2.1 bt174.2.2.2 (ba [c])).bind fun bt180 => (if bt180.1 = true then (some (bt178.1, (bt178.2 == 0), bt180.2.1, bt180.2.2)) else (some (bt178.1, false, bt180.2.1, bt180.2.2)))) else (some (bt178.1, false, bt174.2.2.1, bt174.2.2.2))))) →
    (∀ v r, valM c t = some (v, r) → f = some (ba v, true, s0, ba r)) ∧ (valM c t = none → ∃ a d, f = some (a, false, s0, d)) := by
  intro f hf
  have hb := back_f (ba (t.takeWhile (· != c))) (by
    rw [ba_size]
    have := congrArg List.length (tw_dw (· != c) t)
    rw [List.length_append] at this; omega)
  rw [upTo_f s0 t c hl, Option.bind_some, hb, Option.bind_some] at hf
  unfold valM
  cases hd : t.dropWhile (· != c) with
  | nil =>
    rw [hd] at hf
    rw [if_pos rfl]
    rw [if_neg (by simp)] at hf
    exact ⟨(fun v r h => by cases h), fun _ => ⟨_, _, hf⟩⟩
  | cons b r =>
    have hbc : b = c := by
      have := List.head?_dropWhile_not (· != c) t
      rw [hd] at this
      simpa using this
    subst hbc
    rw [hd, is_one] at hf
    rw [if_neg (by simp)]
    simp only [if_true] at hf
    rw [if_pos (by rfl), Option.bind_some, if_pos rfl] at hf
    cases ho : backO (t.takeWhile (· != b)) with
    | none =>
      rw [beq_eq_false_iff_ne.2 (back_none ho)] at hf
      exact ⟨(fun v r h => by cases h), fun _ => ⟨_, _, hf⟩⟩
    | some v =>
      rw [back_some ho] at hf
      refine ⟨fun v' r' h => ?_, fun h => by cases h⟩
      cases h
      exact hf
theorem value_f (s0 : ByteArray) (l : List UInt8) (hl : l.length ≤ 1000000000) :
    (∀ v r, valO l = some (v, r) → token_value.f s0 (ba l) = some (ba v, true, s0, ba r)) ∧ (valO l = none → ∃ a d, token_value.f s0 (ba l) = some (a, false, s0, d)) := by
  unfold token_value.f
  rw [show (⟨#[39]⟩ : ByteArray) = ba [39] from rfl, show (⟨#[34]⟩ : ByteArray) = ba [34] from rfl, is_one]
  match l, hl with
  | [], _ =>
    refine ⟨(fun v r h => by cases h), fun _ => ⟨ba [], ba [], ?_⟩⟩
    simp only [Option.bind_some]
    rw [if_neg (by decide), is_one]
    simp only [Option.bind_some]
    rw [if_neg (by decide)]; rfl
  | b :: t, hl =>
    simp only [List.length_cons] at hl
    by_cases h39 : b = 39
    · have e : valO (b :: t) = valM 39 t := by subst h39; simp [valO]
      rw [e]
      simp only
      rw [if_pos h39, Option.bind_some]
      simp only [if_true]
      exact valM_f 39 s0 t (by omega) _ rfl
    · simp only
      rw [if_neg h39, Option.bind_some]
      simp only
      rw [if_neg Bool.false_ne_true, is_one]
      by_cases h34 : b = 34
      · have e : valO (b :: t) = valM 34 t := by subst h34; simp [valO]
        rw [e]
        simp only
        rw [if_pos h34, Option.bind_some]
        simp only [if_true]
        exact valM_f 34 s0 t (by omega) _ rfl
      · have e : valO (b :: t) = none := by simp [valO, h39, h34]
        rw [e]
        simp only
        rw [if_neg h34, Option.bind_some]
        simp only
        rw [if_neg Bool.false_ne_true]
        exact ⟨(fun v r h => by cases h), fun _ => ⟨ba [], ba (b :: t), rfl⟩⟩
end Go.Proofs.YtjijbncheikagaaGreatDoor.P
end
section
namespace Go.Proofs.YtjijbncheikagaaGreatDoor.P
open Go Go.RowKit Go.Lib Go.Proofs.YtjijbncheikagaaGreatDoorX Go.Proofs.YtjijbncheikagaaGreatDoorW.PrintWords Go.Proofs.YtjijbncheikagaaGreatDoor.Q
set_option linter.unusedVariables false
set_option linter.unusedSimpArgs false
abbrev Text := List UInt8
def gapL (l : Text) : Text := l.dropWhile (blankC.contains ·)
theorem gap_f (s0 : ByteArray) (l : Text) (hl : l.length ≤ 1000000000) : token_run_string.f s0 (ba l) (⟨#[9, 10, 13, 32]⟩ : ByteArray) = some (ba (l.takeWhile (blankC.contains ·)), s0, ba (gapL l)) := run_f s0 l blankC hl (by decide) (by decide)
theorem gapL_len (l : Text) : (gapL l).length ≤ l.length := dw_len _ l
theorem nameL_len (l : Text) : (nameL l).2.length ≤ l.length := by
  have := congrArg List.length (nameL_eq l)
  rw [List.length_append] at this
  omega
def attrO (l : Text) : Option (Text × Text × Text) :=
  if (nameL l).1 = [] then none else match gapL (nameL l).2 with
    | 61 :: t => (valO (gapL t)).map fun x => ((nameL l).1, x.1, x.2)
    | _ => none
theorem attr_f (s0 : ByteArray) (l : Text) (hl : l.length ≤ 1000000000) (k : Nat) :
    (∀ n v r, attrO l = some (n, v, r) → token_attr.f (k + 1) s0 (ba l) = some (ba n, ba v, true, s0, ba r)) ∧ (attrO l = none → ∃ a b d, token_attr.f (k + 1) s0 (ba l) = some (a, b, false, s0, d)) := by
  have h1 := nameL_len l
  have h2 := gapL_len (nameL l).2
  unfold token_attr.f
  rw [name_f s0 l hl, Option.bind_some]
  simp only
  rw [gap_f s0 _ (by omega), Option.bind_some]
  simp only
  rw [ba_toList]
  have j_yes : ∀ x : Text, token_attr.j0 (k + 1) true s0 (ba x) (ba (nameL l).1) ⟨#[]⟩ = some (ba (nameL l).1, ⟨#[]⟩, false, s0, ba x) := fun x => by rw [token_attr.j0, if_pos rfl]
  unfold attrO
  by_cases hn : (nameL l).1 = []
  · rw [if_pos hn, if_pos hn, j_yes]
    exact ⟨(fun n v r h => by cases h), fun _ => ⟨_, _, _, rfl⟩⟩
  rw [if_neg hn, if_neg hn, show (⟨#[61]⟩ : ByteArray) = ba [61] from rfl, is_one]
  generalize hg : gapL (nameL l).2 = g at *
  match g, h2 with
  | [], _ =>
    simp only
    rw [Option.bind_some]
    simp only [Bool.not_false]
    rw [j_yes]
    exact ⟨(fun n v r h => by cases h), fun _ => ⟨_, _, _, rfl⟩⟩
  | b :: t, h2 =>
    simp only [List.length_cons] at h2
    simp only
    by_cases hb : b = 61
    · subst hb
      rw [if_pos rfl, Option.bind_some]
      simp only [Bool.not_true]
      have h3 := gapL_len t
      have hv := value_f s0 (gapL t) (by omega)
      have hj : token_attr.j0 (k + 1) false s0 (ba t) (ba (nameL l).1) ⟨#[]⟩ = (token_value.f s0 (ba (gapL t))).bind fun bt209 => some (ba (nameL l).1, bt209.1, bt209.2.1, bt209.2.2.1, bt209.2.2.2) := by
        rw [token_attr.j0, if_neg Bool.false_ne_true, gap_f s0 t (by omega), Option.bind_some]
      rw [hj]
      cases ho : valO (gapL t) with
      | none =>
        obtain ⟨a, d, e⟩ := hv.2 ho
        rw [e, Option.bind_some]
        exact ⟨(fun n v r h => by cases h), fun _ => ⟨_, _, _, rfl⟩⟩
      | some x =>
        obtain ⟨v, r⟩ := x
        rw [hv.1 v r ho, Option.bind_some]
        refine ⟨fun n' v' r' h => ?_, fun h => by cases h⟩
        cases h; rfl
    · rw [if_neg hb, Option.bind_some]
      simp only [Bool.not_false]
      rw [j_yes]
      refine ⟨fun n v r h => ?_, fun _ => ⟨_, _, _, rfl⟩⟩
      split at h
      · rename_i e; injection e with e _; exact absurd e hb
      · cases h
theorem valO_len {l v r : Text} (h : valO l = some (v, r)) : r.length < l.length := by
  unfold valO at h
  match l, h with
  | [], h => cases h
  | c :: t, h =>
    simp only at h
    split at h
    · unfold valM at h
      split at h
      · cases h
      · cases hb : backO (t.takeWhile (· != c)) with
        | none => rw [hb] at h; cases h
        | some v =>
          rw [hb] at h
          cases h
          have := dw_len (· != c) t
          rw [List.length_drop, List.length_cons]
          omega
    · cases h
theorem attrO_len {l n v r : Text} (h : attrO l = some (n, v, r)) : r.length < l.length := by
  unfold attrO at h
  split at h
  · cases h
  · have h1 := nameL_len l
    have h2 := gapL_len (nameL l).2
    split at h
    · rename_i t e
      rw [e] at h2
      rw [List.length_cons] at h2
      have h3 := gapL_len t
      cases hv : valO (gapL t) with
      | none => rw [hv] at h; cases h
      | some x =>
        obtain ⟨v', r'⟩ := x
        rw [hv] at h
        cases h
        have := valO_len hv
        show r'.length < l.length
        omega
    · cases h
abbrev Attrs := List (Text × Text)
def mkA (ats : Attrs) : List S45 := ats.map fun a => ⟨ba a.1, ba a.2⟩
def openG : Nat → Attrs → Text → Option (Attrs × Bool × Text)
  | 0, _, _ => none
  | k + 1, ats, l =>
    if [47, 62] <+: gapL l then some (ats, true, (gapL l).drop 2) else if [62] <+: gapL l then some (ats, false, (gapL l).drop 1)
    else match attrO (gapL l) with
      | none => none
      | some (n, v, r) => if l.takeWhile (blankC.contains ·) = [] then none else if ats.any (fun a => a.1 == n) = true then none else openG k (ats ++ [(n, v)]) r
theorem any_mkA (ats : Attrs) (n : Text) : ((mkA ats).any fun x => x.f0.toList == (ba n).toList) = ats.any (fun a => a.1 == n) := by
  unfold mkA
  rw [List.any_map]
  congr 1
  funext a
  show ((ba a.1).toList == (ba n).toList) = _
  rw [ba_toList, ba_toList]
theorem open_loop (s0 nm : ByteArray) (hnm : nm.toList ≠ []) : ∀ (d : Nat) (l : Text) (ats : Attrs) (e0 : Bool), l.length < d → ats.length + l.length ≤ 100000000 → ∃ K, ∀ k, K ≤ k →
    (∀ ats' e r, openG d ats l = some (ats', e, r) → token_open.l0 k s0 (ba l) 1 0 nm ⟨#[]⟩ (mkA ats) e0 = some (1, 0, nm, ⟨#[]⟩, mkA ats', e, true, s0, ba r)) ∧
    (openG d ats l = none → ∃ a b c d' x e' y, token_open.l0 k s0 (ba l) 1 0 nm ⟨#[]⟩ (mkA ats) e0 = some (a, b, c, d', x, e', false, s0, y))
  | 0, l, ats, e0, hd, _ => by omega
  | d + 1, l, ats, e0, hd, hb => by
    have hg := gapL_len l
    have head : ∀ k, token_open.l0 (k + 1) s0 (ba l) 1 0 nm ⟨#[]⟩ (mkA ats) e0 = (if [47, 62] <+: gapL l then token_open.j1 k (ba (l.takeWhile (blankC.contains ·))) true s0 (ba ((gapL l).drop 2)) 1 0 nm ⟨#[]⟩ (mkA ats) true else token_open.j1 k (ba (l.takeWhile (blankC.contains ·))) (decide ([62] <+: gapL l)) s0 (ba (isL [62] (gapL l))) 1 0 nm ⟨#[]⟩ (mkA ats) false) := by
      intro k
      rw [token_open.l0, if_neg hnm, gap_f s0 l (by omega), Option.bind_some]
      simp only
      rw [show (⟨#[47, 62]⟩ : ByteArray) = ba [47, 62] from rfl, is_f, Option.bind_some]
      simp only
      by_cases h : [47, 62] <+: gapL l
      · rw [decide_eq_true h, if_pos rfl, if_pos h]
        unfold isL
        rw [if_pos h]; rfl
      · rw [decide_eq_false h, if_neg Bool.false_ne_true, if_neg h, show (⟨#[62]⟩ : ByteArray) = ba [62] from rfl, is_f, Option.bind_some]
        simp only
        have : isL [47, 62] (gapL l) = gapL l := by unfold isL; rw [if_neg h]
        rw [this]
    unfold openG
    by_cases h1 : [47, 62] <+: gapL l
    · refine ⟨2, fun k hk => ?_⟩
      obtain ⟨k, rfl⟩ : ∃ j, k = j + 2 := ⟨k - 2, by omega⟩
      rw [if_pos h1, head, if_pos h1, token_open.j1, if_pos rfl]
      refine ⟨fun ats' e r h => ?_, fun h => by cases h⟩
      cases h; rfl
    rw [if_neg h1]
    by_cases h2 : [62] <+: gapL l
    · refine ⟨2, fun k hk => ?_⟩
      obtain ⟨k, rfl⟩ : ∃ j, k = j + 2 := ⟨k - 2, by omega⟩
      rw [if_pos h2, head, if_neg h1, decide_eq_true h2, token_open.j1, if_pos rfl]
      refine ⟨fun ats' e r h => ?_, fun h => by cases h⟩
      cases h
      unfold isL
      rw [if_pos h2]; rfl
    rw [if_neg h2]
    have hi : isL [62] (gapL l) = gapL l := by unfold isL; rw [if_neg h2]
    cases ha : attrO (gapL l) with
    | none =>
      refine ⟨3, fun k hk => ?_⟩
      obtain ⟨k, rfl⟩ : ∃ j, k = j + 3 := ⟨k - 3, by omega⟩
      rw [head, if_neg h1, decide_eq_false h2, token_open.j1, if_neg Bool.false_ne_true, hi]
      obtain ⟨a, b, d', e⟩ := (attr_f s0 (gapL l) (by omega) k).2 ha
      rw [e, Option.bind_some]
      refine ⟨(fun ats' e r h => by cases h), fun _ => ?_⟩
      simp only
      split
      · exact ⟨_, _, _, _, _, _, _, rfl⟩
      · rw [if_neg Bool.false_ne_true]
        exact ⟨_, _, _, _, _, _, _, rfl⟩
    | some x =>
      obtain ⟨n, v, r⟩ := x
      simp only
      have hr := attrO_len ha
      obtain ⟨K, hK⟩ := open_loop s0 nm hnm d r (ats ++ [(n, v)]) false (by omega) (by rw [List.length_append, List.length_singleton]; omega)
      refine ⟨K + 3, fun k hk => ?_⟩
      obtain ⟨k, rfl⟩ : ∃ j, k = j + 3 := ⟨k - 3, by omega⟩
      have hh : token_open.l0 (k + 3) s0 (ba l) 1 0 nm ⟨#[]⟩ (mkA ats) e0 = if l.takeWhile (blankC.contains ·) = [] then some (1, 0, nm, ⟨#[]⟩, mkA ats, false, false, s0, ba r) else if ats.any (fun a => a.1 == n) = true then some (1, 0, nm, ⟨#[]⟩, mkA ats, false, false, s0, ba r) else token_open.l0 (k + 1) s0 (ba r) 1 0 nm ⟨#[]⟩ (mkA (ats ++ [(n, v)])) false := by
        rw [head, if_neg h1, decide_eq_false h2, token_open.j1, if_neg Bool.false_ne_true, hi, (attr_f s0 (gapL l) (by omega) k).1 n v r ha, Option.bind_some]
        simp only
        rw [ba_toList]
        by_cases h3 : l.takeWhile (blankC.contains ·) = []
        · rw [if_pos h3, if_pos h3]
        rw [if_neg h3, if_neg h3, if_pos trivial]
        unfold in_token_open_1.f
        have hm : (mkA ats).length = ats.length := by unfold mkA; rw [List.length_map]
        rw [if_pos (by omega), any_mkA, Option.bind_some]
        by_cases h4 : ats.any (fun a => a.1 == n) = true
        · rw [if_pos h4, if_pos h4]
        rw [if_neg h4, if_neg h4, if_pos (by omega)]
        have : mkA (ats ++ [(n, v)]) = mkA ats ++ [(⟨ba n, ba v⟩ : S45)] := by unfold mkA; rw [List.map_append]; rfl
        rw [this]
      rw [hh]
      by_cases h3 : l.takeWhile (blankC.contains ·) = []
      · rw [if_pos h3, if_pos h3]
        exact ⟨(fun ats' e r h => by cases h), fun _ => ⟨_, _, _, _, _, _, _, rfl⟩⟩
      rw [if_neg h3, if_neg h3]
      by_cases h4 : ats.any (fun a => a.1 == n) = true
      · rw [if_pos h4, if_pos h4]
        exact ⟨(fun ats' e r h => by cases h), fun _ => ⟨_, _, _, _, _, _, _, rfl⟩⟩
      rw [if_neg h4, if_neg h4]
      exact hK (k + 1) (by omega)
end Go.Proofs.YtjijbncheikagaaGreatDoor.P
end
section
namespace Go.Proofs.YtjijbncheikagaaGreatDoor.P
open Go Go.RowKit Go.Lib Go.Proofs.YtjijbncheikagaaGreatDoorX Go.Proofs.YtjijbncheikagaaGreatDoorW.PrintWords Go.Proofs.YtjijbncheikagaaGreatDoor.Q
set_option linter.unusedVariables false
set_option linter.unusedSimpArgs false
structure Pc where
  kind : Int
  name : Text
  text : Text
  ats : Attrs
  shut : Bool
def openO (l : Text) : Option (Pc × Text) := if (nameL l).1 = [] then none else (openG (l.length + 1) [] (nameL l).2).map fun x => (⟨1, (nameL l).1, [], x.1, x.2.1⟩, x.2.2)
def shutO (l : Text) : Option (Pc × Text) := if (nameL l).1 = [] then none else match gapL (nameL l).2 with
  | 62 :: t => some (⟨2, (nameL l).1, [], [], false⟩, t)
  | _ => none
def nextO (l : Text) : Option (Pc × Text) :=
  if [60, 47] <+: l then shutO (l.drop 2) else if [60] <+: l then openO (l.drop 1)
  else (backO (l.takeWhile (· != 60))).map fun x => (⟨3, [], x, [], false⟩, l.dropWhile (· != 60))
theorem shut_f (s0 : ByteArray) (l : Text) (hl : l.length ≤ 1000000000) :
    (∀ p r, shutO l = some (p, r) → token_shut.f s0 (ba l) = some (p.kind, 0, ba p.name, ba p.text, mkA p.ats, p.shut, true, s0, ba r)) ∧ (shutO l = none → ∃ a b c d x e y, token_shut.f s0 (ba l) = some (a, b, c, d, x, e, false, s0, y)) := by
  have h1 := nameL_len l
  unfold token_shut.f
  rw [name_f s0 l hl, Option.bind_some]
  simp only
  rw [gap_f s0 _ (by omega), Option.bind_some]
  simp only
  rw [ba_toList]
  unfold shutO
  by_cases hn : (nameL l).1 = []
  · rw [if_pos hn, if_pos hn]
    exact ⟨(fun n v h => by cases h), fun _ => ⟨_, _, _, _, _, _, _, rfl⟩⟩
  rw [if_neg hn, if_neg hn, show (⟨#[62]⟩ : ByteArray) = ba [62] from rfl, is_one]
  generalize gapL (nameL l).2 = g
  match g with
  | [] =>
    simp only
    rw [Option.bind_some]
    exact ⟨(fun n v h => by cases h), fun _ => ⟨_, _, _, _, _, _, _, rfl⟩⟩
  | b :: t =>
    simp only
    by_cases hb : b = 62
    · subst hb
      rw [if_pos rfl, Option.bind_some]
      refine ⟨fun p r h => ?_, fun h => by cases h⟩
      cases h; rfl
    · rw [if_neg hb, Option.bind_some]
      refine ⟨fun p r h => ?_, fun _ => ⟨_, _, _, _, _, _, _, rfl⟩⟩
      split at h
      · rename_i e; injection e with e _; exact absurd e hb
      · cases h
theorem open_f (s0 : ByteArray) (l : Text) (hl : l.length ≤ 10000000) : ∃ K, ∀ k, K ≤ k →
    (∀ p r, openO l = some (p, r) → token_open.f k s0 (ba l) = some (p.kind, 0, ba p.name, ba p.text, mkA p.ats, p.shut, true, s0, ba r)) ∧ (openO l = none → ∃ a b c d x e y, token_open.f k s0 (ba l) = some (a, b, c, d, x, e, false, s0, y)) := by
  have h1 := nameL_len l
  by_cases hn : (nameL l).1 = []
  · refine ⟨1, fun k hk => ?_⟩
    obtain ⟨k, rfl⟩ : ∃ j, k = j + 1 := ⟨k - 1, by omega⟩
    unfold openO token_open.f
    rw [name_f s0 l (by omega), Option.bind_some, if_pos hn]
    simp only
    rw [token_open.l0, if_pos (by rw [ba_toList]; exact hn)]
    exact ⟨(fun n v h => by cases h), fun _ => ⟨_, _, _, _, _, _, _, rfl⟩⟩
  · obtain ⟨K, hK⟩ := open_loop s0 (ba (nameL l).1) (by rw [ba_toList]; exact hn) (l.length + 1) (nameL l).2 [] false (by omega) (by simp only [List.length_nil]; omega)
    refine ⟨K, fun k hk => ?_⟩
    obtain ⟨h2, h3⟩ := hK k hk
    unfold openO token_open.f
    rw [name_f s0 l (by omega), Option.bind_some, if_neg hn]
    simp only
    change (∀ p r, _ → token_open.l0 k s0 (ba (nameL l).2) 1 0 (ba (nameL l).1) ⟨#[]⟩ (mkA []) false = _) ∧ (_ → ∃ a b c d x e y, token_open.l0 k s0 (ba (nameL l).2) 1 0 (ba (nameL l).1) ⟨#[]⟩ (mkA []) false = _)
    cases ho : openG (l.length + 1) [] (nameL l).2 with
    | none =>
      exact ⟨(fun n v h => by cases h), fun _ => h3 ho⟩
    | some x =>
      obtain ⟨a, e, r⟩ := x
      refine ⟨fun p r' h => ?_, fun h => by cases h⟩
      cases h
      exact h2 a e r ho
theorem next_f (s0 : ByteArray) (l : Text) (hl : l.length ≤ 10000000) : ∃ K, ∀ k, K ≤ k →
    (∀ p r, nextO l = some (p, r) → token_next.f k s0 (ba l) = some (p.kind, 0, ba p.name, ba p.text, mkA p.ats, p.shut, true, s0, ba r)) ∧ (nextO l = none → ∃ a b c d x e y, token_next.f k s0 (ba l) = some (a, b, c, d, x, e, false, s0, y)) := by
  unfold nextO
  by_cases h1 : [60, 47] <+: l
  · refine ⟨0, fun k hk => ?_⟩
    unfold token_next.f
    rw [show (⟨#[60, 47]⟩ : ByteArray) = ba [60, 47] from rfl, is_f, Option.bind_some, if_pos h1, decide_eq_true h1]
    simp only [if_true]
    have e : isL [60, 47] l = l.drop 2 := by unfold isL; rw [if_pos h1]; rfl
    rw [e]
    obtain ⟨h2, h3⟩ := shut_f s0 (l.drop 2) (by rw [List.length_drop]; omega)
    constructor
    · intro p r h
      rw [h2 p r h, Option.bind_some]
    · intro h
      obtain ⟨a, b, c, d, x, e, y, e2⟩ := h3 h
      rw [e2, Option.bind_some]
      exact ⟨_, _, _, _, _, _, _, rfl⟩
  rw [if_neg h1]
  have e : isL [60, 47] l = l := by unfold isL; rw [if_neg h1]
  by_cases h2 : [60] <+: l
  · obtain ⟨K, hK⟩ := open_f s0 (l.drop 1) (by rw [List.length_drop]; omega)
    refine ⟨K, fun k hk => ?_⟩
    unfold token_next.f
    rw [show (⟨#[60, 47]⟩ : ByteArray) = ba [60, 47] from rfl, is_f, Option.bind_some, decide_eq_false h1, if_neg Bool.false_ne_true, e, show (⟨#[60]⟩ : ByteArray) = ba [60] from rfl, is_f, Option.bind_some, decide_eq_true h2, if_pos h2]
    simp only [if_true]
    have e : isL [60] l = l.drop 1 := by unfold isL; rw [if_pos h2]; rfl
    rw [e]
    obtain ⟨h3, h4⟩ := hK k hk
    constructor
    · intro p r h
      rw [h3 p r h, Option.bind_some]
    · intro h
      obtain ⟨a, b, c, d, x, e, y, e2⟩ := h4 h
      rw [e2, Option.bind_some]
      exact ⟨_, _, _, _, _, _, _, rfl⟩
  · refine ⟨0, fun k hk => ?_⟩
    have e3 : isL [60] l = l := by unfold isL; rw [if_neg h2]
    unfold token_next.f
    rw [show (⟨#[60, 47]⟩ : ByteArray) = ba [60, 47] from rfl, is_f, Option.bind_some, decide_eq_false h1, if_neg Bool.false_ne_true, e, show (⟨#[60]⟩ : ByteArray) = ba [60] from rfl, is_f, Option.bind_some, decide_eq_false h2, if_neg Bool.false_ne_true, e3, if_neg h2]
    have hlen := congrArg List.length (tw_dw (· != 60) l)
    rw [List.length_append] at hlen
    rw [upTo_f s0 l 60 (by omega), Option.bind_some]
    try simp only
    rw [back_f _ (by rw [ba_size]; omega), Option.bind_some]
    try simp only
    cases hb : backO (l.takeWhile (· != 60)) with
    | none =>
      refine ⟨(fun n v h => by cases h), fun _ => ?_⟩
      rw [beq_eq_false_iff_ne.2 (back_none hb)]
      exact ⟨_, _, _, _, _, _, _, rfl⟩
    | some v =>
      refine ⟨fun p r h => ?_, fun h => by cases h⟩
      cases h
      rw [back_some hb]; rfl
theorem openG_len : ∀ (d : Nat) (ats : Attrs) (l : Text) (x : Attrs × Bool × Text), openG d ats l = some x → x.2.2.length < l.length
  | 0, _, _, _, h => by rw [openG] at h; cases h
  | d + 1, ats, l, x, h => by
    have hg := gapL_len l
    rw [openG] at h
    by_cases h1 : [47, 62] <+: gapL l
    · rw [if_pos h1] at h
      cases h
      have := h1.length_le
      show ((gapL l).drop 2).length < l.length
      rw [List.length_drop]
      simp only [List.length_cons, List.length_nil] at this
      omega
    rw [if_neg h1] at h
    by_cases h2 : [62] <+: gapL l
    · rw [if_pos h2] at h
      cases h
      have := h2.length_le
      show ((gapL l).drop 1).length < l.length
      rw [List.length_drop]
      simp only [List.length_cons, List.length_nil] at this
      omega
    rw [if_neg h2] at h
    cases ha : attrO (gapL l) with
    | none => rw [ha] at h; cases h
    | some y =>
      obtain ⟨n, v, r⟩ := y
      rw [ha] at h
      simp only at h
      have := attrO_len ha
      by_cases h3 : l.takeWhile (blankC.contains ·) = []
      · rw [if_pos h3] at h; cases h
      rw [if_neg h3] at h
      by_cases h4 : ats.any (fun a => a.1 == n) = true
      · rw [if_pos h4] at h; cases h
      rw [if_neg h4] at h
      have := openG_len d _ r x h
      omega
theorem nextO_len {l r : Text} {p : Pc} (hl : l ≠ []) (h : nextO l = some (p, r)) : r.length < l.length := by
  unfold nextO at h
  by_cases h1 : [60, 47] <+: l
  · rw [if_pos h1] at h
    have hp := h1.length_le
    simp only [List.length_cons, List.length_nil] at hp
    unfold shutO at h
    have h3 := nameL_len (l.drop 2)
    have h4 := gapL_len (nameL (l.drop 2)).2
    rw [List.length_drop] at h3
    split at h
    · cases h
    · split at h
      · rename_i t e
        rw [e, List.length_cons] at h4
        cases h
        omega
      · cases h
  rw [if_neg h1] at h
  by_cases h2 : [60] <+: l
  · rw [if_pos h2] at h
    have hp := h2.length_le
    simp only [List.length_cons, List.length_nil] at hp
    unfold openO at h
    have h3 := nameL_len (l.drop 1)
    rw [List.length_drop] at h3
    split at h
    · cases h
    · cases ho : openG ((l.drop 1).length + 1) [] (nameL (l.drop 1)).2 with
      | none => rw [ho] at h; cases h
      | some x =>
        rw [ho] at h
        cases h
        have := openG_len _ _ _ x ho
        omega
  rw [if_neg h2] at h
  cases hb : backO (l.takeWhile (· != 60)) with
  | none => rw [hb] at h; cases h
  | some v =>
    rw [hb] at h
    cases h
    match l, hl, h2 with
    | c :: t, _, h2 =>
      have hc : c ≠ 60 := fun e => h2 (by rw [e]; exact ⟨t, rfl⟩)
      rw [List.dropWhile_cons, if_pos (by rw [bne_iff_ne]; exact hc)]
      have := dw_len (· != 60) t
      rw [List.length_cons]
      omega
def toksG : Nat → Nat → Text → Except (Int × Int) (List (Pc × Int))
  | 0, _, _ => .error (0, 0)
  | d + 1, N, l => if l = [] then .ok [] else match nextO l with
    | none => .error ((N - l.length : Nat), 5)
    | some (p, r) => if p.ats.length > 10 then .error ((N - l.length : Nat), 4) else match toksG d N r with
      | .error e => .error e
      | .ok x => .ok ((p, ((N - l.length : Nat) : Int)) :: x)
def mkT (x : Pc × Int) : S30 := ⟨x.1.kind, x.2, ba x.1.name, ba x.1.text, mkA x.1.ats, x.1.shut⟩
def toksR (acc : List S30) : Except (Int × Int) (List (Pc × Int)) → List S30 × Int × Int
  | .error e => ([], e.1, e.2)
  | .ok x => (acc ++ x.map mkT, 0, 0)
theorem toks_loop (s0 : ByteArray) (hs : s0.size ≤ 1000000) : ∀ (d : Nat) (l : Text) (acc : List S30), l.length < d → l.length ≤ s0.size → acc.length + l.length ≤ 10000000 → ∃ K, ∀ k, K ≤ k → token_Tokens.l0 k acc s0 (ba l) = some (toksR acc (toksG d s0.size l))
  | 0, l, acc, h, _, _ => by omega
  | d + 1, l, acc, hd, hl, ha => by
    rw [toksG]
    by_cases h0 : l = []
    · refine ⟨1, fun k hk => ?_⟩
      obtain ⟨k, rfl⟩ : ∃ j, k = j + 1 := ⟨k - 1, by omega⟩
      rw [if_pos h0, token_Tokens.l0, if_pos (by rw [ba_toList]; exact h0)]
      show some (acc, 0, 0) = some (acc ++ [], 0, 0)
      rw [List.append_nil]
    rw [if_neg h0]
    obtain ⟨K1, hK1⟩ := next_f s0 l (by omega)
    have hat : token_walk_string_at.f s0 (ba l) = some (((s0.size - l.length : Nat) : Int), s0, ba l) := by
      unfold token_walk_string_at.f
      rw [ba_size, wrap_small (by omega) (by omega), show (s0.size : Int) - (l.length : Int) = ((s0.size - l.length : Nat) : Int) by omega]
    cases hn : nextO l with
    | none =>
      refine ⟨K1 + 1, fun k hk => ?_⟩
      obtain ⟨k, rfl⟩ : ∃ j, k = j + 1 := ⟨k - 1, by omega⟩
      obtain ⟨a, b, c, e, x, f, y, h2⟩ := (hK1 k (by omega)).2 hn
      rw [token_Tokens.l0, if_neg (by rw [ba_toList]; exact h0), hat, Option.bind_some]
      simp only
      rw [h2, Option.bind_some]
      simp only
      rw [if_neg Bool.false_ne_true]; rfl
    | some x =>
      obtain ⟨p, r⟩ := x
      simp only
      have hr := nextO_len h0 hn
      have hm : (mkA p.ats).length = p.ats.length := by unfold mkA; rw [List.length_map]
      by_cases hc : p.ats.length > 10
      · refine ⟨K1 + 1, fun k hk => ?_⟩
        obtain ⟨k, rfl⟩ : ∃ j, k = j + 1 := ⟨k - 1, by omega⟩
        rw [token_Tokens.l0, if_neg (by rw [ba_toList]; exact h0), hat, Option.bind_some]
        simp only
        rw [(hK1 k (by omega)).1 p r hn, Option.bind_some]
        simp only [if_true]
        rw [if_pos (by rw [hm]; omega), if_pos hc]; rfl
      · obtain ⟨K2, hK2⟩ := toks_loop s0 hs d r (acc ++ [mkT (p, ((s0.size - l.length : Nat) : Int))]) (by omega) (by omega) (by rw [List.length_append, List.length_singleton]; omega)
        refine ⟨K1 + K2 + 1, fun k hk => ?_⟩
        obtain ⟨k, rfl⟩ : ∃ j, k = j + 1 := ⟨k - 1, by omega⟩
        rw [token_Tokens.l0, if_neg (by rw [ba_toList]; exact h0), hat, Option.bind_some]
        simp only
        rw [(hK1 k (by omega)).1 p r hn, Option.bind_some]
        simp only [if_true]
        rw [if_neg (by rw [hm]; omega), if_pos (by omega), if_neg hc]
        have := hK2 k (by omega)
        unfold mkT at this
        rw [this]
        cases toksG d s0.size r with
        | error e => rfl
        | ok x =>
          show some ((acc ++ [_]) ++ x.map mkT, (0 : Int), (0 : Int)) = some (acc ++ (_ :: x).map mkT, 0, 0)
          rw [List.append_assoc]; rfl
def toksF (s : ByteArray) : List S30 × Int × Int :=
  if s.size > 20000 then ([], 0, 4) else if validT s = true then toksR [] (toksG (s.size + 1) s.size (isL prologC s.data.toList)) else ([], 0, 3)
theorem Tokens_f (s : ByteArray) (hs : s.size ≤ 140737488351232) : ∃ K, ∀ k, K ≤ k → token_Tokens.f k s = some (toksF s) := by
  unfold toksF token_Tokens.f
  by_cases h1 : s.size > 20000
  · refine ⟨0, fun k hk => ?_⟩
    rw [if_pos (by omega), if_pos h1]
  rw [if_neg h1]
  have hu : utf_Valid.f s = some (validT s) := by
    unfold utf_Valid.f
    rw [if_pos (by omega)]
  have hl := isL_len prologC s.data.toList
  rw [size_list] at hl
  obtain ⟨K, hK⟩ := toks_loop s (by omega) (s.size + 1) (isL prologC s.data.toList) [] (by omega) hl (by simp only [List.length_nil]; omega)
  refine ⟨K, fun k hk => ?_⟩
  rw [if_neg (by omega), hu, Option.bind_some]
  cases hv : validT s with
  | false => rfl
  | true =>
    rw [if_pos rfl, if_pos rfl]
    have e := is_f s s.data.toList prologC
    rw [ba_of] at e
    change (token_walk_string_is.f s s (ba prologC)).bind _ = _
    rw [e, Option.bind_some]
    exact hK k hk
end Go.Proofs.YtjijbncheikagaaGreatDoor.P
end
