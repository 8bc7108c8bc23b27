/- Plain law of this session: an attribute, a tag, a text, a file, in closed form. -/
import Derived.Test.YtjijbncheikagaaDoorTok
namespace Go.Proofs.YtjijbncheikagaaDoor.P
open Go Go.RowKit Go.Lib Go.Proofs.YtjijbncheikagaaDoorX Go.Proofs.YtjijbncheikagaaDoorW.PrintWords Go.Proofs.YtjijbncheikagaaDoor.Q
set_option linter.unusedVariables false
set_option linter.unusedSimpArgs false
abbrev Text := List UInt8
def gapL (l : Text) : Text := l.dropWhile (blankC.contains ·)
theorem gap_f (s0 : ByteArray) (l : Text) (hl : l.length ≤ 1000000000) : token_run_string.f s0 (ba l) (⟨#[9, 10, 13, 32]⟩ : ByteArray) = some (ba (l.takeWhile (blankC.contains ·)), s0, ba (gapL l)) := run_f s0 l blankC hl (by decide) (by decide)
theorem gapL_len (l : Text) : (gapL l).length ≤ l.length := dw_len _ l
theorem nameL_len (l : Text) : (nameL l).2.length ≤ l.length := by
  have := congrArg List.length (nameL_eq l)
  rw [List.length_append] at this
  omega
def attrO (l : Text) : Option (Text × Text × Text) :=
  if (nameL l).1 = [] then none else match gapL (nameL l).2 with
    | 61 :: t => (valO (gapL t)).map fun x => ((nameL l).1, x.1, x.2)
    | _ => none
theorem attr_f (s0 : ByteArray) (l : Text) (hl : l.length ≤ 1000000000) (k : Nat) :
    (∀ n v r, attrO l = some (n, v, r) → token_attr.f (k + 1) s0 (ba l) = some (ba n, ba v, true, s0, ba r)) ∧ (attrO l = none → ∃ a b d, token_attr.f (k + 1) s0 (ba l) = some (a, b, false, s0, d)) := by
  have h1 := nameL_len l
  have h2 := gapL_len (nameL l).2
  unfold token_attr.f
  rw [name_f s0 l hl, Option.bind_some]
  simp only
  rw [gap_f s0 _ (by omega), Option.bind_some]
  simp only
  rw [ba_toList]
  have j_yes : ∀ x : Text, token_attr.j0 (k + 1) true s0 (ba x) (ba (nameL l).1) ⟨#[]⟩ = some (ba (nameL l).1, ⟨#[]⟩, false, s0, ba x) := fun x => by rw [token_attr.j0, if_pos rfl]
  unfold attrO
  by_cases hn : (nameL l).1 = []
  · rw [if_pos hn, if_pos hn, j_yes]
    exact ⟨(fun n v r h => by cases h), fun _ => ⟨_, _, _, rfl⟩⟩
  rw [if_neg hn, if_neg hn, show (⟨#[61]⟩ : ByteArray) = ba [61] from rfl, is_one]
  generalize hg : gapL (nameL l).2 = g at *
  match g, h2 with
  | [], _ =>
    simp only
    rw [Option.bind_some]
    simp only [Bool.not_false]
    rw [j_yes]
    exact ⟨(fun n v r h => by cases h), fun _ => ⟨_, _, _, rfl⟩⟩
  | b :: t, h2 =>
    simp only [List.length_cons] at h2
    simp only
    by_cases hb : b = 61
    · subst hb
      rw [if_pos rfl, Option.bind_some]
      simp only [Bool.not_true]
      have h3 := gapL_len t
      have hv := value_f s0 (gapL t) (by omega)
      have hj : token_attr.j0 (k + 1) false s0 (ba t) (ba (nameL l).1) ⟨#[]⟩ = (token_value.f s0 (ba (gapL t))).bind fun bt209 => some (ba (nameL l).1, bt209.1, bt209.2.1, bt209.2.2.1, bt209.2.2.2) := by
        rw [token_attr.j0, if_neg Bool.false_ne_true, gap_f s0 t (by omega), Option.bind_some]
      rw [hj]
      cases ho : valO (gapL t) with
      | none =>
        obtain ⟨a, d, e⟩ := hv.2 ho
        rw [e, Option.bind_some]
        exact ⟨(fun n v r h => by cases h), fun _ => ⟨_, _, _, rfl⟩⟩
      | some x =>
        obtain ⟨v, r⟩ := x
        rw [hv.1 v r ho, Option.bind_some]
        refine ⟨fun n' v' r' h => ?_, fun h => by cases h⟩
        cases h; rfl
    · rw [if_neg hb, Option.bind_some]
      simp only [Bool.not_false]
      rw [j_yes]
      refine ⟨fun n v r h => ?_, fun _ => ⟨_, _, _, rfl⟩⟩
      split at h
      · rename_i e; injection e with e _; exact absurd e hb
      · cases h
theorem valO_len {l v r : Text} (h : valO l = some (v, r)) : r.length < l.length := by
  unfold valO at h
  match l, h with
  | [], h => cases h
  | c :: t, h =>
    simp only at h
    split at h
    · unfold valM at h
      split at h
      · cases h
      · cases hb : backO (t.takeWhile (· != c)) with
        | none => rw [hb] at h; cases h
        | some v =>
          rw [hb] at h
          cases h
          have := dw_len (· != c) t
          rw [List.length_drop, List.length_cons]
          omega
    · cases h
theorem attrO_len {l n v r : Text} (h : attrO l = some (n, v, r)) : r.length < l.length := by
  unfold attrO at h
  split at h
  · cases h
  · have h1 := nameL_len l
    have h2 := gapL_len (nameL l).2
    split at h
    · rename_i t e
      rw [e] at h2
      rw [List.length_cons] at h2
      have h3 := gapL_len t
      cases hv : valO (gapL t) with
      | none => rw [hv] at h; cases h
      | some x =>
        obtain ⟨v', r'⟩ := x
        rw [hv] at h
        cases h
        have := valO_len hv
        show r'.length < l.length
        omega
    · cases h
abbrev Attrs := List (Text × Text)
def mkA (ats : Attrs) : List S41 := ats.map fun a => ⟨ba a.1, ba a.2⟩
def openG : Nat → Attrs → Text → Option (Attrs × Bool × Text)
  | 0, _, _ => none
  | k + 1, ats, l =>
    if [47, 62] <+: gapL l then some (ats, true, (gapL l).drop 2) else if [62] <+: gapL l then some (ats, false, (gapL l).drop 1)
    else match attrO (gapL l) with
      | none => none
      | some (n, v, r) => if l.takeWhile (blankC.contains ·) = [] then none else if ats.any (fun a => a.1 == n) = true then none else openG k (ats ++ [(n, v)]) r
theorem any_mkA (ats : Attrs) (n : Text) : ((mkA ats).any fun x => x.f0.toList == (ba n).toList) = ats.any (fun a => a.1 == n) := by
  unfold mkA
  rw [List.any_map]
  congr 1
  funext a
  show ((ba a.1).toList == (ba n).toList) = _
  rw [ba_toList, ba_toList]
theorem open_loop (s0 nm : ByteArray) (hnm : nm.toList ≠ []) : ∀ (d : Nat) (l : Text) (ats : Attrs) (e0 : Bool), l.length < d → ats.length + l.length ≤ 100000000 → ∃ K, ∀ k, K ≤ k →
    (∀ ats' e r, openG d ats l = some (ats', e, r) → token_open.l0 k s0 (ba l) 1 0 nm ⟨#[]⟩ (mkA ats) e0 = some (1, 0, nm, ⟨#[]⟩, mkA ats', e, true, s0, ba r)) ∧
    (openG d ats l = none → ∃ a b c d' x e' y, token_open.l0 k s0 (ba l) 1 0 nm ⟨#[]⟩ (mkA ats) e0 = some (a, b, c, d', x, e', false, s0, y))
  | 0, l, ats, e0, hd, _ => by omega
  | d + 1, l, ats, e0, hd, hb => by
    have hg := gapL_len l
    have head : ∀ k, token_open.l0 (k + 1) s0 (ba l) 1 0 nm ⟨#[]⟩ (mkA ats) e0 = (if [47, 62] <+: gapL l then token_open.j1 k (ba (l.takeWhile (blankC.contains ·))) true s0 (ba ((gapL l).drop 2)) 1 0 nm ⟨#[]⟩ (mkA ats) true else token_open.j1 k (ba (l.takeWhile (blankC.contains ·))) (decide ([62] <+: gapL l)) s0 (ba (isL [62] (gapL l))) 1 0 nm ⟨#[]⟩ (mkA ats) false) := by
      intro k
      rw [token_open.l0, if_neg hnm, gap_f s0 l (by omega), Option.bind_some]
      simp only
      rw [show (⟨#[47, 62]⟩ : ByteArray) = ba [47, 62] from rfl, is_f, Option.bind_some]
      simp only
      by_cases h : [47, 62] <+: gapL l
      · rw [decide_eq_true h, if_pos rfl, if_pos h]
        unfold isL
        rw [if_pos h]; rfl
      · rw [decide_eq_false h, if_neg Bool.false_ne_true, if_neg h, show (⟨#[62]⟩ : ByteArray) = ba [62] from rfl, is_f, Option.bind_some]
        simp only
        have : isL [47, 62] (gapL l) = gapL l := by unfold isL; rw [if_neg h]
        rw [this]
    unfold openG
    by_cases h1 : [47, 62] <+: gapL l
    · refine ⟨2, fun k hk => ?_⟩
      obtain ⟨k, rfl⟩ : ∃ j, k = j + 2 := ⟨k - 2, by omega⟩
      rw [if_pos h1, head, if_pos h1, token_open.j1, if_pos rfl]
      refine ⟨fun ats' e r h => ?_, fun h => by cases h⟩
      cases h; rfl
    rw [if_neg h1]
    by_cases h2 : [62] <+: gapL l
    · refine ⟨2, fun k hk => ?_⟩
      obtain ⟨k, rfl⟩ : ∃ j, k = j + 2 := ⟨k - 2, by omega⟩
      rw [if_pos h2, head, if_neg h1, decide_eq_true h2, token_open.j1, if_pos rfl]
      refine ⟨fun ats' e r h => ?_, fun h => by cases h⟩
      cases h
      unfold isL
      rw [if_pos h2]; rfl
    rw [if_neg h2]
    have hi : isL [62] (gapL l) = gapL l := by unfold isL; rw [if_neg h2]
    cases ha : attrO (gapL l) with
    | none =>
      refine ⟨3, fun k hk => ?_⟩
      obtain ⟨k, rfl⟩ : ∃ j, k = j + 3 := ⟨k - 3, by omega⟩
      rw [head, if_neg h1, decide_eq_false h2, token_open.j1, if_neg Bool.false_ne_true, hi]
      obtain ⟨a, b, d', e⟩ := (attr_f s0 (gapL l) (by omega) k).2 ha
      rw [e, Option.bind_some]
      refine ⟨(fun ats' e r h => by cases h), fun _ => ?_⟩
      simp only
      split
      · exact ⟨_, _, _, _, _, _, _, rfl⟩
      · rw [if_neg Bool.false_ne_true]
        exact ⟨_, _, _, _, _, _, _, rfl⟩
    | some x =>
      obtain ⟨n, v, r⟩ := x
      simp only
      have hr := attrO_len ha
      obtain ⟨K, hK⟩ := open_loop s0 nm hnm d r (ats ++ [(n, v)]) false (by omega) (by rw [List.length_append, List.length_singleton]; omega)
      refine ⟨K + 3, fun k hk => ?_⟩
      obtain ⟨k, rfl⟩ : ∃ j, k = j + 3 := ⟨k - 3, by omega⟩
      have hh : token_open.l0 (k + 3) s0 (ba l) 1 0 nm ⟨#[]⟩ (mkA ats) e0 = if l.takeWhile (blankC.contains ·) = [] then some (1, 0, nm, ⟨#[]⟩, mkA ats, false, false, s0, ba r) else if ats.any (fun a => a.1 == n) = true then some (1, 0, nm, ⟨#[]⟩, mkA ats, false, false, s0, ba r) else token_open.l0 (k + 1) s0 (ba r) 1 0 nm ⟨#[]⟩ (mkA (ats ++ [(n, v)])) false := by
        rw [head, if_neg h1, decide_eq_false h2, token_open.j1, if_neg Bool.false_ne_true, hi, (attr_f s0 (gapL l) (by omega) k).1 n v r ha, Option.bind_some]
        simp only
        rw [ba_toList]
        by_cases h3 : l.takeWhile (blankC.contains ·) = []
        · rw [if_pos h3, if_pos h3]
        rw [if_neg h3, if_neg h3, if_pos trivial]
        unfold in_token_open_1.f
        have hm : (mkA ats).length = ats.length := by unfold mkA; rw [List.length_map]
        rw [if_pos (by omega), any_mkA, Option.bind_some]
        by_cases h4 : ats.any (fun a => a.1 == n) = true
        · rw [if_pos h4, if_pos h4]
        rw [if_neg h4, if_neg h4, if_pos (by omega)]
        have : mkA (ats ++ [(n, v)]) = mkA ats ++ [(⟨ba n, ba v⟩ : S41)] := by unfold mkA; rw [List.map_append]; rfl
        rw [this]
      rw [hh]
      by_cases h3 : l.takeWhile (blankC.contains ·) = []
      · rw [if_pos h3, if_pos h3]
        exact ⟨(fun ats' e r h => by cases h), fun _ => ⟨_, _, _, _, _, _, _, rfl⟩⟩
      rw [if_neg h3, if_neg h3]
      by_cases h4 : ats.any (fun a => a.1 == n) = true
      · rw [if_pos h4, if_pos h4]
        exact ⟨(fun ats' e r h => by cases h), fun _ => ⟨_, _, _, _, _, _, _, rfl⟩⟩
      rw [if_neg h4, if_neg h4]
      exact hK (k + 1) (by omega)
end Go.Proofs.YtjijbncheikagaaDoor.P
