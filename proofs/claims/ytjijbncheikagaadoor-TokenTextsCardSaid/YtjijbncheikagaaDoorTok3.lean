/- Plain law of this session: a tag, a text, the next piece, all pieces of a file, in closed form. -/
import Derived.Test.YtjijbncheikagaaDoorTok2
namespace Go.Proofs.YtjijbncheikagaaDoor.P
open Go Go.RowKit Go.Lib Go.Proofs.YtjijbncheikagaaDoorX Go.Proofs.YtjijbncheikagaaDoorW.PrintWords Go.Proofs.YtjijbncheikagaaDoor.Q
set_option linter.unusedVariables false
set_option linter.unusedSimpArgs false
structure Pc where
  kind : Int
  name : Text
  text : Text
  ats : Attrs
  shut : Bool
def openO (l : Text) : Option (Pc × Text) := if (nameL l).1 = [] then none else (openG (l.length + 1) [] (nameL l).2).map fun x => (⟨1, (nameL l).1, [], x.1, x.2.1⟩, x.2.2)
def shutO (l : Text) : Option (Pc × Text) := if (nameL l).1 = [] then none else match gapL (nameL l).2 with
  | 62 :: t => some (⟨2, (nameL l).1, [], [], false⟩, t)
  | _ => none
def nextO (l : Text) : Option (Pc × Text) :=
  if [60, 47] <+: l then shutO (l.drop 2) else if [60] <+: l then openO (l.drop 1)
  else (backO (l.takeWhile (· != 60))).map fun x => (⟨3, [], x, [], false⟩, l.dropWhile (· != 60))
theorem shut_f (s0 : ByteArray) (l : Text) (hl : l.length ≤ 1000000000) :
    (∀ p r, shutO l = some (p, r) → token_shut.f s0 (ba l) = some (p.kind, 0, ba p.name, ba p.text, mkA p.ats, p.shut, true, s0, ba r)) ∧ (shutO l = none → ∃ a b c d x e y, token_shut.f s0 (ba l) = some (a, b, c, d, x, e, false, s0, y)) := by
  have h1 := nameL_len l
  unfold token_shut.f
  rw [name_f s0 l hl, Option.bind_some]
  simp only
  rw [gap_f s0 _ (by omega), Option.bind_some]
  simp only
  rw [ba_toList]
  unfold shutO
  by_cases hn : (nameL l).1 = []
  · rw [if_pos hn, if_pos hn]
    exact ⟨(fun n v h => by cases h), fun _ => ⟨_, _, _, _, _, _, _, rfl⟩⟩
  rw [if_neg hn, if_neg hn, show (⟨#[62]⟩ : ByteArray) = ba [62] from rfl, is_one]
  generalize gapL (nameL l).2 = g
  match g with
  | [] =>
    simp only
    rw [Option.bind_some]
    exact ⟨(fun n v h => by cases h), fun _ => ⟨_, _, _, _, _, _, _, rfl⟩⟩
  | b :: t =>
    simp only
    by_cases hb : b = 62
    · subst hb
      rw [if_pos rfl, Option.bind_some]
      refine ⟨fun p r h => ?_, fun h => by cases h⟩
      cases h; rfl
    · rw [if_neg hb, Option.bind_some]
      refine ⟨fun p r h => ?_, fun _ => ⟨_, _, _, _, _, _, _, rfl⟩⟩
      split at h
      · rename_i e; injection e with e _; exact absurd e hb
      · cases h
theorem open_f (s0 : ByteArray) (l : Text) (hl : l.length ≤ 10000000) : ∃ K, ∀ k, K ≤ k →
    (∀ p r, openO l = some (p, r) → token_open.f k s0 (ba l) = some (p.kind, 0, ba p.name, ba p.text, mkA p.ats, p.shut, true, s0, ba r)) ∧ (openO l = none → ∃ a b c d x e y, token_open.f k s0 (ba l) = some (a, b, c, d, x, e, false, s0, y)) := by
  have h1 := nameL_len l
  by_cases hn : (nameL l).1 = []
  · refine ⟨1, fun k hk => ?_⟩
    obtain ⟨k, rfl⟩ : ∃ j, k = j + 1 := ⟨k - 1, by omega⟩
    unfold openO token_open.f
    rw [name_f s0 l (by omega), Option.bind_some, if_pos hn]
    simp only
    rw [token_open.l0, if_pos (by rw [ba_toList]; exact hn)]
    exact ⟨(fun n v h => by cases h), fun _ => ⟨_, _, _, _, _, _, _, rfl⟩⟩
  · obtain ⟨K, hK⟩ := open_loop s0 (ba (nameL l).1) (by rw [ba_toList]; exact hn) (l.length + 1) (nameL l).2 [] false (by omega) (by simp only [List.length_nil]; omega)
    refine ⟨K, fun k hk => ?_⟩
    obtain ⟨h2, h3⟩ := hK k hk
    unfold openO token_open.f
    rw [name_f s0 l (by omega), Option.bind_some, if_neg hn]
    simp only
    change (∀ p r, _ → token_open.l0 k s0 (ba (nameL l).2) 1 0 (ba (nameL l).1) ⟨#[]⟩ (mkA []) false = _) ∧ (_ → ∃ a b c d x e y, token_open.l0 k s0 (ba (nameL l).2) 1 0 (ba (nameL l).1) ⟨#[]⟩ (mkA []) false = _)
    cases ho : openG (l.length + 1) [] (nameL l).2 with
    | none =>
      exact ⟨(fun n v h => by cases h), fun _ => h3 ho⟩
    | some x =>
      obtain ⟨a, e, r⟩ := x
      refine ⟨fun p r' h => ?_, fun h => by cases h⟩
      cases h
      exact h2 a e r ho
theorem next_f (s0 : ByteArray) (l : Text) (hl : l.length ≤ 10000000) : ∃ K, ∀ k, K ≤ k →
    (∀ p r, nextO l = some (p, r) → token_next.f k s0 (ba l) = some (p.kind, 0, ba p.name, ba p.text, mkA p.ats, p.shut, true, s0, ba r)) ∧ (nextO l = none → ∃ a b c d x e y, token_next.f k s0 (ba l) = some (a, b, c, d, x, e, false, s0, y)) := by
  unfold nextO
  by_cases h1 : [60, 47] <+: l
  · refine ⟨0, fun k hk => ?_⟩
    unfold token_next.f
    rw [show (⟨#[60, 47]⟩ : ByteArray) = ba [60, 47] from rfl, is_f, Option.bind_some, if_pos h1, decide_eq_true h1]
    simp only [if_true]
    have e : isL [60, 47] l = l.drop 2 := by unfold isL; rw [if_pos h1]; rfl
    rw [e]
    obtain ⟨h2, h3⟩ := shut_f s0 (l.drop 2) (by rw [List.length_drop]; omega)
    constructor
    · intro p r h
      rw [h2 p r h, Option.bind_some]
    · intro h
      obtain ⟨a, b, c, d, x, e, y, e2⟩ := h3 h
      rw [e2, Option.bind_some]
      exact ⟨_, _, _, _, _, _, _, rfl⟩
  rw [if_neg h1]
  have e : isL [60, 47] l = l := by unfold isL; rw [if_neg h1]
  by_cases h2 : [60] <+: l
  · obtain ⟨K, hK⟩ := open_f s0 (l.drop 1) (by rw [List.length_drop]; omega)
    refine ⟨K, fun k hk => ?_⟩
    unfold token_next.f
    rw [show (⟨#[60, 47]⟩ : ByteArray) = ba [60, 47] from rfl, is_f, Option.bind_some, decide_eq_false h1, if_neg Bool.false_ne_true, e, show (⟨#[60]⟩ : ByteArray) = ba [60] from rfl, is_f, Option.bind_some, decide_eq_true h2, if_pos h2]
    simp only [if_true]
    have e : isL [60] l = l.drop 1 := by unfold isL; rw [if_pos h2]; rfl
    rw [e]
    obtain ⟨h3, h4⟩ := hK k hk
    constructor
    · intro p r h
      rw [h3 p r h, Option.bind_some]
    · intro h
      obtain ⟨a, b, c, d, x, e, y, e2⟩ := h4 h
      rw [e2, Option.bind_some]
      exact ⟨_, _, _, _, _, _, _, rfl⟩
  · refine ⟨0, fun k hk => ?_⟩
    have e3 : isL [60] l = l := by unfold isL; rw [if_neg h2]
    unfold token_next.f
    rw [show (⟨#[60, 47]⟩ : ByteArray) = ba [60, 47] from rfl, is_f, Option.bind_some, decide_eq_false h1, if_neg Bool.false_ne_true, e, show (⟨#[60]⟩ : ByteArray) = ba [60] from rfl, is_f, Option.bind_some, decide_eq_false h2, if_neg Bool.false_ne_true, e3, if_neg h2]
    have hlen := congrArg List.length (tw_dw (· != 60) l)
    rw [List.length_append] at hlen
    rw [upTo_f s0 l 60 (by omega), Option.bind_some]
    try simp only
    rw [back_f _ (by rw [ba_size]; omega), Option.bind_some]
    try simp only
    cases hb : backO (l.takeWhile (· != 60)) with
    | none =>
      refine ⟨(fun n v h => by cases h), fun _ => ?_⟩
      rw [beq_eq_false_iff_ne.2 (back_none hb)]
      exact ⟨_, _, _, _, _, _, _, rfl⟩
    | some v =>
      refine ⟨fun p r h => ?_, fun h => by cases h⟩
      cases h
      rw [back_some hb]; rfl
theorem openG_len : ∀ (d : Nat) (ats : Attrs) (l : Text) (x : Attrs × Bool × Text), openG d ats l = some x → x.2.2.length < l.length
  | 0, _, _, _, h => by rw [openG] at h; cases h
  | d + 1, ats, l, x, h => by
    have hg := gapL_len l
    rw [openG] at h
    by_cases h1 : [47, 62] <+: gapL l
    · rw [if_pos h1] at h
      cases h
      have := h1.length_le
      show ((gapL l).drop 2).length < l.length
      rw [List.length_drop]
      simp only [List.length_cons, List.length_nil] at this
      omega
    rw [if_neg h1] at h
    by_cases h2 : [62] <+: gapL l
    · rw [if_pos h2] at h
      cases h
      have := h2.length_le
      show ((gapL l).drop 1).length < l.length
      rw [List.length_drop]
      simp only [List.length_cons, List.length_nil] at this
      omega
    rw [if_neg h2] at h
    cases ha : attrO (gapL l) with
    | none => rw [ha] at h; cases h
    | some y =>
      obtain ⟨n, v, r⟩ := y
      rw [ha] at h
      simp only at h
      have := attrO_len ha
      by_cases h3 : l.takeWhile (blankC.contains ·) = []
      · rw [if_pos h3] at h; cases h
      rw [if_neg h3] at h
      by_cases h4 : ats.any (fun a => a.1 == n) = true
      · rw [if_pos h4] at h; cases h
      rw [if_neg h4] at h
      have := openG_len d _ r x h
      omega
theorem nextO_len {l r : Text} {p : Pc} (hl : l ≠ []) (h : nextO l = some (p, r)) : r.length < l.length := by
  unfold nextO at h
  by_cases h1 : [60, 47] <+: l
  · rw [if_pos h1] at h
    have hp := h1.length_le
    simp only [List.length_cons, List.length_nil] at hp
    unfold shutO at h
    have h3 := nameL_len (l.drop 2)
    have h4 := gapL_len (nameL (l.drop 2)).2
    rw [List.length_drop] at h3
    split at h
    · cases h
    · split at h
      · rename_i t e
        rw [e, List.length_cons] at h4
        cases h
        omega
      · cases h
  rw [if_neg h1] at h
  by_cases h2 : [60] <+: l
  · rw [if_pos h2] at h
    have hp := h2.length_le
    simp only [List.length_cons, List.length_nil] at hp
    unfold openO at h
    have h3 := nameL_len (l.drop 1)
    rw [List.length_drop] at h3
    split at h
    · cases h
    · cases ho : openG ((l.drop 1).length + 1) [] (nameL (l.drop 1)).2 with
      | none => rw [ho] at h; cases h
      | some x =>
        rw [ho] at h
        cases h
        have := openG_len _ _ _ x ho
        omega
  rw [if_neg h2] at h
  cases hb : backO (l.takeWhile (· != 60)) with
  | none => rw [hb] at h; cases h
  | some v =>
    rw [hb] at h
    cases h
    match l, hl, h2 with
    | c :: t, _, h2 =>
      have hc : c ≠ 60 := fun e => h2 (by rw [e]; exact ⟨t, rfl⟩)
      rw [List.dropWhile_cons, if_pos (by rw [bne_iff_ne]; exact hc)]
      have := dw_len (· != 60) t
      rw [List.length_cons]
      omega
def toksG : Nat → Nat → Text → Except (Int × Int) (List (Pc × Int))
  | 0, _, _ => .error (0, 0)
  | d + 1, N, l => if l = [] then .ok [] else match nextO l with
    | none => .error ((N - l.length : Nat), 5)
    | some (p, r) => if p.ats.length > 10 then .error ((N - l.length : Nat), 4) else match toksG d N r with
      | .error e => .error e
      | .ok x => .ok ((p, ((N - l.length : Nat) : Int)) :: x)
def mkT (x : Pc × Int) : S39 := ⟨x.1.kind, x.2, ba x.1.name, ba x.1.text, mkA x.1.ats, x.1.shut⟩
def toksR (acc : List S39) : Except (Int × Int) (List (Pc × Int)) → List S39 × Int × Int
  | .error e => ([], e.1, e.2)
  | .ok x => (acc ++ x.map mkT, 0, 0)
theorem toks_loop (s0 : ByteArray) (hs : s0.size ≤ 1000000) : ∀ (d : Nat) (l : Text) (acc : List S39), l.length < d → l.length ≤ s0.size → acc.length + l.length ≤ 10000000 → ∃ K, ∀ k, K ≤ k → token_Tokens.l0 k acc s0 (ba l) = some (toksR acc (toksG d s0.size l))
  | 0, l, acc, h, _, _ => by omega
  | d + 1, l, acc, hd, hl, ha => by
    rw [toksG]
    by_cases h0 : l = []
    · refine ⟨1, fun k hk => ?_⟩
      obtain ⟨k, rfl⟩ : ∃ j, k = j + 1 := ⟨k - 1, by omega⟩
      rw [if_pos h0, token_Tokens.l0, if_pos (by rw [ba_toList]; exact h0)]
      show some (acc, 0, 0) = some (acc ++ [], 0, 0)
      rw [List.append_nil]
    rw [if_neg h0]
    obtain ⟨K1, hK1⟩ := next_f s0 l (by omega)
    have hat : token_walk_string_at.f s0 (ba l) = some (((s0.size - l.length : Nat) : Int), s0, ba l) := by
      unfold token_walk_string_at.f
      rw [ba_size, wrap_small (by omega) (by omega), show (s0.size : Int) - (l.length : Int) = ((s0.size - l.length : Nat) : Int) by omega]
    cases hn : nextO l with
    | none =>
      refine ⟨K1 + 1, fun k hk => ?_⟩
      obtain ⟨k, rfl⟩ : ∃ j, k = j + 1 := ⟨k - 1, by omega⟩
      obtain ⟨a, b, c, e, x, f, y, h2⟩ := (hK1 k (by omega)).2 hn
      rw [token_Tokens.l0, if_neg (by rw [ba_toList]; exact h0), hat, Option.bind_some]
      simp only
      rw [h2, Option.bind_some]
      simp only
      rw [if_neg Bool.false_ne_true]; rfl
    | some x =>
      obtain ⟨p, r⟩ := x
      simp only
      have hr := nextO_len h0 hn
      have hm : (mkA p.ats).length = p.ats.length := by unfold mkA; rw [List.length_map]
      by_cases hc : p.ats.length > 10
      · refine ⟨K1 + 1, fun k hk => ?_⟩
        obtain ⟨k, rfl⟩ : ∃ j, k = j + 1 := ⟨k - 1, by omega⟩
        rw [token_Tokens.l0, if_neg (by rw [ba_toList]; exact h0), hat, Option.bind_some]
        simp only
        rw [(hK1 k (by omega)).1 p r hn, Option.bind_some]
        simp only [if_true]
        rw [if_pos (by rw [hm]; omega), if_pos hc]; rfl
      · obtain ⟨K2, hK2⟩ := toks_loop s0 hs d r (acc ++ [mkT (p, ((s0.size - l.length : Nat) : Int))]) (by omega) (by omega) (by rw [List.length_append, List.length_singleton]; omega)
        refine ⟨K1 + K2 + 1, fun k hk => ?_⟩
        obtain ⟨k, rfl⟩ : ∃ j, k = j + 1 := ⟨k - 1, by omega⟩
        rw [token_Tokens.l0, if_neg (by rw [ba_toList]; exact h0), hat, Option.bind_some]
        simp only
        rw [(hK1 k (by omega)).1 p r hn, Option.bind_some]
        simp only [if_true]
        rw [if_neg (by rw [hm]; omega), if_pos (by omega), if_neg hc]
        have := hK2 k (by omega)
        unfold mkT at this
        rw [this]
        cases toksG d s0.size r with
        | error e => rfl
        | ok x =>
          show some ((acc ++ [_]) ++ x.map mkT, (0 : Int), (0 : Int)) = some (acc ++ (_ :: x).map mkT, 0, 0)
          rw [List.append_assoc]; rfl
def toksF (s : ByteArray) : List S39 × Int × Int :=
  if s.size > 20000 then ([], 0, 4) else if validT s = true then toksR [] (toksG (s.size + 1) s.size (isL prologC s.data.toList)) else ([], 0, 3)
theorem Tokens_f (s : ByteArray) (hs : s.size ≤ 140737488351232) : ∃ K, ∀ k, K ≤ k → token_Tokens.f k s = some (toksF s) := by
  unfold toksF token_Tokens.f
  by_cases h1 : s.size > 20000
  · refine ⟨0, fun k hk => ?_⟩
    rw [if_pos (by omega), if_pos h1]
  rw [if_neg h1]
  have hu : utf_Valid.f s = some (validT s) := by
    unfold utf_Valid.f
    rw [if_pos (by omega)]
  have hl := isL_len prologC s.data.toList
  rw [size_list] at hl
  obtain ⟨K, hK⟩ := toks_loop s (by omega) (s.size + 1) (isL prologC s.data.toList) [] (by omega) hl (by simp only [List.length_nil]; omega)
  refine ⟨K, fun k hk => ?_⟩
  rw [if_neg (by omega), hu, Option.bind_some]
  cases hv : validT s with
  | false => rfl
  | true =>
    rw [if_pos rfl, if_pos rfl]
    have e := is_f s s.data.toList prologC
    rw [ba_of] at e
    change (token_walk_string_is.f s s (ba prologC)).bind _ = _
    rw [e, Option.bind_some]
    exact hK k hk
end Go.Proofs.YtjijbncheikagaaDoor.P
