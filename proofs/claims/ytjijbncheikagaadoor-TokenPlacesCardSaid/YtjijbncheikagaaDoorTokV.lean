/- Plain law of this session: where pieces end: behind a '>' or ahead of a '<'; what is left is a text, too. -/
import Derived.Test.YtjijbncheikagaaDoorTok3
namespace Go.Proofs.YtjijbncheikagaaDoor.P
open Go Go.RowKit Go.Lib Go.Proofs.YtjijbncheikagaaDoorX Go.Proofs.YtjijbncheikagaaDoorW.PrintWords Go.Proofs.YtjijbncheikagaaDoor.Q
set_option linter.unusedVariables false
set_option linter.unusedSimpArgs false
theorem wrs_split : ∀ (L : List Int), (∀ c ∈ L, scal c) → ∀ (p r : Text) (b : UInt8), b.toNat < 128 → wrs L = p ++ b :: r → ∃ L1 L2, L = L1 ++ (b.toNat : Int) :: L2 ∧ wrs L1 = p ∧ wrs L2 = r
  | [], _, p, r, b, _, h => by
    have := congrArg List.length h
    rw [List.length_append, List.length_cons] at this
    simp [wrs] at this
  | x :: L, hL, p, r, b, hb, h => by
    rw [wrs_cons] at h
    have hx := hL x (.head _)
    by_cases hp : p.length < (enc x).length
    · have hm : b ∈ enc x := by
        have h1 : (enc x ++ wrs L)[p.length]? = some b := by rw [h, List.getElem?_append_right (Nat.le_refl _), Nat.sub_self]; rfl
        rw [List.getElem?_append_left hp] at h1
        exact List.mem_of_getElem? h1
      rcases mem_enc hx hm with ⟨_, h2, h3⟩ | h2
      · rw [h3] at h hp
        have hp0 : p = [] := List.length_eq_zero_iff.1 (by simp only [List.length_singleton] at hp; omega)
        subst hp0
        rw [List.nil_append] at h
        injection h with _ h
        exact ⟨[], L, by rw [h2]; rfl, rfl, h⟩
      · omega
    · obtain ⟨p', rfl⟩ : ∃ p', p = enc x ++ p' := by
        refine ⟨p.drop (enc x).length, ?_⟩
        have h1 := congrArg (List.take (enc x).length) h
        rw [List.take_append_of_le_length (Nat.le_refl _), List.take_length, List.take_append_of_le_length (by omega)] at h1
        conv => rhs; lhs; rw [h1]
        rw [List.take_append_drop]
      rw [List.append_assoc] at h
      obtain ⟨L1, L2, h1, h2, h3⟩ := wrs_split L (fun c hc => hL c (.tail _ hc)) p' r b hb (List.append_cancel_left h)
      exact ⟨x :: L1, L2, by rw [h1]; rfl, by rw [wrs_cons, h2], h3⟩
theorem valid_cut (p r : Text) (b : UInt8) (hb : b.toNat < 128) (h : validT (ba (p ++ b :: r)) = true) : validT (ba p) = true ∧ validT (ba r) = true ∧ validT (ba (b :: r)) = true := by
  obtain ⟨L, h1, h2, h3⟩ := wrs_of _ h
  obtain ⟨L1, L2, rfl, e1, e2⟩ := wrs_split L h1 p r b hb (ba_inj h3).symm
  rw [List.all_append, List.all_cons, Bool.and_eq_true, Bool.and_eq_true] at h2
  have s1 : ∀ c ∈ L1, scal c := fun c hc => h1 c (List.mem_append_left _ hc)
  have s2 : ∀ c ∈ L2, scal c := fun c hc => h1 c (List.mem_append_right _ (.tail _ hc))
  have s3 : ∀ c ∈ (b.toNat : Int) :: L2, scal c := fun c hc => h1 c (List.mem_append_right _ hc)
  have e3 : wrs ((b.toNat : Int) :: L2) = b :: r := by
    rw [wrs_cons, enc_ascii (by omega) (by omega), Int.toNat_natCast, UInt8.ofNat_toNat, e2]; rfl
  refine ⟨?_, ?_, ?_⟩
  · rw [← e1, validT_wrs L1 s1]; exact h2.1
  · rw [← e2, validT_wrs L2 s2]; exact h2.2.2
  · rw [← e3, validT_wrs _ s3, List.all_cons, Bool.and_eq_true]; exact h2.2
theorem dw_split (p : UInt8 → Bool) (l : Text) : ∃ c, l = c ++ l.dropWhile p := ⟨l.takeWhile p, (tw_dw p l).symm⟩
theorem nameL_split (l : Text) : ∃ c, l = c ++ (nameL l).2 := ⟨_, (nameL_eq l).symm⟩
theorem valO_split {l v r : Text} (h : valO l = some (v, r)) : ∃ c, l = c ++ r := by
  unfold valO at h
  match l, h with
  | [], h => cases h
  | b :: t, h =>
    simp only at h
    split at h
    · unfold valM at h
      split at h
      · cases h
      · cases hb : backO (t.takeWhile (· != b)) with
        | none => rw [hb] at h; cases h
        | some v =>
          rw [hb] at h
          cases h
          refine ⟨b :: (t.takeWhile (· != b) ++ (t.dropWhile (· != b)).take 1), ?_⟩
          rw [List.cons_append, List.append_assoc, List.take_append_drop, tw_dw]
    · cases h
theorem attrO_split {l n v r : Text} (h : attrO l = some (n, v, r)) : ∃ c, l = c ++ r := by
  unfold attrO at h
  split at h
  · cases h
  · split at h
    · rename_i t e
      cases hv : valO (gapL t) with
      | none => rw [hv] at h; cases h
      | some x =>
        obtain ⟨v', r'⟩ := x
        rw [hv] at h
        cases h
        obtain ⟨c1, h1⟩ := nameL_split l
        obtain ⟨c2, h2⟩ := dw_split (blankC.contains ·) (nameL l).2
        obtain ⟨c3, h3⟩ := dw_split (blankC.contains ·) t
        obtain ⟨c4, h4⟩ := valO_split hv
        refine ⟨c1 ++ (c2 ++ (61 :: (c3 ++ c4))), ?_⟩
        show l = _ ++ r'
        have e2 : (nameL l).2 = c2 ++ 61 :: t := h2.trans (by rw [show List.dropWhile (blankC.contains ·) (nameL l).2 = 61 :: t from e])
        have e3 : t = c3 ++ (c4 ++ r') := h3.trans (by rw [show List.dropWhile (blankC.contains ·) t = c4 ++ r' from h4])
        conv => lhs; rw [h1, e2, e3]
        simp [List.append_assoc]
    · cases h
theorem gap_split (l : Text) : ∃ c, l = c ++ gapL l := dw_split _ l
theorem openG_split : ∀ (d : Nat) (ats : Attrs) (l : Text) (x : Attrs × Bool × Text), openG d ats l = some x → ∃ c, l = c ++ 62 :: x.2.2
  | 0, _, _, _, h => by rw [openG] at h; cases h
  | d + 1, ats, l, x, h => by
    obtain ⟨c0, hc0⟩ := gap_split l
    rw [openG] at h
    by_cases h1 : [47, 62] <+: gapL l
    · rw [if_pos h1] at h
      cases h
      obtain ⟨t, ht⟩ := h1
      refine ⟨c0 ++ [47], ?_⟩
      show l = _ ++ 62 :: (gapL l).drop 2
      rw [← ht] at hc0 ⊢
      rw [hc0]; simp
    rw [if_neg h1] at h
    by_cases h2 : [62] <+: gapL l
    · rw [if_pos h2] at h
      cases h
      obtain ⟨t, ht⟩ := h2
      refine ⟨c0, ?_⟩
      show l = _ ++ 62 :: (gapL l).drop 1
      rw [← ht] at hc0 ⊢
      rw [hc0]; simp
    rw [if_neg h2] at h
    cases ha : attrO (gapL l) with
    | none => rw [ha] at h; cases h
    | some y =>
      obtain ⟨n, v, r⟩ := y
      rw [ha] at h
      simp only at h
      by_cases h3 : l.takeWhile (blankC.contains ·) = []
      · rw [if_pos h3] at h; cases h
      rw [if_neg h3] at h
      by_cases h4 : ats.any (fun a => a.1 == n) = true
      · rw [if_pos h4] at h; cases h
      rw [if_neg h4] at h
      obtain ⟨c1, h5⟩ := attrO_split ha
      obtain ⟨c2, h6⟩ := openG_split d _ r x h
      refine ⟨c0 ++ (c1 ++ c2), ?_⟩
      conv => lhs; rw [hc0, h5, h6]
      simp [List.append_assoc]
theorem next_split {l r : Text} {p : Pc} (h : nextO l = some (p, r)) : ((p.kind = 3 ∧ ¬ [60] <+: l) ∧ ∃ c, l = c ++ r ∧ (r = [] ∨ ∃ t, r = 60 :: t)) ∨ ((p.kind ≠ 3 ∧ [60] <+: l) ∧ ∃ c, l = c ++ 62 :: r) := by
  unfold nextO at h
  by_cases h1 : [60, 47] <+: l
  · rw [if_pos h1] at h
    right
    obtain ⟨t0, ht0⟩ := h1
    unfold shutO at h
    split at h
    · cases h
    · split at h
      · rename_i t e
        cases h
        refine ⟨⟨(by show (2 : Int) ≠ 3; decide), ⟨47 :: t0, by rw [← ht0]; rfl⟩⟩, ?_⟩
        obtain ⟨c1, h1⟩ := nameL_split (l.drop 2)
        obtain ⟨c2, h2⟩ := gap_split (nameL (l.drop 2)).2
        refine ⟨l.take 2 ++ (c1 ++ c2), ?_⟩
        rw [e] at h2
        conv => lhs; rw [← List.take_append_drop 2 l, h1, h2]
        simp [List.append_assoc]
      · cases h
  rw [if_neg h1] at h
  by_cases h2 : [60] <+: l
  · rw [if_pos h2] at h
    right
    unfold openO at h
    split at h
    · cases h
    · cases ho : openG ((l.drop 1).length + 1) [] (nameL (l.drop 1)).2 with
      | none => rw [ho] at h; cases h
      | some x =>
        rw [ho] at h
        cases h
        refine ⟨⟨(by show (1 : Int) ≠ 3; decide), h2⟩, ?_⟩
        obtain ⟨c1, h1⟩ := nameL_split (l.drop 1)
        obtain ⟨c2, h3⟩ := openG_split _ _ _ x ho
        refine ⟨l.take 1 ++ (c1 ++ c2), ?_⟩
        conv => lhs; rw [← List.take_append_drop 1 l, h1, h3]
        simp [List.append_assoc]
  rw [if_neg h2] at h
  left
  cases hb : backO (l.takeWhile (· != 60)) with
  | none => rw [hb] at h; cases h
  | some v =>
    rw [hb] at h
    cases h
    refine ⟨⟨rfl, h2⟩, _, (tw_dw (· != 60) l).symm, ?_⟩
    cases hd : l.dropWhile (· != 60) with
    | nil => exact .inl rfl
    | cons b t =>
      have := List.head?_dropWhile_not (· != 60) l
      rw [hd] at this
      right
      exact ⟨t, by simpa using this⟩
theorem next_valid {l r : Text} {p : Pc} (h : nextO l = some (p, r)) (hv : validT (ba l) = true) : validT (ba r) = true := by
  rcases next_split h with ⟨_, c, rfl, h2⟩ | ⟨_, c, rfl⟩
  · rcases h2 with rfl | ⟨t, rfl⟩
    · decide +kernel
    · exact (valid_cut c t 60 (by decide) hv).2.2
  · exact (valid_cut c r 62 (by decide) hv).2.1
theorem prolog_valid (l : Text) (hv : validT (ba l) = true) : validT (ba (isL prologC l)) = true := by
  unfold isL
  by_cases h : prologC <+: l
  · rw [if_pos h]
    obtain ⟨t, rfl⟩ := h
    rw [List.drop_append_of_le_length (Nat.le_refl _), List.drop_length, List.nil_append]
    rw [show prologC ++ t = prologC.take 37 ++ 62 :: t by rfl] at hv
    exact (valid_cut _ t 62 (by decide) hv).2.1
  · rw [if_neg h]; exact hv
theorem no_prolog {l r : Text} {p : Pc} (h : nextO l = some (p, r)) : isL prologC l = l := by
  unfold isL
  by_cases hp : prologC <+: l
  · obtain ⟨t, rfl⟩ := hp
    have : nextO (prologC ++ t) = none := by
      unfold nextO
      rw [if_neg (by rintro ⟨x, hx⟩; injection hx with _ hx; injection hx with hx _; revert hx; decide), if_pos ⟨prologC.drop 1 ++ t, rfl⟩]
      unfold openO
      have hn : (nameL ((prologC ++ t).drop 1)).1 = [] := by
        show (nameL (63 :: _)).1 = []
        rw [nameL_no (by decide)]
      rw [if_pos hn]
    rw [this] at h; cases h
  · rw [if_neg hp]
end Go.Proofs.YtjijbncheikagaaDoor.P
