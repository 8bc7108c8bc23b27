/- TokenPlaces, in plain words: each token begins where it is told to, the first one at the beginning, and each behind the one ahead. -/
import Derived.Test.YtjijbncheikagaaDoorTokV
namespace Go.Proofs.YtjijbncheikagaaDoor.P
open Go Go.RowKit Go.Lib Go.Proofs.YtjijbncheikagaaDoorX Go.Proofs.YtjijbncheikagaaDoorW.PrintWords Go.Proofs.YtjijbncheikagaaDoor.Q
set_option linter.unusedVariables false
set_option linter.unusedSimpArgs false
set_option maxRecDepth 100000
theorem awake8 : cardexlaw08_awake.f 40 = some true := by decide +kernel
theorem awake8_up : ∀ k, 40 ≤ k → cardexlaw08_awake.f k = some true := by
  intro k hk
  obtain ⟨j, rfl⟩ : ∃ j, k = 40 + j := ⟨k - 40, by omega⟩
  clear hk
  induction j with
  | zero => exact awake8
  | succ j ih => exact cardexlaw08_awake.mono _ _ ih
inductive Row (N : Nat) : Text → List (Pc × Int) → Prop where
  | nil : Row N [] []
  | cons {l r : Text} {p : Pc} {x : List (Pc × Int)} : l ≠ [] → nextO l = some (p, r) → p.ats.length ≤ 10 → Row N r x → Row N l ((p, ((N - l.length : Nat) : Int)) :: x)
theorem toks_row : ∀ (d N : Nat) (l : Text) (x : List (Pc × Int)), toksG d N l = .ok x → Row N l x
  | 0, _, _, _, h => by rw [toksG] at h; cases h
  | d + 1, N, l, x, h => by
    rw [toksG] at h
    by_cases h0 : l = []
    · rw [if_pos h0] at h
      cases h
      rw [h0]; exact .nil
    rw [if_neg h0] at h
    cases hn : nextO l with
    | none => rw [hn] at h; cases h
    | some y =>
      obtain ⟨p, r⟩ := y
      rw [hn] at h
      simp only at h
      by_cases hc : p.ats.length > 10
      · rw [if_pos hc] at h; cases h
      rw [if_neg hc] at h
      cases ht : toksG d N r with
      | error e => rw [ht] at h; cases h
      | ok y =>
        rw [ht] at h
        cases h
        exact .cons h0 hn (by omega) (toks_row d N r y ht)
theorem row_len {N : Nat} {l : Text} {x : List (Pc × Int)} (h : Row N l x) : x.length ≤ l.length := by
  induction h with
  | nil => exact Nat.le_refl _
  | cons h0 hn hc hr ih =>
    have := nextO_len h0 hn
    rw [List.length_cons]
    omega
theorem toks_err : ∀ (d N : Nat) (l : Text) (e : Int × Int), toksG d N l = .error e → l.length < d → e.2 ≠ 0
  | 0, _, _, _, _, h => by omega
  | d + 1, N, l, e, h, hd => by
    rw [toksG] at h
    by_cases h0 : l = []
    · rw [if_pos h0] at h; cases h
    rw [if_neg h0] at h
    cases hn : nextO l with
    | none => rw [hn] at h; cases h; show (5 : Int) ≠ 0; decide
    | some y =>
      obtain ⟨p, r⟩ := y
      rw [hn] at h
      simp only at h
      by_cases hc : p.ats.length > 10
      · rw [if_pos hc] at h; cases h; show (4 : Int) ≠ 0; decide
      rw [if_neg hc] at h
      have hlen := nextO_len h0 hn
      cases ht : toksG d N r with
      | error e2 =>
        rw [ht] at h
        cases h
        exact toks_err d N r e ht (by omega)
      | ok y => rw [ht] at h; cases h
theorem row_toks {N : Nat} {l : Text} {x : List (Pc × Int)} (h : Row N l x) : ∀ (d M : Nat), l.length < d → ∃ y, toksG d M l = .ok y ∧ y.map (·.1) = x.map (·.1) ∧ (∀ q z, y = q :: z → q.2 = ((M - l.length : Nat) : Int)) := by
  induction h with
  | nil =>
    intro d M hd
    obtain ⟨d, rfl⟩ : ∃ j, d = j + 1 := ⟨d - 1, by simp only [List.length_nil] at hd; omega⟩
    refine ⟨[], ?_, rfl, fun q z h => by cases h⟩
    rw [toksG, if_pos rfl]
  | @cons l r p x h0 hn hc hr ih =>
    intro d M hd
    obtain ⟨d, rfl⟩ : ∃ j, d = j + 1 := ⟨d - 1, by omega⟩
    have hlen := nextO_len h0 hn
    obtain ⟨y, hy, hm, _⟩ := ih d M (by omega)
    refine ⟨(p, ((M - l.length : Nat) : Int)) :: y, ?_, ?_, fun q z h => by cases h; rfl⟩
    · rw [toksG, if_neg h0, hn]
      simp only
      rw [if_neg (by omega), hy]
    · rw [List.map_cons, List.map_cons, hm]
theorem row_at {N : Nat} : ∀ {x : List (Pc × Int)} {l : Text}, Row N l x → validT (ba l) = true → ∀ i (hi : i < x.length), ∃ l' r' c, l = c ++ l' ∧ validT (ba l') = true ∧ l' ≠ [] ∧ nextO l' = some ((x[i]).1, r') ∧ (x[i]).2 = ((N - l'.length : Nat) : Int) ∧ Row N l' (x.drop i) ∧ (∀ j (hj : j < i), ∃ m : Nat, (x[j]'(by omega)).2 = ((N - m : Nat) : Int) ∧ l'.length < m ∧ m ≤ l.length)
  | [], _, _, _, i, hi => by cases hi
  | q :: x, l, h, hv, i, hi => by
    cases h with
    | @cons _ r p _ h0 hn hc hr =>
      cases i with
      | zero => exact ⟨l, r, [], rfl, hv, h0, hn, rfl, .cons h0 hn hc hr, fun j hj => by omega⟩
      | succ i =>
        have hlen := nextO_len h0 hn
        obtain ⟨l', r', c, e, hv', h0', hn', hat, hrow, hj⟩ := row_at hr (next_valid hn hv) i (by rw [List.length_cons] at hi; omega)
        obtain ⟨c0, hc0⟩ : ∃ c0, l = c0 ++ r := by
          rcases next_split hn with ⟨_, c, e, _⟩ | ⟨_, c, e⟩
          · exact ⟨c, e⟩
          · exact ⟨c ++ [62], by rw [e]; simp⟩
        refine ⟨l', r', c0 ++ c, by rw [hc0, e, List.append_assoc], hv', h0', hn', hat, hrow, fun j hj2 => ?_⟩
        have hrl : l'.length ≤ r.length := by rw [e, List.length_append]; omega
        cases j with
        | zero => exact ⟨l.length, rfl, by omega, Nat.le_refl _⟩
        | succ j =>
          obtain ⟨m, a1, a2, a3⟩ := hj j (by omega)
          exact ⟨m, a1, a2, by omega⟩
theorem rd_map {α : Type} (f : α → S39) (x : List α) (i : Nat) (hi : i < x.length) : rd_T39 (x.map f) (i : Int) = f x[i] := by
  unfold rd_T39
  simp [hi]
theorem places_step (s : ByteArray) (hs : s.size ≤ 4000) (l : Text) (hsl : ∃ c, s.data.toList = c ++ l) (x : List (Pc × Int)) (hrow : Row s.size l x) (hv : validT (ba l) = true) (hxl : x.length ≤ 100000) :
    ∀ (d i : Nat), i + d = x.length → ∃ K, ∀ k, K ≤ k → cardexlaw08_TokenPlaces.l0 k s (x.map mkT) (i : Int) = some true
  | 0, i, hi => by
    refine ⟨41, fun k hk => ?_⟩
    obtain ⟨k, rfl⟩ : ∃ j, k = j + 1 := ⟨k - 1, by omega⟩
    rw [cardexlaw08_TokenPlaces.l0, if_neg (by rw [List.length_map]; omega), awake8_up k (by omega)]
    rfl
  | d + 1, i, hi => by
    obtain ⟨K1, hK1⟩ := places_step s hs l hsl x hrow hv hxl d (i + 1) (by omega)
    obtain ⟨l', r', c, e, hv', h0, hn, hat, hrow', hj⟩ := row_at hrow hv i (by omega)
    obtain ⟨c0, hc0⟩ := hsl
    have hle : l'.length ≤ s.size := by
      have := congrArg List.length hc0
      rw [size_list, List.length_append, e, List.length_append] at this
      omega
    have hpos : 0 < l'.length := List.length_pos_iff.2 h0
    have hdrop : s.data.toList = (c0 ++ c) ++ l' := by rw [hc0, e, List.append_assoc]
    have hcl : (c0 ++ c).length = s.size - l'.length := by
      have := congrArg List.length hdrop
      rw [size_list, List.length_append] at this
      omega
    have hext : s.extract (s.size - l'.length) s.size = ba l' := by
      have := ba_extract s.data.toList (s.size - l'.length) s.size
      rw [ba_of] at this
      rw [this, List.take_of_length_le (by rw [size_list]; omega), hdrop, ← hcl, List.drop_append_of_le_length (Nat.le_refl _), List.drop_length, List.nil_append]
    have hbt : ∀ b t, l' = b :: t → bt s ((s.size - l'.length : Nat) : Int) = (b.toNat : Int) := by
      intro b t hb
      obtain ⟨b', t', g1, g2, _, _⟩ := bt_at_get s (s.size - l'.length) (by omega)
      rw [hdrop, ← hcl, List.drop_append_of_le_length (Nat.le_refl _), List.drop_length, List.nil_append, hb] at g1
      injection g1 with g1 _
      rw [g2, g1]
    obtain ⟨K2, hK2⟩ := Tokens_f (ba l') (by rw [ba_size]; omega)
    have hF : ∃ y, toksF (ba l') = (y.map mkT, 0, 0) ∧ y.map (·.1) = (x.drop i).map (·.1) ∧ (∀ q z, y = q :: z → q.2 = 0) := by
      obtain ⟨y, h1, h2, h3⟩ := row_toks hrow' (l'.length + 1) l'.length (by omega)
      refine ⟨y, ?_, h2, fun q z h => by rw [h3 q z h, Nat.sub_self]; rfl⟩
      unfold toksF
      rw [ba_size, if_neg (by omega), if_pos hv', ba_list, no_prolog hn, h1]; rfl
    obtain ⟨y, hF1, hF2, hF3⟩ := hF
    obtain ⟨q, z, rfl⟩ : ∃ q z, y = q :: z := by
      cases y with
      | nil =>
        have := congrArg List.length hF2
        rw [List.length_map, List.length_map, List.length_drop] at this
        simp only [List.length_nil] at this
        omega
      | cons q z => exact ⟨q, z, rfl⟩
    have hq2 := hF3 q z rfl
    have hq1 : q.1 = (x[i]'(by omega)).1 := by
      rw [List.drop_eq_getElem_cons (by omega : i < x.length)] at hF2
      injection hF2 with h _
    refine ⟨K1 + K2 + 3, fun k hk => ?_⟩
    obtain ⟨k, rfl⟩ : ∃ j, k = j + 2 := ⟨k - 2, by omega⟩
    have hx : rd_T39 (x.map mkT) (i : Int) = mkT (x[i]'(by omega)) := rd_map mkT x i (by omega)
    have hf1 : (mkT (x[i]'(by omega))).f1 = ((s.size - l'.length : Nat) : Int) := hat
    have hf0 : (mkT (x[i]'(by omega))).f0 = (x[i]'(by omega)).1.kind := rfl
    have good : cardexlaw08_TokenPlaces.j1 (k + 1) s (x.map mkT) (i : Int) ((s.size - l'.length : Nat) : Int) false = some true := by
      rw [cardexlaw08_TokenPlaces.j1, if_neg Bool.false_ne_true, if_pos (by omega), if_pos (by omega), Int.toNat_natCast, hext, hK2 k (by omega), hF1, Option.bind_some]
      have hy : rd_T39 ((q :: z).map mkT) 0 = mkT q := rfl
      have hl : (((q :: z).map mkT).length : Int) ≠ 0 := by rw [List.length_map, List.length_cons]; omega
      simp only
      rw [if_neg hl, if_pos trivial, if_pos (by rw [List.length_map, List.length_cons]; omega), if_pos (by omega), if_pos (by rw [List.length_map]; omega), hx, hy]
      have a0 : (mkT q).f0 = (mkT (x[i]'(by omega))).f0 := by unfold mkT; rw [hq1]
      have a2 : (mkT q).f2 = (mkT (x[i]'(by omega))).f2 := by unfold mkT; rw [hq1]
      have a3 : (mkT q).f3 = (mkT (x[i]'(by omega))).f3 := by unfold mkT; rw [hq1]
      have a1 : (mkT q).f1 = 0 := hq2
      rw [if_pos a0, a2, if_pos rfl, a3, if_pos rfl, if_pos a1, wrap_small (by omega) (by omega), show (i : Int) + 1 = ((i + 1 : Nat) : Int) by omega]
      exact hK1 k (by omega)
    rw [cardexlaw08_TokenPlaces.l0, if_pos (by rw [List.length_map]; omega), if_pos (by omega), hx, hf1, hf0, if_neg (by omega), if_neg (by omega)]
    have last : (if bt s ((s.size - l'.length : Nat) : Int) = 60 then (if (x[i]'(by omega)).1.kind = 3 then cardexlaw08_TokenPlaces.j1 (k + 1) s (x.map mkT) (i : Int) ((s.size - l'.length : Nat) : Int) true else cardexlaw08_TokenPlaces.j1 (k + 1) s (x.map mkT) (i : Int) ((s.size - l'.length : Nat) : Int) false) else (if (x[i]'(by omega)).1.kind = 3 then cardexlaw08_TokenPlaces.j1 (k + 1) s (x.map mkT) (i : Int) ((s.size - l'.length : Nat) : Int) false else cardexlaw08_TokenPlaces.j1 (k + 1) s (x.map mkT) (i : Int) ((s.size - l'.length : Nat) : Int) true)) = some true := by
      obtain ⟨b, t, hbl⟩ : ∃ b t, l' = b :: t := by
        cases l' with
        | nil => exact absurd rfl h0
        | cons b t => exact ⟨b, t, rfl⟩
      rw [hbt b t hbl]
      rcases next_split hn with ⟨⟨h3, h60⟩, _⟩ | ⟨⟨h3, h60⟩, _⟩
      · have hb : b ≠ 60 := fun e => h60 (by rw [hbl, e]; exact ⟨t, rfl⟩)
        rw [if_neg (by rw [show (60 : Int) = ((60 : Nat) : Int) from rfl, byte_eq b 60 (by decide)]; exact hb), if_pos h3]
        exact good
      · have hb : b = 60 := by
          rw [hbl] at h60
          exact (List.cons_prefix_cons.1 h60).1.symm
        rw [hb, if_pos (by decide), if_neg h3]
        exact good
    by_cases hi0 : (i : Int) > 0
    · obtain ⟨m, a1, a2, a3⟩ := hj (i - 1) (by omega)
      have hm : m ≤ s.size := by
        have := congrArg List.length hc0
        rw [size_list, List.length_append] at this
        omega
      have hxp : rd_T39 (x.map mkT) ((i - 1 : Nat) : Int) = mkT (x[i - 1]'(by omega)) := rd_map mkT x (i - 1) (by omega)
      have hw : wrap64 ((i : Int) - 1) = ((i - 1 : Nat) : Int) := by rw [wrap_small (by omega) (by omega)]; omega
      rw [if_pos hi0, hw, if_pos (by omega), if_pos (by rw [List.length_map]; omega), hxp]
      have : (mkT (x[i - 1]'(by omega))).f1 = ((s.size - m : Nat) : Int) := a1
      rw [this, if_neg (by omega), if_pos (by omega), if_pos (by omega)]
      exact last
    · rw [if_neg hi0, if_pos (by omega), if_pos (by omega)]
      exact last
theorem tokenPlaces (s : ByteArray) (hs : s.size ≤ 140737488351232) : ∃ k, cardexlaw08_TokenPlaces.f k s = some true := by
  by_cases h1 : (s.size : Int) > 4000
  · refine ⟨40, ?_⟩
    unfold cardexlaw08_TokenPlaces.f
    rw [if_pos h1, awake8]; rfl
  obtain ⟨K, hK⟩ := Tokens_f s hs
  have bad : ∀ e : Int, toksF s = ([], e, (toksF s).2.2) → (toksF s).2.2 ≠ 0 → ∃ k, cardexlaw08_TokenPlaces.f k s = some true := by
    intro e h h2
    refine ⟨K + 40, ?_⟩
    unfold cardexlaw08_TokenPlaces.f
    rw [if_neg h1, hK _ (by omega), Option.bind_some, if_neg h2, awake8_up _ (by omega), Option.bind_some, if_pos rfl, h]
    rfl
  have hF : toksF s = if validT s = true then toksR [] (toksG (s.size + 1) s.size (isL prologC s.data.toList)) else ([], 0, 3) := by
    unfold toksF
    rw [if_neg (by omega)]
  cases hv : validT s with
  | false =>
    rw [hv, if_neg Bool.false_ne_true] at hF
    exact bad 0 (by rw [hF]) (by rw [hF]; decide)
  | true =>
    rw [hv, if_pos rfl] at hF
    cases ht : toksG (s.size + 1) s.size (isL prologC s.data.toList) with
    | error e =>
      rw [ht] at hF
      by_cases he : e.2 = 0
      · exact absurd he (toks_err _ _ _ _ ht (by have := isL_len prologC s.data.toList; rw [size_list] at this; omega))
      · exact bad e.1 (by rw [hF]; rfl) (by rw [hF]; exact he)
    | ok x =>
      rw [ht] at hF
      have hrow := toks_row _ _ _ _ ht
      have hvl := prolog_valid s.data.toList (by rw [ba_of]; exact hv)
      obtain ⟨K2, hK2⟩ := places_step s (by omega) _ (by
        unfold isL
        split
        · exact ⟨_, (List.take_append_drop prologC.length s.data.toList).symm⟩
        · exact ⟨[], rfl⟩) x hrow hvl (by have h3 := row_len hrow; have h4 := isL_len prologC s.data.toList; rw [size_list] at h4; omega) x.length 0 (by omega)
      refine ⟨K + K2, ?_⟩
      unfold cardexlaw08_TokenPlaces.f
      rw [if_neg h1, hK _ (by omega), hF, Option.bind_some]
      change (if (0 : Int) = 0 then cardexlaw08_TokenPlaces.l0 (K + K2) s ([] ++ x.map mkT) 0 else _) = _
      rw [if_pos rfl, List.nil_append]
      exact hK2 _ (by omega)
end Go.Proofs.YtjijbncheikagaaDoor.P
