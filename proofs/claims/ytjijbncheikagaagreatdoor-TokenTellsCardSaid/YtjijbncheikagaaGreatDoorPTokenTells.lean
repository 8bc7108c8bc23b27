/- TokenTells, in plain words: any text, piece by piece, or where it is wrong, and why, as the reference has it. -/
import Derived.Test.YtjijbncheikagaaGreatDoorTokR3
namespace Go.Proofs.YtjijbncheikagaaGreatDoor.P
open Go Go.RowKit Go.Lib Go.Proofs.YtjijbncheikagaaGreatDoorX Go.Proofs.YtjijbncheikagaaGreatDoorW.PrintWords Go.Proofs.YtjijbncheikagaaGreatDoor.Q
set_option linter.unusedVariables false
set_option linter.unusedSimpArgs false
set_option maxRecDepth 100000
theorem awake8 : cardexlaw08_awake.f 40 = some true := by decide +kernel
theorem awake8_up : ∀ k, 40 ≤ k → cardexlaw08_awake.f k = some true := by
  intro k hk
  obtain ⟨j, rfl⟩ : ∃ j, k = 40 + j := ⟨k - 40, by omega⟩
  clear hk
  induction j with
  | zero => exact awake8
  | succ j ih => exact cardexlaw08_awake.mono _ _ ih
theorem same_attrs (x : List S45) (hx : x.length ≤ 1000) : ∀ (d i : Nat), i + d = x.length → ∀ k, d < k → cardexhelp_Same_api_Attr_cardexhelp_Plain_Attr_1.l0 k x x (i : Int) = some true
  | 0, i, h, k, hk => by
    obtain ⟨k, rfl⟩ : ∃ j, k = j + 1 := ⟨k - 1, by omega⟩
    rw [cardexhelp_Same_api_Attr_cardexhelp_Plain_Attr_1.l0, if_neg (by omega)]
  | d + 1, i, h, k, hk => by
    obtain ⟨k, rfl⟩ : ∃ j, k = j + 1 := ⟨k - 1, by omega⟩
    rw [cardexhelp_Same_api_Attr_cardexhelp_Plain_Attr_1.l0, if_pos (by omega), if_pos (by omega), if_pos (by omega)]
    unfold api_Attr_1.f
    rw [beq_self_eq_true, beq_self_eq_true, Bool.and_self, Option.bind_some, if_pos rfl, wrap_small (by omega) (by omega), show ((i : Int) + 1) = ((i + 1 : Nat) : Int) by omega]
    exact same_attrs x hx d (i + 1) (by omega) k (by omega)
theorem same_toks (x : List S30) (hx : x.length ≤ 100000) (ha : ∀ t ∈ x, t.f4.length ≤ 100) : ∀ (d i : Nat), i + d = x.length → ∀ k, d + 200 < k → cardexhelp_Same_api_Token_cardexhelp_Token.l0 k x x (i : Int) = some true
  | 0, i, h, k, hk => by
    obtain ⟨k, rfl⟩ : ∃ j, k = j + 1 := ⟨k - 1, by omega⟩
    rw [cardexhelp_Same_api_Token_cardexhelp_Token.l0, if_neg (by omega)]
  | d + 1, i, h, k, hk => by
    obtain ⟨k, rfl⟩ : ∃ j, k = j + 1 := ⟨k - 1, by omega⟩
    have ht : rd_T30 x (i : Int) = x[i]'(by omega) := by unfold rd_T30; simp [show i < x.length by omega]
    have hm := ha (x[i]'(by omega)) (List.getElem_mem (by omega))
    rw [cardexhelp_Same_api_Token_cardexhelp_Token.l0, if_pos (by omega), if_pos (by omega), if_pos (by omega), ht]
    have hs0 : cardexhelp_Same_api_Attr_cardexhelp_Plain_Attr_1.l0 k (x[i]'(by omega)).f4 (x[i]'(by omega)).f4 0 = some true := same_attrs _ (by omega) (x[i]'(by omega)).f4.length 0 (by omega) k (by omega)
    unfold cardexhelp_Token.f api_Attr_16.f cardexhelp_Same_api_Attr_cardexhelp_Plain_Attr_1.f
    rw [if_pos rfl, if_pos rfl, if_pos rfl, if_pos rfl, beq_self_eq_true, if_pos rfl, if_pos rfl, hs0, Option.bind_some, Option.bind_some, Option.bind_some, if_pos rfl, wrap_small (by omega) (by omega), show ((i : Int) + 1) = ((i + 1 : Nat) : Int) by omega]
    exact same_toks x hx ha d (i + 1) (by omega) k (by omega)
theorem toks_small : ∀ (d N : Nat) (l : Text) (x : List (Pc × Int)), toksG d N l = .ok x → x.length ≤ l.length ∧ ∀ p ∈ x, p.1.ats.length ≤ 10
  | 0, _, _, _, h => by rw [toksG] at h; cases h
  | d + 1, N, l, x, h => by
    rw [toksG] at h
    by_cases h0 : l = []
    · rw [if_pos h0] at h
      cases h
      exact ⟨Nat.zero_le _, fun p hp => by cases hp⟩
    rw [if_neg h0] at h
    cases hn : nextO l with
    | none => rw [hn] at h; cases h
    | some y =>
      obtain ⟨p, r⟩ := y
      rw [hn] at h
      simp only at h
      by_cases hc : p.ats.length > 10
      · rw [if_pos hc] at h; cases h
      rw [if_neg hc] at h
      cases ht : toksG d N r with
      | error e => rw [ht] at h; cases h
      | ok y =>
        rw [ht] at h
        cases h
        have := toks_small d N r y ht
        have hr := nextO_len h0 hn
        refine ⟨by rw [List.length_cons]; omega, fun q hq => ?_⟩
        rcases List.mem_cons.1 hq with rfl | hq
        · show p.ats.length ≤ 10
          omega
        · exact this.2 q hq
theorem toksF_small (s : ByteArray) : (toksF s).1.length ≤ 20000 ∧ ∀ t ∈ (toksF s).1, t.f4.length ≤ 100 := by
  unfold toksF
  split
  · exact ⟨Nat.zero_le _, fun p hp => by cases hp⟩
  split
  · cases h : toksG (s.size + 1) s.size (isL prologC s.data.toList) with
    | error e => exact ⟨Nat.zero_le _, fun p hp => by cases hp⟩
    | ok x =>
      have h1 := toks_small _ _ _ _ h
      have h2 := isL_len prologC s.data.toList
      rw [size_list] at h2
      show ([] ++ x.map mkT).length ≤ 20000 ∧ ∀ t ∈ [] ++ x.map mkT, t.f4.length ≤ 100
      rw [List.nil_append, List.length_map]
      refine ⟨by omega, fun t ht => ?_⟩
      obtain ⟨p, hp, rfl⟩ := List.mem_map.1 ht
      have := h1.2 p hp
      show (mkA p.1.ats).length ≤ 100
      rw [mkA_len]; omega
  · exact ⟨Nat.zero_le _, fun p hp => by cases hp⟩
theorem tokenTells (s : ByteArray) (hs : s.size ≤ 140737488351232) : ∃ k, cardexlaw08_TokenTells.f k s = some true := by
  obtain ⟨K1, hK1⟩ := Tokens_f s hs
  obtain ⟨K2, hK2⟩ := rTokens_f s hs
  obtain ⟨h1, h2⟩ := toksF_small s
  refine ⟨K1 + K2 + 100000, ?_⟩
  unfold cardexlaw08_TokenTells.f
  rw [awake8_up _ (by omega), hK1 _ (by omega), hK2 _ (by omega)]
  simp only [Option.bind_some, if_true]
  unfold cardexhelp_Same_api_Token_cardexhelp_Token.f
  rw [if_pos rfl, show (0 : Int) = ((0 : Nat) : Int) from rfl, same_toks _ (by omega) h2 (toksF s).1.length 0 (by omega) _ (by omega)]
  simp
end Go.Proofs.YtjijbncheikagaaGreatDoor.P
