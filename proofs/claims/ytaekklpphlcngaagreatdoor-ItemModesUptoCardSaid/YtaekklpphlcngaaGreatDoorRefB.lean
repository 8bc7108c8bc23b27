/- Plain law of this session: the characters of a text, as the reference has them; its tables. -/
import Derived.Test.YtaekklpphlcngaaGreatDoorRefV
import Derived.Test.YtaekklpphlcngaaGreatDoorQ
import Derived.Laws.BitsLemmas
import Derived.Test.YtaekklpphlcngaaGreatDoorJidA
section
namespace Go.Proofs.YtaekklpphlcngaaGreatDoor.P
open Go.RowKit Go.Lib Go.Proofs.YtaekklpphlcngaaGreatDoorX Go.Proofs.YtaekklpphlcngaaGreatDoorW.PrintWords Go.Proofs.YtaekklpphlcngaaGreatDoor.Q
set_option linter.unusedVariables false
set_option linter.unusedSimpArgs false
theorem runes_loop (s : ByteArray) (hs : s.size ≤ 1000000000) : ∀ (d i k : Nat) (acc : List Int), s.size ≤ i + d → i ≤ s.size → validAt s i = true → acc.length ≤ i → cardexref01_Runes.l0 (d + 9 + k) s acc (i : Int) = some (acc ++ runesN s.size (s.data.toList.drop i))
  | 0, i, k, acc, hi, hle, hv, ha => by
    rw [show 0 + 9 + k = (8 + k) + 1 by omega, cardexref01_Runes.l0, if_neg (by omega), runes_end s (by omega), List.append_nil]
  | d + 1, i, k, acc, hi, hle, hv, ha => by
    rw [show d + 1 + 9 + k = (d + 9 + k) + 1 by omega, cardexref01_Runes.l0]
    by_cases hlt : i < s.size
    · rw [if_pos (by omega), show d + 9 + k = (d + 1 + k) + 8 by omega, next_eq s i _ (by omega) hlt]
      simp only [Option.bind_some]
      rw [valid_at_step s hlt] at hv
      split at hv
      · cases hv
      · rename_i hb
        rw [Bool.and_eq_true] at hv
        have hw := decodeL_width (s.data.toList.drop i)
        have hwl := decodeL_le (s.data.toList.drop i) (drop_ne s hlt)
        rw [List.length_drop, show s.data.toList.length = s.size from Array.length_toList] at hwl
        rw [next_good _ hb, if_pos hv.1, if_pos (by omega)]
        simp only
        rw [w64 (by omega) (by omega)]
        have ih := runes_loop s hs d (i + (decodeL (s.data.toList.drop i)).2) k (acc ++ [((decodeL (s.data.toList.drop i)).1 : Int)]) (by omega) (by omega) hv.2 (by rw [List.length_append, List.length_singleton]; omega)
        rw [show (d + 1 + k) + 8 = d + 9 + k by omega, show (i : Int) + ((decodeL (s.data.toList.drop i)).2 : Nat) = ((i + (decodeL (s.data.toList.drop i)).2 : Nat) : Int) by omega, ih, runes_at s hlt, ← decodeL_drop]
        simp
    · rw [if_neg (by omega), runes_end s hlt, List.append_nil]
theorem ref_runes (s : ByteArray) (hs : s.size ≤ 1000000000) (k : Nat) (hk : s.size + 9 ≤ k) : cardexref01_Runes.f k s = some (if validT s = true then runesI s else []) := by
  unfold cardexref01_Runes.f
  rw [ref_valid s (by omega) k hk]
  simp only [Option.bind_some]
  split
  · rename_i hv
    obtain ⟨j, rfl⟩ : ∃ j, k = s.size + 9 + j := ⟨k - (s.size + 9), by omega⟩
    exact runes_loop s hs s.size 0 j [] (by omega) (by omega) hv (Nat.le_refl _)
  · rfl
end Go.Proofs.YtaekklpphlcngaaGreatDoor.P
end
section
namespace Go.Proofs.YtaekklpphlcngaaGreatDoor.P
open Go.RowKit Go.Lib Go.Proofs.YtaekklpphlcngaaGreatDoorX Go.Proofs.YtaekklpphlcngaaGreatDoorW.PrintWords Go.Proofs.YtaekklpphlcngaaGreatDoor.Q
set_option linter.unusedVariables false
set_option linter.unusedSimpArgs false
theorem table_loop (l : List Int) (hl : l.length ≤ 1000) : ∀ (d i k : Nat) (acc : List (S119)), l.length ≤ i + 2 * d → i ≤ l.length → (l.length - i) % 2 = 0 → acc.length ≤ i → cardexref01_table.l0 (d + 1 + k) l acc (i : Int) = some (acc ++ pairsL (l.drop i))
  | 0, i, k, acc, hi, hle, hp, ha => by
    rw [show 0 + 1 + k = k + 1 by omega, cardexref01_table.l0, if_neg (by omega), List.drop_eq_nil_of_le (by omega)]
    simp [pairsL]
  | d + 1, i, k, acc, hi, hle, hp, ha => by
    rw [show d + 1 + 1 + k = (d + 1 + k) + 1 by omega, cardexref01_table.l0]
    by_cases hlt : i < l.length
    · have h1 : i + 1 < l.length := by omega
      rw [if_pos (by omega), if_pos (by omega), w64 (x := (i : Int) + 1) (by omega) (by omega), if_pos (by omega), if_pos (by omega), if_pos (by omega), w64 (by omega) (by omega)]
      have e1 : rd l (i : Int) = l[i] := rd_get l i hlt
      have e2 : rd l ((i : Int) + 1) = l[i + 1] := by
        have := rd_get l (i + 1) h1
        rw [show (((i + 1 : Nat)) : Int) = (i : Int) + 1 by omega] at this
        exact this
      have ih := table_loop l hl d (i + 2) k (acc ++ [(⟨rd l (i : Int), rd l ((i : Int) + 1)⟩ : S119)]) (by omega) (by omega) (by omega) (by rw [List.length_append, List.length_singleton]; omega)
      rw [show (((i + 2 : Nat)) : Int) = (i : Int) + 2 by omega] at ih
      rw [ih, e1, e2, List.drop_eq_getElem_cons hlt, List.drop_eq_getElem_cons h1]
      simp [pairsL]
    · rw [if_neg (by omega), List.drop_eq_nil_of_le (by omega)]
      simp [pairsL]
theorem table_eq (l : List Int) (hl : l.length ≤ 1000) (hp : l.length % 2 = 0) (k : Nat) (hk : l.length < k) : cardexref01_table.f k l = some (pairsL l) := by
  obtain ⟨j, rfl⟩ : ∃ j, k = l.length + 1 + j := ⟨k - (l.length + 1), by omega⟩
  have := table_loop l hl l.length 0 j [] (by omega) (by omega) (by omega) (Nat.le_refl _)
  exact this
theorem in_loop (l : List (S119)) (hl : l.length ≤ 1000) (c : Int) : ∀ (d i k : Nat), i + d = l.length → d < k → cardexref01_In.l0 k l c (i : Int) = some ((l.drop i).any (inR c))
  | 0, i, k, hi, hk => by
    obtain ⟨k, rfl⟩ : ∃ j, k = j + 1 := ⟨k - 1, by omega⟩
    rw [cardexref01_In.l0, if_neg (by omega), List.drop_eq_nil_of_le (by omega)]
    rfl
  | d + 1, i, k, hi, hk => by
    obtain ⟨k, rfl⟩ : ∃ j, k = j + 1 := ⟨k - 1, by omega⟩
    have hlt : i < l.length := by omega
    have ih := in_loop l hl c d (i + 1) k (by omega) (by omega)
    rw [show (((i + 1 : Nat)) : Int) = (i : Int) + 1 by omega] at ih
    have e : rd_T119 l (i : Int) = l[i] := by simp [rd_T119, hlt]
    rw [cardexref01_In.l0, if_pos (by omega), if_pos (by omega), w64 (by omega) (by omega), ih, e, List.drop_eq_getElem_cons hlt, List.any_cons]
    unfold inR
    by_cases h1 : l[i].f0 ≤ c
    · rw [if_pos h1, decide_eq_true h1]
      by_cases h2 : c ≤ l[i].f1
      · rw [if_pos h2, decide_eq_true h2]; rfl
      · rw [if_neg h2, decide_eq_false h2]; rfl
    · rw [if_neg h1, decide_eq_false h1]; rfl
theorem in_eq (l : List (S119)) (hl : l.length ≤ 1000) (c : Int) (k : Nat) (hk : l.length < k) : cardexref01_In.f k l c = some (l.any (inR c)) := in_loop l hl c l.length 0 k (by omega) hk
theorem ref_letters (k : Nat) (hk : 20 ≤ k) : cardexref01_Letters.f k = some (pairsL [65, 90, 97, 122, 192, 214, 216, 246, 248, 591, 880, 1327, 19968, 40959]) := by
  unfold cardexref01_Letters.f
  rw [table_eq _ (by decide) (by decide) k (by simp; omega)]; rfl
theorem ref_banned (k : Nat) (hk : 30 ≤ k) : cardexref01_Banned.f k = some (pairsL [0, 31, 127, 160, 5760, 5760, 8192, 8202, 8232, 8239, 8287, 8287, 12288, 12288, 57344, 63743, 65533, 65535, 917504, 917631, 983040, 1114111]) := by
  unfold cardexref01_Banned.f
  rw [table_eq _ (by decide) (by decide) k (by simp; omega)]; rfl
theorem ref_left (k : Nat) (hk : 20 ≤ k) : cardexref01_RightLeft.f k = some (pairsL [1424, 1535, 1536, 1791, 64285, 64335]) := by
  unfold cardexref01_RightLeft.f
  rw [table_eq _ (by decide) (by decide) k (by simp; omega)]; rfl
theorem ref_gone (k : Nat) (hk : 20 ≤ k) : cardexref01_Gone.f k = some (pairsL [173, 173, 847, 847, 6150, 6150, 8203, 8205, 8288, 8288, 65024, 65039, 65279, 65279]) := by
  unfold cardexref01_Gone.f
  rw [table_eq _ (by decide) (by decide) k (by simp; omega)]; rfl
theorem in_letters (k : Nat) (hk : 20 ≤ k) (c : Int) : cardexref01_In.f k (pairsL [65, 90, 97, 122, 192, 214, 216, 246, 248, 591, 880, 1327, 19968, 40959]) c = some (letterB c) := in_eq _ (by decide) c k (by show 7 < k; omega)
theorem in_left (k : Nat) (hk : 20 ≤ k) (c : Int) : cardexref01_In.f k (pairsL [1424, 1535, 1536, 1791, 64285, 64335]) c = some (leftB c) := in_eq _ (by decide) c k (by show 3 < k; omega)
theorem in_gone (k : Nat) (hk : 20 ≤ k) (c : Int) : cardexref01_In.f k (pairsL [173, 173, 847, 847, 6150, 6150, 8203, 8205, 8288, 8288, 65024, 65039, 65279, 65279]) c = some (goneB c) := in_eq _ (by decide) c k (by show 7 < k; omega)
theorem in_banned (k : Nat) (hk : 20 ≤ k) (c : Int) : cardexref01_In.f k (pairsL [0, 31, 127, 160, 5760, 5760, 8192, 8202, 8232, 8239, 8287, 8287, 12288, 12288, 57344, 63743, 65533, 65535, 917504, 917631, 983040, 1114111]) c = some (bannedB c) := in_eq _ (by decide) c k (by show 11 < k; omega)
def mapB (all : Bool) (c : Int) : List Int := if all then smallL c else keptL c
theorem j1_eq (l : List Int) (all : Bool) (acc : List Int) (i : Nat) (c : Int) (k : Nat) (hl : i < 2000000000) (ha : acc.length ≤ 4000000000) (hs : scal c) (hg : goneB c = false) :
    cardexref01_mapped.j1 (k + 1) l all acc (i : Int) c (all && (decide (65 ≤ c ∧ c ≤ 90) || decide (192 ≤ c ∧ c ≤ 222 ∧ c ≠ 215))) = cardexref01_mapped.l0 k l all (acc ++ mapB all c) ((i + 1 : Nat) : Int) := by
  obtain ⟨h0, h1, h2⟩ := hs
  rw [cardexref01_mapped.j1, w64 (x := (i : Int) + 1) (by omega) (by omega), w64 (x := c + 32) (by omega) (by omega)]
  have ei : (((i + 1 : Nat)) : Int) = (i : Int) + 1 := by omega
  rw [ei]
  unfold mapB
  cases all with
  | false =>
    simp only [Bool.false_and, Bool.false_eq_true, if_false]
    unfold keptL
    rw [hg, if_pos (by omega)]
    rfl
  | true =>
    simp only [Bool.true_and, if_true]
    unfold smallL keptL
    by_cases hu : (65 ≤ c ∧ c ≤ 90) ∨ (192 ≤ c ∧ c ≤ 222 ∧ c ≠ 215)
    · rw [if_pos hu, if_pos (by
        rw [Bool.or_eq_true, decide_eq_true_eq, decide_eq_true_eq]; exact hu), if_pos (by omega)]
    · rw [if_neg hu, if_neg (by
        rw [Bool.or_eq_true, decide_eq_true_eq, decide_eq_true_eq]; exact hu)]
      by_cases h3 : c = 223
      · rw [if_pos h3, if_pos h3]
        simp only [Option.bind_some]
        rw [if_pos (by simp; omega)]
      · rw [if_neg h3, if_neg h3, hg, if_pos (by omega)]
        rfl
theorem mapped_loop (l : List Int) (all : Bool) (hl : l.length ≤ 1000000000) (hs : ∀ c ∈ l, scal c) : ∀ (d i k : Nat) (acc : List Int), i + d = l.length → acc.length ≤ 2 * i → cardexref01_mapped.l0 (2 * d + 30 + k) l all acc (i : Int) = some (acc ++ (l.drop i).flatMap (mapB all))
  | 0, i, k, acc, hi, ha => by
    rw [show 2 * 0 + 30 + k = (29 + k) + 1 by omega, cardexref01_mapped.l0, if_neg (by omega), List.drop_eq_nil_of_le (by omega)]
    simp
  | d + 1, i, k, acc, hi, ha => by
    have hlt : i < l.length := by omega
    have e : rd l (i : Int) = l[i] := rd_get l i hlt
    have hc := hs l[i] (List.getElem_mem hlt)
    have hsm : ∀ c, (mapB all c).length ≤ 2 := by
      intro c
      unfold mapB
      split
      · exact smallL_len c
      · exact keptL_len c
    rw [show 2 * (d + 1) + 30 + k = (2 * d + 31 + k) + 1 by omega, cardexref01_mapped.l0, if_pos (by omega), if_pos (by omega), ref_gone _ (by omega)]
    simp only [Option.bind_some]
    rw [in_gone _ (by omega), e]
    simp only [Option.bind_some]
    obtain ⟨c, hcc⟩ : ∃ c, l[i] = c := ⟨_, rfl⟩
    rw [hcc] at hc ⊢
    rw [w64 (x := (i : Int) + 1) (by omega) (by omega)]
    have ih := mapped_loop l all hl hs d (i + 1) k (acc ++ mapB all c) (by omega) (by rw [List.length_append]; have := hsm c; omega)
    have ih0 := mapped_loop l all hl hs d (i + 1) (k + 1) acc (by omega) (by omega)
    have hd : (l.drop i).flatMap (mapB all) = mapB all c ++ (l.drop (i + 1)).flatMap (mapB all) := by
      rw [List.drop_eq_getElem_cons hlt, hcc, List.flatMap_cons]
    rw [hd]
    cases hg : goneB c with
    | true =>
      rw [if_pos rfl]
      obtain ⟨h0, h1, h2⟩ := hc
      have hm : mapB all c = [] := by
        have hr : inTab [173, 173, 847, 847, 6150, 6150, 8203, 8205, 8288, 8288, 65024, 65039, 65279, 65279] c = true := by rw [← gone_tab]; exact hg
        simp only [inTab, Bool.or_eq_true, Bool.and_eq_true, decide_eq_true_eq, Bool.or_false] at hr
        cases all with
        | false =>
          show keptL c = []
          unfold keptL
          rw [hg]; rfl
        | true =>
          show smallL c = []
          unfold smallL keptL
          rw [if_neg (by omega), if_neg (by omega), hg]; rfl
      rw [hm, List.nil_append, show 2 * d + 31 + k = 2 * d + 30 + (k + 1) by omega, show (i : Int) + 1 = ((i + 1 : Nat) : Int) by omega]
      exact ih0
    | false =>
      rw [if_neg (by decide)]
      have hj := j1_eq l all acc i c (2 * d + 30 + k) (by omega) (by omega) hc hg
      rw [show 2 * d + 31 + k = (2 * d + 30 + k) + 1 by omega]
      rw [ih, List.append_assoc] at hj
      rw [← hj]
      cases all with
      | false =>
        simp only [Bool.false_and, Bool.false_eq_true, if_false]
      | true =>
        simp only [Bool.true_and, if_true]
        by_cases g1 : c ≥ 65
        · rw [if_pos g1]
          by_cases g2 : c ≤ 90
          · rw [if_pos g2, show (decide (65 ≤ c ∧ c ≤ 90) || decide (192 ≤ c ∧ c ≤ 222 ∧ c ≠ 215)) = true from by rw [decide_eq_true ⟨g1, g2⟩]; rfl]
          · rw [if_neg g2]
            by_cases g3 : c ≥ 192
            · rw [if_pos g3]
              by_cases g4 : c ≤ 222
              · rw [if_pos g4, show (decide (65 ≤ c ∧ c ≤ 90) || decide (192 ≤ c ∧ c ≤ 222 ∧ c ≠ 215)) = (c != 215) from by
                  rw [decide_eq_false (fun h => g2 h.2), Bool.false_or]
                  by_cases h5 : c = 215
                  · rw [decide_eq_false (fun h => h.2.2 h5), h5]; rfl
                  · rw [decide_eq_true ⟨g3, g4, h5⟩]
                    exact (bne_iff_ne.2 h5).symm]
              · rw [if_neg g4, show (decide (65 ≤ c ∧ c ≤ 90) || decide (192 ≤ c ∧ c ≤ 222 ∧ c ≠ 215)) = false from by rw [decide_eq_false (fun h => g2 h.2), decide_eq_false (fun h => g4 h.2.1)]; rfl]
            · rw [if_neg g3, show (decide (65 ≤ c ∧ c ≤ 90) || decide (192 ≤ c ∧ c ≤ 222 ∧ c ≠ 215)) = false from by rw [decide_eq_false (fun h => g2 h.2), decide_eq_false (fun h => g3 h.1)]; rfl]
        · rw [if_neg g1, if_neg (show ¬ c ≥ 192 by omega), show (decide (65 ≤ c ∧ c ≤ 90) || decide (192 ≤ c ∧ c ≤ 222 ∧ c ≠ 215)) = false from by rw [decide_eq_false (fun h => g1 h.1), decide_eq_false (fun h => by omega)]; rfl]
theorem mapped_eq (l : List Int) (all : Bool) (hl : l.length ≤ 1000000000) (hs : ∀ c ∈ l, scal c) (k : Nat) (hk : 2 * l.length + 30 ≤ k) : cardexref01_mapped.f k l all = some (l.flatMap (mapB all)) := by
  obtain ⟨j, rfl⟩ : ∃ j, k = 2 * l.length + 30 + j := ⟨k - (2 * l.length + 30), by omega⟩
  have := mapped_loop l all hl hs l.length 0 j [] (by omega) (Nat.zero_le _)
  exact this
theorem way_loop (l : List Int) (hl : l.length ≤ 4000000000) : ∀ (d i k : Nat) (r t : Bool), i + d = l.length → cardexref01_way.l0 (d + 30 + k) l r t (i : Int) =
    some (!(r || (l.drop i).any leftB) || (!(t || (l.drop i).any letterB) && leftB (l.getD 0 0) && leftB (l.getD (l.length - 1) 0))) ∨ (r = true ∧ l = [])
  | 0, i, k, r, t, hi => by
    rcases List.eq_nil_or_concat l with hn | ⟨l', c', hn⟩
    · cases r with
      | true => exact .inr ⟨rfl, hn⟩
      | false =>
        left
        rw [show 0 + 30 + k = (29 + k) + 1 by omega, cardexref01_way.l0, if_neg (by omega), if_neg (by decide), List.drop_eq_nil_of_le (by omega)]
        rfl
    · left
      have hp : 0 < l.length := by rw [hn]; simp
      rw [show 0 + 30 + k = (29 + k) + 1 by omega, cardexref01_way.l0, if_neg (by omega), List.drop_eq_nil_of_le (by omega)]
      cases r with
      | false => rfl
      | true =>
        rw [if_pos rfl]
        cases t with
        | true => rfl
        | false =>
          have e0 : rd l 0 = l.getD 0 0 := rfl
          have e1 : rd l (wrap64 ((l.length : Int) - 1)) = l.getD (l.length - 1) 0 := by
            rw [w64 (by omega) (by omega)]
            unfold rd
            rw [show ((l.length : Int) - 1).toNat = l.length - 1 by omega]
          rw [if_neg (by decide), ref_left _ (by omega)]
          simp only [Option.bind_some]
          rw [if_pos (by omega), in_left _ (by omega), e0]
          simp only [Option.bind_some]
          cases h0 : leftB (l.getD 0 0) with
          | false => simp
          | true =>
            rw [if_pos rfl, if_pos (by rw [w64 (by omega) (by omega)]; omega), if_pos (by rw [w64 (by omega) (by omega)]; omega), in_left _ (by omega), e1]
            simp
  | d + 1, i, k, r, t, hi => by
    left
    have hlt : i < l.length := by omega
    have e : rd l (i : Int) = l[i] := rd_get l i hlt
    have hne : l ≠ [] := by intro h; rw [h] at hlt; simp at hlt
    have ih := fun r' t' => (way_loop l hl d (i + 1) k r' t' (by omega)).resolve_right (fun h => hne h.2)
    rw [show d + 1 + 30 + k = (d + 30 + k) + 1 by omega, cardexref01_way.l0, if_pos (by omega), w64 (x := (i : Int) + 1) (by omega) (by omega), show (i : Int) + 1 = ((i + 1 : Nat) : Int) by omega, List.drop_eq_getElem_cons hlt]
    simp only [List.any_cons]
    cases r with
    | true =>
      rw [if_pos rfl]
      cases t with
      | true => rw [if_pos rfl, ih]; simp
      | false =>
        rw [if_neg (by decide), ref_letters _ (by omega)]
        simp only [Option.bind_some]
        rw [if_pos (by omega), in_letters _ (by omega), e]
        simp only [Option.bind_some]
        rw [ih]
        simp
    | false =>
      rw [if_neg (by decide), ref_left _ (by omega)]
      simp only [Option.bind_some]
      rw [if_pos (by omega), in_left _ (by omega), e]
      simp only [Option.bind_some]
      cases t with
      | true => rw [if_pos rfl, ih]; simp
      | false =>
        rw [if_neg (by decide), ref_letters _ (by omega)]
        simp only [Option.bind_some]
        rw [in_letters _ (by omega)]
        simp only [Option.bind_some]
        rw [ih]
        simp
theorem way_eq (l : List Int) (hl : l.length ≤ 4000000000) (k : Nat) (hk : l.length + 30 ≤ k) : cardexref01_way.f k l = some (straightB l) := by
  obtain ⟨j, rfl⟩ : ∃ j, k = l.length + 30 + j := ⟨k - (l.length + 30), by omega⟩
  rcases way_loop l hl l.length 0 j false false (by omega) with h | h
  · unfold cardexref01_way.f
    rw [show ((0 : Int)) = ((0 : Nat) : Int) from rfl, h]
    unfold straightB
    simp only [List.drop_zero, Bool.false_or]
    congr 2
    cases l.any letterB <;> simp
  · cases h.1
theorem texts_loop (l : List Int) (hl : l.length ≤ 4000000000) : ∀ (d i k : Nat) (acc : ByteArray), i + d = l.length → d < k → acc.size ≤ 4 * i → cardexref01_texts.l0 k l acc (i : Int) = some ((l.drop i).foldl (fun out c => out ++ Utf8.encode (wrap32 c)) acc)
  | 0, i, k, acc, hi, hk, ha => by
    obtain ⟨k, rfl⟩ : ∃ j, k = j + 1 := ⟨k - 1, by omega⟩
    rw [cardexref01_texts.l0, if_neg (by omega), List.drop_eq_nil_of_le (by omega)]
    rfl
  | d + 1, i, k, acc, hi, hk, ha => by
    obtain ⟨k, rfl⟩ : ∃ j, k = j + 1 := ⟨k - 1, by omega⟩
    have hlt : i < l.length := by omega
    have e : rd l (i : Int) = l[i] := rd_get l i hlt
    have hz := encode_size (wrap32 l[i])
    rw [cardexref01_texts.l0, if_pos (by omega), if_pos (by omega), e]
    unfold cardexref01_utf.f
    simp only [Option.bind_some]
    rw [if_pos (by omega), w64 (x := (i : Int) + 1) (by omega) (by omega), show (i : Int) + 1 = ((i + 1 : Nat) : Int) by omega]
    rw [texts_loop l hl d (i + 1) k _ (by omega) (by omega) (by rw [ByteArray.size_append]; omega), List.drop_eq_getElem_cons hlt]
    rfl
theorem texts_eq (l : List Int) (hl : l.length ≤ 4000000000) (k : Nat) (hk : l.length < k) : cardexref01_texts.f k l = some (textOf l) := texts_loop l hl l.length 0 k _ (by omega) hk (Nat.le_refl _)
theorem help_in_loop (l : List Int) (hl : l.length ≤ 1000) (c : Int) : ∀ (d i k : Nat), i + d = l.length → d < k → cardexhelp_In_int.l0 k l c (i : Int) = some ((l.drop i).contains c)
  | 0, i, k, hi, hk => by
    obtain ⟨k, rfl⟩ : ∃ j, k = j + 1 := ⟨k - 1, by omega⟩
    rw [cardexhelp_In_int.l0, if_neg (by omega), List.drop_eq_nil_of_le (by omega)]
    rfl
  | d + 1, i, k, hi, hk => by
    obtain ⟨k, rfl⟩ : ∃ j, k = j + 1 := ⟨k - 1, by omega⟩
    have hlt : i < l.length := by omega
    have ih := help_in_loop l hl c d (i + 1) k (by omega) (by omega)
    have e : rd l (i : Int) = l[i] := rd_get l i hlt
    rw [cardexhelp_In_int.l0, if_pos (by omega), if_pos (by omega), w64 (x := (i : Int) + 1) (by omega) (by omega), show (i : Int) + 1 = ((i + 1 : Nat) : Int) by omega, ih, e, List.drop_eq_getElem_cons hlt, List.contains_cons]
    by_cases h : l[i] = c
    · rw [if_pos h, h]; simp
    · rw [if_neg h]
      have : (c == l[i]) = false := by rw [beq_eq_false_iff_ne]; exact fun e => h e.symm
      rw [this]; rfl
def okB (kind : Int) (c : Int) : Bool := if kind = 1 then nodeOk c else if kind = 2 then hostOk c else resOk c
theorem allowed_eq (kind c : Int) (k : Nat) (hk : 40 ≤ k) : cardexref01_allowed.f k kind c = some (okB kind c) := by
  unfold cardexref01_allowed.f okB
  by_cases h1 : kind = 1
  · rw [if_pos h1, if_pos h1, ref_banned _ (by omega)]
    simp only [Option.bind_some]
    rw [in_banned _ (by omega)]
    simp only [Option.bind_some]
    have := help_in_loop [32, 34, 38, 39, 47, 58, 60, 62, 64] (by decide) c 9 0 k rfl (by omega)
    unfold cardexhelp_In_int.f
    rw [show ((0 : Int)) = ((0 : Nat) : Int) from rfl, this]
    unfold nodeOk nodeBad
    cases bannedB c <;> rfl
  · rw [if_neg h1, if_neg h1]
    by_cases h2 : kind = 2
    · rw [if_pos h2, if_pos h2, ref_letters _ (by omega), ref_left _ (by omega)]
      simp only [Option.bind_some]
      rw [in_letters _ (by omega), in_left _ (by omega)]
      simp only [Option.bind_some]
      unfold hostOk
      have tail : (if c = 45 then some true else if c = 46 then some true else if letterB c = true then some true else some (leftB c)) = some (c == 45 || c == 46 || letterB c || leftB c) := by
        by_cases a : c = 45
        · rw [if_pos a, a]; rfl
        · rw [if_neg a, beq_eq_false_iff_ne.2 a]
          by_cases b : c = 46
          · rw [if_pos b, b]; rfl
          · rw [if_neg b, beq_eq_false_iff_ne.2 b]
            cases letterB c <;> rfl
      rw [tail]
      by_cases a : c ≥ 48
      · rw [if_pos a, decide_eq_true (show 48 ≤ c from a)]
        by_cases b : c ≤ 57
        · rw [if_pos b, decide_eq_true b]; rfl
        · rw [if_neg b, decide_eq_false b]; rfl
      · rw [if_neg a, decide_eq_false (show ¬ 48 ≤ c from a)]; rfl
    · rw [if_neg h2, if_neg h2, ref_banned _ (by omega)]
      simp only [Option.bind_some]
      rw [in_banned _ (by omega)]
      rfl
theorem prep_loop (kind : Int) (l : List Int) (hl : l.length ≤ 4000000000) : ∀ (d i k : Nat), i + d = l.length → cardexref01_prep.l0 (d + l.length + 50 + k) kind l (i : Int) =
    some (if ((l.drop i).any fun x => !okB kind x) then ((⟨#[]⟩ : ByteArray), 15) else if straightB l = true then (textOf l, 0) else ((⟨#[]⟩ : ByteArray), 16))
  | 0, i, k, hi => by
    rw [show 0 + l.length + 50 + k = (l.length + 49 + k) + 1 by omega, cardexref01_prep.l0, if_neg (by omega), way_eq l hl _ (by omega), texts_eq l hl _ (by omega), List.drop_eq_nil_of_le (by omega)]
    simp only [Option.bind_some, List.any_nil, Bool.false_eq_true, if_false]
    split <;> rfl
  | d + 1, i, k, hi => by
    have hlt : i < l.length := by omega
    have e : rd l (i : Int) = l[i] := rd_get l i hlt
    rw [show d + 1 + l.length + 50 + k = (d + l.length + 50 + k) + 1 by omega, cardexref01_prep.l0, if_pos (by omega), if_pos (by omega), e, allowed_eq _ _ _ (by omega), List.drop_eq_getElem_cons hlt, List.any_cons]
    simp only [Option.bind_some]
    rw [w64 (x := (i : Int) + 1) (by omega) (by omega), show (i : Int) + 1 = ((i + 1 : Nat) : Int) by omega, prep_loop kind l hl d (i + 1) k (by omega)]
    cases okB kind l[i] with
    | true => rfl
    | false => rfl
def profT (kind : Int) : Int → List Int := mapB (kind != 3)
theorem prep_eq (s : ByteArray) (hs : s.size ≤ 100000000) (kind : Int) : ∃ K, ∀ k, K ≤ k → cardexref01_prep.f k s kind = some (ofP (profT kind) (okB kind) s) := by
  have hlen : ((runesI s).flatMap (profT kind)).length ≤ 2 * (runesI s).length := flat_len _ (by
    intro c
    unfold profT mapB
    split
    · exact smallL_len c
    · exact keptL_len c) _
  have hr := runesI_len s
  refine ⟨8 * s.size + 200, fun k hk => ?_⟩
  unfold cardexref01_prep.f ofP
  rw [ref_valid s (by omega) k (by omega)]
  simp only [Option.bind_some]
  cases hv : validT s with
  | false => rfl
  | true =>
    rw [if_pos rfl, if_pos rfl, ref_runes s (by omega) k (by omega), hv, if_pos rfl]
    simp only [Option.bind_some]
    rw [mapped_eq (runesI s) _ (by omega) (fun c hc => runes_scal _ _ c hc) k (by omega)]
    simp only [Option.bind_some]
    obtain ⟨j, rfl⟩ : ∃ j, k = ((runesI s).flatMap (profT kind)).length + ((runesI s).flatMap (profT kind)).length + 50 + j := ⟨k - (((runesI s).flatMap (profT kind)).length + ((runesI s).flatMap (profT kind)).length + 50), by omega⟩
    have := prep_loop kind ((runesI s).flatMap (profT kind)) (by omega) ((runesI s).flatMap (profT kind)).length 0 j (by omega)
    exact this
end Go.Proofs.YtaekklpphlcngaaGreatDoor.P
end
section
namespace Go.Proofs.YtaekklpphlcngaaGreatDoor.P
open Go.RowKit Go.Lib Go.Proofs.YtaekklpphlcngaaGreatDoorX Go.Proofs.YtaekklpphlcngaaGreatDoorW.PrintWords Go.Proofs.YtaekklpphlcngaaGreatDoor.Q
set_option linter.unusedVariables false
set_option linter.unusedSimpArgs false
theorem byte_get (s : ByteArray) (i : Nat) (h : i < s.size) : ∃ h' : i < s.data.toList.length, byte s i = (s.data.toList[i]).toNat := by
  have hl : i < s.data.toList.length := by rw [Array.length_toList]; exact h
  exact ⟨hl, by unfold byte; rw [List.getD_eq_getElem?_getD, List.getElem?_eq_getElem hl, Option.getD_some]⟩
theorem cut_loop (s : ByteArray) (b : UInt8) (hs : s.size ≤ 140737488351232) : ∀ (d i k : Nat), i + d = s.size → d < k → b ∉ s.data.toList.take i →
    cardexref01_cut.l0 k s (b.toNat : Int) (i : Int) = some (ba (Lib.cut s.data.toList [b]).1, ba (Lib.cut s.data.toList [b]).2.1, (Lib.cut s.data.toList [b]).2.2)
  | 0, i, k, hi, hk, hn => by
    obtain ⟨k, rfl⟩ : ∃ j, k = j + 1 := ⟨k - 1, by omega⟩
    rw [List.take_of_length_le (by rw [size_list]; omega)] at hn
    rw [cardexref01_cut.l0, if_neg (by omega), cut_none b _ hn]
    rfl
  | d + 1, i, k, hi, hk, hn => by
    obtain ⟨k, rfl⟩ : ∃ j, k = j + 1 := ⟨k - 1, by omega⟩
    obtain ⟨hl, hb⟩ := byte_get s i (by omega)
    rw [cardexref01_cut.l0, if_pos (by omega), if_pos (by omega), bt_byte, w64 (x := (i : Int) + 1) (by omega) (by omega), hb]
    by_cases h : s.data.toList[i] = b
    · rw [if_pos (by rw [h]), if_pos (by omega), if_pos (by omega), if_pos (by omega)]
      have hsp : s.data.toList = s.data.toList.take i ++ b :: s.data.toList.drop (i + 1) := by
        have := List.drop_eq_getElem_cons hl
        rw [h] at this
        rw [← this, List.take_append_drop]
      have hc := cut_some b (s.data.toList.take i) (s.data.toList.drop (i + 1)) hn
      rw [← hsp] at hc
      rw [hc]
      have e1 : s.extract 0 (i : Int).toNat = ba (s.data.toList.take i) := by
        have := ba_extract s.data.toList 0 i
        rw [ba_of] at this
        rw [Int.toNat_natCast, this, List.drop_zero]
      have e2 : s.extract ((i : Int) + 1).toNat s.size = ba (s.data.toList.drop (i + 1)) := by
        have := ba_extract s.data.toList (i + 1) s.size
        rw [ba_of] at this
        rw [show ((i : Int) + 1).toNat = i + 1 by omega, this, List.take_of_length_le (by rw [size_list]; omega)]
      rw [e1, e2]
    · rw [if_neg (by
        intro e
        apply h
        exact UInt8.toNat_inj.1 (by omega)), show (i : Int) + 1 = ((i + 1 : Nat) : Int) by omega]
      refine cut_loop s b hs d (i + 1) k (by omega) (by omega) ?_
      rw [List.take_succ_eq_append_getElem hl]
      intro e
      rcases List.mem_append.1 e with e | e
      · exact hn e
      · exact h (List.mem_singleton.1 e).symm
theorem ref_cut (s : ByteArray) (b : UInt8) (hs : s.size ≤ 140737488351232) (k : Nat) (hk : s.size < k) :
    cardexref01_cut.f k s (b.toNat : Int) = some (ba (Lib.cut s.data.toList [b]).1, ba (Lib.cut s.data.toList [b]).2.1, (Lib.cut s.data.toList [b]).2.2) :=
  cut_loop s b hs s.size 0 k (by omega) hk (by simp)
theorem pieces_span (c : UInt8) : ∀ (p q : List UInt8), c ∉ p → pieces c (p ++ c :: q) = p :: pieces c q
  | [], q, _ => by rw [List.nil_append, pieces, if_pos rfl]
  | b :: p, q, h => by
    have h1 : b ≠ c := fun e => h (by rw [e]; exact .head _)
    rw [List.cons_append, pieces, if_neg h1, pieces_span c p q (fun e => h (.tail _ e))]
theorem pieces_last_one (c : UInt8) : ∀ l : List UInt8, c ∉ l → pieces c l = [l]
  | [], _ => rfl
  | b :: l, h => by
    have h1 : b ≠ c := fun e => h (by rw [e]; exact .head _)
    rw [pieces, if_neg h1, pieces_last_one c l (fun e => h (.tail _ e))]
theorem getD_last (s : ByteArray) (h : 0 < s.size) : bt s ((s.size : Int) - 1) = ((s.data.toList.getLast (by intro e; have := size_list s; rw [e] at this; simp at this; omega)).toNat : Int) := by
  rw [show (s.size : Int) - 1 = ((s.size - 1 : Nat) : Int) by omega, bt_byte]
  obtain ⟨hl, hb⟩ := byte_get s (s.size - 1) (by omega)
  rw [hb, List.getLast_eq_getElem]
  congr 2
theorem piece_eq (s x : ByteArray) (X4 : ByteArray) (e : Int) (i : Nat) (k : Nat) (hx : x.size ≤ 140737488351232) (R : Option (ByteArray × Int)) :
    (if x.toList = ([] : List UInt8) then (some ((⟨#[]⟩ : ByteArray), (14 : Int))) else (if 0 < (x.size : Int) then (if (bt x 0) = 45 then (some ((⟨#[]⟩ : ByteArray), 14)) else (if 0 ≤ (wrap64 ((x.size : Int) - 1)) then (if (wrap64 ((x.size : Int) - 1)) < (x.size : Int) then (if (bt x (wrap64 ((x.size : Int) - 1))) = 45 then (some ((⟨#[]⟩ : ByteArray), 14)) else R) else (none)) else (none))) else (none))) =
    if pOk x.data.toList = true then R else some (ba [], 14) := by
  rw [ByteArray.toList_eq]
  unfold pOk
  by_cases h : x.data.toList = []
  · rw [if_pos h, h]; rfl
  · have hp : 0 < x.size := by
      rw [← size_list]
      exact List.length_pos_iff.2 h
    have hd : x.data.toList.head? = some (x.data.toList.head h) := List.head?_eq_some_head h
    have hla : x.data.toList.getLast? = some (x.data.toList.getLast h) := List.getLast?_eq_some_getLast h
    have hb0 : bt x 0 = ((x.data.toList.head h).toNat : Int) := by
      rw [show (0 : Int) = ((0 : Nat) : Int) from rfl, bt_byte]
      obtain ⟨hl, hb⟩ := byte_get x 0 hp
      rw [hb, List.head_eq_getElem]
    have w1 : wrap64 ((x.size : Int) - 1) = (x.size : Int) - 1 := w64 (by omega) (by omega)
    rw [if_neg h, if_pos (show 0 < (x.size : Int) by omega), hb0, w1, if_pos (show (0 : Int) ≤ (x.size : Int) - 1 by omega), if_pos (show (x.size : Int) - 1 < (x.size : Int) by omega), getD_last x hp, hd, hla]
    have h1 : (x.data.toList == []) = false := beq_eq_false_iff_ne.2 h
    rw [h1]
    have cmp : ∀ c : UInt8, ((c.toNat : Nat) : Int) = 45 ↔ c = 45 := fun c => ⟨fun e => UInt8.toNat_inj.1 (by have : (45 : UInt8).toNat = 45 := rfl; omega), fun e => by rw [e]; rfl⟩
    by_cases c1 : x.data.toList.head h = 45
    · rw [if_pos ((cmp _).2 c1), c1]; rfl
    · rw [if_neg (fun e => c1 ((cmp _).1 e))]
      have b1 : (some (x.data.toList.head h) == some (45 : UInt8)) = false := by rw [beq_eq_false_iff_ne]; intro e; exact c1 (Option.some.inj e)
      rw [b1]
      by_cases c2 : x.data.toList.getLast h = 45
      · rw [if_pos ((cmp _).2 c2), c2]; rfl
      · rw [if_neg (fun e => c2 ((cmp _).1 e))]
        have b2 : (some (x.data.toList.getLast h) == some (45 : UInt8)) = false := by rw [beq_eq_false_iff_ne]; intro e; exact c2 (Option.some.inj e)
        rw [b2]; rfl
theorem dom_loop (l : List UInt8) (e : Int) (hs : l.length ≤ 100000000) : ∀ (d fr i k : Nat), i + d = l.length → fr ≤ i → (46 : UInt8) ∉ (l.drop fr).take (i - fr) →
    cardexref01_Domain.l0 (2 * d + 4 + k) (ba l) e (fr : Int) (i : Int) = some (if (pieces 46 (l.drop fr)).all pOk = true then (ba l, e) else (ba [], 14))
  | 0, fr, i, k, hi, hf, hn => by
    have hdr : (l.drop fr).take (i - fr) = l.drop fr := List.take_of_length_le (by rw [List.length_drop]; omega)
    rw [hdr] at hn
    have ex : (ba l).extract (fr : Int).toNat (i : Int).toNat = ba (l.drop fr) := by
      rw [Int.toNat_natCast, Int.toNat_natCast, ba_extract, List.take_of_length_le (by omega)]
    rw [show 2 * 0 + 4 + k = (3 + k) + 1 by omega, cardexref01_Domain.l0, ba_size, if_pos (by omega), if_neg (by omega), show 3 + k = (2 + k) + 1 by omega, cardexref01_Domain.j4, if_neg (by decide), if_pos (by omega), if_pos (by omega), ba_size, if_pos (by omega)]
    simp only [Option.bind_some]
    rw [ex, w64 (x := (i : Int) + 1) (by omega) (by omega)]
    have hend : cardexref01_Domain.l0 (2 + k) (ba l) e ((i : Int) + 1) ((i : Int) + 1) = some (ba l, e) := by
      rw [show 2 + k = (1 + k) + 1 by omega, cardexref01_Domain.l0, ba_size, if_neg (by omega)]
    rw [hend]
    have := piece_eq (ba l) (ba (l.drop fr)) (ba l) e i k (by rw [ba_size, List.length_drop]; omega) (some (ba l, e))
    rw [this, ba_list, pieces_last_one 46 _ hn]
    simp only [List.all_cons, List.all_nil, Bool.and_true]
    split <;> rfl
  | d + 1, fr, i, k, hi, hf, hn => by
    have hlt : i < l.length := by omega
    have hb : bt (ba l) (i : Int) = ((l[i]).toNat : Int) := by
      rw [bt_byte]
      unfold byte
      rw [ba_list, List.getD_eq_getElem?_getD, List.getElem?_eq_getElem hlt, Option.getD_some]
    rw [show 2 * (d + 1) + 4 + k = ((2 * d + 4 + k) + 1) + 1 by omega, cardexref01_Domain.l0, ba_size, if_pos (by omega), if_pos (by omega), if_pos (by omega), hb, cardexref01_Domain.j4, w64 (x := (i : Int) + 1) (by omega) (by omega), show (i : Int) + 1 = ((i + 1 : Nat) : Int) by omega]
    by_cases h46 : l[i] = 46
    · have h0 : ((((l[i]).toNat : Nat) : Int) != 46) = false := by rw [h46]; rfl
      rw [h0, if_neg (by decide), if_pos (by omega), if_pos (by omega), ba_size, if_pos (by omega)]
      simp only [Option.bind_some]
      have ex : (ba l).extract (fr : Int).toNat (i : Int).toNat = ba ((l.drop fr).take (i - fr)) := by
        rw [Int.toNat_natCast, Int.toNat_natCast, ba_extract, List.drop_take]
      rw [ex]
      have hsp : l.drop fr = (l.drop fr).take (i - fr) ++ 46 :: l.drop (i + 1) := by
        have h1 := (List.take_append_drop (i - fr) (l.drop fr)).symm
        rw [List.drop_drop, show fr + (i - fr) = i by omega, List.drop_eq_getElem_cons hlt, h46] at h1
        exact h1
      have ih := dom_loop l e hs d (i + 1) (i + 1) k (by omega) (Nat.le_refl _) (by simp)
      rw [ih]
      have := piece_eq (ba l) (ba ((l.drop fr).take (i - fr))) (ba l) e i k (by rw [ba_size, List.length_take, List.length_drop]; omega) (some (if (pieces 46 (l.drop (i + 1))).all pOk = true then (ba l, e) else (ba [], 14)))
      rw [this, ba_list]
      have hpc : pieces 46 (l.drop fr) = (l.drop fr).take (i - fr) :: pieces 46 (l.drop (i + 1)) := by
        have := pieces_span 46 ((l.drop fr).take (i - fr)) (l.drop (i + 1)) hn
        rw [← hsp] at this
        exact this
      rw [hpc, List.all_cons]
      cases pOk ((l.drop fr).take (i - fr)) with
      | true => rfl
      | false => rfl
    · have h1 : ((((l[i]).toNat : Nat) : Int) != 46) = true := by
        rw [bne_iff_ne]
        intro e1
        apply h46
        exact UInt8.toNat_inj.1 (by have : (46 : UInt8).toNat = 46 := rfl; omega)
      rw [h1, if_pos rfl]
      refine (congrArg (fun z => cardexref01_Domain.l0 z (ba l) e (fr : Int) ((i + 1 : Nat) : Int)) (show 2 * d + 4 + k = 2 * d + 4 + k from rfl)).trans (dom_loop l e hs d fr (i + 1) k (by omega) (by omega) ?_)
      rw [show i + 1 - fr = (i - fr) + 1 by omega, List.take_succ_eq_append_getElem (by rw [List.length_drop]; omega)]
      intro e1
      rcases List.mem_append.1 e1 with e1 | e1
      · exact hn e1
      · have := List.mem_singleton.1 e1
        rw [List.getElem_drop] at this
        apply h46
        rw [this]
        congr 1
        omega
theorem ref_host (s : ByteArray) (hs : s.size ≤ 1000000) : ∃ K, ∀ k, K ≤ k → cardexref01_Host.f k s = some (ofP smallL hostOk s) := by
  obtain ⟨K, hK⟩ := prep_eq s (by omega) 2
  refine ⟨K, fun k hk => ?_⟩
  unfold cardexref01_Host.f
  rw [hK k hk]
  rfl
theorem ref_node (s : ByteArray) (hs : s.size ≤ 1000000) : ∃ K, ∀ k, K ≤ k → cardexref01_Node.f k s = some (ofP smallL nodeOk s) := by
  obtain ⟨K, hK⟩ := prep_eq s (by omega) 1
  refine ⟨K, fun k hk => ?_⟩
  unfold cardexref01_Node.f
  rw [hK k hk]
  rfl
theorem ref_res (s : ByteArray) (hs : s.size ≤ 1000000) : ∃ K, ∀ k, K ≤ k → cardexref01_Resource.f k s = some (ofP keptL resOk s) := by
  obtain ⟨K, hK⟩ := prep_eq s (by omega) 3
  refine ⟨K, fun k hk => ?_⟩
  unfold cardexref01_Resource.f
  rw [hK k hk]
  rfl
theorem dom_tail (l : List UInt8) (hs : l.length ≤ 100000000) (k : Nat) (hk : 2 * l.length + 10 ≤ k) :
    cardexref01_Domain.j1 k (ba l) 0 = some (if 100 < l.length then (ba [], 14) else if rightP l = true then (ba l, 0) else (ba [], 14)) := by
  obtain ⟨k, rfl⟩ : ∃ j, k = (2 * l.length + 4 + j) + 2 := ⟨k - (2 * l.length + 6), by omega⟩
  rw [cardexref01_Domain.j1, ba_size]
  by_cases h0 : (l.length : Int) < 1
  · have hn : l = [] := List.length_eq_zero_iff.1 (by omega)
    subst hn
    rw [if_pos h0, cardexref01_Domain.j2, if_pos rfl, if_neg (by simp), right_nil]
    rfl
  · rw [if_neg h0, cardexref01_Domain.j2]
    by_cases h1 : 100 < l.length
    · rw [decide_eq_true (show (l.length : Int) > 100 by omega), if_pos rfl, if_pos h1]
      rfl
    · rw [decide_eq_false (show ¬ (l.length : Int) > 100 by omega), if_neg (by decide), if_neg h1]
      have := dom_loop l 0 hs l.length 0 0 k (by omega) (Nat.le_refl _) (by simp)
      rw [show ((0 : Nat) : Int) = (0 : Int) from rfl, List.drop_zero] at this
      rw [this, right_pieces]
theorem ref_domain (s : ByteArray) (hs : s.size ≤ 1000000) : ∃ K, ∀ k, K ≤ k → cardexref01_Domain.f k s = some (domP s) := by
  obtain ⟨K, hK⟩ := ref_host s hs
  have hz := of_size smallL hostOk smallL_len s
  have hz2 := trimDot_len (ofP smallL hostOk s).1.data.toList
  rw [size_list] at hz2
  refine ⟨K + 2 * (8 * s.size) + 100, fun k hk => ?_⟩
  unfold cardexref01_Domain.f domP
  rw [hK k (by omega)]
  simp only [Option.bind_some]
  obtain ⟨⟨y, e⟩, hy⟩ : ∃ y, ofP smallL hostOk s = y := ⟨_, rfl⟩
  rw [hy] at hz hz2 ⊢
  simp only at hz hz2 ⊢
  by_cases he : e = 0
  · subst he
    rw [if_pos rfl, if_pos rfl, ByteArray.toList_eq]
    obtain ⟨k, rfl⟩ : ∃ j, k = j + 1 := ⟨k - 1, by omega⟩
    have hj0 : ∀ (b : Bool), b = decide (y.data.toList.getLast? = some 46) → cardexref01_Domain.j0 (k + 1) y 0 b = some (if 100 < (trimDot y.data.toList).length then (ba [], 14) else if rightP (trimDot y.data.toList) = true then (ba (trimDot y.data.toList), 0) else (ba [], 14)) := by
      intro b hb
      rw [cardexref01_Domain.j0, hb]
      by_cases hd : y.data.toList.getLast? = some 46
      · have hp : 0 < y.size := by
          rw [← size_list]
          cases hl : y.data.toList with
          | nil => rw [hl] at hd; cases hd
          | cons _ _ => simp
        have ht : trimDot y.data.toList = y.data.toList.dropLast := by unfold trimDot; rw [if_pos hd]
        rw [decide_eq_true hd, if_pos rfl, w64 (by omega) (by omega), if_pos (by omega), if_pos (by omega)]
        have ex : y.extract 0 ((y.size : Int) - 1).toNat = ba (trimDot y.data.toList) := by
          have := ba_extract y.data.toList 0 (y.size - 1)
          rw [ba_of, List.drop_zero] at this
          rw [show ((y.size : Int) - 1).toNat = y.size - 1 by omega, this, ht, List.dropLast_eq_take, size_list]
        rw [ex, dom_tail _ (by omega) k (by omega)]
      · have ht : trimDot y.data.toList = y.data.toList := by unfold trimDot; rw [if_neg hd]
        rw [decide_eq_false hd, if_neg (by decide), ht]
        have := dom_tail y.data.toList (by rw [size_list]; omega) k (by rw [size_list]; omega)
        rw [ba_of] at this
        exact this
    by_cases hn : y.data.toList = []
    · rw [if_pos hn, hj0 false (by rw [hn]; rfl)]
    · have hp : 0 < y.size := by rw [← size_list]; exact List.length_pos_iff.2 hn
      have w1 : wrap64 ((y.size : Int) - 1) = (y.size : Int) - 1 := w64 (by omega) (by omega)
      rw [if_neg hn, w1, if_pos (by omega), if_pos (by omega), getD_last y hp]
      refine hj0 _ ?_
      rw [List.getLast?_eq_some_getLast hn]
      by_cases hc : y.data.toList.getLast hn = 46
      · rw [hc]; rfl
      · rw [decide_eq_false (fun e => hc (Option.some.inj e)), beq_eq_false_iff_ne]
        intro e
        apply hc
        exact UInt8.toNat_inj.1 (by have : (46 : UInt8).toNat = 46 := rfl; omega)
  · rw [if_neg he, if_neg he]
    rfl
end Go.Proofs.YtaekklpphlcngaaGreatDoor.P
end
section
namespace Go.Proofs.YtaekklpphlcngaaGreatDoor.P
open Go.RowKit Go.Lib Go.Proofs.YtaekklpphlcngaaGreatDoorX Go.Proofs.YtaekklpphlcngaaGreatDoorW.PrintWords Go.Proofs.YtaekklpphlcngaaGreatDoor.Q
set_option linter.unusedVariables false
set_option linter.unusedSimpArgs false
theorem cut47 (s : ByteArray) (hs : s.size ≤ 140737488351232) (k : Nat) (hk : s.size < k) : cardexref01_cut.f k s 47 = some (ba (Lib.cut s.data.toList [47]).1, ba (Lib.cut s.data.toList [47]).2.1, (Lib.cut s.data.toList [47]).2.2) := ref_cut s 47 hs k hk
theorem cut64 (s : ByteArray) (hs : s.size ≤ 140737488351232) (k : Nat) (hk : s.size < k) : cardexref01_cut.f k s 64 = some (ba (Lib.cut s.data.toList [64]).1, ba (Lib.cut s.data.toList [64]).2.1, (Lib.cut s.data.toList [64]).2.2) := ref_cut s 64 hs k hk
def refParse (local_ : List UInt8) (is : Bool) (dom : List UInt8) (res : List UInt8) (has : Bool) : ByteArray × ByteArray × ByteArray × Int :=
  if (domP (ba dom)).2 = 0 then
    (if (nodeP local_ is).2 = 0 then
      (if (resP res has).2 = 0 then ((nodeP local_ is).1, (domP (ba dom)).1, (resP res has).1, 0) else (ba [], ba [], ba [], (resP res has).2))
     else (ba [], ba [], ba [], (nodeP local_ is).2))
  else (ba [], ba [], ba [], (domP (ba dom)).2)
theorem ref_j0 (l d r : List UInt8) (is has : Bool) (hl : l.length ≤ 1000000) (hd : d.length ≤ 1000000) (hr : r.length ≤ 1000000) :
    ∃ K, ∀ k, K ≤ k → cardexref01_Parse.j0 (k + 2) (ba r) has (ba l) (ba d) is = some (refParse l is d r has) := by
  obtain ⟨K1, h1⟩ := ref_domain (ba d) (by rw [ba_size]; omega)
  obtain ⟨K2, h2⟩ := ref_node (ba l) (by rw [ba_size]; omega)
  obtain ⟨K3, h3⟩ := ref_res (ba r) (by rw [ba_size]; omega)
  refine ⟨K1 + K2 + K3, fun k hk => ?_⟩
  rw [cardexref01_Parse.j0, h1 _ (by omega)]
  simp only [Option.bind_some]
  unfold refParse
  by_cases hd0 : (domP (ba d)).2 = 0
  · rw [if_pos hd0, if_pos hd0, h2 _ (by omega)]
    simp only [Option.bind_some]
    have hj1 : cardexref01_Parse.j1 (k + 1) (ba r) has (domP (ba d)).1 (ofP smallL nodeOk (ba l)).1 = some (if (resP r has).2 = 0 then ((ofP smallL nodeOk (ba l)).1, (domP (ba d)).1, (resP r has).1, 0) else (ba [], ba [], ba [], (resP r has).2)) := by
      rw [cardexref01_Parse.j1, h3 _ (by omega)]
      simp only [Option.bind_some]
      unfold resP keptR
      obtain ⟨⟨y, e⟩, hy⟩ : ∃ y, ofP keptL resOk (ba r) = y := ⟨_, rfl⟩
      rw [hy]
      simp only
      by_cases he : e = 0
      · subst he
        cases has with
        | false => simp
        | true =>
          by_cases c1 : (y.size : Int) < 1
          · have c1' : y.size = 0 := by omega
            simp [c1', ba]
          · by_cases c2 : (y.size : Int) > 64
            · have c2' : ¬ y.size = 0 := by omega
              have c2'' : (64 : Int) < y.size := c2
              simp [c2', c2'', ba]
            · have c2' : ¬ y.size = 0 := by omega
              have c2'' : ¬ (64 : Int) < y.size := c2
              simp [c2', c2'']
              omega
      · simp [he, ba]
    unfold nodeP keptR
    obtain ⟨⟨y, e⟩, hy⟩ : ∃ y, ofP smallL nodeOk (ba l) = y := ⟨_, rfl⟩
    rw [hy] at hj1 ⊢
    simp only at hj1 ⊢
    by_cases he : e = 0
    · subst he
      rw [hj1]
      cases is with
      | false => simp
      | true =>
        by_cases c1 : (y.size : Int) < 1
        · have c1' : y.size = 0 := by omega
          simp [c1', ba]
        · by_cases c2 : (y.size : Int) > 64
          · have c2' : ¬ y.size = 0 := by omega
            have c2'' : (64 : Int) < y.size := c2
            simp [c2', c2'', ba]
          · have c2' : ¬ y.size = 0 := by omega
            have c2'' : ¬ (64 : Int) < y.size := c2
            simp [c2', c2'']
            intro hc
            exfalso
            omega
    · simp [he, ba]
  · rw [if_neg hd0, if_neg hd0]
    rfl
theorem ref_parse (s : ByteArray) (hs : s.size ≤ 100000) : ∃ K, ∀ k, K ≤ k → cardexref01_Parse.f k s = some (parseL s.data.toList) := by
  have hp := parts_len s.data.toList
  rw [size_list] at hp
  have hc := cut_len s.data.toList [47]
  rw [size_list] at hc
  obtain ⟨K, hK⟩ := ref_j0 (partsP s.data.toList).1 (partsP s.data.toList).2.2.1 (partsP s.data.toList).2.2.2.1 (partsP s.data.toList).2.1 (partsP s.data.toList).2.2.2.2 (by omega) (by omega) (by omega)
  refine ⟨K + s.size + 10, fun k hk => ?_⟩
  obtain ⟨k, rfl⟩ : ∃ j, k = j + 2 := ⟨k - 2, by omega⟩
  have e := hK k (by omega)
  have he : refParse (partsP s.data.toList).1 (partsP s.data.toList).2.1 (partsP s.data.toList).2.2.1 (partsP s.data.toList).2.2.2.1 (partsP s.data.toList).2.2.2.2 = parseL s.data.toList := rfl
  rw [he] at e
  unfold cardexref01_Parse.f
  rw [cut47 s (by omega) _ (by omega)]
  simp only [Option.bind_some]
  rw [cut64 _ (by rw [ba_size]; omega) _ (by rw [ba_size]; omega), ba_list]
  simp only [Option.bind_some]
  unfold partsP at e
  by_cases h : (Lib.cut (Lib.cut s.data.toList [47]).1 [64]).2.2 = true
  · rw [if_pos h] at e ⊢
    rw [h]
    exact e
  · rw [if_neg h] at e ⊢
    rw [Bool.eq_false_iff.2 h]
    exact e
theorem ref_text (a b c : List UInt8) (h : a.length + b.length + c.length ≤ 4611686018427387904) : cardexref01_JidText.f (ba a) (ba b) (ba c) = some (ba (textL a b c)) := by
  unfold cardexref01_JidText.f textL
  have e1 : (⟨#[64]⟩ : ByteArray) = ba [64] := rfl
  have e2 : (⟨#[47]⟩ : ByteArray) = ba [47] := rfl
  rw [ba_toList, ba_toList, e1, e2]
  simp only [ba_append, ba_size, List.length_append, List.length_cons, List.length_nil]
  by_cases ha : a = []
  · rw [if_pos ha, if_pos ha]
    by_cases hc : c = []
    · rw [if_pos hc, if_pos hc, List.append_nil]
    · rw [if_neg hc, if_neg hc, if_pos (by omega), if_pos (by omega)]
      simp
  · rw [if_neg ha, if_neg ha, if_pos (by omega), if_pos (by omega)]
    by_cases hc : c = []
    · rw [if_pos hc, if_pos hc, List.append_nil]
      simp
    · rw [if_neg hc, if_neg hc, if_pos (by omega), if_pos (by omega)]
      simp
theorem ref_bare (s : ByteArray) (hs : s.size ≤ 100000) : ∃ K, ∀ k, K ≤ k → cardexref01_Bare.f k s = some (bareL s.data.toList) := by
  obtain ⟨K, hK⟩ := ref_parse s hs
  refine ⟨K + 1, fun k hk => ?_⟩
  obtain ⟨k, rfl⟩ : ∃ j, k = j + 1 := ⟨k - 1, by omega⟩
  unfold cardexref01_Bare.f bareL
  rw [hK _ (by omega)]
  simp only [Option.bind_some]
  obtain ⟨⟨a, b, c, e⟩, hp⟩ : ∃ p, parseL s.data.toList = p := ⟨_, rfl⟩
  rw [hp]
  simp only
  by_cases h0 : e = 0
  · subst h0
    have hok := parse_ok hp
    have hl := hok.len
    have ht := ref_text a.data.toList b.data.toList c.data.toList (by rw [size_list, size_list, size_list]; omega)
    rw [ba_of, ba_of, ba_of] at ht
    rw [if_pos rfl, if_pos rfl, cardexref01_Bare.j0, ByteArray.toList_eq]
    by_cases hc : c.data.toList = []
    · rw [if_pos hc, hc]
      simp only [bne_self_eq_false, Bool.false_eq_true, if_false, if_true]
      rw [ht]
      simp [hc]
    · have hb : (c.data.toList != []) = true := bne_iff_ne.2 hc
      rw [if_neg hc, hb, if_pos rfl]
      rfl
  · rw [if_neg h0, if_neg h0, cardexref01_Bare.j0, if_neg (by decide), if_neg h0]
    rfl
end Go.Proofs.YtaekklpphlcngaaGreatDoor.P
end
