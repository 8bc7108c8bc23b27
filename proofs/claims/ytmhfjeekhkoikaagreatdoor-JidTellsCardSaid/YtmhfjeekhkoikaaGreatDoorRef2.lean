/- Plain law of this session: the reference's ranges and profiles are the program's. -/
import Derived.Test.YtmhfjeekhkoikaaGreatDoorRef1
import Derived.Test.YtmhfjeekhkoikaaGreatDoorJid
namespace Go.Proofs.YtmhfjeekhkoikaaGreatDoor.P
open Go.RowKit Go.Lib Go.Proofs.YtmhfjeekhkoikaaGreatDoorX Go.Proofs.YtmhfjeekhkoikaaGreatDoorW.PrintWords Go.Proofs.YtmhfjeekhkoikaaGreatDoor.Q
set_option linter.unusedVariables false
set_option linter.unusedSimpArgs false
theorem table_loop (l : List Int) (hl : l.length ≤ 1000) : ∀ (d i k : Nat) (acc : List (S69)), l.length ≤ i + 2 * d → i ≤ l.length → (l.length - i) % 2 = 0 → acc.length ≤ i → cardexref01_table.l0 (d + 1 + k) l acc (i : Int) = some (acc ++ pairsL (l.drop i))
  | 0, i, k, acc, hi, hle, hp, ha => by
    rw [show 0 + 1 + k = k + 1 by omega, cardexref01_table.l0, if_neg (by omega), List.drop_eq_nil_of_le (by omega)]
    simp [pairsL]
  | d + 1, i, k, acc, hi, hle, hp, ha => by
    rw [show d + 1 + 1 + k = (d + 1 + k) + 1 by omega, cardexref01_table.l0]
    by_cases hlt : i < l.length
    · have h1 : i + 1 < l.length := by omega
      rw [if_pos (by omega), if_pos (by omega), w64 (x := (i : Int) + 1) (by omega) (by omega), if_pos (by omega), if_pos (by omega), if_pos (by omega), w64 (by omega) (by omega)]
      have e1 : rd l (i : Int) = l[i] := rd_get l i hlt
      have e2 : rd l ((i : Int) + 1) = l[i + 1] := by
        have := rd_get l (i + 1) h1
        rw [show (((i + 1 : Nat)) : Int) = (i : Int) + 1 by omega] at this
        exact this
      have ih := table_loop l hl d (i + 2) k (acc ++ [(⟨rd l (i : Int), rd l ((i : Int) + 1)⟩ : S69)]) (by omega) (by omega) (by omega) (by rw [List.length_append, List.length_singleton]; omega)
      rw [show (((i + 2 : Nat)) : Int) = (i : Int) + 2 by omega] at ih
      rw [ih, e1, e2, List.drop_eq_getElem_cons hlt, List.drop_eq_getElem_cons h1]
      simp [pairsL]
    · rw [if_neg (by omega), List.drop_eq_nil_of_le (by omega)]
      simp [pairsL]
theorem table_eq (l : List Int) (hl : l.length ≤ 1000) (hp : l.length % 2 = 0) (k : Nat) (hk : l.length < k) : cardexref01_table.f k l = some (pairsL l) := by
  obtain ⟨j, rfl⟩ : ∃ j, k = l.length + 1 + j := ⟨k - (l.length + 1), by omega⟩
  have := table_loop l hl l.length 0 j [] (by omega) (by omega) (by omega) (Nat.le_refl _)
  exact this
theorem in_loop (l : List (S69)) (hl : l.length ≤ 1000) (c : Int) : ∀ (d i k : Nat), i + d = l.length → d < k → cardexref01_In.l0 k l c (i : Int) = some ((l.drop i).any (inR c))
  | 0, i, k, hi, hk => by
    obtain ⟨k, rfl⟩ : ∃ j, k = j + 1 := ⟨k - 1, by omega⟩
    rw [cardexref01_In.l0, if_neg (by omega), List.drop_eq_nil_of_le (by omega)]
    rfl
  | d + 1, i, k, hi, hk => by
    obtain ⟨k, rfl⟩ : ∃ j, k = j + 1 := ⟨k - 1, by omega⟩
    have hlt : i < l.length := by omega
    have ih := in_loop l hl c d (i + 1) k (by omega) (by omega)
    rw [show (((i + 1 : Nat)) : Int) = (i : Int) + 1 by omega] at ih
    have e : rd_T69 l (i : Int) = l[i] := by simp [rd_T69, hlt]
    rw [cardexref01_In.l0, if_pos (by omega), if_pos (by omega), w64 (by omega) (by omega), ih, e, List.drop_eq_getElem_cons hlt, List.any_cons]
    unfold inR
    by_cases h1 : l[i].f0 ≤ c
    · rw [if_pos h1, decide_eq_true h1]
      by_cases h2 : c ≤ l[i].f1
      · rw [if_pos h2, decide_eq_true h2]; rfl
      · rw [if_neg h2, decide_eq_false h2]; rfl
    · rw [if_neg h1, decide_eq_false h1]; rfl
theorem in_eq (l : List (S69)) (hl : l.length ≤ 1000) (c : Int) (k : Nat) (hk : l.length < k) : cardexref01_In.f k l c = some (l.any (inR c)) := in_loop l hl c l.length 0 k (by omega) hk
theorem ref_letters (k : Nat) (hk : 20 ≤ k) : cardexref01_Letters.f k = some (pairsL [65, 90, 97, 122, 192, 214, 216, 246, 248, 591, 880, 1327, 19968, 40959]) := by
  unfold cardexref01_Letters.f
  rw [table_eq _ (by decide) (by decide) k (by simp; omega)]; rfl
theorem ref_banned (k : Nat) (hk : 30 ≤ k) : cardexref01_Banned.f k = some (pairsL [0, 31, 127, 160, 5760, 5760, 8192, 8202, 8232, 8239, 8287, 8287, 12288, 12288, 57344, 63743, 65533, 65535, 917504, 917631, 983040, 1114111]) := by
  unfold cardexref01_Banned.f
  rw [table_eq _ (by decide) (by decide) k (by simp; omega)]; rfl
theorem ref_left (k : Nat) (hk : 20 ≤ k) : cardexref01_RightLeft.f k = some (pairsL [1424, 1535, 1536, 1791, 64285, 64335]) := by
  unfold cardexref01_RightLeft.f
  rw [table_eq _ (by decide) (by decide) k (by simp; omega)]; rfl
theorem ref_gone (k : Nat) (hk : 20 ≤ k) : cardexref01_Gone.f k = some (pairsL [173, 173, 847, 847, 6150, 6150, 8203, 8205, 8288, 8288, 65024, 65039, 65279, 65279]) := by
  unfold cardexref01_Gone.f
  rw [table_eq _ (by decide) (by decide) k (by simp; omega)]; rfl
theorem in_letters (k : Nat) (hk : 20 ≤ k) (c : Int) : cardexref01_In.f k (pairsL [65, 90, 97, 122, 192, 214, 216, 246, 248, 591, 880, 1327, 19968, 40959]) c = some (letterB c) := in_eq _ (by decide) c k (by show 7 < k; omega)
theorem in_left (k : Nat) (hk : 20 ≤ k) (c : Int) : cardexref01_In.f k (pairsL [1424, 1535, 1536, 1791, 64285, 64335]) c = some (leftB c) := in_eq _ (by decide) c k (by show 3 < k; omega)
theorem in_gone (k : Nat) (hk : 20 ≤ k) (c : Int) : cardexref01_In.f k (pairsL [173, 173, 847, 847, 6150, 6150, 8203, 8205, 8288, 8288, 65024, 65039, 65279, 65279]) c = some (goneB c) := in_eq _ (by decide) c k (by show 7 < k; omega)
theorem in_banned (k : Nat) (hk : 20 ≤ k) (c : Int) : cardexref01_In.f k (pairsL [0, 31, 127, 160, 5760, 5760, 8192, 8202, 8232, 8239, 8287, 8287, 12288, 12288, 57344, 63743, 65533, 65535, 917504, 917631, 983040, 1114111]) c = some (bannedB c) := in_eq _ (by decide) c k (by show 11 < k; omega)
def mapB (all : Bool) (c : Int) : List Int := if all then smallL c else keptL c
theorem j1_eq (l : List Int) (all : Bool) (acc : List Int) (i : Nat) (c : Int) (k : Nat) (hl : i < 2000000000) (ha : acc.length ≤ 4000000000) (hs : scal c) (hg : goneB c = false) :
    cardexref01_mapped.j1 (k + 1) l all acc (i : Int) c (all && (decide (65 ≤ c ∧ c ≤ 90) || decide (192 ≤ c ∧ c ≤ 222 ∧ c ≠ 215))) = cardexref01_mapped.l0 k l all (acc ++ mapB all c) ((i + 1 : Nat) : Int) := by
  obtain ⟨h0, h1, h2⟩ := hs
  rw [cardexref01_mapped.j1, w64 (x := (i : Int) + 1) (by omega) (by omega), w64 (x := c + 32) (by omega) (by omega)]
  have ei : (((i + 1 : Nat)) : Int) = (i : Int) + 1 := by omega
  rw [ei]
  unfold mapB
  cases all with
  | false =>
    simp only [Bool.false_and, Bool.false_eq_true, if_false]
    unfold keptL
    rw [hg, if_pos (by omega)]
    rfl
  | true =>
    simp only [Bool.true_and, if_true]
    unfold smallL keptL
    by_cases hu : (65 ≤ c ∧ c ≤ 90) ∨ (192 ≤ c ∧ c ≤ 222 ∧ c ≠ 215)
    · rw [if_pos hu, if_pos (by
        rw [Bool.or_eq_true, decide_eq_true_eq, decide_eq_true_eq]; exact hu), if_pos (by omega)]
    · rw [if_neg hu, if_neg (by
        rw [Bool.or_eq_true, decide_eq_true_eq, decide_eq_true_eq]; exact hu)]
      by_cases h3 : c = 223
      · rw [if_pos h3, if_pos h3]
        simp only [Option.bind_some]
        rw [if_pos (by simp; omega)]
      · rw [if_neg h3, if_neg h3, hg, if_pos (by omega)]
        rfl
theorem mapped_loop (l : List Int) (all : Bool) (hl : l.length ≤ 1000000000) (hs : ∀ c ∈ l, scal c) : ∀ (d i k : Nat) (acc : List Int), i + d = l.length → acc.length ≤ 2 * i → cardexref01_mapped.l0 (2 * d + 30 + k) l all acc (i : Int) = some (acc ++ (l.drop i).flatMap (mapB all))
  | 0, i, k, acc, hi, ha => by
    rw [show 2 * 0 + 30 + k = (29 + k) + 1 by omega, cardexref01_mapped.l0, if_neg (by omega), List.drop_eq_nil_of_le (by omega)]
    simp
  | d + 1, i, k, acc, hi, ha => by
    have hlt : i < l.length := by omega
    have e : rd l (i : Int) = l[i] := rd_get l i hlt
    have hc := hs l[i] (List.getElem_mem hlt)
    have hsm : ∀ c, (mapB all c).length ≤ 2 := by
      intro c
      unfold mapB
      split
      · exact smallL_len c
      · exact keptL_len c
    rw [show 2 * (d + 1) + 30 + k = (2 * d + 31 + k) + 1 by omega, cardexref01_mapped.l0, if_pos (by omega), if_pos (by omega), ref_gone _ (by omega)]
    simp only [Option.bind_some]
    rw [in_gone _ (by omega), e]
    simp only [Option.bind_some]
    obtain ⟨c, hcc⟩ : ∃ c, l[i] = c := ⟨_, rfl⟩
    rw [hcc] at hc ⊢
    rw [w64 (x := (i : Int) + 1) (by omega) (by omega)]
    have ih := mapped_loop l all hl hs d (i + 1) k (acc ++ mapB all c) (by omega) (by rw [List.length_append]; have := hsm c; omega)
    have ih0 := mapped_loop l all hl hs d (i + 1) (k + 1) acc (by omega) (by omega)
    have hd : (l.drop i).flatMap (mapB all) = mapB all c ++ (l.drop (i + 1)).flatMap (mapB all) := by
      rw [List.drop_eq_getElem_cons hlt, hcc, List.flatMap_cons]
    rw [hd]
    cases hg : goneB c with
    | true =>
      rw [if_pos rfl]
      obtain ⟨h0, h1, h2⟩ := hc
      have hm : mapB all c = [] := by
        have hr : inTab [173, 173, 847, 847, 6150, 6150, 8203, 8205, 8288, 8288, 65024, 65039, 65279, 65279] c = true := by rw [← gone_tab]; exact hg
        simp only [inTab, Bool.or_eq_true, Bool.and_eq_true, decide_eq_true_eq, Bool.or_false] at hr
        cases all with
        | false =>
          show keptL c = []
          unfold keptL
          rw [hg]; rfl
        | true =>
          show smallL c = []
          unfold smallL keptL
          rw [if_neg (by omega), if_neg (by omega), hg]; rfl
      rw [hm, List.nil_append, show 2 * d + 31 + k = 2 * d + 30 + (k + 1) by omega, show (i : Int) + 1 = ((i + 1 : Nat) : Int) by omega]
      exact ih0
    | false =>
      rw [if_neg (by decide)]
      have hj := j1_eq l all acc i c (2 * d + 30 + k) (by omega) (by omega) hc hg
      rw [show 2 * d + 31 + k = (2 * d + 30 + k) + 1 by omega]
      rw [ih, List.append_assoc] at hj
      rw [← hj]
      cases all with
      | false =>
        simp only [Bool.false_and, Bool.false_eq_true, if_false]
      | true =>
        simp only [Bool.true_and, if_true]
        by_cases g1 : c ≥ 65
        · rw [if_pos g1]
          by_cases g2 : c ≤ 90
          · rw [if_pos g2, show (decide (65 ≤ c ∧ c ≤ 90) || decide (192 ≤ c ∧ c ≤ 222 ∧ c ≠ 215)) = true from by rw [decide_eq_true ⟨g1, g2⟩]; rfl]
          · rw [if_neg g2]
            by_cases g3 : c ≥ 192
            · rw [if_pos g3]
              by_cases g4 : c ≤ 222
              · rw [if_pos g4, show (decide (65 ≤ c ∧ c ≤ 90) || decide (192 ≤ c ∧ c ≤ 222 ∧ c ≠ 215)) = (c != 215) from by
                  rw [decide_eq_false (fun h => g2 h.2), Bool.false_or]
                  by_cases h5 : c = 215
                  · rw [decide_eq_false (fun h => h.2.2 h5), h5]; rfl
                  · rw [decide_eq_true ⟨g3, g4, h5⟩]
                    exact (bne_iff_ne.2 h5).symm]
              · rw [if_neg g4, show (decide (65 ≤ c ∧ c ≤ 90) || decide (192 ≤ c ∧ c ≤ 222 ∧ c ≠ 215)) = false from by rw [decide_eq_false (fun h => g2 h.2), decide_eq_false (fun h => g4 h.2.1)]; rfl]
            · rw [if_neg g3, show (decide (65 ≤ c ∧ c ≤ 90) || decide (192 ≤ c ∧ c ≤ 222 ∧ c ≠ 215)) = false from by rw [decide_eq_false (fun h => g2 h.2), decide_eq_false (fun h => g3 h.1)]; rfl]
        · rw [if_neg g1, if_neg (show ¬ c ≥ 192 by omega), show (decide (65 ≤ c ∧ c ≤ 90) || decide (192 ≤ c ∧ c ≤ 222 ∧ c ≠ 215)) = false from by rw [decide_eq_false (fun h => g1 h.1), decide_eq_false (fun h => by omega)]; rfl]
theorem mapped_eq (l : List Int) (all : Bool) (hl : l.length ≤ 1000000000) (hs : ∀ c ∈ l, scal c) (k : Nat) (hk : 2 * l.length + 30 ≤ k) : cardexref01_mapped.f k l all = some (l.flatMap (mapB all)) := by
  obtain ⟨j, rfl⟩ : ∃ j, k = 2 * l.length + 30 + j := ⟨k - (2 * l.length + 30), by omega⟩
  have := mapped_loop l all hl hs l.length 0 j [] (by omega) (Nat.zero_le _)
  exact this
theorem way_loop (l : List Int) (hl : l.length ≤ 4000000000) : ∀ (d i k : Nat) (r t : Bool), i + d = l.length → cardexref01_way.l0 (d + 30 + k) l r t (i : Int) =
    some (!(r || (l.drop i).any leftB) || (!(t || (l.drop i).any letterB) && leftB (l.getD 0 0) && leftB (l.getD (l.length - 1) 0))) ∨ (r = true ∧ l = [])
  | 0, i, k, r, t, hi => by
    rcases List.eq_nil_or_concat l with hn | ⟨l', c', hn⟩
    · cases r with
      | true => exact .inr ⟨rfl, hn⟩
      | false =>
        left
        rw [show 0 + 30 + k = (29 + k) + 1 by omega, cardexref01_way.l0, if_neg (by omega), if_neg (by decide), List.drop_eq_nil_of_le (by omega)]
        rfl
    · left
      have hp : 0 < l.length := by rw [hn]; simp
      rw [show 0 + 30 + k = (29 + k) + 1 by omega, cardexref01_way.l0, if_neg (by omega), List.drop_eq_nil_of_le (by omega)]
      cases r with
      | false => rfl
      | true =>
        rw [if_pos rfl]
        cases t with
        | true => rfl
        | false =>
          have e0 : rd l 0 = l.getD 0 0 := rfl
          have e1 : rd l (wrap64 ((l.length : Int) - 1)) = l.getD (l.length - 1) 0 := by
            rw [w64 (by omega) (by omega)]
            unfold rd
            rw [show ((l.length : Int) - 1).toNat = l.length - 1 by omega]
          rw [if_neg (by decide), ref_left _ (by omega)]
          simp only [Option.bind_some]
          rw [if_pos (by omega), in_left _ (by omega), e0]
          simp only [Option.bind_some]
          cases h0 : leftB (l.getD 0 0) with
          | false => simp
          | true =>
            rw [if_pos rfl, if_pos (by rw [w64 (by omega) (by omega)]; omega), if_pos (by rw [w64 (by omega) (by omega)]; omega), in_left _ (by omega), e1]
            simp
  | d + 1, i, k, r, t, hi => by
    left
    have hlt : i < l.length := by omega
    have e : rd l (i : Int) = l[i] := rd_get l i hlt
    have hne : l ≠ [] := by intro h; rw [h] at hlt; simp at hlt
    have ih := fun r' t' => (way_loop l hl d (i + 1) k r' t' (by omega)).resolve_right (fun h => hne h.2)
    rw [show d + 1 + 30 + k = (d + 30 + k) + 1 by omega, cardexref01_way.l0, if_pos (by omega), w64 (x := (i : Int) + 1) (by omega) (by omega), show (i : Int) + 1 = ((i + 1 : Nat) : Int) by omega, List.drop_eq_getElem_cons hlt]
    simp only [List.any_cons]
    cases r with
    | true =>
      rw [if_pos rfl]
      cases t with
      | true => rw [if_pos rfl, ih]; simp
      | false =>
        rw [if_neg (by decide), ref_letters _ (by omega)]
        simp only [Option.bind_some]
        rw [if_pos (by omega), in_letters _ (by omega), e]
        simp only [Option.bind_some]
        rw [ih]
        simp
    | false =>
      rw [if_neg (by decide), ref_left _ (by omega)]
      simp only [Option.bind_some]
      rw [if_pos (by omega), in_left _ (by omega), e]
      simp only [Option.bind_some]
      cases t with
      | true => rw [if_pos rfl, ih]; simp
      | false =>
        rw [if_neg (by decide), ref_letters _ (by omega)]
        simp only [Option.bind_some]
        rw [in_letters _ (by omega)]
        simp only [Option.bind_some]
        rw [ih]
        simp
theorem way_eq (l : List Int) (hl : l.length ≤ 4000000000) (k : Nat) (hk : l.length + 30 ≤ k) : cardexref01_way.f k l = some (straightB l) := by
  obtain ⟨j, rfl⟩ : ∃ j, k = l.length + 30 + j := ⟨k - (l.length + 30), by omega⟩
  rcases way_loop l hl l.length 0 j false false (by omega) with h | h
  · unfold cardexref01_way.f
    rw [show ((0 : Int)) = ((0 : Nat) : Int) from rfl, h]
    unfold straightB
    simp only [List.drop_zero, Bool.false_or]
    congr 2
    cases l.any letterB <;> simp
  · cases h.1
theorem texts_loop (l : List Int) (hl : l.length ≤ 4000000000) : ∀ (d i k : Nat) (acc : ByteArray), i + d = l.length → d < k → acc.size ≤ 4 * i → cardexref01_texts.l0 k l acc (i : Int) = some ((l.drop i).foldl (fun out c => out ++ Utf8.encode (wrap32 c)) acc)
  | 0, i, k, acc, hi, hk, ha => by
    obtain ⟨k, rfl⟩ : ∃ j, k = j + 1 := ⟨k - 1, by omega⟩
    rw [cardexref01_texts.l0, if_neg (by omega), List.drop_eq_nil_of_le (by omega)]
    rfl
  | d + 1, i, k, acc, hi, hk, ha => by
    obtain ⟨k, rfl⟩ : ∃ j, k = j + 1 := ⟨k - 1, by omega⟩
    have hlt : i < l.length := by omega
    have e : rd l (i : Int) = l[i] := rd_get l i hlt
    have hz := encode_size (wrap32 l[i])
    rw [cardexref01_texts.l0, if_pos (by omega), if_pos (by omega), e]
    unfold cardexref01_utf.f
    simp only [Option.bind_some]
    rw [if_pos (by omega), w64 (x := (i : Int) + 1) (by omega) (by omega), show (i : Int) + 1 = ((i + 1 : Nat) : Int) by omega]
    rw [texts_loop l hl d (i + 1) k _ (by omega) (by omega) (by rw [ByteArray.size_append]; omega), List.drop_eq_getElem_cons hlt]
    rfl
theorem texts_eq (l : List Int) (hl : l.length ≤ 4000000000) (k : Nat) (hk : l.length < k) : cardexref01_texts.f k l = some (textOf l) := texts_loop l hl l.length 0 k _ (by omega) hk (Nat.le_refl _)
theorem help_in_loop (l : List Int) (hl : l.length ≤ 1000) (c : Int) : ∀ (d i k : Nat), i + d = l.length → d < k → cardexhelp_In_int.l0 k l c (i : Int) = some ((l.drop i).contains c)
  | 0, i, k, hi, hk => by
    obtain ⟨k, rfl⟩ : ∃ j, k = j + 1 := ⟨k - 1, by omega⟩
    rw [cardexhelp_In_int.l0, if_neg (by omega), List.drop_eq_nil_of_le (by omega)]
    rfl
  | d + 1, i, k, hi, hk => by
    obtain ⟨k, rfl⟩ : ∃ j, k = j + 1 := ⟨k - 1, by omega⟩
    have hlt : i < l.length := by omega
    have ih := help_in_loop l hl c d (i + 1) k (by omega) (by omega)
    have e : rd l (i : Int) = l[i] := rd_get l i hlt
    rw [cardexhelp_In_int.l0, if_pos (by omega), if_pos (by omega), w64 (x := (i : Int) + 1) (by omega) (by omega), show (i : Int) + 1 = ((i + 1 : Nat) : Int) by omega, ih, e, List.drop_eq_getElem_cons hlt, List.contains_cons]
    by_cases h : l[i] = c
    · rw [if_pos h, h]; simp
    · rw [if_neg h]
      have : (c == l[i]) = false := by rw [beq_eq_false_iff_ne]; exact fun e => h e.symm
      rw [this]; rfl
def okB (kind : Int) (c : Int) : Bool := if kind = 1 then nodeOk c else if kind = 2 then hostOk c else resOk c
theorem allowed_eq (kind c : Int) (k : Nat) (hk : 40 ≤ k) : cardexref01_allowed.f k kind c = some (okB kind c) := by
  unfold cardexref01_allowed.f okB
  by_cases h1 : kind = 1
  · rw [if_pos h1, if_pos h1, ref_banned _ (by omega)]
    simp only [Option.bind_some]
    rw [in_banned _ (by omega)]
    simp only [Option.bind_some]
    have := help_in_loop [32, 34, 38, 39, 47, 58, 60, 62, 64] (by decide) c 9 0 k rfl (by omega)
    unfold cardexhelp_In_int.f
    rw [show ((0 : Int)) = ((0 : Nat) : Int) from rfl, this]
    unfold nodeOk nodeBad
    cases bannedB c <;> rfl
  · rw [if_neg h1, if_neg h1]
    by_cases h2 : kind = 2
    · rw [if_pos h2, if_pos h2, ref_letters _ (by omega), ref_left _ (by omega)]
      simp only [Option.bind_some]
      rw [in_letters _ (by omega), in_left _ (by omega)]
      simp only [Option.bind_some]
      unfold hostOk
      have tail : (if c = 45 then some true else if c = 46 then some true else if letterB c = true then some true else some (leftB c)) = some (c == 45 || c == 46 || letterB c || leftB c) := by
        by_cases a : c = 45
        · rw [if_pos a, a]; rfl
        · rw [if_neg a, beq_eq_false_iff_ne.2 a]
          by_cases b : c = 46
          · rw [if_pos b, b]; rfl
          · rw [if_neg b, beq_eq_false_iff_ne.2 b]
            cases letterB c <;> rfl
      rw [tail]
      by_cases a : c ≥ 48
      · rw [if_pos a, decide_eq_true (show 48 ≤ c from a)]
        by_cases b : c ≤ 57
        · rw [if_pos b, decide_eq_true b]; rfl
        · rw [if_neg b, decide_eq_false b]; rfl
      · rw [if_neg a, decide_eq_false (show ¬ 48 ≤ c from a)]; rfl
    · rw [if_neg h2, if_neg h2, ref_banned _ (by omega)]
      simp only [Option.bind_some]
      rw [in_banned _ (by omega)]
      rfl
theorem prep_loop (kind : Int) (l : List Int) (hl : l.length ≤ 4000000000) : ∀ (d i k : Nat), i + d = l.length → cardexref01_prep.l0 (d + l.length + 50 + k) kind l (i : Int) =
    some (if ((l.drop i).any fun x => !okB kind x) then ((⟨#[]⟩ : ByteArray), 15) else if straightB l = true then (textOf l, 0) else ((⟨#[]⟩ : ByteArray), 16))
  | 0, i, k, hi => by
    rw [show 0 + l.length + 50 + k = (l.length + 49 + k) + 1 by omega, cardexref01_prep.l0, if_neg (by omega), way_eq l hl _ (by omega), texts_eq l hl _ (by omega), List.drop_eq_nil_of_le (by omega)]
    simp only [Option.bind_some, List.any_nil, Bool.false_eq_true, if_false]
    split <;> rfl
  | d + 1, i, k, hi => by
    have hlt : i < l.length := by omega
    have e : rd l (i : Int) = l[i] := rd_get l i hlt
    rw [show d + 1 + l.length + 50 + k = (d + l.length + 50 + k) + 1 by omega, cardexref01_prep.l0, if_pos (by omega), if_pos (by omega), e, allowed_eq _ _ _ (by omega), List.drop_eq_getElem_cons hlt, List.any_cons]
    simp only [Option.bind_some]
    rw [w64 (x := (i : Int) + 1) (by omega) (by omega), show (i : Int) + 1 = ((i + 1 : Nat) : Int) by omega, prep_loop kind l hl d (i + 1) k (by omega)]
    cases okB kind l[i] with
    | true => rfl
    | false => rfl
def profT (kind : Int) : Int → List Int := mapB (kind != 3)
theorem prep_eq (s : ByteArray) (hs : s.size ≤ 100000000) (kind : Int) : ∃ K, ∀ k, K ≤ k → cardexref01_prep.f k s kind = some (ofP (profT kind) (okB kind) s) := by
  have hlen : ((runesI s).flatMap (profT kind)).length ≤ 2 * (runesI s).length := flat_len _ (by
    intro c
    unfold profT mapB
    split
    · exact smallL_len c
    · exact keptL_len c) _
  have hr := runesI_len s
  refine ⟨8 * s.size + 200, fun k hk => ?_⟩
  unfold cardexref01_prep.f ofP
  rw [ref_valid s (by omega) k (by omega)]
  simp only [Option.bind_some]
  cases hv : validT s with
  | false => rfl
  | true =>
    rw [if_pos rfl, if_pos rfl, ref_runes s (by omega) k (by omega), hv, if_pos rfl]
    simp only [Option.bind_some]
    rw [mapped_eq (runesI s) _ (by omega) (fun c hc => runes_scal _ _ c hc) k (by omega)]
    simp only [Option.bind_some]
    obtain ⟨j, rfl⟩ : ∃ j, k = ((runesI s).flatMap (profT kind)).length + ((runesI s).flatMap (profT kind)).length + 50 + j := ⟨k - (((runesI s).flatMap (profT kind)).length + ((runesI s).flatMap (profT kind)).length + 50), by omega⟩
    have := prep_loop kind ((runesI s).flatMap (profT kind)) (by omega) ((runesI s).flatMap (profT kind)).length 0 j (by omega)
    exact this
end Go.Proofs.YtmhfjeekhkoikaaGreatDoor.P
