/- canon in plain words: which nodes are right, as the document has it. -/
import Derived.Test.YtgacmniagmfckaaDoorCanonT
namespace Go.Proofs.YtgacmniagmfckaaDoor.P
open Go.RowKit Go.Lib Go.Proofs.YtgacmniagmfckaaDoorX Go.Proofs.YtgacmniagmfckaaDoorW.PrintWords Go.Proofs.YtgacmniagmfckaaDoor.Q
set_option linter.unusedVariables false
set_option linter.unusedSimpArgs false
def Ch (L : List S32) : List Int → Int → Prop
  | [], q => q < 0
  | a :: s, q => q = a ∧ 0 ≤ a ∧ a < (L.length : Int) ∧ Ch L s (rd_T32 L a).f0
theorem ch_pop (L : List S32) (p : Int) : ∀ (st : List Int) (q : Int), Ch L st q → popS p st ≠ [] → Ch L (popS p st) p
  | [], _, _, h => absurd rfl h
  | a :: s, q, hc, h => by
    by_cases ha : a = p
    · subst ha
      rw [popS_hit]
      exact ⟨rfl, hc.2⟩
    · rw [popS_miss p a s ha] at h ⊢
      exact ch_pop L p s _ hc.2.2.2 h
theorem count_loop (L : List S32) : ∀ (s : List Int) (q : Int) (n k : Nat), Ch L s q → n + s.length < 1000000 → cardexref08_depth.l1 (k + s.length + 1) L (n : Int) q = some ((n + s.length : Nat) : Int)
  | [], q, n, k, hc, hn => by
    rw [cardexref08_depth.l1, if_neg (by have : q < 0 := hc; omega)]; rfl
  | a :: s, q, n, k, hc, hn => by
    obtain ⟨rfl, h1, h2, h3⟩ := hc
    simp only [List.length_cons] at hn ⊢
    rw [show k + (s.length + 1) + 1 = (k + s.length + 1) + 1 by omega, cardexref08_depth.l1, if_pos (by omega), if_pos h1, if_pos h2, up1 n (by omega), count_loop L s _ (n + 1) k h3 (by omega)]
    congr 1
    omega
theorem open_loop (L : List S32) (p : Int) : ∀ (st : List Int) (q : Int) (k : Nat), Ch L st q → ∃ k', k ≤ k' ∧ cardexref08_depth.l0 (k + st.length + 3) L p false q = cardexref08_depth.j1 (k' + 1) L p (decide (popS p st ≠ []))
  | [], q, k, hc => by
    refine ⟨k + 1, by omega, ?_⟩
    rw [show k + ([] : List Int).length + 3 = (k + 1 + 1) + 1 by simp, cardexref08_depth.l0, if_neg (by have : q < 0 := hc; omega)]
    rfl
  | a :: s, q, k, hc => by
    obtain ⟨rfl, h1, h2, h3⟩ := hc
    rw [show k + (q :: s).length + 3 = (k + s.length + 3) + 1 by simp only [List.length_cons]; omega, cardexref08_depth.l0, if_pos (by omega), if_neg Bool.false_ne_true, if_pos h1, if_pos h2]
    by_cases ha : q = p
    · subst ha
      rw [beq_self_eq_true, popS_hit, decide_eq_true (by simp)]
      refine ⟨k + s.length + 1, by omega, ?_⟩
      rw [show k + s.length + 3 = (k + s.length + 1 + 1) + 1 by omega, cardexref08_depth.l0]
      split
      · rw [if_pos rfl]
      · rfl
    · rw [beq_eq_false_iff_ne.mpr ha, popS_miss p q s ha]
      exact open_loop L p s _ k h3
theorem depth_f (L : List S32) (i : Nat) (hi : i < L.length) (hl : L.length ≤ 1000) (st : List Int) (hc : Ch L st ((i : Int) - 1)) (hn : st.length ≤ i) (k : Nat) (hk : 3000 ≤ k) :
    cardexref08_depth.f k L (i : Int) = some (if popS L[i].f0 st = [] then 0 else ((1 + (popS L[i].f0 st).length : Nat) : Int)) := by
  unfold cardexref08_depth.f
  rw [if_pos (by omega), if_pos (by omega), rd32_get L i hi, w64 (by omega) (by omega)]
  obtain ⟨k', hk', h⟩ := open_loop L L[i].f0 st ((i : Int) - 1) (k - st.length - 3) hc
  rw [show k - st.length - 3 + st.length + 3 = k by omega] at h
  rw [h, cardexref08_depth.j1]
  by_cases hp : popS L[i].f0 st = []
  · rw [decide_eq_false (by simpa using hp), if_neg Bool.false_ne_true, if_pos hp]
  · have hpl := popS_len L[i].f0 st
    rw [decide_eq_true hp, if_pos rfl, if_neg hp]
    have hcc := count_loop L (popS L[i].f0 st) L[i].f0 1 (k' - (popS L[i].f0 st).length - 1) (ch_pop L _ st _ hc hp) (by omega)
    rw [show k' - (popS L[i].f0 st).length - 1 + (popS L[i].f0 st).length + 1 = k' by omega] at hcc
    exact hcc
theorem ref_loop (L : List S32) (hS : SmallL L) (hl : L.length ≤ 1000) (KA : Nat) (hKA : ∀ x ∈ L, ∀ k, KA ≤ k → cardexref08_rightAttrs.f k x.f4 = some (attrsB [] x.f4 && decide (x.f4.length < 10))) (h1 : ∀ x r, L = x :: r → x.f0 = -1) :
    ∀ (d i k : Nat) (st : List Int), i + d = L.length → (∀ a ∈ st, 0 ≤ a ∧ a < (i : Int)) → st.length ≤ i → Ch L st ((i : Int) - 1) → 20000000 + KA ≤ k →
    cardexref08_CanonRight.l0 (k + 4 * d + 1) L (i : Int) = some (stepsR L (L.drop i) i st)
  | 0, i, k, st, hi, hb, hn, hc, hk => by
    rw [cardexref08_CanonRight.l0, if_neg (by omega), List.drop_eq_nil_of_le (by omega)]; rfl
  | d + 1, i, k, st, hi, hb, hn, hc, hk => by
    have hlt : i < L.length := by omega
    obtain ⟨s2, s3, s5, s4, sa⟩ := hS _ (List.getElem_mem hlt)
    have hat := hKA _ (List.getElem_mem hlt)
    have next : ∀ s : List Int, (∀ a ∈ s, 0 ≤ a ∧ a < (i : Int)) → s.length ≤ i → Ch L s L[i].f0 → cardexref08_CanonRight.l0 (k + 4 * d + 1 + 1) L (wrap64 ((i : Int) + 1)) = some (stepsR L (L.drop (i + 1)) (i + 1) ((i : Int) :: s)) := by
      intro s hs hsl hcs
      rw [up1 i (by omega)]
      refine (cardexref08_CanonRight.mono_l (k + 4 * d + 1)).2.1 _ _ _ (ref_loop L hS hl KA hKA h1 d (i + 1) k ((i : Int) :: s) (by omega) ?_ (by simp only [List.length_cons]; omega) ?_ hk)
      · intro a ha
        rcases List.mem_cons.1 ha with rfl | ha
        · omega
        · have := hs a ha; omega
      · exact ⟨by omega, by omega, by omega, by rw [rd32_get L i hlt]; exact hcs⟩
    rw [show k + 4 * (d + 1) + 1 = (k + 4 * d + 1 + 1 + 1 + 1) + 1 by omega]
    have hj : ∀ b, b = aloneB L[i] → cardexref08_CanonRight.j2 (k + 4 * d + 1 + 1 + 1 + 1) L (i : Int) (!b) L[i].f0 L[i].f1 L[i].f2 L[i].f3 L[i].f4 L[i].f5 = some (stepsR L (L.drop i) i st) := by
      intro b hbb
      rw [cardexref08_CanonRight.j2, List.drop_eq_getElem_cons hlt, stepsR, ← hbb]
      cases b with
      | false =>
        rw [if_pos (by decide)]
        split <;> simp
      | true =>
        rw [if_neg (by decide)]
        by_cases h0 : i = 0
        · subst h0
          have hst : st = [] := List.length_eq_zero_iff.1 (by omega)
          subst hst
          have hm : L[0].f0 = -1 := by
            cases L with
            | nil => simp at hlt
            | cons x r => exact h1 x r rfl
          rw [if_neg (by omega), cardexref08_CanonRight.j3, if_neg Bool.false_ne_true, if_neg (by omega), if_pos (show popS L[0].f0 [] = [] from rfl), hm]
          rw [show ((-1 : Int) == -1) = true from rfl, decide_eq_true (rfl : (0 : Nat) = 0), Bool.true_and, Bool.true_and, Bool.true_and]
          exact next [] (fun a ha => by cases ha) (by simp) (by rw [hm]; show (-1 : Int) < 0; omega)
        · rw [if_pos (by omega)]
          have hdp := depth_f L i hlt hl st hc hn (k + 4 * d + 1 + 1) (by omega)
          rcases popS_cases L[i].f0 st with hp | ⟨s, hp⟩
          · rw [hp, if_pos rfl, decide_eq_false h0, Bool.false_and, Bool.false_and, Bool.false_and]
            rw [hp, if_pos rfl] at hdp
            have j3t : cardexref08_CanonRight.j3 (k + 4 * d + 1 + 1 + 1) L (i : Int) true = some false := by rw [cardexref08_CanonRight.j3, if_pos rfl]
            by_cases hn0 : L[i].f0 < 0
            · rw [if_pos hn0]; exact j3t
            · rw [if_neg hn0]
              by_cases hge : L[i].f0 ≥ (i : Int)
              · rw [if_pos hge]; exact j3t
              · rw [if_neg hge, if_pos (by omega), if_pos (by omega)]
                cases ((rd_T32 L L[i].f0).f5.toList != ([] : List UInt8)) with
                | true => exact j3t
                | false => rw [cardexref08_CanonRight.j3, if_neg Bool.false_ne_true, if_pos (by omega), hdp, Option.bind_some, if_pos rfl]
          · have hmem : L[i].f0 ∈ st := popS_mem _ st _ (by rw [hp]; exact .head _)
            have hbb2 := hb _ hmem
            have hne : popS L[i].f0 st ≠ [] := by rw [hp]; simp
            have hpl := popS_len L[i].f0 st
            have hcp := ch_pop L _ st _ hc hne
            rw [if_neg (by omega), if_neg (by omega), if_pos (by omega), if_pos (by omega), if_neg hne, decide_eq_true (show 0 < i by omega), Bool.true_and, Bool.true_and]
            rw [if_neg hne] at hdp
            cases ht : ((rd_T32 L L[i].f0).f5.toList == ([] : List UInt8)) with
            | false =>
              rw [show ((rd_T32 L L[i].f0).f5.toList != ([] : List UInt8)) = true by unfold bne; rw [ht]; rfl, cardexref08_CanonRight.j3, if_pos rfl]
              simp
            | true =>
              rw [show ((rd_T32 L L[i].f0).f5.toList != ([] : List UInt8)) = false by unfold bne; rw [ht]; rfl, cardexref08_CanonRight.j3, if_neg Bool.false_ne_true, if_pos (by omega), hdp, Option.bind_some, if_neg (by omega), Bool.and_true]
              by_cases h12 : (popS L[i].f0 st).length < 12
              · rw [if_neg (by omega), decide_eq_true h12, Bool.true_and]
                exact next _ (fun a ha => hb a (popS_mem _ st a ha)) (by omega) hcp
              · rw [if_pos (by omega), decide_eq_false h12]; rfl
    rw [cardexref08_CanonRight.l0, if_pos (by omega), if_pos (by omega), rd32_get L i hlt, ref_name _ (by omega) _ (by omega), Option.bind_some]
    unfold aloneB at hj
    cases h2 : nameL L[i].f2.data.toList with
    | false => rw [if_neg Bool.false_ne_true]; exact hj false (by rw [h2]; rfl)
    | true =>
      rw [if_pos rfl, ref_valid _ (by omega) _ (by omega), Option.bind_some]
      cases h5 : validT L[i].f5 with
      | false => rw [if_neg Bool.false_ne_true]; exact hj false (by rw [h2, h5]; rfl)
      | true =>
        rw [if_pos rfl, ref_valid _ (by omega) _ (by omega), Option.bind_some]
        cases h3 : validT L[i].f3 with
        | false => rw [if_neg Bool.false_ne_true]; exact hj false (by rw [h2, h5, h3]; rfl)
        | true =>
          rw [if_pos rfl, hat _ (by omega), Option.bind_some]
          exact hj _ (by rw [h2, h5, h3]; rfl)
theorem attrs_all : ∀ (L : List S32), SmallL L → ∃ K, ∀ x ∈ L, ∀ k, K ≤ k → cardexref08_rightAttrs.f k x.f4 = some (attrsB [] x.f4 && decide (x.f4.length < 10))
  | [], _ => ⟨0, fun x hx => by cases hx⟩
  | y :: r, h => by
    obtain ⟨K1, h1⟩ := attrs_all r (fun x hx => h x (.tail _ hx))
    obtain ⟨_, _, _, h4, ha⟩ := h y (.head _)
    obtain ⟨K2, h2⟩ := ref_attrs y.f4 ha h4
    refine ⟨max K1 K2, fun x hx k hk => ?_⟩
    rcases List.mem_cons.1 hx with rfl | hx
    · exact h2 k (by omega)
    · exact h1 x hx k (by omega)
theorem ref_right (L : List S32) (hS : SmallL L) : ∃ K, ∀ k, K ≤ k → cardexref08_CanonRight.f k L = some (rightB L) := by
  obtain ⟨KA, hKA⟩ := attrs_all L hS
  refine ⟨20000000 + KA + 4 * L.length + 2, le_rounds (f := fun k => cardexref08_CanonRight.f k L) (fun k => cardexref08_CanonRight.mono L k) ?_⟩
  unfold cardexref08_CanonRight.f rightB
  cases hL : L with
  | nil =>
    rw [if_pos (by simp)]
    show cardexref08_CanonRight.j0 ((20000000 + KA + 4 * ([] : List S32).length + 1) + 1) [] true = _
    rw [cardexref08_CanonRight.j0, if_pos rfl]; rfl
  | cons x r =>
    rw [← hL]
    have h0 : 0 < L.length := by rw [hL]; simp
    have hx : rd_T32 L 0 = x := by rw [hL]; rfl
    rw [if_neg (by omega), decide_eq_true h0, Bool.true_and]
    by_cases h1 : L.length ≤ 1000
    · rw [if_neg (by omega), if_pos (by omega), hx, decide_eq_true h1, Bool.true_and]
      show cardexref08_CanonRight.j0 ((20000000 + KA + 4 * L.length + 1) + 1) L _ = _
      rw [cardexref08_CanonRight.j0]
      by_cases hm : x.f0 = -1
      · rw [if_neg (by rw [hm]; decide)]
        exact ref_loop L hS h1 KA hKA (fun y t e => by rw [hL] at e; injection e with e1 _; rw [← e1]; exact hm) L.length 0 (20000000 + KA) [] (by omega) (fun a ha => by cases ha) (by simp) (by show ((0 : Nat) : Int) - 1 < 0; omega) (by omega)
      · rw [if_pos (by simpa using hm), hL, stepsR]
        rw [show popS x.f0 [] = [] from rfl, if_pos rfl, beq_eq_false_iff_ne.mpr hm]
        simp
    · rw [if_pos (by omega), decide_eq_false h1]
      show cardexref08_CanonRight.j0 ((20000000 + KA + 4 * L.length + 1) + 1) L true = _
      rw [cardexref08_CanonRight.j0, if_pos rfl]; rfl
end Go.Proofs.YtgacmniagmfckaaDoor.P
