/- canon in plain words: which nodes are right, by what is open: the program's and the document's are one. -/
import Derived.Test.YtgacmniagmfckaaDoorCanonR
namespace Go.Proofs.YtgacmniagmfckaaDoor.P
open Go.RowKit Go.Lib Go.Proofs.YtgacmniagmfckaaDoorX Go.Proofs.YtgacmniagmfckaaDoorW.PrintWords Go.Proofs.YtgacmniagmfckaaDoor.Q
set_option linter.unusedVariables false
set_option linter.unusedSimpArgs false
def popS (p : Int) (st : List Int) : List Int := st.dropWhile (fun a => a != p)
theorem popS_hit (p : Int) (s : List Int) : popS p (p :: s) = p :: s := by
  unfold popS; rw [List.dropWhile_cons_of_neg (by simp)]
theorem popS_miss (p a : Int) (s : List Int) (h : a ≠ p) : popS p (a :: s) = popS p s := by
  unfold popS; rw [List.dropWhile_cons_of_pos (by simpa using h)]
theorem popS_cases (p : Int) : ∀ st : List Int, popS p st = [] ∨ ∃ s, popS p st = p :: s
  | [] => .inl rfl
  | a :: s => by
    by_cases h : a = p
    · subst h; rw [popS_hit]; exact .inr ⟨s, rfl⟩
    · rw [popS_miss p a s h]; exact popS_cases p s
theorem popS_mem (p : Int) : ∀ st : List Int, ∀ a ∈ popS p st, a ∈ st
  | [], a, h => h
  | b :: s, a, h => by
    by_cases hb : b = p
    · subst hb; rw [popS_hit] at h; exact h
    · rw [popS_miss p b s hb] at h; exact .tail _ (popS_mem p s a h)
theorem popS_len (p : Int) : ∀ st : List Int, (popS p st).length ≤ st.length
  | [] => Nat.le_refl _
  | b :: s => by
    by_cases hb : b = p
    · subst hb; rw [popS_hit]; exact Nat.le_refl _
    · rw [popS_miss p b s hb]; exact Nat.le_succ_of_le (popS_len p s)
def stepsR (L : List S32) : List S32 → Nat → List Int → Bool
  | [], _, _ => true
  | x :: r, i, st =>
    if popS x.f0 st = [] then decide (i = 0) && (x.f0 == -1) && aloneB x && stepsR L r (i + 1) [(i : Int)]
    else decide (0 < i) && aloneB x && decide ((popS x.f0 st).length < 12) && ((rd_T32 L x.f0).f5.toList == []) && stepsR L r (i + 1) ((i : Int) :: popS x.f0 st)
def rightB (L : List S32) : Bool := decide (0 < L.length) && decide (L.length ≤ 1000) && stepsR L L 0 []
theorem rev_last (a : Int) (s : List Int) : rd (a :: s).reverse ((((a :: s).reverse.length : Int) - 1)) = a := by
  have hl : ((((a :: s).reverse.length : Int) - 1)).toNat = s.length := by simp
  unfold rd
  rw [hl, List.reverse_cons, List.getD_eq_getElem?_getD, List.getElem?_append_right (by simp)]
  simp
theorem pop_loop (L L2 : List S32) (i n m : Int) (x : S32) (x1 : Int) (x2 x3 : ByteArray) (x4 : List S29) (x5 : ByteArray) : ∀ (st : List Int) (k : Nat), st.length < 1000000 →
    canon_Right.l1 (k + st.length + 1) L st.reverse i L2 n m x.f0 x1 x2 x3 x4 x5 = canon_Right.l1 (k + (popS x.f0 st).length + 1) L (popS x.f0 st).reverse i L2 n m x.f0 x1 x2 x3 x4 x5
  | [], k, _ => rfl
  | a :: s, k, hs => by
    by_cases h : a = x.f0
    · rw [h, popS_hit]
    · have hw : wrap64 (((a :: s).reverse.length : Int) - 1) = ((a :: s).reverse.length : Int) - 1 := by
        simp only [List.length_reverse, List.length_cons] at hs ⊢
        exact w64 (by omega) (by omega)
      rw [popS_miss _ a s h, show k + (a :: s).length + 1 = (k + s.length + 1) + 1 by simp only [List.length_cons]; omega, canon_Right.l1, hw, rev_last, if_pos (by simp only [List.length_reverse, List.length_cons]; omega), if_pos (by simp only [List.length_reverse, List.length_cons]; omega), if_pos (by omega), if_neg h, if_pos (by omega)]
      have ht : (a :: s).reverse.take ((((a :: s).reverse.length : Int) - 1)).toNat = s.reverse := by
        rw [show ((((a :: s).reverse.length : Int) - 1)).toNat = s.reverse.length by simp, List.reverse_cons, List.take_left']
        rfl
      rw [ht]
      simp only [List.length_cons] at hs
      exact pop_loop L L2 i n m x x1 x2 x3 x4 x5 s k (by omega)
def SmallL (L : List S32) : Prop := ∀ x ∈ L, SmallN x
theorem prog_loop (L : List S32) (hS : SmallL L) (hl : L.length ≤ 1000) : ∀ (d i k : Nat) (st : List Int), i + d = L.length → (∀ a ∈ st, 0 ≤ a ∧ a < (i : Int)) → st.length ≤ i → 2000 ≤ k →
    canon_Right.l0 (k + 2000 * d + 1) L st.reverse L (L.length : Int) (i : Int) = some (stepsR L (L.drop i) i st)
  | 0, i, k, st, hi, hb, hn, hk => by
    rw [canon_Right.l0, if_neg (by omega), List.drop_eq_nil_of_le (by omega)]; rfl
  | d + 1, i, k, st, hi, hb, hn, hk => by
    have hlt : i < L.length := by omega
    have hal := alone_f L[i] (hS _ (List.getElem_mem hlt))
    have hpl := popS_len L[i].f0 st
    rw [show k + 2000 * (d + 1) + 1 = ((k + 2000 * d + 1999 - st.length) + st.length + 1) + 1 by omega, canon_Right.l0, if_pos (by omega), if_pos (by omega), if_pos (by omega), rd32_get L i hlt, pop_loop L L _ _ _ L[i] _ _ _ _ _ st (k + 2000 * d + 1999 - st.length) (by omega), List.drop_eq_getElem_cons hlt, stepsR]
    have next : ∀ (q : Nat) (s : List Int), k + 2000 * d + 1 ≤ q → (∀ a ∈ s, 0 ≤ a ∧ a < (i : Int)) → s.length ≤ i → canon_Right.l0 q L (s.reverse ++ [(i : Int)]) L (L.length : Int) (wrap64 ((i : Int) + 1)) = some (stepsR L (L.drop (i + 1)) (i + 1) ((i : Int) :: s)) := by
      intro q s hq hs hsl
      rw [up1 i (by omega), show s.reverse ++ [(i : Int)] = ((i : Int) :: s).reverse by rw [List.reverse_cons]]
      refine le_rounds (f := fun q => canon_Right.l0 q L ((i : Int) :: s).reverse L (L.length : Int) ((i + 1 : Nat) : Int)) (fun q => (canon_Right.mono_l q).2.1 _ _ _ _ _) (prog_loop L hS hl d (i + 1) k ((i : Int) :: s) (by omega) ?_ (by simp only [List.length_cons]; omega) hk) q hq
      intro a ha
      rcases List.mem_cons.1 ha with rfl | ha
      · omega
      · have := hs a ha; omega
    rcases popS_cases L[i].f0 st with hp | ⟨s, hp⟩
    · rw [hp, if_pos rfl, canon_Right.l1, if_neg (by simp)]
      by_cases h0 : i = 0
      · rw [if_neg (by rw [h0]; simp)]
        by_cases hm : L[i].f0 = -1
        · rw [if_pos hm, hal, Option.bind_some, decide_eq_true h0, beq_iff_eq.mpr hm, Bool.true_and, Bool.true_and]
          cases aloneB L[i] with
          | false => rw [if_neg Bool.false_ne_true]; rfl
          | true =>
            rw [if_pos rfl, if_neg (by simp), if_pos (by simp)]
            exact next _ [] (by simp only [List.length_nil]; omega) (fun a ha => by cases ha) (by simp)
        · rw [if_neg hm, beq_eq_false_iff_ne.mpr hm]; simp
      · rw [if_pos (by rw [decide_eq_true (by omega : ((i : Int) > 0))]; rfl), decide_eq_false h0]; simp
    · have hmem : L[i].f0 ∈ st := popS_mem _ st _ (by rw [hp]; exact .head _)
      have hbb := hb _ hmem
      rw [hp, if_neg (by simp)]
      have hw : wrap64 (((L[i].f0 :: s).reverse.length : Int) - 1) = ((L[i].f0 :: s).reverse.length : Int) - 1 := by
        rw [hp] at hpl
        simp only [List.length_reverse, List.length_cons] at hpl ⊢
        exact w64 (by omega) (by omega)
      rw [hp] at hpl
      simp only [List.length_cons] at hpl
      rw [canon_Right.l1, hw, rev_last, if_pos (by simp only [List.length_reverse, List.length_cons]; omega), if_pos (by simp only [List.length_reverse, List.length_cons]; omega), if_pos (by omega), if_pos rfl]
      rw [if_neg (by rw [decide_eq_true (show (((L[i].f0 :: s).reverse.length : Int) > 0) by simp only [List.length_reverse, List.length_cons]; omega), decide_eq_true (show (i : Int) > 0 by omega)]; decide), hal, Option.bind_some, decide_eq_true (show 0 < i by omega), Bool.true_and]
      cases aloneB L[i] with
      | false => rw [if_neg Bool.false_ne_true]; rfl
      | true =>
        rw [if_pos rfl, Bool.true_and]
        by_cases h12 : (L[i].f0 :: s).length < 12
        · rw [if_neg (by simp only [List.length_reverse]; omega), if_pos hbb.1, if_pos (by omega), decide_eq_true h12, Bool.true_and]
          by_cases ht : (rd_T32 L L[i].f0).f5.toList = ([] : List UInt8)
          · rw [if_pos ht, beq_iff_eq.mpr ht, Bool.true_and, if_pos (by simp only [List.length_reverse]; omega)]
            exact next _ _ (by simp only [List.length_cons]; omega) (fun a ha => hb a (popS_mem _ st a (by rw [hp]; exact ha))) (by simp only [List.length_cons]; omega)
          · rw [if_neg ht, beq_eq_false_iff_ne.mpr ht]; rfl
        · rw [if_pos (by simp only [List.length_reverse]; omega), decide_eq_false h12]; rfl
theorem prog_right (L : List S32) (hS : SmallL L) : ∃ K, ∀ k, K ≤ k → canon_Right.f k L = some (rightB L) := by
  refine ⟨2000 * L.length + 2003, le_rounds (f := fun k => canon_Right.f k L) (fun k => canon_Right.mono L k) ?_⟩
  unfold canon_Right.f rightB
  by_cases h0 : L.length = 0
  · rw [if_pos (by omega), canon_Right.j0, if_pos rfl, h0]; rfl
  · rw [if_neg (by omega), canon_Right.j0, decide_eq_true (show 0 < L.length by omega), Bool.true_and]
    by_cases h1 : L.length ≤ 1000
    · rw [decide_eq_false (by omega), if_neg Bool.false_ne_true, decide_eq_true h1, Bool.true_and]
      have h := prog_loop L hS h1 L.length 0 2001 [] (by omega) (fun a ha => by cases ha) (by simp) (by omega)
      rw [show 2000 * L.length + 2002 = 2001 + 2000 * L.length + 1 by omega]
      exact h
    · rw [decide_eq_true (by omega), if_pos rfl, decide_eq_false h1]; rfl
end Go.Proofs.YtgacmniagmfckaaDoor.P
