/- CanonTells, in plain words: whether any nodes are right, and what they are as a file, or why not. -/
import Derived.Test.YtgacmniagmfckaaDoorCanonV
namespace Go.Proofs.YtgacmniagmfckaaDoor.P
open Go.RowKit Go.Lib Go.Proofs.YtgacmniagmfckaaDoorX Go.Proofs.YtgacmniagmfckaaDoorW.PrintWords Go.Proofs.YtgacmniagmfckaaDoor.Q
set_option linter.unusedVariables false
set_option linter.unusedSimpArgs false
def Par (L : List S32) : Prop := ∀ j (h : j < L.length), 0 < j → 0 ≤ L[j].f0 ∧ L[j].f0 < (j : Int)
theorem steps_par (L : List S32) : ∀ (d i : Nat) (st : List Int), i + d = L.length → (∀ a ∈ st, 0 ≤ a ∧ a < (i : Int)) → stepsR L (L.drop i) i st = true → ∀ j (h : j < L.length), i ≤ j → 0 < j → 0 ≤ L[j].f0 ∧ L[j].f0 < (j : Int)
  | 0, i, st, hi, _, _, j, hj, hij, _ => by omega
  | d + 1, i, st, hi, hb, hs, j, hj, hij, h0 => by
    have hlt : i < L.length := by omega
    rw [List.drop_eq_getElem_cons hlt, stepsR] at hs
    have hin : ∀ s : List Int, (∀ a ∈ s, 0 ≤ a ∧ a < (i : Int)) → ∀ a ∈ ((i : Int) :: s), 0 ≤ a ∧ a < ((i + 1 : Nat) : Int) := by
      intro s h a ha
      rcases List.mem_cons.1 ha with rfl | ha
      · omega
      · have := h a ha; omega
    rcases popS_cases L[i].f0 st with hp | ⟨s, hp⟩
    · rw [hp, if_pos rfl] at hs
      simp only [Bool.and_eq_true, decide_eq_true_eq] at hs
      exact steps_par L d (i + 1) _ (by omega) (hin [] (fun a ha => by cases ha)) hs.2 j hj (by omega) h0
    · rw [if_neg (by rw [hp]; simp)] at hs
      simp only [Bool.and_eq_true, decide_eq_true_eq] at hs
      by_cases hij2 : i = j
      · subst hij2
        exact hb _ (popS_mem _ st _ (by rw [hp]; exact .head _))
      · exact steps_par L d (i + 1) _ (by omega) (hin _ (fun a ha => hb a (popS_mem _ st a ha))) hs.2 j hj (by omega) h0
theorem right_par (L : List S32) (h : rightB L = true) : Par L ∧ 0 < L.length ∧ L.length ≤ 1000 := by
  unfold rightB at h
  simp only [Bool.and_eq_true, decide_eq_true_eq] at h
  exact ⟨fun j hj h0 => steps_par L L.length 0 [] (by omega) (fun a ha => by cases ha) h.2 j hj (by omega) h0, h.1.1, h.1.2⟩
def sumP (f : Nat → Nat) (P : Int → Bool) : List S32 → Nat → Nat
  | [], _ => 0
  | x :: r, i => (if P x.f0 = true then f i else 0) + sumP f P r (i + 1)
theorem sumP_congr (f g : Nat → Nat) (P : Int → Bool) : ∀ (l : List S32) (i : Nat), (∀ j, i ≤ j → f j = g j) → sumP f P l i = sumP g P l i
  | [], _, _ => rfl
  | x :: r, i, h => by rw [sumP, sumP, h i (Nat.le_refl _), sumP_congr f g P r (i + 1) (fun j hj => h j (by omega))]
theorem sumP_split (f : Nat → Nat) (m : Int) : ∀ (l : List S32) (i : Nat), sumP f (fun p => decide (p < m + 1)) l i = sumP f (fun p => decide (p = m)) l i + sumP f (fun p => decide (p < m)) l i
  | [], _ => rfl
  | x :: r, i => by
    rw [sumP, sumP, sumP, sumP_split f m r (i + 1)]
    have h1 : decide (x.f0 < m + 1) = (decide (x.f0 = m) || decide (x.f0 < m)) := by
      rw [← Bool.decide_or]; exact decide_eq_decide.2 (by omega)
    by_cases h2 : x.f0 = m
    · rw [h1, decide_eq_true h2, decide_eq_false (by omega : ¬ x.f0 < m)]
      simp; omega
    · by_cases h3 : x.f0 < m
      · rw [h1, decide_eq_false h2, decide_eq_true h3]; simp; omega
      · rw [h1, decide_eq_false h2, decide_eq_false h3]; simp
theorem cat_sum (T : Nat → ByteArray) (m : Int) : ∀ (l : List S32) (i : Nat), (catK T (kidsP m l i)).size = sumP (fun j => (T j).size) (fun p => decide (p = m)) l i
  | [], _ => rfl
  | x :: r, i => by
    rw [kidsP, sumP]
    by_cases h : x.f0 = m
    · rw [if_pos h, if_pos (decide_eq_true h), catK, ByteArray.size_append, cat_sum T m r (i + 1), Int.toNat_natCast]
    · rw [if_neg h, if_neg (by rw [decide_eq_false h]; exact Bool.false_ne_true), cat_sum T m r (i + 1), Nat.zero_add]
theorem kids_len (m : Int) : ∀ (l : List S32) (i : Nat), (kidsP m l i).length ≤ l.length
  | [], _ => Nat.le_refl _
  | x :: r, i => by
    have h := kids_len m r (i + 1)
    rw [kidsP]
    split
    · rw [List.length_cons, List.length_cons]; omega
    · rw [List.length_cons]; omega
theorem first_neg : ∀ (L : List S32), (∀ x r, L = x :: r → x.f0 < 0) → ∀ h : 0 < L.length, L[0].f0 < 0
  | x :: r, h0, _ => h0 x r rfl
theorem kids_skip (m : Nat) (L : List S32) (hp : Par L) (h0 : ∀ x r, L = x :: r → x.f0 < 0) : ∀ (d i : Nat), i + d = m + 1 → m < L.length → kidsP (m : Int) (L.drop i) i = kidsP (m : Int) (L.drop (m + 1)) (m + 1)
  | 0, i, hi, hm => by obtain rfl : i = m + 1 := by omega
                       rfl
  | d + 1, i, hi, hm => by
    have hlt : i < L.length := by omega
    rw [List.drop_eq_getElem_cons hlt, kidsP, if_neg ?_, kids_skip m L hp h0 d (i + 1) (by omega) hm]
    by_cases hz : i = 0
    · subst hz
      have := first_neg L h0 hlt
      omega
    · have := hp i hlt (by omega)
      omega
theorem kids_mem (m : Int) (L : List S32) : ∀ (d i : Nat), i + d = L.length → ∀ j ∈ kidsP m (L.drop i) i, ∃ (q : Nat) (h : q < L.length), j = (q : Int) ∧ i ≤ q ∧ L[q].f0 = m
  | 0, i, hi, j, hj => by
    rw [List.drop_eq_nil_of_le (by omega)] at hj; cases hj
  | d + 1, i, hi, j, hj => by
    have hlt : i < L.length := by omega
    rw [List.drop_eq_getElem_cons hlt, kidsP] at hj
    have rest : j ∈ kidsP m (L.drop (i + 1)) (i + 1) → ∃ (q : Nat) (h : q < L.length), j = (q : Int) ∧ i ≤ q ∧ L[q].f0 = m := by
      intro hj
      obtain ⟨q, h, h1, h2, h3⟩ := kids_mem m L d (i + 1) (by omega) j hj
      exact ⟨q, h, h1, by omega, h3⟩
    by_cases h : L[i].f0 = m
    · rw [if_pos h] at hj
      rcases List.mem_cons.1 hj with rfl | hj
      · exact ⟨i, hlt, rfl, Nat.le_refl _, h⟩
      · exact rest hj
    · rw [if_neg h] at hj; exact rest hj
theorem wt_drop (L : List S32) : ∀ i, wtL (L.drop i) ≤ wtL L := by
  induction L with
  | nil => intro i; simp [wtL]
  | cons x r ih =>
    intro i
    cases i with
    | zero => exact Nat.le_refl _
    | succ i =>
      rw [List.drop_succ_cons]
      exact Nat.le_trans (ih i) (by rw [wtL]; omega)
def Told (L : List S32) (T : Nat → ByteArray) (K j : Nat) : Prop := (∀ k, K ≤ k → nodeT k L (j : Int) = some (T j)) ∧ ∀ ab, aboveT L (j : Int) = some ab → ∀ k, K ≤ k → cardexref08_write.f k L (j : Int) ab = some (T j)
theorem all_nodes (L : List S32) (hl : L.length < 1000) (hS : SmallL L) (hp : Par L) (h0 : ∀ x r, L = x :: r → x.f0 < 0) (hz : wtL L ≤ 50000000000) : ∀ (d m : Nat), m + d = L.length →
    ∃ (T : Nat → ByteArray) (K : Nat), (∀ j, m ≤ j → j < L.length → Told L T K j ∧ (T j).size ≤ wtL L) ∧ sumP (fun j => (T j).size) (fun p => decide (p < (m : Int))) (L.drop m) m ≤ wtL (L.drop m)
  | 0, m, hm => ⟨fun _ => ⟨#[]⟩, 0, fun j h1 h2 => by omega, by rw [List.drop_eq_nil_of_le (by omega)]; exact Nat.le_refl _⟩
  | d + 1, m, hm => by
    obtain ⟨T, K, hT, hsum⟩ := all_nodes L hl hS hp h0 hz d (m + 1) (by omega)
    have hlt : m < L.length := by omega
    obtain ⟨ab, hab⟩ : ∃ ab, aboveT L (m : Int) = some ab := by
      unfold aboveT
      by_cases hm0 : 0 < m
      · have := hp m hlt hm0
        rw [if_pos (by omega), rd32_get L m hlt, if_pos ⟨this.1, by omega⟩]
        exact ⟨_, rfl⟩
      · rw [if_neg (by omega)]; exact ⟨_, rfl⟩
    have hks : kidsP (m : Int) L 0 = kidsP (m : Int) (L.drop (m + 1)) (m + 1) := kids_skip m L hp h0 (m + 1) 0 (by omega) hlt
    have hmem : ∀ j ∈ kidsP (m : Int) L 0, ∃ (q : Nat) (h : q < L.length), j = (q : Int) ∧ m + 1 ≤ q ∧ L[q].f0 = (m : Int) := by
      rw [hks]; exact kids_mem m L d (m + 1) (by omega)
    have hcs := cat_sum T (m : Int) (L.drop (m + 1)) (m + 1)
    rw [← hks] at hcs
    have hsp := sumP_split (fun j => (T j).size) (m : Int) (L.drop (m + 1)) (m + 1)
    have hwd := wt_drop L m
    rw [List.drop_eq_getElem_cons hlt, wtL] at hwd
    rw [show ((m + 1 : Nat) : Int) = (m : Int) + 1 by omega] at hsum
    obtain ⟨t, ht⟩ : ∃ t, t = nodeX L[m] ab (kidsP (m : Int) L 0) T := ⟨_, rfl⟩
    have hts := nodeX_len L[m] ab (kidsP (m : Int) L 0) T
    rw [← ht] at hts
    obtain ⟨K2, hK2⟩ := ref_node L m hlt hl (hS _ (List.getElem_mem hlt)) ab T K (fun j hj k hk => by
      obtain ⟨q, hq, rfl, h1, h2⟩ := hmem j hj
      have ha : aboveT L (q : Int) = some L[m].f3 := by
        unfold aboveT
        rw [if_pos (by omega), rd32_get L q hq, h2, if_pos ⟨by omega, by omega⟩, rd32_get L m hlt]
      exact (hT q h1 hq).1.2 _ ha k hk) (kids_len _ _ _) (by omega)
    rw [← ht] at hK2
    obtain ⟨T', hT1, hT2⟩ : ∃ T' : Nat → ByteArray, T' m = t ∧ ∀ j, j ≠ m → T' j = T j := ⟨fun j => if j = m then t else T j, if_pos rfl, fun j hj => if_neg hj⟩
    have hcong : ∀ (P : Int → Bool), sumP (fun j => (T' j).size) P (L.drop (m + 1)) (m + 1) = sumP (fun j => (T j).size) P (L.drop (m + 1)) (m + 1) := fun P => sumP_congr _ _ P _ _ (fun j hj => by show (T' j).size = _; rw [hT2 j (by omega)])
    refine ⟨T', K + K2 + L.length + 10, fun j h1 h2 => ?_, ?_⟩
    · by_cases hj : j = m
      · subst hj
        refine ⟨⟨fun k hk => ?_, fun ab' ha' k hk => ?_⟩, ?_⟩
        · rw [hT1, ht, show k = (k - 1) + 1 by omega]
          exact prog_node L j hlt (by omega) ab hab T (k - 1) (by omega) (fun y hy => by
            obtain ⟨q, hq, rfl, h3, _⟩ := hmem y hy
            exact (hT q h3 hq).1.1 _ (by omega))
        · rw [hT1]
          rw [hab] at ha'
          cases ha'
          exact hK2 k (by omega)
        · rw [hT1]; omega
      · obtain ⟨⟨h3, h4⟩, h5⟩ := hT j (by omega) h2
        refine ⟨⟨fun k hk => ?_, fun ab' ha' k hk => ?_⟩, ?_⟩
        · rw [hT2 j hj]; exact h3 k (by omega)
        · rw [hT2 j hj]; exact h4 ab' ha' k (by omega)
        · rw [hT2 j hj]; exact h5
    · rw [List.drop_eq_getElem_cons hlt, sumP, hcong, wtL]
      show (if _ then (T' m).size else 0) + _ ≤ _
      rw [hT1]
      split <;> omega
theorem write_both (L : List S32) (hl : L.length ≤ 100) (hS : SmallL L) (hz : wtL L ≤ 50000000000) : ∃ (a : ByteArray × Int) (K : Nat), ∀ k, K ≤ k → canon_Write.f k L = some a ∧ cardexref08_Canon.f k L = some a := by
  obtain ⟨K1, h1⟩ := prog_right L hS
  obtain ⟨K2, h2⟩ := ref_right L hS
  cases hr : rightB L with
  | false =>
    refine ⟨(⟨#[]⟩, 6), K1 + K2, fun k hk => ⟨?_, ?_⟩⟩
    · unfold canon_Write.f
      rw [h1 k (by omega), hr, Option.bind_some, if_neg Bool.false_ne_true]
    · unfold cardexref08_Canon.f
      rw [h2 k (by omega), hr, Option.bind_some, if_neg Bool.false_ne_true]
  | true =>
    obtain ⟨hp, hn, _⟩ := right_par L hr
    have h0 : ∀ x r, L = x :: r → x.f0 < 0 := by
      intro x r e
      have h := hr
      rw [e] at h
      unfold rightB at h
      rw [stepsR, show popS x.f0 [] = [] from rfl, if_pos rfl] at h
      simp only [Bool.and_eq_true, decide_eq_true_eq, beq_iff_eq] at h
      omega
    obtain ⟨T, K, hT, _⟩ := all_nodes L (by omega) hS hp h0 hz L.length 0 (by omega)
    obtain ⟨⟨h3, h4⟩, h5⟩ := hT 0 (Nat.le_refl _) hn
    refine ⟨(prologT ++ T 0, 0), K1 + K2 + K, fun k hk => ⟨?_, ?_⟩⟩
    · unfold canon_Write.f
      have h3k : nodeT k L 0 = some (T 0) := h3 k (by omega)
      rw [h1 k (by omega), hr, Option.bind_some, if_pos rfl, h3k, Option.bind_some, if_pos ⟨by rw [ByteArray.size_append]; show 39 + _ + 10 ≤ _; omega, by omega⟩]
    · unfold cardexref08_Canon.f
      have h4k : cardexref08_write.f k L 0 ⟨#[]⟩ = some (T 0) := h4 ⟨#[]⟩ rfl k (by omega)
      rw [h2 k (by omega), hr, Option.bind_some, if_pos rfl, h4k, Option.bind_some, if_pos (by omega)]
      rfl
theorem awake_ev : ∀ k, 60 ≤ k → cardexlaw10_awake.f k = some true :=
  le_rounds (f := cardexlaw10_awake.f) (fun k => cardexlaw10_awake.mono k) (by decide +kernel)
theorem canonTells_of (L : List S32) (h : L.length ≤ 100 → SmallL L ∧ wtL L ≤ 50000000000) : ∃ k, cardexlaw10_CanonTells.f k L = some true := by
  by_cases hl : L.length ≤ 100
  · obtain ⟨hS, hz⟩ := h hl
    obtain ⟨a, K, hw⟩ := write_both L hl hS hz
    obtain ⟨K1, h1⟩ := prog_right L hS
    obtain ⟨K2, h2⟩ := ref_right L hS
    refine ⟨K + K1 + K2 + 60, ?_⟩
    unfold cardexlaw10_CanonTells.f
    rw [if_neg (by omega), (hw _ (by omega)).1, Option.bind_some, (hw _ (by omega)).2, Option.bind_some, awake_ev _ (by omega), Option.bind_some, if_pos rfl, h1 _ (by omega), Option.bind_some, h2 _ (by omega), Option.bind_some, if_pos rfl, if_pos rfl, if_pos rfl]
  · refine ⟨60, ?_⟩
    unfold cardexlaw10_CanonTells.f
    rw [if_pos (by omega), awake_ev _ (by omega)]
    rfl
def muA (a : S29) : Nat := a.f0.size + 1 + (a.f1.size + 1) + 1
def muN (x : S32) : Nat := 1 + (1 + (x.f2.size + 1 + (x.f3.size + 1 + ((x.f4.map muA).sum + 1 + (x.f5.size + 1))))) + 1
theorem sum_mem {α : Type} (f : α → Nat) : ∀ (l : List α), ∀ x ∈ l, f x ≤ (l.map f).sum
  | y :: r, x, hx => by
    rw [List.map_cons, List.sum_cons]
    rcases List.mem_cons.1 hx with rfl | hx
    · omega
    · have := sum_mem f r x hx; omega
theorem len_sum : ∀ l : List S29, l.length ≤ (l.map muA).sum
  | [] => Nat.le_refl _
  | a :: r => by
    have h := len_sum r
    rw [List.map_cons, List.sum_cons, List.length_cons]
    unfold muA at h ⊢
    omega
theorem wtA_mu : ∀ l : List S29, wtA l ≤ 6 * (l.map muA).sum
  | [] => Nat.le_refl _
  | a :: r => by
    have h := wtA_mu r
    rw [List.map_cons, List.sum_cons, wtA]
    have e : muA a = a.f0.size + 1 + (a.f1.size + 1) + 1 := rfl
    omega
theorem wtL_mu : ∀ L : List S32, wtL L ≤ 40 * (L.map muN).sum
  | [] => Nat.le_refl _
  | x :: r => by
    have h := wtL_mu r
    have h2 := wtA_mu x.f4
    have e : muN x = 1 + (1 + (x.f2.size + 1 + (x.f3.size + 1 + ((x.f4.map muA).sum + 1 + (x.f5.size + 1))))) + 1 := rfl
    rw [List.map_cons, List.sum_cons, wtL]
    unfold wtN
    omega
theorem canonTells {P : Prop} (L : List S32) (hok : P) (hmu : (L.map muN).sum + 1 ≤ 1048576) : ∃ k, cardexlaw10_CanonTells.f k L = some true := by
  refine canonTells_of L (fun _ => ⟨fun x hx => ?_, ?_⟩)
  · have h := sum_mem muN L x hx
    have h2 := len_sum x.f4
    have e : muN x = 1 + (1 + (x.f2.size + 1 + (x.f3.size + 1 + ((x.f4.map muA).sum + 1 + (x.f5.size + 1))))) + 1 := rfl
    refine ⟨by omega, by omega, by omega, by omega, fun a ha => ?_⟩
    have h3 := sum_mem muA x.f4 a ha
    have e2 : muA a = a.f0.size + 1 + (a.f1.size + 1) + 1 := rfl
    exact ⟨by omega, by omega⟩
  · have := wtL_mu L
    omega
end Go.Proofs.YtgacmniagmfckaaDoor.P
