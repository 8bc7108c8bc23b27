/- Plain law of this session: no piece reaches across a '<': what is behind it may be changed. -/
import Derived.Test.YtjijbncheikagaaDoorPTokenPlaces
namespace Go.Proofs.YtjijbncheikagaaDoor.P
open Go Go.RowKit Go.Lib Go.Proofs.YtjijbncheikagaaDoorX Go.Proofs.YtjijbncheikagaaDoorW.PrintWords Go.Proofs.YtjijbncheikagaaDoor.Q
set_option linter.unusedVariables false
set_option linter.unusedSimpArgs false
theorem dw_app (P : UInt8 → Bool) (hP : P 60 = false) : ∀ (u m : Text), (u ++ 60 :: m).dropWhile P = u.dropWhile P ++ 60 :: m ∧ (u ++ 60 :: m).takeWhile P = u.takeWhile P
  | [], m => by simp [hP]
  | c :: u, m => by
    obtain ⟨h1, h2⟩ := dw_app P hP u m
    rw [List.cons_append, List.dropWhile_cons, List.dropWhile_cons, List.takeWhile_cons, List.takeWhile_cons, h1, h2]
    split <;> exact ⟨rfl, rfl⟩
theorem gap_app (u m : Text) : gapL (u ++ 60 :: m) = gapL u ++ 60 :: m := (dw_app _ (by decide) u m).1
theorem nameL_app (u m : Text) : nameL (u ++ 60 :: m) = ((nameL u).1, (nameL u).2 ++ 60 :: m) := by
  match u with
  | [] => rw [List.nil_append, nameL_no (by decide)]; rfl
  | c :: u =>
    rw [List.cons_append]
    by_cases h : firstC.contains c = true
    · rw [nameL_yes h, nameL_yes h]
      have := dw_app (otherC.contains ·) (by decide) (c :: u) m
      rw [List.cons_append] at this
      rw [this.1, this.2]
    · rw [nameL_no h, nameL_no h]; rfl
theorem pre_app (p u m : Text) (hp : 60 ∉ p) : (p <+: u ++ 60 :: m) ↔ p <+: u := by
  constructor
  · intro h
    by_cases hl : p.length ≤ u.length
    · exact List.prefix_of_prefix_length_le h (List.prefix_append u _) hl
    · exfalso
      have h2 : u ++ [60] <+: u ++ 60 :: m := ⟨m, by simp⟩
      have h3 := List.prefix_of_prefix_length_le h2 h (by rw [List.length_append, List.length_singleton]; omega)
      exact hp (h3.subset (by simp))
  · intro h
    exact h.trans (List.prefix_append u _)
theorem valO_app {u m v r : Text} (h : valO (u ++ 60 :: m) = some (v, r)) : ∃ u', r = u' ++ 60 :: m ∧ ∀ m', valO (u ++ 60 :: m') = some (v, u' ++ 60 :: m') := by
  match u, h with
  | [], h => simp [valO] at h
  | c :: t, h =>
    rw [List.cons_append] at h
    have e : ∀ x : Text, valO (c :: x) = if c = 39 ∨ c = 34 then valM c x else none := fun x => rfl
    rw [e] at h
    by_cases hc : c = 39 ∨ c = 34
    · rw [if_pos hc] at h
      have hc60 : c ≠ 60 := by rcases hc with rfl | rfl <;> decide
      rcases first_of c t with h1 | ⟨p, q, rfl, hp⟩
      · exfalso
        have hb : backO ((t ++ 60 :: m).takeWhile (· != c)) = none := by
          have hm : 60 ∈ (t ++ 60 :: m).takeWhile (· != c) := by
            rw [List.takeWhile_append_of_pos (fun x hx => by rw [bne_iff_ne]; rintro rfl; exact h1 hx), List.takeWhile_cons, if_pos (by rw [bne_iff_ne]; exact hc60.symm)]
            simp
          unfold backO
          rw [(backM_lt _).1 hm]
          split <;> rfl
        unfold valM at h
        split at h
        · cases h
        · rw [hb] at h; cases h
      · have e2 : ∀ m', valM c ((p ++ c :: q) ++ 60 :: m') = (backO p).map fun v => (v, q ++ 60 :: m') := by
          intro m'
          obtain ⟨t1, t2⟩ := tw_some c p (q ++ 60 :: m') hp
          rw [List.append_assoc, List.cons_append]
          unfold valM
          rw [t1, t2, if_neg (by simp)]; rfl
        rw [e2] at h
        cases hb : backO p with
        | none => rw [hb] at h; cases h
        | some w =>
          rw [hb] at h
          cases h
          refine ⟨q, rfl, fun m' => ?_⟩
          rw [List.cons_append, e, if_pos hc, e2, hb]; rfl
    · rw [if_neg hc] at h; cases h
theorem attrO_app {u m n v r : Text} (h : attrO (u ++ 60 :: m) = some (n, v, r)) : ∃ u', r = u' ++ 60 :: m ∧ ∀ m', attrO (u ++ 60 :: m') = some (n, v, u' ++ 60 :: m') := by
  unfold attrO at h
  rw [nameL_app] at h
  simp only at h
  by_cases hn : (nameL u).1 = []
  · rw [if_pos hn] at h; cases h
  rw [if_neg hn, gap_app] at h
  cases hg : gapL (nameL u).2 with
  | nil => rw [hg] at h; simp at h
  | cons b t =>
    rw [hg] at h
    by_cases hb : b = 61
    · subst hb
      rw [List.cons_append] at h
      simp only at h
      rw [gap_app] at h
      cases hv : valO (gapL t ++ 60 :: m) with
      | none => rw [hv] at h; cases h
      | some x =>
        obtain ⟨v', r'⟩ := x
        rw [hv] at h
        cases h
        obtain ⟨u', e1, e2⟩ := valO_app hv
        refine ⟨u', e1, fun m' => ?_⟩
        unfold attrO
        rw [nameL_app]
        simp only
        rw [if_neg hn, gap_app, hg, List.cons_append]
        simp only
        rw [gap_app, e2]; rfl
    · exfalso
      rw [List.cons_append] at h
      split at h
      · rename_i e; injection e with e _; exact hb e
      · cases h
theorem openG_app : ∀ (d : Nat) (ats : Attrs) (u m : Text) (x : Attrs × Bool × Text), openG d ats (u ++ 60 :: m) = some x → ∃ u', x.2.2 = u' ++ 60 :: m ∧ ∀ m' d', (u ++ 60 :: m').length < d' → openG d' ats (u ++ 60 :: m') = some (x.1, x.2.1, u' ++ 60 :: m')
  | 0, _, _, _, _, h => by rw [openG] at h; cases h
  | d + 1, ats, u, m, x, h => by
    rw [openG, gap_app] at h
    have tw : ∀ m', (u ++ 60 :: m').takeWhile (blankC.contains ·) = u.takeWhile (blankC.contains ·) := fun m' => (dw_app _ (by decide) u m').2
    by_cases h1 : [47, 62] <+: gapL u
    · rw [if_pos ((pre_app _ _ _ (by decide)).2 h1)] at h
      cases h
      have hl : 2 ≤ (gapL u).length := h1.length_le
      refine ⟨(gapL u).drop 2, by show (gapL u ++ 60 :: m).drop 2 = _; rw [List.drop_append_of_le_length hl], fun m' d' hd' => ?_⟩
      obtain ⟨d', rfl⟩ : ∃ j, d' = j + 1 := ⟨d' - 1, by omega⟩
      rw [openG, gap_app, if_pos ((pre_app _ _ _ (by decide)).2 h1), List.drop_append_of_le_length hl]
    rw [if_neg (fun e => h1 ((pre_app _ _ _ (by decide)).1 e))] at h
    by_cases h2 : [62] <+: gapL u
    · rw [if_pos ((pre_app _ _ _ (by decide)).2 h2)] at h
      cases h
      have hl : 1 ≤ (gapL u).length := h2.length_le
      refine ⟨(gapL u).drop 1, by show (gapL u ++ 60 :: m).drop 1 = _; rw [List.drop_append_of_le_length hl], fun m' d' hd' => ?_⟩
      obtain ⟨d', rfl⟩ : ∃ j, d' = j + 1 := ⟨d' - 1, by omega⟩
      rw [openG, gap_app, if_neg (fun e => h1 ((pre_app _ _ _ (by decide)).1 e)), if_pos ((pre_app _ _ _ (by decide)).2 h2), List.drop_append_of_le_length hl]
    rw [if_neg (fun e => h2 ((pre_app _ _ _ (by decide)).1 e))] at h
    cases ha : attrO (gapL u ++ 60 :: m) with
    | none => rw [ha] at h; cases h
    | some y =>
      obtain ⟨n, v, r⟩ := y
      rw [ha] at h
      simp only at h
      rw [tw] at h
      obtain ⟨u1, rfl, e2⟩ := attrO_app ha
      by_cases h3 : u.takeWhile (blankC.contains ·) = []
      · rw [if_pos h3] at h; cases h
      rw [if_neg h3] at h
      by_cases h4 : ats.any (fun a => a.1 == n) = true
      · rw [if_pos h4] at h; cases h
      rw [if_neg h4] at h
      obtain ⟨u2, e3, e4⟩ := openG_app d _ u1 m x h
      refine ⟨u2, e3, fun m' d' hd' => ?_⟩
      obtain ⟨d', rfl⟩ : ∃ j, d' = j + 1 := ⟨d' - 1, by omega⟩
      have hlen := attrO_len (e2 m')
      have hg := gapL_len (u ++ 60 :: m')
      rw [gap_app] at hg
      rw [openG, gap_app, if_neg (fun e => h1 ((pre_app _ _ _ (by decide)).1 e)), if_neg (fun e => h2 ((pre_app _ _ _ (by decide)).1 e)), e2]
      simp only
      rw [tw, if_neg h3, if_neg h4]
      exact e4 m' d' (by omega)
theorem next_app {u m r : Text} {p : Pc} (hu : u ≠ []) (h : nextO (u ++ 60 :: m) = some (p, r)) : ∃ u', r = u' ++ 60 :: m ∧ u'.length < u.length ∧ ∀ m', nextO (u ++ 60 :: m') = some (p, u' ++ 60 :: m') := by
  suffices hs : ∃ u', r = u' ++ 60 :: m ∧ ∀ m', nextO (u ++ 60 :: m') = some (p, u' ++ 60 :: m') by
    obtain ⟨u', rfl, h2⟩ := hs
    have := nextO_len (by simp) h
    rw [List.length_append, List.length_append] at this
    exact ⟨u', rfl, by omega, h2⟩
  match u, hu with
  | c :: t, _ =>
    unfold nextO at h
    rw [List.cons_append] at h
    have p1 : ∀ m', ([60, 47] <+: c :: (t ++ 60 :: m')) ↔ (c = 60 ∧ [47] <+: t) := fun m' => by
      rw [List.cons_prefix_cons, pre_app [47] t m' (by decide)]
      exact and_congr_left fun _ => eq_comm
    have p2 : ∀ x : Text, ([60] <+: c :: x) ↔ c = 60 := fun x => by
      rw [List.cons_prefix_cons]
      exact ⟨fun h => h.1.symm, fun h => ⟨h.symm, List.nil_prefix⟩⟩
    by_cases h1 : c = 60 ∧ [47] <+: t
    · rw [if_pos ((p1 m).2 h1)] at h
      have hd : ∀ m', (c :: (t ++ 60 :: m')).drop 2 = t.drop 1 ++ 60 :: m' := fun m' => by
        have hl : 1 ≤ t.length := h1.2.length_le
        rw [show (2 : Nat) = 1 + 1 from rfl, List.drop_succ_cons, List.drop_append_of_le_length hl]
      rw [hd] at h
      unfold shutO at h
      rw [nameL_app] at h
      simp only at h
      by_cases hn : (nameL (t.drop 1)).1 = []
      · rw [if_pos hn] at h; cases h
      rw [if_neg hn, gap_app] at h
      cases hg : gapL (nameL (t.drop 1)).2 with
      | nil => rw [hg] at h; simp at h
      | cons b g =>
        rw [hg] at h
        by_cases hb : b = 62
        · subst hb
          rw [List.cons_append] at h
          simp only at h
          cases h
          refine ⟨g, rfl, fun m' => ?_⟩
          unfold nextO
          rw [List.cons_append, if_pos ((p1 m').2 h1), hd]
          unfold shutO
          rw [nameL_app]
          simp only
          rw [if_neg hn, gap_app, hg, List.cons_append]
          rfl
        · exfalso
          rw [List.cons_append] at h
          split at h
          · rename_i e; injection e with e _; exact hb e
          · cases h
    rw [if_neg (fun e => h1 ((p1 m).1 e))] at h
    by_cases h2 : c = 60
    · rw [if_pos ((p2 _).2 h2)] at h
      rw [List.drop_succ_cons, List.drop_zero] at h
      unfold openO at h
      rw [nameL_app] at h
      simp only at h
      by_cases hn : (nameL t).1 = []
      · rw [if_pos hn] at h; cases h
      rw [if_neg hn] at h
      cases ho : openG ((t ++ 60 :: m).length + 1) [] ((nameL t).2 ++ 60 :: m) with
      | none => rw [ho] at h; cases h
      | some x =>
        rw [ho] at h
        cases h
        obtain ⟨u', e1, e2⟩ := openG_app _ _ _ _ _ ho
        refine ⟨u', e1, fun m' => ?_⟩
        unfold nextO
        rw [List.cons_append, if_neg (fun e => h1 ((p1 m').1 e)), if_pos ((p2 _).2 h2), List.drop_succ_cons, List.drop_zero]
        unfold openO
        rw [nameL_app]
        simp only
        have hl := nameL_len t
        rw [if_neg hn, e2 m' _ (by rw [List.length_append, List.length_append]; omega)]; rfl
    · rw [if_neg (fun e => h2 ((p2 _).1 e))] at h
      rw [← List.cons_append] at h
      obtain ⟨d1, d2⟩ := dw_app (· != 60) (by decide) (c :: t) m
      rw [d1, d2] at h
      cases hb : backO ((c :: t).takeWhile (· != 60)) with
      | none => rw [hb] at h; cases h
      | some v =>
        rw [hb] at h
        cases h
        refine ⟨_, rfl, fun m' => ?_⟩
        unfold nextO
        obtain ⟨d3, d4⟩ := dw_app (· != 60) (by decide) (c :: t) m'
        rw [List.cons_append, if_neg (fun e => h1 ((p1 m').1 e)), if_neg (fun e => h2 ((p2 _).1 e)), ← List.cons_append, d3, d4, hb]; rfl
theorem row_app {N : Nat} {m : Text} : ∀ (n : Nat) (u : Text) (x : List (Pc × Int)), u.length ≤ n → (u ++ 60 :: m).length ≤ N → Row N (u ++ 60 :: m) x → ∃ xs y, x = xs ++ y ∧ Row N (60 :: m) y ∧ ∀ m' N' y', Row N' (60 :: m') y' → (u ++ 60 :: m').length ≤ N' → N' - (60 :: m').length = N - (60 :: m).length → Row N' (u ++ 60 :: m') (xs ++ y')
  | n, [], x, _, _, h => ⟨[], x, rfl, h, fun m' N' y' h _ _ => h⟩
  | 0, c :: t, x, hn, _, _ => by simp at hn
  | n + 1, c :: t, x, hn, hN, h => by
    generalize hl : (c :: t) ++ 60 :: m = l at h
    cases h with
    | nil => simp at hl
    | @cons l r p x h0 hnx hc hr =>
      subst hl
      obtain ⟨u', rfl, hlt, hall⟩ := next_app (by simp) hnx
      rw [List.length_append, List.length_cons] at hN
      obtain ⟨xs, y, rfl, hy, hrest⟩ := row_app n u' x (by rw [List.length_cons] at hn hlt; omega) (by rw [List.length_append]; rw [List.length_cons] at hlt; omega) hr
      refine ⟨(p, ((N - ((c :: t) ++ 60 :: m).length : Nat) : Int)) :: xs, y, rfl, hy, fun m' N' y' hy' hN' hD => ?_⟩
      rw [List.cons_append]
      have e : N - ((c :: t) ++ 60 :: m).length = N' - ((c :: t) ++ 60 :: m').length := by
        rw [List.length_append] at hN' ⊢
        rw [List.length_append, List.length_cons] at *
        rw [List.length_cons] at *
        simp only [List.length_cons] at *
        omega
      rw [e]
      refine .cons (by simp) (hall m') hc (hrest m' N' y' hy' ?_ hD)
      rw [List.length_append] at hN' ⊢
      omega
theorem row_exact {N : Nat} {l : Text} {x : List (Pc × Int)} (h : Row N l x) : ∀ d, l.length < d → toksG d N l = .ok x := by
  induction h with
  | nil =>
    intro d hd
    obtain ⟨d, rfl⟩ : ∃ j, d = j + 1 := ⟨d - 1, by simp only [List.length_nil] at hd; omega⟩
    rw [toksG, if_pos rfl]
  | @cons l r p x h0 hn hc hr ih =>
    intro d hd
    obtain ⟨d, rfl⟩ : ∃ j, d = j + 1 := ⟨d - 1, by omega⟩
    have hlen := nextO_len h0 hn
    rw [toksG, if_neg h0, hn]
    simp only
    rw [if_neg (by omega), ih d (by omega)]
theorem row_shift {N : Nat} (s : Nat) {l : Text} {x : List (Pc × Int)} (h : Row N l x) : l.length ≤ N → Row (N + s) l (x.map fun q => (q.1, q.2 + s)) := by
  induction h with
  | nil => intro _; exact .nil
  | @cons l r p x h0 hn hc hr ih =>
    intro hN
    have hlen := nextO_len h0 hn
    rw [List.map_cons]
    have e : (((p, ((N - l.length : Nat) : Int)).1, (p, ((N - l.length : Nat) : Int)).2 + (s : Int)) : Pc × Int) = (p, ((N + s - l.length : Nat) : Int)) := by
      simp only [Prod.mk.injEq, true_and]; omega
    rw [e]
    exact .cons h0 hn hc (ih (by omega))
end Go.Proofs.YtjijbncheikagaaDoor.P
