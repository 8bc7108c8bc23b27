/- CanonNeeds, in plain words: a right tree with one thing that may not be is not right. -/
import Derived.Test.YtgacmniagmfckaaDoorQ
namespace Go.Proofs.YtgacmniagmfckaaDoor.P
open Go.RowKit Go.Lib Go.Proofs.YtgacmniagmfckaaDoorX Go.Proofs.YtgacmniagmfckaaDoorW.PrintWords Go.Proofs.YtgacmniagmfckaaDoor.Q
set_option linter.unusedVariables false
set_option linter.unusedSimpArgs false
theorem le_rounds {α : Type} {f : Nat → Option α} (h : ∀ k, LeO (f k) (f (k + 1))) {k0 : Nat} {r : α} (h0 : f k0 = some r) : ∀ k, k0 ≤ k → f k = some r := by
  intro k hk
  obtain ⟨d, rfl⟩ : ∃ d, k = k0 + d := ⟨k - k0, by omega⟩
  clear hk
  induction d with
  | zero => exact h0
  | succ d ih => exact h (k0 + d) r ih
theorem awake_ev : ∀ k, 60 ≤ k → cardexlaw10_awake.f k = some true :=
  le_rounds (f := cardexlaw10_awake.f) (fun k => cardexlaw10_awake.mono k) (by decide +kernel)
theorem base_r : ∀ k, 60 ≤ k → canon_Right.f k base4 = some true :=
  le_rounds (f := fun k => canon_Right.f k base4) (fun k => canon_Right.mono base4 k) (by decide +kernel)
def Bad (L : List S32) : Prop := canon_Right.f 60 L = some false
theorem bad_right {L : List S32} (h : Bad L) : canon_Right.f 60 L = some false := h
theorem bad_write {L : List S32} (h : Bad L) : ∃ s, canon_Write.f 60 L = some (s, 6) := by
  unfold canon_Write.f
  rw [bad_right h, Option.bind_some]
  exact ⟨_, rfl⟩
theorem bytes8 : ∀ v : Fin 128, Bad [n0 (-1) nA, n1 ⟨#[98]⟩ ⟨#[]⟩, n2 ⟨#[]⟩, n3 0 ⟨#[100]⟩ (oneB ((128 + ((v.1 : Nat) : Int)) % 256))] := by
  unfold Bad; decide +kernel
theorem need_bad (t c : Int) (hc : 0 ≤ c) : Bad (needL t c) := by
  unfold needL
  by_cases h0 : t = 0
  · rw [if_pos h0]; unfold Bad; decide +kernel
  rw [if_neg h0]
  by_cases h1 : t = 1
  · rw [if_pos h1]; unfold Bad; decide +kernel
  rw [if_neg h1]
  by_cases h2 : t = 2
  · rw [if_pos h2]; unfold Bad; decide +kernel
  rw [if_neg h2]
  by_cases h3 : t = 3
  · rw [if_pos h3]; unfold Bad; decide +kernel
  rw [if_neg h3]
  by_cases h4 : t = 4
  · rw [if_pos h4]; unfold Bad; decide +kernel
  rw [if_neg h4]
  by_cases h5 : t = 5
  · rw [if_pos h5]; unfold Bad; decide +kernel
  rw [if_neg h5]
  by_cases h6 : t = 6
  · rw [if_pos h6]; unfold Bad; decide +kernel
  rw [if_neg h6]
  by_cases h7 : t = 7
  · rw [if_pos h7]; unfold Bad; decide +kernel
  rw [if_neg h7]
  by_cases h8 : t = 8
  · rw [if_pos h8, Int.tmod_eq_emod_of_nonneg hc]
    have h := bytes8 ⟨(c % 128).toNat, by omega⟩
    rw [show (((c % 128).toNat : Nat) : Int) = c % 128 by omega] at h
    exact h
  rw [if_neg h8]
  by_cases h9 : t = 9
  · rw [if_pos h9]; unfold Bad; decide +kernel
  rw [if_neg h9]
  by_cases h10 : t = 10
  · rw [if_pos h10]; unfold Bad; decide +kernel
  rw [if_neg h10]
  by_cases h11 : t = 11
  · rw [if_pos h11]; unfold Bad; decide +kernel
  rw [if_neg h11]
  unfold Bad; decide +kernel
theorem canonNeeds (a : Int) (c : Int) (ha : (Lit.int .i64 a).wf = true) (hc : (Lit.int .u8 c).wf = true) : ∃ k, cardexlaw10_CanonNeeds.f k a c = some true := by
  have hc0 : 0 ≤ c := by
    have h : (decide (IntKind.u8.min ≤ c) && decide (c ≤ IntKind.u8.max)) = true := hc
    rw [Bool.and_eq_true] at h
    have h1 : IntKind.u8.min ≤ c := of_decide_eq_true h.1
    have e : IntKind.u8.min = 0 := by decide
    omega
  refine ⟨60, ?_⟩
  have hb := need_bad (Int.tmod (IntKind.u64.wrap a) 13) c hc0
  obtain ⟨s, hs⟩ := bad_write hb
  unfold cardexlaw10_CanonNeeds.f
  rw [awake_ev 60 (Nat.le_refl _), Option.bind_some, if_pos rfl, base_r 60 (Nat.le_refl _), Option.bind_some, if_pos rfl, hs, Option.bind_some, bad_right hb, Option.bind_some, if_neg Bool.false_ne_true]
  rfl
end Go.Proofs.YtgacmniagmfckaaDoor.P
