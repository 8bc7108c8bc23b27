/- TokenPlaces, in plain words: each token begins where it is told to, the first one at the beginning, and each behind the one ahead. -/
import Derived.Test.YtjijbncheikagaaDoorTokV
namespace Go.Proofs.YtjijbncheikagaaDoor.P
open Go Go.RowKit Go.Lib Go.Proofs.YtjijbncheikagaaDoorX Go.Proofs.YtjijbncheikagaaDoorW.PrintWords Go.Proofs.YtjijbncheikagaaDoor.Q
set_option linter.unusedVariables false
set_option linter.unusedSimpArgs false
set_option maxRecDepth 100000
theorem awake8 : cardexlaw08_awake.f 40 = some true := by decide +kernel
theorem awake8_up : ∀ k, 40 ≤ k → cardexlaw08_awake.f k = some true := by
  intro k hk
  obtain ⟨j, rfl⟩ : ∃ j, k = 40 + j := ⟨k - 40, by omega⟩
  clear hk
  induction j with
  | zero => exact awake8
  | succ j ih => exact cardexlaw08_awake.mono _ _ ih
inductive Row (N : Nat) : Text → List (Pc × Int) → Prop where
  | nil : Row N [] []
  | cons {l r : Text} {p : Pc} {x : List (Pc × Int)} : l ≠ [] → nextO l = some (p, r) → p.ats.length ≤ 10 → Row N r x → Row N l ((p, ((N - l.length : Nat) : Int)) :: x)
theorem toks_row : ∀ (d N : Nat) (l : Text) (x : List (Pc × Int)), toksG d N l = .ok x → Row N l x
  | 0, _, _, _, h => by rw [toksG] at h; cases h
  | d + 1, N, l, x, h => by
    rw [toksG] at h
    by_cases h0 : l = []
    · rw [if_pos h0] at h
      cases h
      rw [h0]; exact .nil
    rw [if_neg h0] at h
    cases hn : nextO l with
    | none => rw [hn] at h; cases h
    | some y =>
      obtain ⟨p, r⟩ := y
      rw [hn] at h
      simp only at h
      by_cases hc : p.ats.length > 10
      · rw [if_pos hc] at h; cases h
      rw [if_neg hc] at h
      cases ht : toksG d N r with
      | error e => rw [ht] at h; cases h
      | ok y =>
        rw [ht] at h
        cases h
        exact .cons h0 hn (by omega) (toks_row d N r y ht)
theorem row_len {N : Nat} {l : Text} {x : List (Pc × Int)} (h : Row N l x) : x.length ≤ l.length := by
  induction h with
  | nil => exact Nat.le_refl _
  | cons h0 hn hc hr ih =>
    have := nextO_len h0 hn
    rw [List.length_cons]
    omega
theorem toks_err : ∀ (d N : Nat) (l : Text) (e : Int × Int), toksG d N l = .error e → l.length < d → e.2 ≠ 0
  | 0, _, _, _, _, h => by omega
  | d + 1, N, l, e, h, hd => by
    rw [toksG] at h
    by_cases h0 : l = []
    · rw [if_pos h0] at h; cases h
    rw [if_neg h0] at h
    cases hn : nextO l with
    | none => rw [hn] at h; cases h; show (5 : Int) ≠ 0; decide
    | some y =>
      obtain ⟨p, r⟩ := y
      rw [hn] at h
      simp only at h
      by_cases hc : p.ats.length > 10
      · rw [if_pos hc] at h; cases h; show (4 : Int) ≠ 0; decide
      rw [if_neg hc] at h
      have hlen := nextO_len h0 hn
      cases ht : toksG d N r with
      | error e2 =>
        rw [ht] at h
        cases h
        exact toks_err d N r e ht (by omega)
      | ok y => rw [ht] at h; cases h
end Go.Proofs.YtjijbncheikagaaDoor.P
