/- TokenPlaces, in plain words: each token begins where it is told to, the first one at the beginning, and each behind the one ahead. -/
import Derived.Test.YtjijbncheikagaaDoorTokV
namespace Go.Proofs.YtjijbncheikagaaDoor.P
open Go Go.RowKit Go.Lib Go.Proofs.YtjijbncheikagaaDoorX Go.Proofs.YtjijbncheikagaaDoorW.PrintWords Go.Proofs.YtjijbncheikagaaDoor.Q
set_option linter.unusedVariables false
set_option linter.unusedSimpArgs false
set_option maxRecDepth 100000
theorem awake8 : cardexlaw08_awake.f 40 = some true := by decide +kernel
theorem awake8_up : ∀ k, 40 ≤ k → cardexlaw08_awake.f k = some true := by
  intro k hk
  obtain ⟨j, rfl⟩ : ∃ j, k = 40 + j := ⟨k - 40, by omega⟩
  clear hk
  induction j with
  | zero => exact awake8
  | succ j ih => exact cardexlaw08_awake.mono _ _ ih
inductive Row (N : Nat) : Text → List (Pc × Int) → Prop where
  | nil : Row N [] []
  | cons {l r : Text} {p : Pc} {x : List (Pc × Int)} : l ≠ [] → nextO l = some (p, r) → p.ats.length ≤ 10 → Row N r x → Row N l ((p, ((N - l.length : Nat) : Int)) :: x)
theorem row_toks {N : Nat} {l : Text} {x : List (Pc × Int)} (h : Row N l x) : ∀ (d M : Nat), l.length < d → ∃ y, toksG d M l = .ok y ∧ y.map (·.1) = x.map (·.1) ∧ (∀ q z, y = q :: z → q.2 = ((M - l.length : Nat) : Int)) := by
  induction h with
  | nil =>
    intro d M hd
    obtain ⟨d, rfl⟩ : ∃ j, d = j + 1 := ⟨d - 1, by simp only [List.length_nil] at hd; omega⟩
    refine ⟨[], ?_, rfl, fun q z h => by cases h⟩
    rw [toksG, if_pos rfl]
  | @cons l r p x h0 hn hc hr ih =>
    intro d M hd
    obtain ⟨d, rfl⟩ : ∃ j, d = j + 1 := ⟨d - 1, by omega⟩
    have hlen := nextO_len h0 hn
    obtain ⟨y, hy, hm, _⟩ := ih d M (by omega)
    refine ⟨(p, ((M - l.length : Nat) : Int)) :: y, ?_, ?_, fun q z h => by cases h; rfl⟩
    · rw [toksG, if_neg h0, hn]
      simp only
      rw [if_neg (by omega), hy]
    · rw [List.map_cons, List.map_cons, hm]
end Go.Proofs.YtjijbncheikagaaDoor.P
