/- TokenRefuses, in plain words: what is no token is refused, where it begins; so many attributes, and no more. -/
import Derived.Test.YtjijbncheikagaaDoorQ
namespace Go.Proofs.YtjijbncheikagaaDoor.P
open Go Go.RowKit Go.Lib Go.Proofs.YtjijbncheikagaaDoorX Go.Proofs.YtjijbncheikagaaDoorW.PrintWords Go.Proofs.YtjijbncheikagaaDoor.Q
set_option linter.unusedVariables false
set_option maxRecDepth 100000
theorem refuses_all : ∀ i : Fin 16, ∀ j : Fin 5, cardexlaw08_TokenRefuses.f 60 (i.val : Int) (j.val : Int) = some true := by decide +kernel
theorem u64_rest (a : Int) (M : Nat) (hM : 0 < M) (hM2 : M ≤ 1200000) : ∃ n : Nat, n < M ∧ wrap64 (Int.tmod (IntKind.u64.wrap a) M) = (n : Int) := by
  have h0 : 0 ≤ IntKind.u64.wrap a := by rw [IntKind.wrap_u64]; omega
  have h1 : Int.tmod (IntKind.u64.wrap a) M = IntKind.u64.wrap a % M := Int.tmod_eq_emod_of_nonneg h0
  have h2 := Int.emod_nonneg (IntKind.u64.wrap a) (show (M : Int) ≠ 0 by omega)
  have h3 := Int.emod_lt_of_pos (IntKind.u64.wrap a) (show (0 : Int) < M by omega)
  refine ⟨(IntKind.u64.wrap a % M).toNat, by omega, ?_⟩
  rw [h1]
  unfold wrap64
  omega
theorem u64_self (n M : Nat) (h : n < M) (hM : M ≤ 1200000) : wrap64 (Int.tmod (IntKind.u64.wrap (n : Int)) M) = (n : Int) := by
  have h0 : IntKind.u64.wrap (n : Int) = n := by rw [IntKind.wrap_u64]; omega
  rw [h0, Int.tmod_eq_emod_of_nonneg (by omega), Int.emod_eq_of_lt (by omega) (by omega)]
  unfold wrap64
  omega
theorem tokenRefuses (a b : Int) (ha : (Lit.int .i64 a).wf = true) (hb : (Lit.int .i64 b).wf = true) : ∃ k, cardexlaw08_TokenRefuses.f k a b = some true := by
  obtain ⟨i, hi, e1⟩ := u64_rest a 16 (by decide) (by decide)
  obtain ⟨j, hj, e2⟩ := u64_rest b 5 (by decide) (by decide)
  have h := refuses_all ⟨i, hi⟩ ⟨j, hj⟩
  have f1 := u64_self i 16 hi (by decide)
  have f2 := u64_self j 5 hj (by decide)
  refine ⟨60, ?_⟩
  rw [← h]
  simp only at e1 e2 f1 f2 ⊢
  unfold cardexlaw08_TokenRefuses.f
  rw [show ((16 : Nat) : Int) = 16 from rfl] at e1 f1
  rw [show ((5 : Nat) : Int) = 5 from rfl] at e2 f2
  rw [e1, e2, f1, f2]
end Go.Proofs.YtjijbncheikagaaDoor.P
