/- Plain law of this session: where pieces end: behind a '>' or ahead of a '<'; what is left is a text, too. -/
import Derived.Test.YtjijbncheikagaaDoorTok3
namespace Go.Proofs.YtjijbncheikagaaDoor.P
open Go Go.RowKit Go.Lib Go.Proofs.YtjijbncheikagaaDoorX Go.Proofs.YtjijbncheikagaaDoorW.PrintWords Go.Proofs.YtjijbncheikagaaDoor.Q
set_option linter.unusedVariables false
set_option linter.unusedSimpArgs false
theorem no_prolog {l r : Text} {p : Pc} (h : nextO l = some (p, r)) : isL prologC l = l := by
  unfold isL
  by_cases hp : prologC <+: l
  · obtain ⟨t, rfl⟩ := hp
    have : nextO (prologC ++ t) = none := by
      unfold nextO
      rw [if_neg (by rintro ⟨x, hx⟩; injection hx with _ hx; injection hx with hx _; revert hx; decide), if_pos ⟨prologC.drop 1 ++ t, rfl⟩]
      unfold openO
      have hn : (nameL ((prologC ++ t).drop 1)).1 = [] := by
        show (nameL (63 :: _)).1 = []
        rw [nameL_no (by decide)]
      rw [if_pos hn]
    rw [this] at h; cases h
  · rw [if_neg hp]
end Go.Proofs.YtjijbncheikagaaDoor.P
