/- EscapeTells, in plain words: any text escaped, and any text back, or why not, as the document has it. -/
import Derived.Test.YtjijbncheikagaaDoorEsc2
namespace Go.Proofs.YtjijbncheikagaaDoor.P
open Go.RowKit Go.Lib Go.Proofs.YtjijbncheikagaaDoorX Go.Proofs.YtjijbncheikagaaDoorW.PrintWords Go.Proofs.YtjijbncheikagaaDoor.Q
theorem escapeTells (s : ByteArray) (hs : s.size ≤ 140737488351232) : ∃ k, cardexlaw02_EscapeTells.f k s = some true := by
  by_cases h : (s.size : Int) > 1000
  · refine ⟨0, ?_⟩
    unfold cardexlaw02_EscapeTells.f
    rw [if_pos h, awake2]; rfl
  · obtain ⟨K, hK⟩ := ref_back s (by omega)
    refine ⟨K + s.size + 1, ?_⟩
    unfold cardexlaw02_EscapeTells.f
    rw [if_neg h, back_f s (by omega), hK _ (by omega), awake2, text_f s (by omega), ref_escape s (by omega) _ (by omega)]
    simp only [Option.bind_some, if_true]
end Go.Proofs.YtjijbncheikagaaDoor.P
