/- EscapeJoins, in plain words: two texts escaped one behind the other are both escaped; and come back so. -/
import Derived.Test.YtjijbncheikagaaDoorEsc2
namespace Go.Proofs.YtjijbncheikagaaDoor.P
open Go.RowKit Go.Lib Go.Proofs.YtjijbncheikagaaDoorX Go.Proofs.YtjijbncheikagaaDoorW.PrintWords Go.Proofs.YtjijbncheikagaaDoor.Q
theorem escapeJoins (a b : ByteArray) (ha : a.size ≤ 140737488351232) (hb : b.size ≤ 140737488351232) : ∃ k, cardexlaw02_EscapeJoins.f k a b = some true := by
  have far : ∀ k, cardexlaw02_EscapeJoins.j0 (k + 1) a b true = some true := by
    intro k
    rw [cardexlaw02_EscapeJoins.j0, if_pos rfl, awake2]; rfl
  refine ⟨1, ?_⟩
  unfold cardexlaw02_EscapeJoins.f
  by_cases h1 : (a.size : Int) > 300
  · rw [if_pos h1]; exact far 0
  rw [if_neg h1]
  by_cases h2 : (b.size : Int) > 300
  · rw [decide_eq_true h2]; exact far 0
  rw [decide_eq_false h2, cardexlaw02_EscapeJoins.j0, if_neg (by decide)]
  rw [back_f a (by omega), back_f b (by omega)]
  simp only [Option.bind_some]
  rw [if_pos (by omega), back_f (a ++ b) (by rw [ByteArray.size_append]; omega), awake2, text_f (a ++ b) (by rw [ByteArray.size_append]; omega), text_f a (by omega), text_f b (by omega)]
  simp only [Option.bind_some, if_true]
  have l1 := escL_len a.data.toList
  have l2 := escL_len b.data.toList
  rw [size_list] at l1 l2
  rw [if_pos (by rw [ba_size, ba_size]; omega), if_pos (by rw [ba_append, data_app]; unfold escL; rw [List.flatMap_append])]
  obtain ⟨⟨x, e⟩, hx⟩ : ∃ y, backT a = y := ⟨_, rfl⟩
  obtain ⟨⟨y, f⟩, hy⟩ : ∃ z, backT b = z := ⟨_, rfl⟩
  rw [hx, hy]
  simp only
  by_cases he : e = 0
  · by_cases hf : f = 0
    · subst he hf
      obtain ⟨v1, m1⟩ := backT_ok a x hx
      obtain ⟨v2, m2⟩ := backT_ok b y hy
      have m3 : backT (a ++ b) = (x ++ y, 0) := by
        unfold backT
        rw [if_pos (validT_app a b v1 v2), data_app, backM_app _ none _ _ m1, m2]
        show ((⟨#[]⟩ : ByteArray) ++ ba (x.data.toList ++ y.data.toList), (0 : Int)) = (x ++ y, 0)
        rw [← ba_append, ba_of, ba_of, show (⟨#[]⟩ : ByteArray) = ba [] from rfl, ← ba_of (x ++ y), ba_append, List.nil_append]
      have s1 := backM_len _ _ _ m1
      have s2 := backM_len _ _ _ m2
      rw [size_list, size_list] at s1 s2
      rw [m3, if_pos rfl, if_pos rfl, if_pos rfl, if_pos (by omega), if_pos rfl]
    · rw [if_pos he, if_neg hf]
  · rw [if_neg he]
end Go.Proofs.YtjijbncheikagaaDoor.P
