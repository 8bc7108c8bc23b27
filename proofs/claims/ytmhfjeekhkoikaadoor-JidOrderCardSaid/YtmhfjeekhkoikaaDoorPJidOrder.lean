/- JidOrder, in plain words: of two that are not alike just one is below, and what is below one that is below is below. -/
import Derived.Test.YtmhfjeekhkoikaaDoorJid
namespace Go.Proofs.YtmhfjeekhkoikaaDoor.P
open Go.RowKit Go.Lib Go.Proofs.YtmhfjeekhkoikaaDoorX Go.Proofs.YtmhfjeekhkoikaaDoorW.PrintWords Go.Proofs.YtmhfjeekhkoikaaDoor.Q

theorem jidOrder (a b c : ByteArray) (ha : a.size ≤ 140737488351232) (hb : b.size ≤ 140737488351232) (hc : c.size ≤ 140737488351232) : ∃ k, cardexlaw07_JidOrder.f k a b c = some true := by
  obtain ⟨K, hk⟩ := awake_ev
  refine ⟨K + 3, ?_⟩
  unfold cardexlaw07_JidOrder.f
  rw [wrap_small (x := (a.size : Int) + b.size) (by omega) (by omega), wrap_small (by omega) (by omega), hk _ (by omega)]
  by_cases hl : (a.size : Int) + b.size + c.size > 900
  · rw [if_pos hl]; rfl
  · rw [if_neg hl, less_ev a b (by omega) (by omega) _ (by omega), less_ev b a (by omega) (by omega) _ (by omega), less_ev b c (by omega) (by omega) _ (by omega),
      less_ev a c (by omega) (by omega) _ (by omega), less_ev a a (by omega) (by omega) _ (by omega), lessL_irrefl]
    simp only [Option.bind_some, if_true, ByteArray.toList_eq]
    cases h1 : lessL a.data.toList b.data.toList with
    | true =>
      have h2 := lessL_asymm h1
      have h3 : a.data.toList ≠ b.data.toList := by
        intro e
        rw [e, lessL_irrefl] at h1
        cases h1
      rw [h2, if_neg h3]
      cases h4 : lessL b.data.toList c.data.toList with
      | true => rw [lessL_trans h1 h4]; rfl
      | false => rfl
    | false =>
      cases h2 : lessL b.data.toList a.data.toList with
      | true =>
        have h3 : a.data.toList ≠ b.data.toList := by
          intro e
          rw [e, lessL_irrefl] at h2
          cases h2
        simp [h3]
      | false => simp [lessL_total h1 h2]
end Go.Proofs.YtmhfjeekhkoikaaDoor.P
