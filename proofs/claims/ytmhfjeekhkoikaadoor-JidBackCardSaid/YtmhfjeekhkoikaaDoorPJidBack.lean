/- JidBack, in plain words: what is parsed is parsed again as it was; what is bare has no resource, and is bare as it is. -/
import Derived.Test.YtmhfjeekhkoikaaDoorJid
namespace Go.Proofs.YtmhfjeekhkoikaaDoor.P
open Go.RowKit Go.Lib Go.Proofs.YtmhfjeekhkoikaaDoorX Go.Proofs.YtmhfjeekhkoikaaDoorW.PrintWords Go.Proofs.YtmhfjeekhkoikaaDoor.Q

theorem jidBack (s : ByteArray) (hs : s.size ≤ 140737488351232) : ∃ k, cardexlaw07_JidBack.f k s = some true := by
  obtain ⟨Ka, ha⟩ := awake_ev
  by_cases hl : s.size ≤ 500
  · have hg : ¬ (s.size : Int) > 500 := by omega
    obtain ⟨K1, h1⟩ := parse_ev s (by omega)
    obtain ⟨K2, h2⟩ := bare_ev s (by omega)
    obtain ⟨⟨a, b, c, e⟩, hp⟩ : ∃ p, parseL s.data.toList = p := ⟨_, rfl⟩
    have hb : bareL s.data.toList = if e = 0 then (if c.data.toList = [] then (ba (textL a.data.toList b.data.toList c.data.toList), 0) else (ba [], 14)) else (ba [], e) := by
      unfold bareL
      rw [hp]
    by_cases he : e = 0
    · subst he
      have hok := parse_ok hp
      have hfix := parse_fix hok
      have hlen := hok.len
      have htl := textL_len a.data.toList b.data.toList c.data.toList
      rw [size_list, size_list, size_list] at htl
      rw [if_pos rfl] at hb
      obtain ⟨K3, h3⟩ := parse_ev (ba (textL a.data.toList b.data.toList c.data.toList)) (by rw [ba_size]; omega)
      rw [ba_list, hfix] at h3
      obtain ⟨K4, h4⟩ := bare_ev (bareL s.data.toList).1 (by
        rw [hb]
        split
        · rw [ba_size]; omega
        · exact Nat.zero_le _)
      refine ⟨Ka + K1 + K2 + K3 + K4, ?_⟩
      unfold cardexlaw07_JidBack.f
      rw [if_neg hg, h1 _ (by omega), hp]
      simp only [Option.bind_some, if_true]
      rw [hok.text]
      simp only [Option.bind_some]
      rw [h3 _ (by omega), h2 _ (by omega)]
      simp only [Option.bind_some]
      rw [h4 _ (by omega), ha _ (by omega)]
      simp only [Option.bind_some, if_true]
      by_cases hc : c.data.toList = []
      · rw [if_pos hc] at hb
        have hb2 : bareL (ba (textL a.data.toList b.data.toList c.data.toList)).data.toList = (ba (textL a.data.toList b.data.toList c.data.toList), 0) := by
          unfold bareL
          rw [ba_list, hfix]
          simp only [if_true]
          rw [if_pos hc]
        rw [hb]
        simp only [if_true]
        rw [hb2, ByteArray.toList_eq c, if_pos hc]
        simp only [if_true]
      · rw [if_neg hc] at hb
        rw [hb, ByteArray.toList_eq c]
        simp only []
        rw [if_neg (by decide), if_neg hc]
    · rw [if_neg he] at hb
      have hz := parse_err (l := s.data.toList) (by rw [hp]; exact he)
      rw [hp] at hz
      simp only at hz
      obtain ⟨rfl, rfl, rfl⟩ := hz
      refine ⟨Ka + K1 + K2, ?_⟩
      unfold cardexlaw07_JidBack.f
      rw [if_neg hg, h1 _ (by omega), hp]
      simp only [Option.bind_some]
      rw [if_neg he, h2 _ (by omega), hb]
      simp only [Option.bind_some]
      rw [ha _ (by omega)]
      simp only [Option.bind_some, if_true, ba_toList]
  · refine ⟨Ka, ?_⟩
    unfold cardexlaw07_JidBack.f
    rw [if_pos (by omega), ha _ (Nat.le_refl _)]
    rfl
end Go.Proofs.YtmhfjeekhkoikaaDoor.P
