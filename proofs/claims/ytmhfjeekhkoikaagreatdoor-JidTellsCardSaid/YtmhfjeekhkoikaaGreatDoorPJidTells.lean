/- JidTells, in plain words: any text as an address, a bare one, and a domain, or why not, as the document has it; any address as a text; which of two is below. -/
import Derived.Test.YtmhfjeekhkoikaaGreatDoorRef3
namespace Go.Proofs.YtmhfjeekhkoikaaGreatDoor.P
open Go.RowKit Go.Lib Go.Proofs.YtmhfjeekhkoikaaGreatDoorX Go.Proofs.YtmhfjeekhkoikaaGreatDoorW.PrintWords Go.Proofs.YtmhfjeekhkoikaaGreatDoor.Q
set_option linter.unusedVariables false
set_option linter.unusedSimpArgs false
theorem cut47 (s : ByteArray) (hs : s.size ≤ 140737488351232) (k : Nat) (hk : s.size < k) : cardexref01_cut.f k s 47 = some (ba (Lib.cut s.data.toList [47]).1, ba (Lib.cut s.data.toList [47]).2.1, (Lib.cut s.data.toList [47]).2.2) := ref_cut s 47 hs k hk
theorem cut64 (s : ByteArray) (hs : s.size ≤ 140737488351232) (k : Nat) (hk : s.size < k) : cardexref01_cut.f k s 64 = some (ba (Lib.cut s.data.toList [64]).1, ba (Lib.cut s.data.toList [64]).2.1, (Lib.cut s.data.toList [64]).2.2) := ref_cut s 64 hs k hk
def refParse (local_ : List UInt8) (is : Bool) (dom : List UInt8) (res : List UInt8) (has : Bool) : ByteArray × ByteArray × ByteArray × Int :=
  if (domP (ba dom)).2 = 0 then
    (if (nodeP local_ is).2 = 0 then
      (if (resP res has).2 = 0 then ((nodeP local_ is).1, (domP (ba dom)).1, (resP res has).1, 0) else (ba [], ba [], ba [], (resP res has).2))
     else (ba [], ba [], ba [], (nodeP local_ is).2))
  else (ba [], ba [], ba [], (domP (ba dom)).2)
theorem ref_j0 (l d r : List UInt8) (is has : Bool) (hl : l.length ≤ 1000000) (hd : d.length ≤ 1000000) (hr : r.length ≤ 1000000) :
    ∃ K, ∀ k, K ≤ k → cardexref01_Parse.j0 (k + 2) (ba r) has (ba l) (ba d) is = some (refParse l is d r has) := by
  obtain ⟨K1, h1⟩ := ref_domain (ba d) (by rw [ba_size]; omega)
  obtain ⟨K2, h2⟩ := ref_node (ba l) (by rw [ba_size]; omega)
  obtain ⟨K3, h3⟩ := ref_res (ba r) (by rw [ba_size]; omega)
  refine ⟨K1 + K2 + K3, fun k hk => ?_⟩
  rw [cardexref01_Parse.j0, h1 _ (by omega)]
  simp only [Option.bind_some]
  unfold refParse
  by_cases hd0 : (domP (ba d)).2 = 0
  · rw [if_pos hd0, if_pos hd0, h2 _ (by omega)]
    simp only [Option.bind_some]
    have hj1 : cardexref01_Parse.j1 (k + 1) (ba r) has (domP (ba d)).1 (ofP smallL nodeOk (ba l)).1 = some (if (resP r has).2 = 0 then ((ofP smallL nodeOk (ba l)).1, (domP (ba d)).1, (resP r has).1, 0) else (ba [], ba [], ba [], (resP r has).2)) := by
      rw [cardexref01_Parse.j1, h3 _ (by omega)]
      simp only [Option.bind_some]
      unfold resP keptR
      obtain ⟨⟨y, e⟩, hy⟩ : ∃ y, ofP keptL resOk (ba r) = y := ⟨_, rfl⟩
      rw [hy]
      simp only
      by_cases he : e = 0
      · subst he
        cases has with
        | false => simp
        | true =>
          by_cases c1 : (y.size : Int) < 1
          · have c1' : y.size = 0 := by omega
            simp [c1', ba]
          · by_cases c2 : (y.size : Int) > 64
            · have c2' : ¬ y.size = 0 := by omega
              have c2'' : (64 : Int) < y.size := c2
              simp [c2', c2'', ba]
            · have c2' : ¬ y.size = 0 := by omega
              have c2'' : ¬ (64 : Int) < y.size := c2
              simp [c2', c2'']
              omega
      · simp [he, ba]
    unfold nodeP keptR
    obtain ⟨⟨y, e⟩, hy⟩ : ∃ y, ofP smallL nodeOk (ba l) = y := ⟨_, rfl⟩
    rw [hy] at hj1 ⊢
    simp only at hj1 ⊢
    by_cases he : e = 0
    · subst he
      rw [hj1]
      cases is with
      | false => simp
      | true =>
        by_cases c1 : (y.size : Int) < 1
        · have c1' : y.size = 0 := by omega
          simp [c1', ba]
        · by_cases c2 : (y.size : Int) > 64
          · have c2' : ¬ y.size = 0 := by omega
            have c2'' : (64 : Int) < y.size := c2
            simp [c2', c2'', ba]
          · have c2' : ¬ y.size = 0 := by omega
            have c2'' : ¬ (64 : Int) < y.size := c2
            simp [c2', c2'']
            intro hc
            exfalso
            omega
    · simp [he, ba]
  · rw [if_neg hd0, if_neg hd0]
    rfl
theorem ref_parse (s : ByteArray) (hs : s.size ≤ 100000) : ∃ K, ∀ k, K ≤ k → cardexref01_Parse.f k s = some (parseL s.data.toList) := by
  have hp := parts_len s.data.toList
  rw [size_list] at hp
  have hc := cut_len s.data.toList [47]
  rw [size_list] at hc
  obtain ⟨K, hK⟩ := ref_j0 (partsP s.data.toList).1 (partsP s.data.toList).2.2.1 (partsP s.data.toList).2.2.2.1 (partsP s.data.toList).2.1 (partsP s.data.toList).2.2.2.2 (by omega) (by omega) (by omega)
  refine ⟨K + s.size + 10, fun k hk => ?_⟩
  obtain ⟨k, rfl⟩ : ∃ j, k = j + 2 := ⟨k - 2, by omega⟩
  have e := hK k (by omega)
  have he : refParse (partsP s.data.toList).1 (partsP s.data.toList).2.1 (partsP s.data.toList).2.2.1 (partsP s.data.toList).2.2.2.1 (partsP s.data.toList).2.2.2.2 = parseL s.data.toList := rfl
  rw [he] at e
  unfold cardexref01_Parse.f
  rw [cut47 s (by omega) _ (by omega)]
  simp only [Option.bind_some]
  rw [cut64 _ (by rw [ba_size]; omega) _ (by rw [ba_size]; omega), ba_list]
  simp only [Option.bind_some]
  unfold partsP at e
  by_cases h : (Lib.cut (Lib.cut s.data.toList [47]).1 [64]).2.2 = true
  · rw [if_pos h] at e ⊢
    rw [h]
    exact e
  · rw [if_neg h] at e ⊢
    rw [Bool.eq_false_iff.2 h]
    exact e
theorem ref_text (a b c : List UInt8) (h : a.length + b.length + c.length ≤ 4611686018427387904) : cardexref01_JidText.f (ba a) (ba b) (ba c) = some (ba (textL a b c)) := by
  unfold cardexref01_JidText.f textL
  have e1 : (⟨#[64]⟩ : ByteArray) = ba [64] := rfl
  have e2 : (⟨#[47]⟩ : ByteArray) = ba [47] := rfl
  rw [ba_toList, ba_toList, e1, e2]
  simp only [ba_append, ba_size, List.length_append, List.length_cons, List.length_nil]
  by_cases ha : a = []
  · rw [if_pos ha, if_pos ha]
    by_cases hc : c = []
    · rw [if_pos hc, if_pos hc, List.append_nil]
    · rw [if_neg hc, if_neg hc, if_pos (by omega), if_pos (by omega)]
      simp
  · rw [if_neg ha, if_neg ha, if_pos (by omega), if_pos (by omega)]
    by_cases hc : c = []
    · rw [if_pos hc, if_pos hc, List.append_nil]
      simp
    · rw [if_neg hc, if_neg hc, if_pos (by omega), if_pos (by omega)]
      simp
theorem ref_bare (s : ByteArray) (hs : s.size ≤ 100000) : ∃ K, ∀ k, K ≤ k → cardexref01_Bare.f k s = some (bareL s.data.toList) := by
  obtain ⟨K, hK⟩ := ref_parse s hs
  refine ⟨K + 1, fun k hk => ?_⟩
  obtain ⟨k, rfl⟩ : ∃ j, k = j + 1 := ⟨k - 1, by omega⟩
  unfold cardexref01_Bare.f bareL
  rw [hK _ (by omega)]
  simp only [Option.bind_some]
  obtain ⟨⟨a, b, c, e⟩, hp⟩ : ∃ p, parseL s.data.toList = p := ⟨_, rfl⟩
  rw [hp]
  simp only
  by_cases h0 : e = 0
  · subst h0
    have hok := parse_ok hp
    have hl := hok.len
    have ht := ref_text a.data.toList b.data.toList c.data.toList (by rw [size_list, size_list, size_list]; omega)
    rw [ba_of, ba_of, ba_of] at ht
    rw [if_pos rfl, if_pos rfl, cardexref01_Bare.j0, ByteArray.toList_eq]
    by_cases hc : c.data.toList = []
    · rw [if_pos hc, hc]
      simp only [bne_self_eq_false, Bool.false_eq_true, if_false, if_true]
      rw [ht]
      simp [hc]
    · have hb : (c.data.toList != []) = true := bne_iff_ne.2 hc
      rw [if_neg hc, hb, if_pos rfl]
      rfl
  · rw [if_neg h0, if_neg h0, cardexref01_Bare.j0, if_neg (by decide), if_neg h0]
    rfl
theorem ref_domainOf (s : ByteArray) (hs : s.size ≤ 100000) (k : Nat) (hk : s.size < k) : cardexref01_domainOf.f k s = some (ba (domainL s.data.toList)) := by
  unfold cardexref01_domainOf.f domainL
  rw [cut64 s (by omega) k hk]
  simp only [Option.bind_some]
  split <;> rfl
theorem ref_less (s t : ByteArray) (hs : s.size ≤ 100000) (ht : t.size ≤ 100000) (k : Nat) (hk : s.size + t.size < k) : cardexref01_Less.f k s t = some (lessL s.data.toList t.data.toList) := by
  unfold cardexref01_Less.f lessL
  rw [ref_domainOf s hs k (by omega), ref_domainOf t ht k (by omega)]
  simp only [Option.bind_some, ba_toList]
  rw [ByteArray.toList_eq s, ByteArray.toList_eq t]
  by_cases h : domainL s.data.toList = domainL t.data.toList
  · rw [if_pos h, h, less_irrefl, if_neg (by decide), if_pos rfl]
  · rw [if_neg h, if_neg h]
    cases Op.bytesLess (domainL s.data.toList) (domainL t.data.toList) <;> rfl
theorem jidTells (s t a b c : ByteArray) (hs : s.size ≤ 140737488351232) (ht : t.size ≤ 140737488351232) (hj : a.size ≤ 140737488351232 ∧ b.size ≤ 140737488351232 ∧ c.size ≤ 140737488351232) : ∃ k, cardexlaw07_JidTells.f k s t a b c = some true := by
  obtain ⟨ha, hb, hc⟩ := hj
  obtain ⟨K0, h0⟩ := awake_ev
  have awk : ∀ k, K0 ≤ k → cardexlaw07_JidTells.j0 (k + 1) s t true a b c = some true := by
    intro k hk
    rw [cardexlaw07_JidTells.j0, if_pos rfl, h0 k hk]
    rfl
  unfold cardexlaw07_JidTells.f
  by_cases c1 : (s.size : Int) > 500
  · exact ⟨K0 + 1, by rw [if_pos c1]; exact awk K0 (Nat.le_refl _)⟩
  by_cases c2 : (t.size : Int) > 500
  · exact ⟨K0 + 1, by rw [if_neg c1, if_pos c2]; exact awk K0 (Nat.le_refl _)⟩
  by_cases c3 : (a.size : Int) + b.size + c.size > 500
  · refine ⟨K0 + 1, ?_⟩
    rw [if_neg c1, if_neg c2, w64 (x := (a.size : Int) + b.size) (by omega) (by omega), w64 (by omega) (by omega), decide_eq_true c3]
    exact awk K0 (Nat.le_refl _)
  · obtain ⟨K1, h1⟩ := parse_ev s (by omega)
    obtain ⟨K2, h2⟩ := ref_parse s (by omega)
    obtain ⟨K3, h3⟩ := bare_ev s (by omega)
    obtain ⟨K4, h4⟩ := ref_bare s (by omega)
    obtain ⟨K5, h5⟩ := dom_ev s (by omega)
    obtain ⟨K6, h6⟩ := ref_domain s (by omega)
    have hx := text_eq a.data.toList b.data.toList c.data.toList (by rw [size_list, size_list, size_list]; omega)
    have hy := ref_text a.data.toList b.data.toList c.data.toList (by rw [size_list, size_list, size_list]; omega)
    rw [ba_of, ba_of, ba_of] at hx hy
    refine ⟨K0 + K1 + K2 + K3 + K4 + K5 + K6 + 2000, ?_⟩
    rw [if_neg c1, if_neg c2, w64 (x := (a.size : Int) + b.size) (by omega) (by omega), w64 (by omega) (by omega), decide_eq_false c3]
    rw [show K0 + K1 + K2 + K3 + K4 + K5 + K6 + 2000 = (K0 + K1 + K2 + K3 + K4 + K5 + K6 + 1999) + 1 by omega, cardexlaw07_JidTells.j0, if_neg (by decide)]
    rw [h1 _ (by omega), h2 _ (by omega), h3 _ (by omega), h4 _ (by omega), h5 _ (by omega), h6 _ (by omega), h0 _ (by omega), hx, hy, less_ev s t (by omega) (by omega) _ (by omega), ref_less s t (by omega) (by omega) _ (by omega)]
    simp only [Option.bind_some, if_true]
    cases lessL s.data.toList t.data.toList <;> rfl
end Go.Proofs.YtmhfjeekhkoikaaGreatDoor.P
