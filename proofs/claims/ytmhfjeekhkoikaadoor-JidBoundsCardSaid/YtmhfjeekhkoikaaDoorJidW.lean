/- Plain law of this session: words of plain signs are as they are in each part of an address. -/
import Derived.Test.YtmhfjeekhkoikaaDoorJid
namespace Go.Proofs.YtmhfjeekhkoikaaDoor.P
open Go.RowKit Go.Lib Go.Proofs.YtmhfjeekhkoikaaDoorX Go.Proofs.YtmhfjeekhkoikaaDoorW.PrintWords Go.Proofs.YtmhfjeekhkoikaaDoor.Q

/-- Signs that stay as they are wherever they stand. -/
def plainC (c : Int) : Bool := (decide (97 ≤ c) && decide (c ≤ 122)) || (decide (48 ≤ c) && decide (c ≤ 57))
theorem plain_all {c : Int} (h : plainC c = true) : scal c ∧ mayB c = true ∧ smallL c = [c] ∧ keptL c = [c] ∧ leftB c = false ∧ bannedB c = false := by
  have hc : 48 ≤ c ∧ c ≤ 122 ∧ ¬ (58 ≤ c ∧ c ≤ 96) := by
    unfold plainC at h
    simp only [Bool.or_eq_true, Bool.and_eq_true, decide_eq_true_eq] at h
    omega
  have hg : goneB c = false := by
    rw [gone_tab]
    simp only [inTab, Bool.or_eq_false_iff, Bool.and_eq_false_iff, decide_eq_false_iff_not, Bool.or_false]
    omega
  refine ⟨⟨by omega, by omega, by omega⟩, ?_, ?_, ?_, ?_, ?_⟩
  · unfold mayB
    simp only [Bool.or_eq_true, Bool.and_eq_true, beq_iff_eq, decide_eq_true_eq]
    omega
  · unfold smallL keptL
    rw [if_neg (by omega), if_neg (by omega), hg]; rfl
  · unfold keptL
    rw [hg]; rfl
  · rw [left_tab]
    simp only [inTab, Bool.or_eq_false_iff, Bool.and_eq_false_iff, decide_eq_false_iff_not, Bool.or_false]
    omega
  · rw [banned_tab]
    simp only [inTab, Bool.or_eq_false_iff, Bool.and_eq_false_iff, decide_eq_false_iff_not, Bool.or_false]
    omega
theorem plain_node {c : Int} (h : plainC c = true) : nodeOk c = true := by
  have hb := (plain_all h).2.2.2.2.2
  unfold nodeOk nodeBad
  rw [hb]
  unfold plainC at h
  simp only [Bool.or_eq_true, Bool.and_eq_true, decide_eq_true_eq] at h
  simp only [List.contains_cons, List.contains_nil, Bool.or_false, Bool.not_false, Bool.true_and, Bool.not_eq_true', Bool.or_eq_false_iff, beq_eq_false_iff_ne]
  omega
theorem plain_host {c : Int} (h : plainC c = true) : hostOk c = true := by
  unfold hostOk
  rw [letter_tab]
  unfold plainC at h
  simp only [Bool.or_eq_true, Bool.and_eq_true, decide_eq_true_eq] at h
  simp only [inTab, Bool.or_eq_true, Bool.and_eq_true, decide_eq_true_eq, beq_iff_eq, Bool.or_false]
  omega
theorem straight_no {L : List Int} (h : ∀ c ∈ L, leftB c = false) : straightB L = true := by
  unfold straightB
  have : L.any leftB = false := List.any_eq_false.2 fun c hc => by rw [h c hc]; decide
  rw [this]; rfl
/-- A word: of plain signs alone. -/
def Word (l : List UInt8) : Prop := ∀ b ∈ l, plainC (b.toNat : Int) = true
def nums (l : List UInt8) : List Int := l.map fun b => (b.toNat : Int)
theorem wrs_nums : ∀ l : List UInt8, (∀ b ∈ l, b.toNat < 128) → wrs (nums l) = l
  | [], _ => rfl
  | b :: l, h => by
    have hb := h b (.head _)
    have ih := wrs_nums l (fun x hx => h x (.tail _ hx))
    show wrs ((b.toNat : Int) :: nums l) = _
    rw [wrs_cons, ih, enc_ascii (by omega) (by omega)]
    simp
theorem word_lt {l : List UInt8} (h : Word l) : ∀ b ∈ l, b.toNat < 128 := by
  intro b hb
  have := h b hb
  unfold plainC at this
  simp only [Bool.or_eq_true, Bool.and_eq_true, decide_eq_true_eq] at this
  omega
theorem word_node {l : List UInt8} (h : Word l) : Fix smallL nodeOk (nums l) := by
  refine ⟨?_, straight_no ?_⟩
  · intro c hc
    obtain ⟨b, hb, rfl⟩ := List.mem_map.1 hc
    have := plain_all (h b hb)
    exact ⟨this.1, this.2.1, this.2.2.1, plain_node (h b hb)⟩
  · intro c hc
    obtain ⟨b, hb, rfl⟩ := List.mem_map.1 hc
    exact (plain_all (h b hb)).2.2.2.2.1
theorem word_host {l : List UInt8} (h : Word l) : Fix smallL hostOk (nums l) := by
  refine ⟨?_, straight_no ?_⟩
  · intro c hc
    obtain ⟨b, hb, rfl⟩ := List.mem_map.1 hc
    have := plain_all (h b hb)
    exact ⟨this.1, this.2.1, this.2.2.1, plain_host (h b hb)⟩
  · intro c hc
    obtain ⟨b, hb, rfl⟩ := List.mem_map.1 hc
    exact (plain_all (h b hb)).2.2.2.2.1
theorem pieces_none (c : UInt8) : ∀ l : List UInt8, c ∉ l → pieces c l = [l]
  | [], _ => rfl
  | b :: l, h => by
    have h1 : b ≠ c := fun e => h (by rw [e]; exact .head _)
    rw [pieces, if_neg h1, pieces_none c l (fun e => h (.tail _ e))]
theorem word_right {l : List UInt8} (h : Word l) (hn : l ≠ []) : rightP l = true := by
  have h46 : (46 : UInt8) ∉ l := fun e => by have := h _ e; revert this; decide
  have h45 : (45 : UInt8) ∉ l := fun e => by have := h _ e; revert this; decide
  rw [right_pieces, pieces_none 46 l h46]
  simp only [List.all_cons, List.all_nil, Bool.and_true]
  unfold pOk
  have e1 : (l == []) = false := beq_eq_false_iff_ne.2 hn
  have e2 : (l.head? == some 45) = false := by
    rw [beq_eq_false_iff_ne]
    intro e
    exact h45 (List.mem_of_mem_head? e)
  have e3 : (l.getLast? == some 45) = false := by
    rw [beq_eq_false_iff_ne]
    intro e
    exact h45 (List.mem_of_getLast? e)
  rw [e1, e2, e3]; rfl
theorem word_dom {l : List UInt8} (h : Word l) (hn : l ≠ []) (hl : l.length ≤ 100) : DomOk (ba l) (nums l) := by
  have e := wrs_nums l (word_lt h)
  exact ⟨by rw [e], word_host h, by rw [e]; exact hl, by rw [e]; exact word_right h hn⟩

def extra : List (List UInt8) := [[], [47], [64], [47, 64, 32, 47]]
theorem res_word {r x : List UInt8} (hr : Word r) (hx : x ∈ extra) : ∃ L, ba (r ++ x) = ba (wrs L) ∧ Fix keptL resOk L := by
  have hlt : ∀ b ∈ r ++ x, b.toNat < 128 := by
    intro b hb
    rcases List.mem_append.1 hb with hb | hb
    · exact word_lt hr b hb
    · have : ∀ y ∈ extra, ∀ b ∈ y, b.toNat < 128 := by decide
      exact this x hx b hb
  have hall : ∀ b ∈ r ++ x, scal (b.toNat : Int) ∧ mayB (b.toNat : Int) = true ∧ keptL (b.toNat : Int) = [(b.toNat : Int)] ∧ resOk (b.toNat : Int) = true ∧ leftB (b.toNat : Int) = false := by
    intro b hb
    rcases List.mem_append.1 hb with hb | hb
    · have := plain_all (hr b hb)
      refine ⟨this.1, this.2.1, this.2.2.2.1, ?_, this.2.2.2.2.1⟩
      unfold resOk
      rw [this.2.2.2.2.2]; rfl
    · have h3 : b = 47 ∨ b = 64 ∨ b = 32 := by
        have : ∀ y ∈ extra, ∀ b ∈ y, b = 47 ∨ b = 64 ∨ b = 32 := by decide
        exact this x hx b hb
      rcases h3 with rfl | rfl | rfl <;> exact ⟨⟨by decide, by decide, by decide⟩, by decide, by decide, by decide, by decide⟩
  refine ⟨nums (r ++ x), by rw [wrs_nums _ hlt], ?_, straight_no ?_⟩
  · intro c hc
    obtain ⟨b, hb, rfl⟩ := List.mem_map.1 hc
    have := hall b hb
    exact ⟨this.1, this.2.1, this.2.2.1, this.2.2.2.1⟩
  · intro c hc
    obtain ⟨b, hb, rfl⟩ := List.mem_map.1 hc
    exact (hall b hb).2.2.2.2
end Go.Proofs.YtmhfjeekhkoikaaDoor.P
