-- Written by hookprint.py (wip/) of this session: the kit's print with hand-proved functions beside it. Not trusted: Lean checks it.
import Derived.Test.YtjijbncheikagaaDoorQ0
import Derived.Test.YtjijbncheikagaaDoorQ1
import Derived.Test.YtjijbncheikagaaDoorQ2
namespace Go.Proofs.YtjijbncheikagaaDoor.Q
open Go.RowKit Go.Lib Go.Proofs.YtjijbncheikagaaDoorX Go.Proofs.YtjijbncheikagaaDoorW.PrintWords Go.Proofs.YtjijbncheikagaaDoorW.PrintLast Go.Proofs.YtjijbncheikagaaDoorW.PrintMore
attribute [local go_sem] max2_int min2_int max_two min_two max_three min_three max_four min_four   -- for this text's walks alone
set_option linter.unusedVariables false
set_option linter.unusedSimpArgs false

/-! ### escape_Back: function 13: by hand (70-escape.tpl) -/
/-- What stands between "&" and ";"; nothing: it stands for nothing. -/
def sgnL (l : List UInt8) : List UInt8 :=
  if l = [97, 109, 112] then [38] else if l = [108, 116] then [60] else if l = [103, 116] then [62] else if l = [113, 117, 111, 116] then [34] else if l = [97, 112, 111, 115] then [39]
  else match l with
    | 35 :: 120 :: h => (numR 16 6 ⟨h.toArray⟩).data.toList
    | 35 :: d => (numR 10 7 ⟨d.toArray⟩).data.toList
    | _ => []
theorem arr_len (s : ByteArray) : s.data.toList.length = s.size := Array.length_toList
theorem numR_len (B : Nat) (m : Int) (s : ByteArray) : (numR B m s).data.toList.length ≤ 4 := by
  have h0 : (⟨#[]⟩ : ByteArray).data.toList.length ≤ 4 := by decide
  unfold numR
  split
  · exact h0
  · split
    · exact h0
    · rename_i v _ _
      have h1 := (encode_size (v : Int)).2
      have h2 := arr_len (Utf8.encode (v : Int))
      omega
theorem sgnL_len (l : List UInt8) : (sgnL l).length ≤ 4 := by
  unfold sgnL
  repeat' split
  all_goals first | exact numR_len _ _ _ | decide
theorem extract_list (s : ByteArray) (i j : Nat) : (s.extract i j).toList = (s.data.toList.take j).drop i := by
  rw [ByteArray.toList_eq]
  simp [List.extract_eq_take_drop, List.take_drop]
  rcases Nat.le_total i j with h | h
  · rw [show i + (j - i) = j from by omega]
  · rw [show j - i = 0 from by omega, Nat.add_zero, List.drop_eq_nil_of_le (by rw [List.length_take]; omega), List.drop_eq_nil_of_le (by rw [List.length_take]; omega)]
theorem arr_of (s : ByteArray) : (⟨s.data.toList.toArray⟩ : ByteArray) = s := rfl
theorem extract_of (s : ByteArray) (i : Nat) : s.extract i s.size = ⟨(s.data.toList.drop i).toArray⟩ := by
  have h := extract_list s i s.size
  rw [ByteArray.toList_eq, List.take_of_length_le (by rw [Array.length_toList]; exact Nat.le_refl _)] at h
  rw [← h]
theorem cutPre (s p : ByteArray) : strings_CutPrefix.f s p = some (if p.data.toList <+: s.data.toList then (⟨(s.data.toList.drop p.size).toArray⟩, true) else (s, false)) := by
  have hl : s.data.toList.length = s.size := Array.length_toList
  have hl2 : p.data.toList.length = p.size := Array.length_toList
  unfold strings_CutPrefix.f stringslite_CutPrefix.f stringslite_HasPrefix.f
  by_cases hs : p.size ≤ s.size
  · rw [if_pos (by omega), if_pos (by omega), if_pos (by omega)]
    simp only [Option.bind_some]
    rw [extract_list, ByteArray.toList_eq, List.drop_zero, Int.toNat_natCast]
    by_cases hp : p.data.toList <+: s.data.toList
    · have : s.data.toList.take p.size = p.data.toList := by rw [← hl2]; exact (List.prefix_iff_eq_take.1 hp).symm
      rw [this, if_pos hp]
      simp only [beq_self_eq_true, if_true]
      rw [if_pos (by omega), if_pos (by omega)]
      simp only [Option.bind_some]
      rw [extract_of]
    · have : (s.data.toList.take p.size == p.data.toList) = false := by
        rw [beq_eq_false_iff_ne]
        intro e
        exact hp (by rw [← e]; exact List.take_prefix _ _)
      rw [this, if_neg hp]; rfl
  · rw [if_neg (by omega)]
    have hp : ¬ p.data.toList <+: s.data.toList := fun h => by have := h.length_le; omega
    rw [if_neg hp]; rfl
theorem names_of (s : ByteArray) : ∃ x is, escape_table_string_string_of.f 9 [(⟨#[97, 109, 112]⟩ : ByteArray), (⟨#[108, 116]⟩ : ByteArray), (⟨#[103, 116]⟩ : ByteArray), (⟨#[113, 117, 111, 116]⟩ : ByteArray), (⟨#[97, 112, 111, 115]⟩ : ByteArray)] [(⟨#[38]⟩ : ByteArray), (⟨#[60]⟩ : ByteArray), (⟨#[62]⟩ : ByteArray), (⟨#[34]⟩ : ByteArray), (⟨#[39]⟩ : ByteArray)] s = some (x, is) ∧ (is = true → x = ⟨(sgnL s.data.toList).toArray⟩) ∧ (is = false → ¬ s.data.toList = [97, 109, 112] ∧ ¬ s.data.toList = [108, 116] ∧ ¬ s.data.toList = [103, 116] ∧ ¬ s.data.toList = [113, 117, 111, 116] ∧ ¬ s.data.toList = [97, 112, 111, 115]) := by
  unfold escape_table_string_string_of.f slices_Index_string_string.f
  have r0 : (rdOf ByteArray.empty [(⟨#[97, 109, 112]⟩ : ByteArray), (⟨#[108, 116]⟩ : ByteArray), (⟨#[103, 116]⟩ : ByteArray), (⟨#[113, 117, 111, 116]⟩ : ByteArray), (⟨#[97, 112, 111, 115]⟩ : ByteArray)] 0).toList = [97, 109, 112] := by rw [ByteArray.toList_eq]; rfl
  have r1 : (rdOf ByteArray.empty [(⟨#[97, 109, 112]⟩ : ByteArray), (⟨#[108, 116]⟩ : ByteArray), (⟨#[103, 116]⟩ : ByteArray), (⟨#[113, 117, 111, 116]⟩ : ByteArray), (⟨#[97, 112, 111, 115]⟩ : ByteArray)] 1).toList = [108, 116] := by rw [ByteArray.toList_eq]; rfl
  have r2 : (rdOf ByteArray.empty [(⟨#[97, 109, 112]⟩ : ByteArray), (⟨#[108, 116]⟩ : ByteArray), (⟨#[103, 116]⟩ : ByteArray), (⟨#[113, 117, 111, 116]⟩ : ByteArray), (⟨#[97, 112, 111, 115]⟩ : ByteArray)] 2).toList = [103, 116] := by rw [ByteArray.toList_eq]; rfl
  have r3 : (rdOf ByteArray.empty [(⟨#[97, 109, 112]⟩ : ByteArray), (⟨#[108, 116]⟩ : ByteArray), (⟨#[103, 116]⟩ : ByteArray), (⟨#[113, 117, 111, 116]⟩ : ByteArray), (⟨#[97, 112, 111, 115]⟩ : ByteArray)] 3).toList = [113, 117, 111, 116] := by rw [ByteArray.toList_eq]; rfl
  have r4 : (rdOf ByteArray.empty [(⟨#[97, 109, 112]⟩ : ByteArray), (⟨#[108, 116]⟩ : ByteArray), (⟨#[103, 116]⟩ : ByteArray), (⟨#[113, 117, 111, 116]⟩ : ByteArray), (⟨#[97, 112, 111, 115]⟩ : ByteArray)] 4).toList = [97, 112, 111, 115] := by rw [ByteArray.toList_eq]; rfl
  have w0 : wrap64 (0 + 1) = 1 := by unfold wrap64; omega
  have w1 : wrap64 (1 + 1) = 2 := by unfold wrap64; omega
  have w2 : wrap64 (2 + 1) = 3 := by unfold wrap64; omega
  have w3 : wrap64 (3 + 1) = 4 := by unfold wrap64; omega
  have w4 : wrap64 (4 + 1) = 5 := by unfold wrap64; omega
  generalize hn : ([(⟨#[97, 109, 112]⟩ : ByteArray), (⟨#[108, 116]⟩ : ByteArray), (⟨#[103, 116]⟩ : ByteArray), (⟨#[113, 117, 111, 116]⟩ : ByteArray), (⟨#[97, 112, 111, 115]⟩ : ByteArray)] : List ByteArray) = ns at *
  have hnl : (ns.length : Int) = 5 := by rw [← hn]; rfl
  rw [hnl]
  by_cases h0 : s.data.toList = [97, 109, 112]
  · refine ⟨⟨#[38]⟩, true, ?_, fun _ => by unfold sgnL; rw [if_pos h0], fun h => by cases h⟩
    rw [slices_Index_string_string.l0, if_pos (by decide), if_pos (by decide), hnl, if_pos (by decide), r0, ByteArray.toList_eq s, if_pos h0]; rfl
  by_cases h1 : s.data.toList = [108, 116]
  · refine ⟨⟨#[60]⟩, true, ?_, fun _ => by unfold sgnL; rw [if_neg h0, if_pos h1], fun h => by cases h⟩
    rw [slices_Index_string_string.l0, if_pos (by decide), if_pos (by decide), hnl, if_pos (by decide), r0, ByteArray.toList_eq s, if_neg h0, w0,
      slices_Index_string_string.l0, if_pos (by decide), if_pos (by decide), hnl, if_pos (by decide), r1, ByteArray.toList_eq s, if_pos h1]; rfl
  by_cases h2 : s.data.toList = [103, 116]
  · refine ⟨⟨#[62]⟩, true, ?_, fun _ => by unfold sgnL; rw [if_neg h0, if_neg h1, if_pos h2], fun h => by cases h⟩
    rw [slices_Index_string_string.l0, if_pos (by decide), if_pos (by decide), hnl, if_pos (by decide), r0, ByteArray.toList_eq s, if_neg h0, w0,
      slices_Index_string_string.l0, if_pos (by decide), if_pos (by decide), hnl, if_pos (by decide), r1, ByteArray.toList_eq s, if_neg h1, w1,
      slices_Index_string_string.l0, if_pos (by decide), if_pos (by decide), hnl, if_pos (by decide), r2, ByteArray.toList_eq s, if_pos h2]; rfl
  by_cases h3 : s.data.toList = [113, 117, 111, 116]
  · refine ⟨⟨#[34]⟩, true, ?_, fun _ => by unfold sgnL; rw [if_neg h0, if_neg h1, if_neg h2, if_pos h3], fun h => by cases h⟩
    rw [slices_Index_string_string.l0, if_pos (by decide), if_pos (by decide), hnl, if_pos (by decide), r0, ByteArray.toList_eq s, if_neg h0, w0,
      slices_Index_string_string.l0, if_pos (by decide), if_pos (by decide), hnl, if_pos (by decide), r1, ByteArray.toList_eq s, if_neg h1, w1,
      slices_Index_string_string.l0, if_pos (by decide), if_pos (by decide), hnl, if_pos (by decide), r2, ByteArray.toList_eq s, if_neg h2, w2,
      slices_Index_string_string.l0, if_pos (by decide), if_pos (by decide), hnl, if_pos (by decide), r3, ByteArray.toList_eq s, if_pos h3]; rfl
  by_cases h4 : s.data.toList = [97, 112, 111, 115]
  · refine ⟨⟨#[39]⟩, true, ?_, fun _ => by unfold sgnL; rw [if_neg h0, if_neg h1, if_neg h2, if_neg h3, if_pos h4], fun h => by cases h⟩
    rw [slices_Index_string_string.l0, if_pos (by decide), if_pos (by decide), hnl, if_pos (by decide), r0, ByteArray.toList_eq s, if_neg h0, w0,
      slices_Index_string_string.l0, if_pos (by decide), if_pos (by decide), hnl, if_pos (by decide), r1, ByteArray.toList_eq s, if_neg h1, w1,
      slices_Index_string_string.l0, if_pos (by decide), if_pos (by decide), hnl, if_pos (by decide), r2, ByteArray.toList_eq s, if_neg h2, w2,
      slices_Index_string_string.l0, if_pos (by decide), if_pos (by decide), hnl, if_pos (by decide), r3, ByteArray.toList_eq s, if_neg h3, w3,
      slices_Index_string_string.l0, if_pos (by decide), if_pos (by decide), hnl, if_pos (by decide), r4, ByteArray.toList_eq s, if_pos h4]; rfl
  refine ⟨⟨#[]⟩, false, ?_, (fun h => by cases h), fun _ => ⟨h0, h1, h2, h3, h4⟩⟩
  rw [slices_Index_string_string.l0, if_pos (by decide), if_pos (by decide), hnl, if_pos (by decide), r0, ByteArray.toList_eq s, if_neg h0, w0,
    slices_Index_string_string.l0, if_pos (by decide), if_pos (by decide), hnl, if_pos (by decide), r1, ByteArray.toList_eq s, if_neg h1, w1,
    slices_Index_string_string.l0, if_pos (by decide), if_pos (by decide), hnl, if_pos (by decide), r2, ByteArray.toList_eq s, if_neg h2, w2,
    slices_Index_string_string.l0, if_pos (by decide), if_pos (by decide), hnl, if_pos (by decide), r3, ByteArray.toList_eq s, if_neg h3, w3,
    slices_Index_string_string.l0, if_pos (by decide), if_pos (by decide), hnl, if_pos (by decide), r4, ByteArray.toList_eq s, if_neg h4, w4,
    slices_Index_string_string.l0, if_neg (by decide)]; rfl
theorem sign_eq (s : ByteArray) (hs : s.size ≤ 1000000000000) : escape_sign.f 9 s = some ⟨(sgnL s.data.toList).toArray⟩ := by
  obtain ⟨x, is, h1, h2, h3⟩ := names_of s
  have hnum : ∀ (B : Nat) (m : Int) (l : List UInt8), (B = 10 ∨ B = 16) → l.length ≤ 1000000000000 → escape_number.f ⟨l.toArray⟩ (B : Int) m = some (numR B m ⟨l.toArray⟩) := by
    intro B m l hB hl
    unfold escape_number.f
    rw [if_pos ⟨by simpa [ByteArray.size] using hl, by rcases hB with rfl | rfl <;> simp⟩, Int.toNat_natCast]
  have hl : s.data.toList.length = s.size := Array.length_toList
  unfold escape_sign.f escape_names.f
  simp only [Option.bind_some]
  rw [h1]
  simp only [Option.bind_some]
  cases is with
  | true => rw [if_pos rfl, h2 rfl]
  | false =>
    obtain ⟨g0, g1, g2, g3, g4⟩ := h3 rfl
    have c1 : strings_CutPrefix.f s ⟨#[35, 120]⟩ = some (if [35, 120] <+: s.data.toList then (⟨(s.data.toList.drop 2).toArray⟩, true) else (s, false)) := cutPre s _
    have c2 : strings_CutPrefix.f s ⟨#[35]⟩ = some (if [35] <+: s.data.toList then (⟨(s.data.toList.drop 1).toArray⟩, true) else (s, false)) := cutPre s _
    rw [if_neg (by decide), c1]
    simp only [Option.bind_some]
    have hsg : sgnL s.data.toList = match s.data.toList with | 35 :: 120 :: h => (numR 16 6 ⟨h.toArray⟩).data.toList | 35 :: d => (numR 10 7 ⟨d.toArray⟩).data.toList | _ => [] := by
      unfold sgnL
      rw [if_neg g0, if_neg g1, if_neg g2, if_neg g3, if_neg g4]
    rw [hsg]
    rw [c2]
    clear h1 h2 h3 g0 g1 g2 g3 g4 hsg c1 c2
    generalize s.data.toList = l at hl ⊢
    match l, hl with
    | [], hl => rfl
    | [a], hl =>
      by_cases ha : a = 35
      · subst ha
        rw [if_neg (show ¬ [35, 120] <+: ([35] : List UInt8) by decide)]
        simp only [Bool.false_eq_true, if_false]
        rw [if_pos (show [35] <+: ([35] : List UInt8) by decide)]
        simp only [Option.bind_some, if_true]
        have := hnum 10 7 [] (.inl rfl) (by simp)
        simp only [List.drop_one, List.tail_cons]
        rw [show ((10 : Nat) : Int) = 10 from rfl] at this
        rw [this]; rfl
      · have hp1 : ¬ [35, 120] <+: [a] := fun h => by have := h.length_le; simp at this
        have hp2 : ¬ [35] <+: [a] := fun h => by rw [List.cons_prefix_cons] at h; exact ha h.1.symm
        rw [if_neg hp1]
        simp only [Bool.false_eq_true, if_false]
        rw [if_neg hp2]
        simp only [Option.bind_some, Bool.false_eq_true, if_false]
        split
        · rename_i heq; simp at heq
        · rename_i heq; simp at heq; exact absurd heq.1 ha
        · rfl
    | a :: b :: t, hl =>
      by_cases ha : a = 35
      · subst ha
        by_cases hb : b = 120
        · subst hb
          have hp1 : [35, 120] <+: (35 :: 120 :: t : List UInt8) := ⟨t, rfl⟩
          rw [if_pos hp1]
          simp only [if_true]
          have := hnum 16 6 t (.inr rfl) (by simp at hl; omega)
          rw [show ((16 : Nat) : Int) = 16 from rfl] at this
          rw [show (35 :: 120 :: t : List UInt8).drop 2 = t from rfl, this]; rfl
        · have hp1 : ¬ [35, 120] <+: (35 :: b :: t) := fun h => by rw [List.cons_prefix_cons, List.cons_prefix_cons] at h; exact hb h.2.1.symm
          have hp2 : [35] <+: (35 :: b :: t : List UInt8) := ⟨b :: t, rfl⟩
          rw [if_neg hp1]
          simp only [Bool.false_eq_true, if_false]
          rw [if_pos hp2]
          simp only [Option.bind_some, if_true]
          have := hnum 10 7 (b :: t) (.inl rfl) (by simp at hl ⊢; omega)
          rw [show ((10 : Nat) : Int) = 10 from rfl] at this
          rw [show (35 :: b :: t : List UInt8).drop 1 = b :: t from rfl, this]
          split
          · rename_i heq; simp at heq; exact absurd heq.1 hb
          · rename_i heq; simp at heq; subst heq; rfl
          · rename_i h5 h6; exact absurd rfl (h6 _)
      · have hp1 : ¬ [35, 120] <+: (a :: b :: t) := fun h => by rw [List.cons_prefix_cons] at h; exact ha h.1.symm
        have hp2 : ¬ [35] <+: (a :: b :: t) := fun h => by rw [List.cons_prefix_cons] at h; exact ha h.1.symm
        rw [if_neg hp1]
        simp only [Bool.false_eq_true, if_false]
        rw [if_neg hp2]
        simp only [Option.bind_some, Bool.false_eq_true, if_false]
        split
        · rename_i heq; simp at heq; exact absurd heq.1 ha
        · rename_i heq; simp at heq; exact absurd heq.1 ha
        · rfl
/-- What stands in XML so, as a text, sign by sign; none: it is none. -/
def backG : Nat → List UInt8 → Option (List UInt8)
  | 0, _ => none
  | n + 1, l =>
    if (Lib.cut l [38]).2.2 = false then some (Lib.cut l [38]).1
    else if (Lib.cut (Lib.cut l [38]).2.1 [59]).2.2 = false ∨ sgnL (Lib.cut (Lib.cut l [38]).2.1 [59]).1 = [] then none
    else (backG n (Lib.cut (Lib.cut l [38]).2.1 [59]).2.1).map fun t => (Lib.cut l [38]).1 ++ sgnL (Lib.cut (Lib.cut l [38]).2.1 [59]).1 ++ t
def backR (s : ByteArray) : ByteArray × Int :=
  if validT s = false then (⟨#[]⟩, 3) else if s.data.toList.contains 60 = true then (⟨#[]⟩, 5)
  else match backG (s.size + 1) s.data.toList with | none => (⟨#[]⟩, 5) | some t => (⟨t.toArray⟩, 0)
theorem index_lt (l : List UInt8) (c : UInt8) (h : 0 ≤ Lib.index l [c]) : (Lib.index l [c]).toNat < l.length := by
  induction l with
  | nil => simp [Lib.index] at h
  | cons b t ih =>
    unfold Lib.index at h ⊢
    split
    · simp
    · rename_i hp
      rw [if_neg hp] at h
      split
      · rename_i h1
        rw [if_pos h1] at h
        exact absurd h (by decide)
      · rename_i h1
        rw [if_neg h1] at h
        have hlo : -1 ≤ Lib.index t [c] := Lib.index_ge t [c]
        have h2 : ¬ Lib.index t [c] = -1 := by simpa using h1
        have := ih (by omega)
        rw [List.length_cons]
        omega
theorem cut_lens (l : List UInt8) (c : UInt8) : (Lib.cut l [c]).1.length + (Lib.cut l [c]).2.1.length ≤ l.length ∧ ((Lib.cut l [c]).2.2 = true → (Lib.cut l [c]).1.length + (Lib.cut l [c]).2.1.length + 1 ≤ l.length) := by
  unfold Lib.cut
  split
  · rename_i h
    have hl := index_lt l c h
    constructor
    · simp only [List.length_take, List.length_drop, List.length_cons, List.length_nil]; omega
    · intro _; simp only [List.length_take, List.length_drop, List.length_cons, List.length_nil]; omega
  · exact ⟨by simp, fun h => by cases h⟩
def escape_Back.f (a0 : ByteArray) : Option (ByteArray × Int) := if a0.size ≤ 1000000000 then some (backR a0) else none
set_option maxHeartbeats 4000000 in
set_option maxRecDepth 100000 in
theorem escape_Back.calls (a0 : ByteArray) (r1 : ByteArray) (r2 : Int) (w : World) (h : escape_Back.f a0 = some (r1, r2)) (hT : Tabs w) :
    Calls Tryd.prog 13 #[.string a0] w fun e w' => e = .returned (.tuple #[.string r1, .int .i64 r2]) ∧ Below w.heap.size w w' := by
  unfold escape_Back.f at h
  split at h
  · rename_i hs
    have hr := Option.some.inj h
    have HS := Aside0.mk hs
    have HT := Aside0.mk hT
    have HV := Aside0.mk (fun b (hb : validT a0 = b) => utf_Valid.calls a0 b w (by unfold utf_Valid.f; rw [if_pos (by omega), hb]) hT)
    have HCt := Aside0.mk (fun b (hb : a0.data.toList.contains 60 = b) W (hW : Tabs W) => strings_Contains.calls a0 ⟨#[60]⟩ b W (by unfold strings_Contains.f; rw [if_pos (show (⟨#[60]⟩ : ByteArray).size = 1 from rfl)]; exact congrArg some hb) hW)
    clear h hs hT
    cases hv : validT a0 with
    | false =>
      have HV2 := Aside0.mk (HV.out false hv)
      unfold backR at hr
      rw [if_pos hv] at hr
      cases hr
      clear HV hv HCt
      go_enter Tryd.func13, Tryd.ntmps13
      go_wp2_with (go_at_call 24; (with_reducible refine HV2.out.mono ?_); rintro e w2 ⟨rfl, hb3⟩; have HB := Aside0.mk hb3; clear hb3)
      go_ret2
      exact ⟨rfl, HB.out⟩
    | true =>
      have HV2 := Aside0.mk (HV.out true hv)
      unfold backR at hr
      rw [if_neg (by rw [hv]; decide)] at hr
      clear HV hv
      cases hc : a0.data.toList.contains 60 with
      | true =>
        have HC2 := Aside0.mk (HCt.out true hc)
        rw [if_pos hc] at hr
        cases hr
        clear HCt hc
        go_enter Tryd.func13, Tryd.ntmps13
        go_wp2_with (first | (go_at_call 24; (with_reducible refine HV2.out.mono ?_); rintro e w2 ⟨rfl, hb3⟩; have HB := Aside0.mk hb3; clear hb3) | (go_at_call 25; (with_reducible refine (HC2.out _ (tabs_b HT.out HB.out)).mono ?_); rintro e w3 ⟨rfl, hb3⟩; have HB2 := Aside0.mk (below2 HB.out hb3); clear hb3))
        go_ret2
        exact ⟨rfl, HB2.out⟩
      | false =>
        have HC2 := Aside0.mk (HCt.out false hc)
        rw [if_neg (by rw [hc]; decide)] at hr
        clear HCt hc
        have HR := Aside0.mk hr
        clear hr
        go_enter Tryd.func13, Tryd.ntmps13
        go_wp2_with (first | (go_at_call 24; (with_reducible refine HV2.out.mono ?_); rintro e w2 ⟨rfl, hb3⟩; have HB := Aside0.mk hb3; clear hb3) | (go_at_call 25; (with_reducible refine (HC2.out _ (tabs_b HT.out HB.out)).mono ?_); rintro e w3 ⟨rfl, hb3⟩; have HB2 := Aside0.mk (below2 HB.out hb3); clear hb3))
        have hsz : (w3.alloc (.cells #[.pointer none, .slice none 0 0] 48)).heap.size = w3.heap.size + 1 := World.size_alloc _ _
        have HB3 := Aside0.mk (show Below w.heap.size w (w3.alloc (.cells #[.pointer none, .slice none 0 0] 48)) from below_alloc HB2.out _)
        have HBl := Aside0.mk (show IsBld 48 5 (w3.heap.size + 1) w3.heap.size (Lib.byteCells []) (w3.alloc (.cells #[.pointer none, .slice none 0 0] 48)) from .inl ⟨.slice none 0 0, blk_new _ _, World.ownsRow_nil _ _ _ _, by simp [Value.ownBlock]⟩)
        obtain ⟨w4, hw4⟩ : ∃ w4, w3.alloc (.cells #[.pointer none, .slice none 0 0] 48) = w4 := ⟨_, rfl⟩
        rw [hw4] at hsz HB3 HBl
        have HSZ := Aside0.mk hsz
        have HW := Aside0.mk (show w.heap.size ≤ w3.heap.size from HB2.out.size)
        rw [hw4]
        clear hw4 hsz HB HB2 HC2 HV2
        have HT4 := Aside0.mk (But.refl (w3.heap.size + 1) w3.heap.size w4)
        go_loopg [0] (a0.size + 1) (fun gk v0 wr => ∃ (l acc : List UInt8), v0 = .string ⟨l.toArray⟩ ∧ l.length < gk ∧ acc.length + 4 * l.length ≤ 4 * a0.size ∧ Aside0 ((backG gk l).map (acc ++ ·) = backG (a0.size + 1) a0.data.toList) ∧ Aside0 (IsBld 48 5 (w3.heap.size + 1) w3.heap.size (Lib.byteCells acc) wr) ∧ Aside0 (But (w3.heap.size + 1) w3.heap.size w4 wr))
        case atStart => exact ⟨a0.data.toList, [], rfl, by rw [arr_len]; omega, by rw [arr_len]; simp, ⟨by cases backG (a0.size + 1) a0.data.toList <;> rfl⟩, HBl, HT4⟩
        case round =>
          clear HBl HT4
          obtain ⟨l, acc, rfl, hlk, hla, HP, HBl, HTW⟩ := hrel
          obtain ⟨k', rfl⟩ : ∃ k', gk = k' + 1 := ⟨gk - 1, by omega⟩
          have hsl : (⟨l.toArray⟩ : ByteArray).size = l.length := by simp [ByteArray.size]
          have HCut := Aside0.mk (fun W (hW : Tabs W) (x : List UInt8) (c : UInt8) (hx : x.length ≤ l.length) => strings_Cut.calls ⟨x.toArray⟩ ⟨#[c]⟩ ⟨(Lib.cut x [c]).1.toArray⟩ ⟨(Lib.cut x [c]).2.1.toArray⟩ (Lib.cut x [c]).2.2 W (by unfold strings_Cut.f; rw [if_pos (by have := HS.out; simp only [ByteArray.size, List.size_toArray]; omega)]) hW)
          have HTA := Aside0.mk (fun W (h : But (w3.heap.size + 1) w3.heap.size w4 W) => tabs_b HT.out (h.below HB3.out HW.out (by have := HW.out; omega)))
          have hc1 := cut_lens l 38
          have hp := HP.out
          rw [backG] at hp
          obtain ⟨⟨c1, c2, c3⟩, hcut⟩ : ∃ c, Lib.cut l [38] = c := ⟨_, rfl⟩
          rw [hcut] at hc1 hp
          simp only at hc1 hp
          have HK := Aside0.mk hlk
          have HA := Aside0.mk hla
          have HC1 := Aside0.mk hc1
          have HC := Aside0.mk (HCut.out wr (HTA.out wr HTW.out) l 38 (Nat.le_refl _))
          rw [hcut] at HC
          have HSZ2 := Aside0.mk (show w3.heap.size + 1 ≤ wr.heap.size by have := HTW.out.size; have := HSZ.out; omega)
          cases c3 with
          | false =>
            rw [if_pos rfl] at hp
            have HP2 := Aside0.mk hp
            clear hp hcut hlk hla hc1 hsl
            go_wp2_with (first | (go_at_call 26; (with_reducible refine HC.out.mono ?_); rintro e w5 ⟨rfl, hb5⟩; have H5 := Aside0.mk hb5; have HB5 := Aside0.mk (HBl.out.below hb5); have HT5 := Aside0.mk (HTW.out.trans (But.of_below hb5 HSZ2.out)); clear hb5))
            go_wp2_with (go_at_call 27; (with_reducible refine (strings_Builder_WriteString.hof _ _ _ ⟨c1.toArray⟩ _ HB5.out (by have := HA.out; have := HC1.out.1; have := HS.out; rw [Lib.byteCells_length]; simp only [ByteArray.size, List.size_toArray]; omega) (by have := H5.out.size; have := HSZ2.out; omega)).mono ?_))
            (first | rintro e w6 rfl hb6 ht6 | rintro e w6 ⟨rfl, hb6, ht6⟩)
            have HB6 := Aside0.mk (show IsBld 48 5 (w3.heap.size + 1) w3.heap.size (Lib.byteCells (acc ++ c1)) w6 from by rw [Lib.byteCells_append]; exact hb6)
            have HT6 := Aside0.mk (HT5.out.trans ht6)
            clear hb6 ht6
            go_wp2_with (go_at_call 28; (with_reducible refine (Tryd.Builder_String_any _ _ _ _ (HB6.out.builder (by omega)) (by have := HT6.out.size; have := HSZ.out; omega)).mono ?_))
            (first | rintro e w7 rfl hb7 | rintro e w7 ⟨rfl, hb7⟩)
            have HB7 := Aside0.mk hb7
            clear hb7
            go_wp2
            go_ret2
            have h1 := HR.out
            rw [← HP2.out] at h1
            cases h1
            exact ⟨rfl, below_weaken (HT6.out.below HB3.out HW.out (by have := HW.out; omega)) HW.out HB7.out⟩
          | true =>
            rw [if_neg (by decide)] at hp
            obtain ⟨⟨d1, d2, d3⟩, hcut2⟩ : ∃ c, Lib.cut c2 [59] = c := ⟨_, rfl⟩
            have hd1 := cut_lens c2 59
            rw [hcut2] at hp hd1
            simp only at hp hd1
            have HC2l := Aside0.mk (show c2.length ≤ l.length by have := hc1.1; omega)
            have HCb := Aside0.mk (fun W hW => HCut.out W hW c2 59 HC2l.out)
            rw [hcut2] at HCb
            have HD1 := Aside0.mk hd1
            have HSg := Aside0.mk (fun W (hW : Tabs W) => escape_sign.calls 9 ⟨d1.toArray⟩ ⟨(sgnL d1).toArray⟩ W (sign_eq _ (by have h1 := hd1.1; have h2 := hc1.1; have := HS.out; have : l.length ≤ a0.size := (by omega); show d1.toArray.size ≤ _; rw [List.size_toArray]; omega)) hW)
            have hsg4 := sgnL_len d1
            obtain ⟨x, hx⟩ : ∃ x, sgnL d1 = x := ⟨_, rfl⟩
            rw [hx] at hp HSg hsg4
            have HX4 := Aside0.mk hsg4
            have hE2 : (⟨x.toArray⟩ : ByteArray).toList = x := by rw [ByteArray.toList_eq]
            clear hcut hcut2 hlk hla hc1 hsl hd1 hx hsg4
            by_cases hbad : d3 = false ∨ x = []
            · rw [if_pos hbad] at hp
              have HP2 := Aside0.mk hp
              clear hp
              have hE3 : (⟨x.toArray⟩ : ByteArray).toList.isEmpty = decide (x = []) := by rw [hE2]; cases x <;> rfl
              rcases hbad with rfl | hx0
              · clear hE2 hE3
                go_wp2_with (first | (go_at_call 26; (with_reducible refine HC.out.mono ?_); rintro e w5 ⟨rfl, hb5⟩; have H5 := Aside0.mk hb5; have HB5 := Aside0.mk (HBl.out.below hb5); have HT5 := Aside0.mk (HTW.out.trans (But.of_below hb5 HSZ2.out)); clear hb5))
                go_wp2_with (go_at_call 27; (with_reducible refine (strings_Builder_WriteString.hof _ _ _ ⟨c1.toArray⟩ _ HB5.out (by have := HA.out; have := HC1.out.1; have := HS.out; rw [Lib.byteCells_length]; simp only [ByteArray.size, List.size_toArray]; omega) (by have := H5.out.size; have := HSZ2.out; omega)).mono ?_))
                (first | rintro e w6 rfl hb6 ht6 | rintro e w6 ⟨rfl, hb6, ht6⟩)
                have HT6 := Aside0.mk (HT5.out.trans ht6)
                clear hb6 ht6
                go_wp2_with (first | (go_at_call 26; (with_reducible refine (HCb.out _ (HTA.out _ HT6.out)).mono ?_); rintro e w7 ⟨rfl, hb7⟩; have HT7 := Aside0.mk (HT6.out.trans (But.of_below hb7 (by have := HT6.out.size; have := HSZ.out; omega))); clear hb7) | (go_at_call 29; (with_reducible refine (HSg.out _ (HTA.out _ HT7.out)).mono ?_); rintro e w8 ⟨rfl, hb8⟩; have HT8 := Aside0.mk (HT7.out.trans (But.of_below hb8 (by have := HT7.out.size; have := HSZ.out; omega))); clear hb8))
                go_ret2
                have h1 := HR.out
                rw [← HP2.out] at h1
                cases h1
                exact ⟨rfl, HT8.out.below HB3.out HW.out (by have := HW.out; omega)⟩
              · subst hx0
                cases d3 with
                | false =>
                  clear hE2 hE3
                  go_wp2_with (first | (go_at_call 26; (with_reducible refine HC.out.mono ?_); rintro e w5 ⟨rfl, hb5⟩; have H5 := Aside0.mk hb5; have HB5 := Aside0.mk (HBl.out.below hb5); have HT5 := Aside0.mk (HTW.out.trans (But.of_below hb5 HSZ2.out)); clear hb5))
                  go_wp2_with (go_at_call 27; (with_reducible refine (strings_Builder_WriteString.hof _ _ _ ⟨c1.toArray⟩ _ HB5.out (by have := HA.out; have := HC1.out.1; have := HS.out; rw [Lib.byteCells_length]; simp only [ByteArray.size, List.size_toArray]; omega) (by have := H5.out.size; have := HSZ2.out; omega)).mono ?_))
                  (first | rintro e w6 rfl hb6 ht6 | rintro e w6 ⟨rfl, hb6, ht6⟩)
                  have HT6 := Aside0.mk (HT5.out.trans ht6)
                  clear hb6 ht6
                  go_wp2_with (first | (go_at_call 26; (with_reducible refine (HCb.out _ (HTA.out _ HT6.out)).mono ?_); rintro e w7 ⟨rfl, hb7⟩; have HT7 := Aside0.mk (HT6.out.trans (But.of_below hb7 (by have := HT6.out.size; have := HSZ.out; omega))); clear hb7) | (go_at_call 29; (with_reducible refine (HSg.out _ (HTA.out _ HT7.out)).mono ?_); rintro e w8 ⟨rfl, hb8⟩; have HT8 := Aside0.mk (HT7.out.trans (But.of_below hb8 (by have := HT7.out.size; have := HSZ.out; omega))); clear hb8))
                  go_ret2
                  have h1 := HR.out
                  rw [← HP2.out] at h1
                  cases h1
                  exact ⟨rfl, HT8.out.below HB3.out HW.out (by have := HW.out; omega)⟩
                | true =>
                  clear hE2 hE3
                  go_wp2_with (first | (go_at_call 26; (with_reducible refine HC.out.mono ?_); rintro e w5 ⟨rfl, hb5⟩; have H5 := Aside0.mk hb5; have HB5 := Aside0.mk (HBl.out.below hb5); have HT5 := Aside0.mk (HTW.out.trans (But.of_below hb5 HSZ2.out)); clear hb5))
                  go_wp2_with (go_at_call 27; (with_reducible refine (strings_Builder_WriteString.hof _ _ _ ⟨c1.toArray⟩ _ HB5.out (by have := HA.out; have := HC1.out.1; have := HS.out; rw [Lib.byteCells_length]; simp only [ByteArray.size, List.size_toArray]; omega) (by have := H5.out.size; have := HSZ2.out; omega)).mono ?_))
                  (first | rintro e w6 rfl hb6 ht6 | rintro e w6 ⟨rfl, hb6, ht6⟩)
                  have HT6 := Aside0.mk (HT5.out.trans ht6)
                  clear hb6 ht6
                  go_wp2_with (first | (go_at_call 26; (with_reducible refine (HCb.out _ (HTA.out _ HT6.out)).mono ?_); rintro e w7 ⟨rfl, hb7⟩; have HT7 := Aside0.mk (HT6.out.trans (But.of_below hb7 (by have := HT6.out.size; have := HSZ.out; omega))); clear hb7) | (go_at_call 29; (with_reducible refine (HSg.out _ (HTA.out _ HT7.out)).mono ?_); rintro e w8 ⟨rfl, hb8⟩; have HT8 := Aside0.mk (HT7.out.trans (But.of_below hb8 (by have := HT7.out.size; have := HSZ.out; omega))); clear hb8))
                  go_ret2
                  have h1 := HR.out
                  rw [← HP2.out] at h1
                  cases h1
                  exact ⟨rfl, HT8.out.below HB3.out HW.out (by have := HW.out; omega)⟩
            · rw [if_neg hbad] at hp
              obtain ⟨hd3, hx0⟩ : d3 = true ∧ ¬ x = [] := ⟨by cases d3 <;> simp_all, fun e => hbad (.inr e)⟩
              subst hd3
              have HP2 := Aside0.mk hp
              have hE3 : (⟨x.toArray⟩ : ByteArray).toList.isEmpty = false := by rw [hE2]; simpa using hx0
              have hE4 : ((⟨x.toArray⟩ : ByteArray).toList == []) = false := by rw [hE2]; exact beq_eq_false_iff_ne.2 hx0
              have hE5 : ¬ (⟨x.toArray⟩ : ByteArray).toList = [] := by rw [hE2]; exact hx0
              have hE6 : x.isEmpty = false := by simpa using hx0
              clear hp hbad hE2 hx0
              go_wp2_with (first | (go_at_call 26; (with_reducible refine HC.out.mono ?_); rintro e w5 ⟨rfl, hb5⟩; have H5 := Aside0.mk hb5; have HB5 := Aside0.mk (HBl.out.below hb5); have HT5 := Aside0.mk (HTW.out.trans (But.of_below hb5 HSZ2.out)); clear hb5))
              go_wp2_with (go_at_call 27; (with_reducible refine (strings_Builder_WriteString.hof _ _ _ ⟨c1.toArray⟩ _ HB5.out (by have := HA.out; have := HC1.out.1; have := HS.out; rw [Lib.byteCells_length]; simp only [ByteArray.size, List.size_toArray]; omega) (by have := H5.out.size; have := HSZ2.out; omega)).mono ?_))
              (first | rintro e w6 rfl hb6 ht6 | rintro e w6 ⟨rfl, hb6, ht6⟩)
              have HB6 := Aside0.mk (show IsBld 48 5 (w3.heap.size + 1) w3.heap.size (Lib.byteCells (acc ++ c1)) w6 from by rw [Lib.byteCells_append]; exact hb6)
              have HT6 := Aside0.mk (HT5.out.trans ht6)
              clear hb6 ht6
              go_wp2_with (first | (go_at_call 26; (with_reducible refine (HCb.out _ (HTA.out _ HT6.out)).mono ?_); rintro e w7 ⟨rfl, hb7⟩; have HB7 := Aside0.mk (HB6.out.below hb7); have HT7 := Aside0.mk (HT6.out.trans (But.of_below hb7 (by have := HT6.out.size; have := HSZ.out; omega))); clear hb7) | (go_at_call 29; (with_reducible refine (HSg.out _ (HTA.out _ HT7.out)).mono ?_); rintro e w8 ⟨rfl, hb8⟩; have HB8 := Aside0.mk (HB7.out.below hb8); have HT8 := Aside0.mk (HT7.out.trans (But.of_below hb8 (by have := HT7.out.size; have := HSZ.out; omega))); clear hb8))
              go_wp2_with (go_at_call 27; (with_reducible refine (strings_Builder_WriteString.hof _ _ _ ⟨x.toArray⟩ _ HB8.out (by have := HA.out; have := HC1.out.1; have := HS.out; have := HX4.out; rw [Lib.byteCells_length, List.length_append]; simp only [ByteArray.size, List.size_toArray]; omega) (by have := HT8.out.size; have := HSZ.out; omega)).mono ?_))
              (first | rintro e w9 rfl hb9 ht9 | rintro e w9 ⟨rfl, hb9, ht9⟩)
              have HB9 := Aside0.mk (show IsBld 48 5 (w3.heap.size + 1) w3.heap.size (Lib.byteCells (acc ++ c1 ++ x)) w9 from by rw [Lib.byteCells_append (acc ++ c1)]; exact hb9)
              have HT9 := Aside0.mk (HT8.out.trans ht9)
              clear hb9 ht9
              go_wp2
              go_roundg k'
              case measure => omega
              case rel => exact ⟨d2, acc ++ c1 ++ x, rfl, by have h1 := HK.out; have h2 := HC1.out.1; have h3 := HD1.out.2 (by first | trivial | rfl); have h4 := HC1.out.2 (by first | trivial | rfl); omega, by have h1 := HA.out; have h2 := HX4.out; have h3 := HD1.out.2 (by first | trivial | rfl); have h4 := HC1.out.2 (by first | trivial | rfl); simp only [List.length_append]; omega, ⟨by rw [← HP2.out, Option.map_map]; congr 1; funext t; simp⟩, HB9, HT9⟩
  · cases h

/-! ### escape_signs: function 31 -/
def escape_signs.f  : Option (List Int × List ByteArray) := some ((([38, 60, 62, 34, 39, 9, 10, 13] : List Int)), (([(⟨#[38, 97, 109, 112, 59]⟩ : ByteArray), (⟨#[38, 108, 116, 59]⟩ : ByteArray), (⟨#[38, 103, 116, 59]⟩ : ByteArray), (⟨#[38, 113, 117, 111, 116, 59]⟩ : ByteArray), (⟨#[38, 97, 112, 111, 115, 59]⟩ : ByteArray), (⟨#[38, 35, 57, 59]⟩ : ByteArray), (⟨#[38, 35, 49, 48, 59]⟩ : ByteArray), (⟨#[38, 35, 49, 51, 59]⟩ : ByteArray)] : List ByteArray)))
set_option maxHeartbeats 8000000 in
set_option maxRecDepth 100000 in
theorem escape_signs.calls  (r1 : List Int) (r2 : List ByteArray) (w : World) (h : escape_signs.f  = some (r1, r2)) :
    Calls Tryd.prog 31 #[] w fun e w' => ∃ v0_ v1_ : Value, e = .returned (.agg #[v0_, v1_]) ∧ Kd.R (Kd.int .u8) 5 w' w.heap.size (fun _ => True) v0_ r1 ∧ Kd.R Kd.string 9 w' w.heap.size (fun _ => True) v1_ r2 ∧ Below w.heap.size w w' := by
  have hu57 := Tryd.underlying57
  have HB := Aside0.mk (Below.refl w.heap.size w)
  have H : (some ((([38, 60, 62, 34, 39, 9, 10, 13] : List Int)), (([(⟨#[38, 97, 109, 112, 59]⟩ : ByteArray), (⟨#[38, 108, 116, 59]⟩ : ByteArray), (⟨#[38, 103, 116, 59]⟩ : ByteArray), (⟨#[38, 113, 117, 111, 116, 59]⟩ : ByteArray), (⟨#[38, 97, 112, 111, 115, 59]⟩ : ByteArray), (⟨#[38, 35, 57, 59]⟩ : ByteArray), (⟨#[38, 35, 49, 48, 59]⟩ : ByteArray), (⟨#[38, 35, 49, 51, 59]⟩ : ByteArray)] : List ByteArray)))) = some (r1, r2) := h
  clear h
  obtain ⟨y143, hy143⟩ : ∃ y_ : List Int, y_ = (([38, 60, 62, 34, 39, 9, 10, 13] : List Int)) := ⟨_, rfl⟩
  replace H : (some (y143, (([(⟨#[38, 97, 109, 112, 59]⟩ : ByteArray), (⟨#[38, 108, 116, 59]⟩ : ByteArray), (⟨#[38, 103, 116, 59]⟩ : ByteArray), (⟨#[38, 113, 117, 111, 116, 59]⟩ : ByteArray), (⟨#[38, 97, 112, 111, 115, 59]⟩ : ByteArray), (⟨#[38, 35, 57, 59]⟩ : ByteArray), (⟨#[38, 35, 49, 48, 59]⟩ : ByteArray), (⟨#[38, 35, 49, 51, 59]⟩ : ByteArray)] : List ByteArray)))) = some (r1, r2) := by first | (rw [hy143]; with_reducible exact H) | (have H2_ := (Option.bind_some _ _).symm.trans H; rw [hy143]; with_reducible exact H2_) | (have H2_ := (Option.bind_some _ _).symm.trans H; with_reducible exact H2_) | with_reducible exact H | (rw [hy143]; exact H) | exact H
  have Ny143 := Aside0.mk hy143
  clear hy143
  obtain ⟨y146, hy146⟩ : ∃ y_ : List ByteArray, y_ = (([(⟨#[38, 97, 109, 112, 59]⟩ : ByteArray), (⟨#[38, 108, 116, 59]⟩ : ByteArray), (⟨#[38, 103, 116, 59]⟩ : ByteArray), (⟨#[38, 113, 117, 111, 116, 59]⟩ : ByteArray), (⟨#[38, 97, 112, 111, 115, 59]⟩ : ByteArray), (⟨#[38, 35, 57, 59]⟩ : ByteArray), (⟨#[38, 35, 49, 48, 59]⟩ : ByteArray), (⟨#[38, 35, 49, 51, 59]⟩ : ByteArray)] : List ByteArray)) := ⟨_, rfl⟩
  replace H : (some (y143, y146)) = some (r1, r2) := by first | (rw [hy146]; with_reducible exact H) | (have H2_ := (Option.bind_some _ _).symm.trans H; rw [hy146]; with_reducible exact H2_) | (have H2_ := (Option.bind_some _ _).symm.trans H; with_reducible exact H2_) | with_reducible exact H | (rw [hy146]; exact H) | exact H
  have Ny146 := Aside0.mk hy146
  clear hy146
  simp only [Option.some.injEq, Prod.mk.injEq] at H
  obtain ⟨rfl, rfl⟩ := H
  go_enter Tryd.func31, Tryd.ntmps31
  go_wp2_with (first | ((with_reducible refine gate_dst (N := 0) rfl ?_); refine box_event ?hg (N := 0) ?hd (cs := #[.slice none 0 0, .slice none 0 0]) (t := 57) ?hr ?_; (case hd => rfl); (case hg => rfl); (case hr => first | (go_simp; done) | (go_simp; rfl)); intro gb142 hg w1 hbox hb; have n0_ := Aside0.mk (below_step (by repeat (first | (with_reducible first | exact HB.out | apply below_alloc | apply pw_below_drewN | apply below_drew1) | exact HB.out)) hb); have n1_ := Aside0.mk (hbox); have n2_ := Aside0.mk ((by rw [hg]; exact (below_size (by repeat (first | (with_reducible first | exact HB.out | apply below_alloc | apply pw_below_drewN | apply below_drew1) | exact HB.out))) : w.heap.size ≤ gb142)); have n3_ := Aside0.mk ((by rw [hg]; exact (below_size (by repeat (first | (with_reducible first | exact HB.out | apply below_alloc | apply pw_below_drewN | apply below_drew1) | exact HB.out))) : w.heap.size ≤ gb142)); clear HB; have HB := n0_; have BK142 := n1_; have GW142 := n2_; have GE142 := n3_; clear n0_ n1_ n2_ n3_; clear hb hbox hg) | ((with_reducible refine gate_dst (N := 1) rfl ?_); refine Kd.R_lit (Kd.int .u8) _ 5 ?hg (N := 1) ?hd (xs := ([38, 60, 62, 34, 39, 9, 10, 13] : List Int)) (inner := [.int .u8 38, .int .u8 60, .int .u8 62, .int .u8 34, .int .u8 39, .int .u8 9, .int .u8 10, .int .u8 13]) (ok := fun _ => True) (okp := fun _ => True) ?hr ?hp (fun _ hk => hk) trivial (Below.refl _ _) (Nat.le_refl _) (by simp) ?_; (case hd => rfl); (case hg => rfl); (case hr => first | (go_simp; done) | (go_simp; rfl)); (case hp => exact (Reps.one (show Kd.M (Kd.int .u8) _ _ _ 38 [.int .u8 38] from rfl) (Reps.one (show Kd.M (Kd.int .u8) _ _ _ 60 [.int .u8 60] from rfl) (Reps.one (show Kd.M (Kd.int .u8) _ _ _ 62 [.int .u8 62] from rfl) (Reps.one (show Kd.M (Kd.int .u8) _ _ _ 34 [.int .u8 34] from rfl) (Reps.one (show Kd.M (Kd.int .u8) _ _ _ 39 [.int .u8 39] from rfl) (Reps.one (show Kd.M (Kd.int .u8) _ _ _ 9 [.int .u8 9] from rfl) (Reps.one (show Kd.M (Kd.int .u8) _ _ _ 10 [.int .u8 10] from rfl) (Reps.one (show Kd.M (Kd.int .u8) _ _ _ 13 [.int .u8 13] from rfl) (Reps.none _ _)))))))))); intro v144 w2 ho3 hb hg_ hnew_; clear hg_ hnew_; (first | rw [← Ny143.out] at ho3 | (simp only [Int.reduceToNat] at ho3; rw [← Ny143.out] at ho3)); have n0_ := Aside0.mk (Kd.R_lower ho3 (below_size (by repeat (first | (with_reducible first | exact HB.out | apply below_alloc | apply pw_below_drewN | apply below_drew1 | refine below_set ?_ GE142.out) | exact HB.out)))); have n1_ := Aside0.mk (blk_below (g := gb142) (o := .cells #[.slice none 0 0, .slice none 0 0] 57 (0, 0)) (by (with_reducible repeat (first | refine blk_drewN ?_ _ | refine blk_drew ?_ | refine blk_alloc ?_ _)); exact BK142.out) hb); have n2_ := Aside0.mk (below_step (by repeat (first | (with_reducible first | exact HB.out | apply below_alloc | apply pw_below_drewN | apply below_drew1 | refine below_set ?_ GE142.out) | exact HB.out)) hb); clear BK142; clear HB; have HO145 := n0_; have BK142 := n1_; have HB := n2_; clear n0_ n1_ n2_; clear hb ho3) | ((with_reducible refine gate_dst (N := 2) rfl ?_); refine Kd.R_lit Kd.string _ 9 ?hg (N := 2) ?hd (xs := ([(⟨#[38, 97, 109, 112, 59]⟩ : ByteArray), (⟨#[38, 108, 116, 59]⟩ : ByteArray), (⟨#[38, 103, 116, 59]⟩ : ByteArray), (⟨#[38, 113, 117, 111, 116, 59]⟩ : ByteArray), (⟨#[38, 97, 112, 111, 115, 59]⟩ : ByteArray), (⟨#[38, 35, 57, 59]⟩ : ByteArray), (⟨#[38, 35, 49, 48, 59]⟩ : ByteArray), (⟨#[38, 35, 49, 51, 59]⟩ : ByteArray)] : List ByteArray)) (inner := [.string (⟨#[38, 97, 109, 112, 59]⟩ : ByteArray), .string (⟨#[38, 108, 116, 59]⟩ : ByteArray), .string (⟨#[38, 103, 116, 59]⟩ : ByteArray), .string (⟨#[38, 113, 117, 111, 116, 59]⟩ : ByteArray), .string (⟨#[38, 97, 112, 111, 115, 59]⟩ : ByteArray), .string (⟨#[38, 35, 57, 59]⟩ : ByteArray), .string (⟨#[38, 35, 49, 48, 59]⟩ : ByteArray), .string (⟨#[38, 35, 49, 51, 59]⟩ : ByteArray)]) (ok := fun _ => True) (okp := fun _ => True) ?hr ?hp (fun _ hk => hk) trivial (Below.refl _ _) (Nat.le_refl _) (by simp) ?_; (case hd => rfl); (case hg => rfl); (case hr => first | (go_simp; done) | (go_simp; rfl)); (case hp => exact (Reps.one (show Kd.M Kd.string _ _ _ (⟨#[38, 97, 109, 112, 59]⟩ : ByteArray) [.string (⟨#[38, 97, 109, 112, 59]⟩ : ByteArray)] from rfl) (Reps.one (show Kd.M Kd.string _ _ _ (⟨#[38, 108, 116, 59]⟩ : ByteArray) [.string (⟨#[38, 108, 116, 59]⟩ : ByteArray)] from rfl) (Reps.one (show Kd.M Kd.string _ _ _ (⟨#[38, 103, 116, 59]⟩ : ByteArray) [.string (⟨#[38, 103, 116, 59]⟩ : ByteArray)] from rfl) (Reps.one (show Kd.M Kd.string _ _ _ (⟨#[38, 113, 117, 111, 116, 59]⟩ : ByteArray) [.string (⟨#[38, 113, 117, 111, 116, 59]⟩ : ByteArray)] from rfl) (Reps.one (show Kd.M Kd.string _ _ _ (⟨#[38, 97, 112, 111, 115, 59]⟩ : ByteArray) [.string (⟨#[38, 97, 112, 111, 115, 59]⟩ : ByteArray)] from rfl) (Reps.one (show Kd.M Kd.string _ _ _ (⟨#[38, 35, 57, 59]⟩ : ByteArray) [.string (⟨#[38, 35, 57, 59]⟩ : ByteArray)] from rfl) (Reps.one (show Kd.M Kd.string _ _ _ (⟨#[38, 35, 49, 48, 59]⟩ : ByteArray) [.string (⟨#[38, 35, 49, 48, 59]⟩ : ByteArray)] from rfl) (Reps.one (show Kd.M Kd.string _ _ _ (⟨#[38, 35, 49, 51, 59]⟩ : ByteArray) [.string (⟨#[38, 35, 49, 51, 59]⟩ : ByteArray)] from rfl) (Reps.none _ _)))))))))); intro v147 w4 ho5 hb hg_ hnew_; clear hg_ hnew_; (first | rw [← Ny146.out] at ho5 | (simp only [Int.reduceToNat] at ho5; rw [← Ny146.out] at ho5)); have n0_ := Aside0.mk (Kd.R_below (by (with_reducible repeat (first | apply Kd.R_alloc | apply Kd.R_drewN | apply Kd.R_drew)); exact HO145.out) hb); have n1_ := Aside0.mk (Kd.R_lower ho5 (below_size (by repeat (first | (with_reducible first | exact HB.out | apply below_alloc | apply pw_below_drewN | apply below_drew1 | refine below_set ?_ GE142.out) | exact HB.out)))); have n2_ := Aside0.mk (blk_below (g := gb142) (o := .cells #[.slice none 0 0, .slice none 0 0] 57 (0, 0)) (by (with_reducible repeat (first | refine blk_drewN ?_ _ | refine blk_drew ?_ | refine blk_alloc ?_ _)); exact BK142.out) hb); have n3_ := Aside0.mk (below_step (by repeat (first | (with_reducible first | exact HB.out | apply below_alloc | apply pw_below_drewN | apply below_drew1 | refine below_set ?_ GE142.out) | exact HB.out)) hb); clear HO145; clear BK142; clear HB; have HO145 := n0_; have HO148 := n1_; have BK142 := n2_; have HB := n3_; clear n0_ n1_ n2_ n3_; clear hb ho5; obtain ⟨Ao6, co6, eo6⟩ := Kd.R_slice HO148.out; subst eo6; obtain ⟨Ao7, co7, eo7⟩ := Kd.R_slice HO145.out; subst eo7; have hcz8_0 : w4.cell? ⟨gb142, 0, none⟩ = some (.slice none 0 0) := (blk_cell BK142.out 0).trans rfl; have hcz8_1 : w4.cell? ⟨gb142, 1, none⟩ = some (.slice none 0 0) := (blk_cell BK142.out 1).trans rfl; have hfz8_0 := blk_frozen BK142.out 0; have hfz8_1 := blk_frozen BK142.out 1))
  refine bodyPost_ret (results_cell_row rfl _ _ gb142 57 #[.slice Ao7 y143.length co7, .slice Ao6 y146.length co6] (0, 0) _ rfl (by (with_reducible repeat (first | refine blk_drewN ?_ _ | refine blk_drew ?_ | refine blk_alloc ?_ _)); refine blk_put (cs := #[.slice Ao7 y143.length co7, .slice none 0 0]) ?_ 1 _ rfl; (with_reducible repeat (first | refine blk_drewN ?_ _ | refine blk_drew ?_ | refine blk_alloc ?_ _)); refine blk_put (cs := #[.slice none 0 0, .slice none 0 0]) ?_ 0 _ rfl; (with_reducible repeat (first | refine blk_drewN ?_ _ | refine blk_drew ?_ | refine blk_alloc ?_ _)); exact BK142.out) Tryd.underlying57 rfl (by kernel_rfl)) rfl ?_
  exact ⟨_, _, by first | rfl | (simp [errW_none, errW_some] <;> rfl) | (simp [*, errW_none, errW_some] <;> rfl), by (with_reducible repeat (first | apply Kd.R_alloc | apply Kd.R_drewN | apply Kd.R_drew)); exact Kd.R_mono (Kd.R_far (p := ⟨gb142, 1, none⟩) (Kd.R_far (p := ⟨gb142, 0, none⟩) (Kd.R_types HO145.out BK142.out (by decide)) (fun _ hk => hk.2) (.slice Ao7 y143.length co7)) (fun _ hk => hk.2) (.slice Ao6 y146.length co6)) (fun _ hk => trivial), by (with_reducible repeat (first | apply Kd.R_alloc | apply Kd.R_drewN | apply Kd.R_drew)); exact Kd.R_mono (Kd.R_far (p := ⟨gb142, 1, none⟩) (Kd.R_far (p := ⟨gb142, 0, none⟩) (Kd.R_types HO148.out BK142.out (by decide)) (fun _ hk => hk.2) (.slice Ao7 y143.length co7)) (fun _ hk => hk.2) (.slice Ao6 y146.length co6)) (fun _ hk => trivial), by repeat (first | (with_reducible first | exact HB.out | apply below_alloc | apply pw_below_drewN | apply below_drew1 | refine below_set ?_ GE142.out) | exact HB.out)⟩

/-! ### slices_Index_byte_byte: function 50 -/
def slices_Index_byte_byte.l0 : Nat → List Int → Int → Int → Int → Option (Int)
  | 0, _, _, _, _ => none
  | k + 1, x0, x1, x7, x8 => if x8 < x7 then (if 0 ≤ x8 then (if x8 < (x0.length : Int) then (if x1 = (rd x0 x8) then (some x8) else (slices_Index_byte_byte.l0 k x0 x1 x7 (wrap64 (x8 + 1)))) else (none)) else (none)) else (some (-1))
def slices_Index_byte_byte.f (k : Nat) (l0 : List Int) (a1 : Int) : Option (Int) := slices_Index_byte_byte.l0 k l0 a1 (l0.length : Int) 0
theorem slices_Index_byte_byte.mono_l : ∀ k, (∀ y0 y1 y2 y3, LeO (slices_Index_byte_byte.l0 k y0 y1 y2 y3) (slices_Index_byte_byte.l0 (k + 1) y0 y1 y2 y3))
  | 0 => fun _ _ _ _ r h => by simp [slices_Index_byte_byte.l0] at h
  | k + 1 => by
    have ih0 := slices_Index_byte_byte.mono_l k
    · intro y0 y1 y2 y3
      unfold slices_Index_byte_byte.l0
      repeat' first
      | (with_reducible exact ih0 _ _ _ _)
      | (with_reducible exact LeO.refl _)
      | (with_reducible exact LeO.none _)
      | (with_reducible refine LeO.ite ?_ ?_)
      | (with_reducible refine LeO.bind ?_ (fun _ => ?_))
      | exact ih0 _ _ _ _
      | exact LeO.none _
      | refine LeO.ite ?_ ?_
      | refine LeO.bind ?_ (fun _ => ?_)
theorem slices_Index_byte_byte.mono : ∀ a0 a1 k, LeO (slices_Index_byte_byte.f k a0 a1) (slices_Index_byte_byte.f (k + 1) a0 a1) := by
  intro a0 a1 k
  have ih0 := slices_Index_byte_byte.mono_l k
  unfold slices_Index_byte_byte.f
  repeat' first
      | (with_reducible exact ih0 _ _ _ _)
      | (with_reducible exact LeO.refl _)
      | (with_reducible exact LeO.none _)
      | (with_reducible refine LeO.ite ?_ ?_)
      | (with_reducible refine LeO.bind ?_ (fun _ => ?_))
      | exact ih0 _ _ _ _
      | exact LeO.none _
      | refine LeO.ite ?_ ?_
      | refine LeO.bind ?_ (fun _ => ?_)
set_option maxHeartbeats 8000000 in
set_option maxRecDepth 100000 in
theorem slices_Index_byte_byte.calls (k : Nat) (A0 : Option Addr) (c0 : Nat) (l0 : List Int) (a1 : Int) (r : Int) (w : World) (hr0 : Kd.C (Kd.int .u8) w A0 l0.length l0) (hc0 : l0.length ≤ c0) (h : slices_Index_byte_byte.f k l0 a1 = some r) :
    Calls Tryd.prog 50 #[.slice A0 l0.length c0, .int .u8 a1] w fun e w' => e = .returned (.int .i64 r) ∧ Drawn0 w w' := by
  have HR0 := Aside0.mk hr0
  have HC0 := Aside0.mk hc0
  clear hr0 hc0
  have H : (slices_Index_byte_byte.l0 k l0 a1 (l0.length : Int) 0) = some r := h
  clear h
  have H' := Aside0.mk H
  clear H
  go_enter Tryd.func50, Tryd.ntmps50
  go_wp2
  go_loopg [8] k (fun kq v8 w' => ∃ (x8_1 : Int), v8 = .int .i64 x8_1 ∧ Aside0 (slices_Index_byte_byte.l0 kq l0 a1 (l0.length : Int) x8_1 = some r) ∧ Aside0 (kq ≤ k) ∧ Drawn0 w w')
  case atStart => exact ⟨(0), (by first | rfl | (simp; done) | exact congrArg Value.bool (nemp _) | exact congrArg Value.bool (emp _) | (simp [*]; done)), H', ⟨Nat.le_refl _⟩, by repeat (first | exact Drawn0.refl _ | apply Drawn0.step)⟩
  case round =>
    clear H'
    try clear p2
    obtain ⟨x8_1, rfl, HA, HK1, ⟨m1, rfl⟩⟩ := hrel
    cases gk with
    | zero => exact absurd HA.out (by simp [slices_Index_byte_byte.l0])
    | succ k1 =>
      have H := HA.out
      clear HA
      simp only [slices_Index_byte_byte.l0] at H
      by_cases c3 : x8_1 < (l0.length : Int)
      · rw [if_pos c3] at H
        have c3b0 : decide (x8_1 < (l0.length : Int)) = true := decide_eq_true c3
        clear c3
        by_cases c4 : 0 ≤ x8_1
        · rw [if_pos c4] at H
          have c4b0 : decide (0 ≤ x8_1) = true := decide_eq_true c4
          clear c4
          by_cases c5 : x8_1 < (l0.length : Int)
          · rw [if_pos c5] at H
            have c5b0 : decide (x8_1 < (l0.length : Int)) = true := decide_eq_true c5
            clear c5
            by_cases c6 : a1 = (rd l0 x8_1)
            · rw [if_pos c6] at H
              have c6b0 : (a1 == (rd l0 x8_1)) = true := beq_iff_eq.mpr c6
              have c6b1 : (a1 != (rd l0 x8_1)) = false := bne_eq_false_iff_eq.mpr c6
              clear c6
              obtain rfl := Option.some.inj H
              have p149 : 0 ≤ (x8_1 : Int) := of_decide_eq_true (by first | (with_reducible assumption) | assumption)
              have q149 : x8_1 < (l0.length : Int) := of_decide_eq_true (by first | (with_reducible assumption) | assumption)
              obtain ⟨ad149, e149, hx149_0⟩ := Kd.at_int HR0.out x8_1 p149 q149
              cases e149
              replace p149 := eq_true p149
              replace q149 := eq_true q149
              go_wp2
              go_ret
              exact ⟨by first | rfl | (simp; done) | exact congrArg Value.bool (nemp _) | exact congrArg Value.bool (emp _) | (simp [*]; done), by repeat (first | exact Drawn0.refl _ | apply Drawn0.step)⟩
            · rw [if_neg c6] at H
              have c6b0 : (a1 == (rd l0 x8_1)) = false := beq_eq_false_iff_ne.mpr c6
              have c6b1 : (a1 != (rd l0 x8_1)) = true := bne_iff_ne.mpr c6
              have H' := Aside0.mk H
              clear H
              have p149 : 0 ≤ (x8_1 : Int) := of_decide_eq_true (by first | (with_reducible assumption) | assumption)
              have q149 : x8_1 < (l0.length : Int) := of_decide_eq_true (by first | (with_reducible assumption) | assumption)
              obtain ⟨ad149, e149, hx149_0⟩ := Kd.at_int HR0.out x8_1 p149 q149
              cases e149
              replace p149 := eq_true p149
              replace q149 := eq_true q149
              go_wp2
              go_roundg k1
              case measure => have := HK1.out; omega
              case rel => exact ⟨(wrap64 (x8_1 + 1)), (by first | rfl | (simp; done) | exact congrArg Value.bool (nemp _) | exact congrArg Value.bool (emp _) | (simp [*]; done)), H', ⟨by have := HK1.out; omega⟩, by repeat (first | exact Drawn0.refl _ | apply Drawn0.step)⟩
          · rw [if_neg c5] at H
            exact absurd H (by simp)
        · rw [if_neg c4] at H
          exact absurd H (by simp)
      · rw [if_neg c3] at H
        have c3b0 : decide (x8_1 < (l0.length : Int)) = false := decide_eq_false c3
        clear c3
        obtain rfl := Option.some.inj H
        go_wp2
        go_ret
        exact ⟨by first | rfl | (simp; done) | exact congrArg Value.bool (nemp _) | exact congrArg Value.bool (emp _) | (simp [*]; done), by repeat (first | exact Drawn0.refl _ | apply Drawn0.step)⟩

/-! ### escape_table_byte_string_of: function 32 -/
def escape_table_byte_string_of.f (k : Nat) (l0_0 : List Int) (l0_1 : List ByteArray) (a1 : Int) : Option (ByteArray × Bool) := (slices_Index_byte_byte.f k l0_0 a1).bind fun t151 => ((escape_at_string.f l0_1 t151).bind fun bt152 => (some (bt152.1, bt152.2)))
theorem escape_table_byte_string_of.mono : ∀ a0 a1 a2 k, LeO (escape_table_byte_string_of.f k a0 a1 a2) (escape_table_byte_string_of.f (k + 1) a0 a1 a2) := by
  intro a0 a1 a2 k
  unfold escape_table_byte_string_of.f
  repeat' first
      | (with_reducible exact slices_Index_byte_byte.mono _ _ _)
      | (with_reducible exact LeO.refl _)
      | (with_reducible exact LeO.none _)
      | (with_reducible refine LeO.ite ?_ ?_)
      | (with_reducible refine LeO.bind ?_ (fun _ => ?_))
      | exact slices_Index_byte_byte.mono _ _ _
      | exact LeO.none _
      | refine LeO.ite ?_ ?_
      | refine LeO.bind ?_ (fun _ => ?_)
set_option maxHeartbeats 8000000 in
set_option maxRecDepth 100000 in
theorem escape_table_byte_string_of.calls (k : Nat) (A0_0 : Option Addr) (c0_0 : Nat) (l0_0 : List Int) (A0_1 : Option Addr) (c0_1 : Nat) (l0_1 : List ByteArray) (a1 : Int) (r1 : ByteArray) (r2 : Bool) (w : World) (hr0_0 : Kd.C (Kd.int .u8) w A0_0 l0_0.length l0_0) (hc0_0 : l0_0.length ≤ c0_0) (hr0_1 : Kd.C Kd.string w A0_1 l0_1.length l0_1) (hc0_1 : l0_1.length ≤ c0_1) (h : escape_table_byte_string_of.f k l0_0 l0_1 a1 = some (r1, r2)) :
    Calls Tryd.prog 32 #[.agg #[.slice A0_0 l0_0.length c0_0, .slice A0_1 l0_1.length c0_1], .int .u8 a1] w fun e w' => e = .returned (.tuple #[.string r1, .bool r2]) ∧ Below w.heap.size w w' := by
  have hu57 := Tryd.underlying57
  have HR0_0 := Aside0.mk hr0_0
  have HC0_0 := Aside0.mk hc0_0
  clear hr0_0 hc0_0
  have HR0_1 := Aside0.mk hr0_1
  have HC0_1 := Aside0.mk hc0_1
  clear hr0_1 hc0_1
  have HB := Aside0.mk (Below.refl w.heap.size w)
  have H : ((slices_Index_byte_byte.f k l0_0 a1).bind fun t151 => ((escape_at_string.f l0_1 t151).bind fun bt152 => (some (bt152.1, bt152.2)))) = some (r1, r2) := h
  clear h
  replace H := Option.bind_eq_some_iff.mp H
  obtain ⟨t151, A30, H⟩ := H
  replace H : ((escape_at_string.f l0_1 t151).bind fun bt152 => (some (bt152.1, bt152.2))) = some (r1, r2) := H
  have A3 := Aside0.mk A30
  clear A30
  replace H := Option.bind_eq_some_iff.mp H
  obtain ⟨⟨t152, t153⟩, A40, H⟩ := H
  replace H : (some (t152, t153)) = some (r1, r2) := H
  have A4 := Aside0.mk A40
  clear A40
  simp only [Option.some.injEq, Prod.mk.injEq] at H
  obtain ⟨rfl, rfl⟩ := H
  go_enter Tryd.func32, Tryd.ntmps32
  go_wp2_with (first | ((with_reducible refine gate_dst (N := 2) rfl ?_); refine box_event ?hg (N := 2) ?hd (cs := #[.slice A0_0 l0_0.length c0_0, .slice A0_1 l0_1.length c0_1]) (t := 57) ?hr ?_; (case hd => rfl); (case hg => rfl); (case hr => first | (go_simp; done) | (go_simp; rfl)); intro gb150 hg w5 hbox hb; have n0_ := Aside0.mk (below_step (by repeat (first | (with_reducible first | exact HB.out | apply below_alloc | apply pw_below_drewN | apply below_drew1) | exact HB.out)) hb); have n1_ := Aside0.mk (hbox); have n2_ := Aside0.mk ((by rw [hg]; exact (below_size (by repeat (first | (with_reducible first | exact HB.out | apply below_alloc | apply pw_below_drewN | apply below_drew1) | exact HB.out))) : w.heap.size ≤ gb150)); have n3_ := Aside0.mk ((by rw [hg]; exact (below_size (by repeat (first | (with_reducible first | exact HB.out | apply below_alloc | apply pw_below_drewN | apply below_drew1) | exact HB.out))) : w.heap.size ≤ gb150)); clear HB; have HB := n0_; have BK150 := n1_; have GW150 := n2_; have GE150 := n3_; clear n0_ n1_ n2_ n3_; clear hb hbox hg; have hcz6_0 : w5.cell? ⟨gb150, 0, none⟩ = some (.slice A0_0 l0_0.length c0_0) := (blk_cell BK150.out 0).trans rfl; have hcz6_1 : w5.cell? ⟨gb150, 1, none⟩ = some (.slice A0_1 l0_1.length c0_1) := (blk_cell BK150.out 1).trans rfl; have hfz6_0 := blk_frozen BK150.out 0; have hfz6_1 := blk_frozen BK150.out 1) | (go_at_call 50; (with_reducible refine (slices_Index_byte_byte.calls k _ _ l0_0 a1 t151 _ ?side1 ?side2 A3.out).mono ?_); (case side1 => repeat (first | exact (Kd.C_below HR0_0.out HB.out) | (with_reducible refine Kd.C_alloc ?_ _) | (with_reducible refine Kd.C_drewN ?_ _) | (with_reducible refine Kd.C_drew ?_))); (case side2 => exact HC0_0.out); rintro e w' ⟨rfl, ⟨nd, rfl⟩⟩; (try first | exact ⟨rfl, _, World.drewN_drewN _ _ _⟩ | exact ⟨rfl, _, Eq.trans (World.drewN_drewN _ _ _) (congrArg (World.drewN _) (Nat.add_assoc _ _ _))⟩)) | (go_at_call 49; (with_reducible refine (escape_at_string.calls _ _ l0_1 t151 t152 t153 _ ?side1 ?side2 A4.out).mono ?_); (case side1 => repeat (first | exact (Kd.C_below HR0_1.out (by repeat (first | (with_reducible first | exact HB.out | apply below_alloc | apply pw_below_drewN | apply below_drew1 | refine below_set ?_ GE150.out) | exact HB.out))) | (with_reducible refine Kd.C_alloc ?_ _) | (with_reducible refine Kd.C_drewN ?_ _) | (with_reducible refine Kd.C_drew ?_))); (case side2 => exact HC0_1.out); rintro e w' ⟨rfl, ⟨nd, rfl⟩⟩; (try first | exact ⟨rfl, _, World.drewN_drewN _ _ _⟩ | exact ⟨rfl, _, Eq.trans (World.drewN_drewN _ _ _) (congrArg (World.drewN _) (Nat.add_assoc _ _ _))⟩)))
  repeat (go_quiet (first | ((with_reducible refine gate_dst (N := 2) rfl ?_); refine box_event ?hg (N := 2) ?hd (cs := #[.slice A0_0 l0_0.length c0_0, .slice A0_1 l0_1.length c0_1]) (t := 57) ?hr ?_; (case hd => rfl); (case hg => rfl); (case hr => first | (go_simp; done) | (go_simp; rfl)); intro gb150 hg w5 hbox hb; have n0_ := Aside0.mk (below_step (by repeat (first | (with_reducible first | exact HB.out | apply below_alloc | apply pw_below_drewN | apply below_drew1) | exact HB.out)) hb); have n1_ := Aside0.mk (hbox); have n2_ := Aside0.mk ((by rw [hg]; exact (below_size (by repeat (first | (with_reducible first | exact HB.out | apply below_alloc | apply pw_below_drewN | apply below_drew1) | exact HB.out))) : w.heap.size ≤ gb150)); have n3_ := Aside0.mk ((by rw [hg]; exact (below_size (by repeat (first | (with_reducible first | exact HB.out | apply below_alloc | apply pw_below_drewN | apply below_drew1) | exact HB.out))) : w.heap.size ≤ gb150)); clear HB; have HB := n0_; have BK150 := n1_; have GW150 := n2_; have GE150 := n3_; clear n0_ n1_ n2_ n3_; clear hb hbox hg; have hcz6_0 : w5.cell? ⟨gb150, 0, none⟩ = some (.slice A0_0 l0_0.length c0_0) := (blk_cell BK150.out 0).trans rfl; have hcz6_1 : w5.cell? ⟨gb150, 1, none⟩ = some (.slice A0_1 l0_1.length c0_1) := (blk_cell BK150.out 1).trans rfl; have hfz6_0 := blk_frozen BK150.out 0; have hfz6_1 := blk_frozen BK150.out 1) | (go_at_call 50; (with_reducible refine (slices_Index_byte_byte.calls k _ _ l0_0 a1 t151 _ ?side1 ?side2 A3.out).mono ?_); (case side1 => repeat (first | exact (Kd.C_below HR0_0.out HB.out) | (with_reducible refine Kd.C_alloc ?_ _) | (with_reducible refine Kd.C_drewN ?_ _) | (with_reducible refine Kd.C_drew ?_))); (case side2 => exact HC0_0.out); rintro e w' ⟨rfl, ⟨nd, rfl⟩⟩; (try first | exact ⟨rfl, _, World.drewN_drewN _ _ _⟩ | exact ⟨rfl, _, Eq.trans (World.drewN_drewN _ _ _) (congrArg (World.drewN _) (Nat.add_assoc _ _ _))⟩)) | (go_at_call 49; (with_reducible refine (escape_at_string.calls _ _ l0_1 t151 t152 t153 _ ?side1 ?side2 A4.out).mono ?_); (case side1 => repeat (first | exact (Kd.C_below HR0_1.out (by repeat (first | (with_reducible first | exact HB.out | apply below_alloc | apply pw_below_drewN | apply below_drew1 | refine below_set ?_ GE150.out) | exact HB.out))) | (with_reducible refine Kd.C_alloc ?_ _) | (with_reducible refine Kd.C_drewN ?_ _) | (with_reducible refine Kd.C_drew ?_))); (case side2 => exact HC0_1.out); rintro e w' ⟨rfl, ⟨nd, rfl⟩⟩; (try first | exact ⟨rfl, _, World.drewN_drewN _ _ _⟩ | exact ⟨rfl, _, Eq.trans (World.drewN_drewN _ _ _) (congrArg (World.drewN _) (Nat.add_assoc _ _ _))⟩))); try go_wp2_with (first | ((with_reducible refine gate_dst (N := 2) rfl ?_); refine box_event ?hg (N := 2) ?hd (cs := #[.slice A0_0 l0_0.length c0_0, .slice A0_1 l0_1.length c0_1]) (t := 57) ?hr ?_; (case hd => rfl); (case hg => rfl); (case hr => first | (go_simp; done) | (go_simp; rfl)); intro gb150 hg w5 hbox hb; have n0_ := Aside0.mk (below_step (by repeat (first | (with_reducible first | exact HB.out | apply below_alloc | apply pw_below_drewN | apply below_drew1) | exact HB.out)) hb); have n1_ := Aside0.mk (hbox); have n2_ := Aside0.mk ((by rw [hg]; exact (below_size (by repeat (first | (with_reducible first | exact HB.out | apply below_alloc | apply pw_below_drewN | apply below_drew1) | exact HB.out))) : w.heap.size ≤ gb150)); have n3_ := Aside0.mk ((by rw [hg]; exact (below_size (by repeat (first | (with_reducible first | exact HB.out | apply below_alloc | apply pw_below_drewN | apply below_drew1) | exact HB.out))) : w.heap.size ≤ gb150)); clear HB; have HB := n0_; have BK150 := n1_; have GW150 := n2_; have GE150 := n3_; clear n0_ n1_ n2_ n3_; clear hb hbox hg; have hcz6_0 : w5.cell? ⟨gb150, 0, none⟩ = some (.slice A0_0 l0_0.length c0_0) := (blk_cell BK150.out 0).trans rfl; have hcz6_1 : w5.cell? ⟨gb150, 1, none⟩ = some (.slice A0_1 l0_1.length c0_1) := (blk_cell BK150.out 1).trans rfl; have hfz6_0 := blk_frozen BK150.out 0; have hfz6_1 := blk_frozen BK150.out 1) | (go_at_call 50; (with_reducible refine (slices_Index_byte_byte.calls k _ _ l0_0 a1 t151 _ ?side1 ?side2 A3.out).mono ?_); (case side1 => repeat (first | exact (Kd.C_below HR0_0.out HB.out) | (with_reducible refine Kd.C_alloc ?_ _) | (with_reducible refine Kd.C_drewN ?_ _) | (with_reducible refine Kd.C_drew ?_))); (case side2 => exact HC0_0.out); rintro e w' ⟨rfl, ⟨nd, rfl⟩⟩; (try first | exact ⟨rfl, _, World.drewN_drewN _ _ _⟩ | exact ⟨rfl, _, Eq.trans (World.drewN_drewN _ _ _) (congrArg (World.drewN _) (Nat.add_assoc _ _ _))⟩)) | (go_at_call 49; (with_reducible refine (escape_at_string.calls _ _ l0_1 t151 t152 t153 _ ?side1 ?side2 A4.out).mono ?_); (case side1 => repeat (first | exact (Kd.C_below HR0_1.out (by repeat (first | (with_reducible first | exact HB.out | apply below_alloc | apply pw_below_drewN | apply below_drew1 | refine below_set ?_ GE150.out) | exact HB.out))) | (with_reducible refine Kd.C_alloc ?_ _) | (with_reducible refine Kd.C_drewN ?_ _) | (with_reducible refine Kd.C_drew ?_))); (case side2 => exact HC0_1.out); rintro e w' ⟨rfl, ⟨nd, rfl⟩⟩; (try first | exact ⟨rfl, _, World.drewN_drewN _ _ _⟩ | exact ⟨rfl, _, Eq.trans (World.drewN_drewN _ _ _) (congrArg (World.drewN _) (Nat.add_assoc _ _ _))⟩))))
  go_ret2
  exact ⟨by first | rfl | (simp [errW_none, errW_some] <;> rfl) | (simp [*, errW_none, errW_some] <;> rfl), by repeat (first | (with_reducible first | exact HB.out | apply below_alloc | apply pw_below_drewN | apply below_drew1 | refine below_set ?_ GE150.out) | exact HB.out)⟩

/-! ### escape_Text: function 15: by hand (70-escape.tpl) -/
/-- What stands for a sign; none: it stands for itself. -/
def signB (b : UInt8) : Option (List UInt8) :=
  if b = 38 then some [38, 97, 109, 112, 59] else if b = 60 then some [38, 108, 116, 59] else if b = 62 then some [38, 103, 116, 59] else if b = 34 then some [38, 113, 117, 111, 116, 59]
  else if b = 39 then some [38, 97, 112, 111, 115, 59] else if b = 9 then some [38, 35, 57, 59] else if b = 10 then some [38, 35, 49, 48, 59] else if b = 13 then some [38, 35, 49, 51, 59] else none
def escB (b : UInt8) : List UInt8 := (signB b).getD [b]
/-- A text as it may stand in XML. -/
def escL (l : List UInt8) : List UInt8 := l.flatMap escB
theorem escB_len (b : UInt8) : (escB b).length ≤ 6 := by
  unfold escB signB
  repeat' split
  all_goals simp
theorem escL_len : ∀ l : List UInt8, (escL l).length ≤ 6 * l.length
  | [] => by simp [escL]
  | b :: t => by
    have h1 := escB_len b
    have h2 := escL_len t
    unfold escL at h2 ⊢
    rw [List.flatMap_cons, List.length_append, List.length_cons]
    omega
def signK : List Int := [38, 60, 62, 34, 39, 9, 10, 13]
def signV : List ByteArray := [(⟨#[38, 97, 109, 112, 59]⟩ : ByteArray), (⟨#[38, 108, 116, 59]⟩ : ByteArray), (⟨#[38, 103, 116, 59]⟩ : ByteArray), (⟨#[38, 113, 117, 111, 116, 59]⟩ : ByteArray), (⟨#[38, 97, 112, 111, 115, 59]⟩ : ByteArray), (⟨#[38, 35, 57, 59]⟩ : ByteArray), (⟨#[38, 35, 49, 48, 59]⟩ : ByteArray), (⟨#[38, 35, 49, 51, 59]⟩ : ByteArray)]
theorem signs_eq : escape_signs.f = some (signK, signV) := rfl
def signR (b : UInt8) : ByteArray × Bool := match signB b with | some x => (⟨x.toArray⟩, true) | none => (⟨#[]⟩, false)
theorem of_all : ∀ n : Fin 256, escape_table_byte_string_of.f 9 signK signV (n.val : Int) = some (signR (UInt8.ofNat n.val)) := by decide +kernel
theorem of_sign (b : UInt8) : escape_table_byte_string_of.f 9 signK signV (b.toNat : Int) = some (signR b) := by
  have := of_all ⟨b.toNat, UInt8.toNat_lt b⟩
  simpa using this
def escape_Text.f (a0 : ByteArray) : Option ByteArray := if a0.size ≤ 1000000000000 then some ⟨(escL a0.data.toList).toArray⟩ else none
set_option maxHeartbeats 4000000 in
set_option maxRecDepth 100000 in
theorem escape_Text.calls (a0 : ByteArray) (r : ByteArray) (w : World) (h : escape_Text.f a0 = some r) :
    Calls Tryd.prog 15 #[.string a0] w fun e w' => e = .returned (.string r) ∧ Below w.heap.size w w' := by
  unfold escape_Text.f at h
  split at h
  · rename_i hs
    obtain rfl := Option.some.inj h
    have HS := Aside0.mk hs
    clear h hs
    have hu := Tryd.underlying57
    go_enter Tryd.func15, Tryd.ntmps15
    go_wp2_with (go_at_call 31; (with_reducible refine (escape_signs.calls signK signV _ signs_eq).mono ?_))
    rintro e w2 ⟨v0, v1, rfl, ho0, ho1, hb⟩
    obtain ⟨A0, c0, rfl, hl0, hC0⟩ := Kd.R_reads ho0
    obtain ⟨A1, c1, rfl, hl1, hC1⟩ := Kd.R_reads ho1
    go_wp2
    have HB := Aside0.mk (show Below w.heap.size w (w2.alloc (.cells #[.slice A0 signK.length c0, .slice A1 signV.length c1] 57)) from below_alloc (below_a hb) _)
    have hbk : (w2.alloc (.cells #[.slice A0 signK.length c0, .slice A1 signV.length c1] 57)).heap[w.heap.size]? = some (.cells #[.pointer none, .slice none 0 0] 48 (0, 0)) := blk_alloc (blk_below (blk_new w _) hb) _
    have hsz : (w.alloc (.cells #[.pointer none, .slice none 0 0] 48)).heap.size = w.heap.size + 1 := World.size_alloc _ _
    have hsz2 := hb.size
    have HBl := Aside0.mk (show IsBld 48 5 (w2.heap.size + 1) w.heap.size (Lib.byteCells (escL [])) (w2.alloc (.cells #[.slice A0 signK.length c0, .slice A1 signV.length c1] 57)) from .inl ⟨.slice none 0 0, hbk, World.ownsRow_nil _ _ _ _, by simp [Value.ownBlock]⟩)
    obtain ⟨w3, hw3⟩ : ∃ w3, w2.alloc (.cells #[.slice A0 signK.length c0, .slice A1 signV.length c1] 57) = w3 := ⟨_, rfl⟩
    have hs3 : w3.heap.size = w2.heap.size + 1 := by rw [← hw3]; exact World.size_alloc _ _
    have HK := Aside0.mk (show ∀ W, But (w2.heap.size + 1) w.heap.size w3 W → (Kd.C (Kd.int .u8) W A0 signK.length signK ∧ Kd.C Kd.string W A1 signV.length signV) ∧ W.cell? ⟨w2.heap.size, 0, none⟩ = some (.slice A0 signK.length c0) ∧ W.cell? ⟨w2.heap.size, 1, none⟩ = some (.slice A1 signV.length c1) from by
      intro W hW
      have hk : KeepBut w3 W w.heap.size none := ⟨hW.size, fun k hk hne _ => hW.block k (by omega) hne⟩
      have hc : W.heap[w2.heap.size]? = some (.cells #[.slice A0 signK.length c0, .slice A1 signV.length c1] 57 (0, 0)) := by
        rw [hW.block w2.heap.size (by omega) (by omega), ← hw3]; exact blk_new w2 _
      subst hw3
      exact ⟨⟨Kd.C_foot_own (Kd.R_bound (Kd.R_alloc ho0 _)) (fun k hk => by have := hk.2.1; omega) W hk, Kd.C_foot_own (Kd.R_bound (Kd.R_alloc ho1 _)) (fun k hk => by have := hk.2.1; omega) W hk⟩, (blk_cell hc 0).trans rfl, (blk_cell hc 1).trans rfl⟩)
    have HL := Aside0.mk (And.intro hl0 hl1)
    have HS2 := Aside0.mk (show w.heap.size < w2.heap.size by omega)
    rw [hw3] at HB HBl
    have HS3 := Aside0.mk hs3
    rw [hw3]
    clear hw3 hbk hb ho0 ho1 hC0 hC1 hl0 hl1 hsz hsz2 hs3
    have HT := Aside0.mk (But.refl (w2.heap.size + 1) w.heap.size w3)
    go_loopg [11] (a0.size + 1) (fun gk v11 wr => ∃ x : Int, 0 ≤ x ∧ x ≤ (a0.size : Int) ∧ v11 = .int .i64 x ∧ (a0.size : Int) < gk + x ∧ Aside0 (IsBld 48 5 (w2.heap.size + 1) w.heap.size (Lib.byteCells (escL (a0.data.toList.take x.toNat))) wr) ∧ Aside0 (But (w2.heap.size + 1) w.heap.size w3 wr))
    case atStart => exact ⟨0, Int.le_refl _, by omega, rfl, by omega, HBl, HT⟩
    case round =>
      clear HBl HT
      obtain ⟨x, hx0, hx1, rfl, hk, HBl, HT⟩ := hrel
      by_cases hlt : x < (a0.size : Int)
      · obtain ⟨k', rfl⟩ : ∃ k', gk = k' + 1 := ⟨gk - 1, by omega⟩
        obtain ⟨⟨hC0, hC1⟩, hc0, hc1⟩ := HK.out wr HT.out
        have hxn : x.toNat < a0.size := by omega
        have hln : x.toNat < a0.data.toList.length := by rw [Array.length_toList]; exact hxn
        obtain ⟨by1, hby⟩ : ∃ y, a0.data.toList[x.toNat] = y := ⟨_, rfl⟩
        have hbt : bt a0 x = (by1.toNat : Int) := by
          unfold bt
          rw [dif_pos hxn, ← hby]; rfl
        have hx4 := bt_at a0 x
        rw [hbt] at hx4
        have htk : escL (a0.data.toList.take (x.toNat + 1)) = escL (a0.data.toList.take x.toNat) ++ escB by1 := by
          rw [List.take_succ_eq_append_getElem hln, hby]
          unfold escL
          rw [List.flatMap_append]; simp
        have hlen := escL_len (a0.data.toList.take x.toNat)
        have hlt2 := List.length_take_le x.toNat a0.data.toList
        have HTK := Aside0.mk htk
        have HLEN := Aside0.mk (show (Lib.byteCells (escL (a0.data.toList.take x.toNat))).length ≤ 6000000000000 by rw [Lib.byteCells_length]; have := HS.out; omega)
        have hw : wrap64 (x + 1) = x + 1 := by have := HS.out; unfold wrap64; omega
        have hx0b : decide (0 ≤ x) = true := decide_eq_true hx0
        have hltb : decide (x < (a0.size : Int)) = true := decide_eq_true hlt
        have HX := Aside0.mk (And.intro hx0 (And.intro hx1 hlt))
        have HKX := Aside0.mk hk
        have p4 := eq_true hx0
        have q4 := eq_true hlt
        have HC := Aside0.mk (And.intro hC0 hC1)
        have hof := of_sign by1
        have hes : escB by1 = (signR by1).1.data.toList ∨ ((signR by1).2 = false ∧ escB by1 = [by1]) := by
          unfold escB signR
          cases signB by1 with
          | some t => left; simp
          | none => right; exact ⟨rfl, rfl⟩
        have hsl : (signR by1).1.size ≤ 6 := by
          have := escB_len by1
          unfold escB at this
          unfold signR
          cases hq : signB by1 with
          | some t => rw [hq] at this; simpa [ByteArray.size] using this
          | none => simp [ByteArray.size]
        have htf : (signR by1).2 = true → escB by1 = (signR by1).1.data.toList := fun h2 => hes.elim id (fun h3 => by rw [h3.1] at h2; cases h2)
        have hff : (signR by1).2 = false → escB by1 = [by1] := fun h2 => by
          unfold signR at h2
          unfold escB
          cases hq : signB by1 with
          | some t => rw [hq] at h2; cases h2
          | none => rfl
        have hone : a0.extract x.toNat (x + 1).toNat = ⟨#[by1]⟩ := by
          apply ByteArray.ext
          apply Array.ext'
          rw [show (x + 1).toNat = x.toNat + 1 by omega]
          simp [List.extract_eq_take_drop]
          rw [List.take_one, List.head?_drop, List.getElem?_eq_getElem hln, hby]; rfl
        obtain ⟨t1, is, hsr⟩ : ∃ t1 is, signR by1 = (t1, is) := ⟨_, _, rfl⟩
        rw [hsr] at hof hsl htf hff
        have HTF := Aside0.mk htf
        have HFF := Aside0.mk hff
        have HOF := Aside0.mk hof
        have HSL := Aside0.mk hsl
        have HONE := Aside0.mk hone
        clear htk hlen hlt2 hbt hby hln hxn hk hx0 hx1 hlt hC0 hC1 hes hsr htf hff hof hsl hone
        go_wp2_with fail
        refine start_ (n := 10) (S := fun w' => w'.cell? ⟨w2.heap.size, 0, none⟩ = some (.slice A0 signK.length c0) ∧ w'.cell? ⟨w2.heap.size, 1, none⟩ = some (.slice A1 signV.length c1)) (ds := [4]) #[false, false, false, false, false, false, false, false, false, false] (by kernel_rfl) rfl rfl ⟨hc0, hc1⟩ (fun hHeld => ?_)
        refine pure_ (i := 1) (N := some 16) (v := ?_) (a' := ?_) #[false, true, false, false, false, false, false, false, false, false] rfl rfl (by kernel_rfl) (fun _ _ _ h => h) (Or.inl ⟨by rfl, ?_⟩) ?_ ?_
        rotate_left
        · intro w'
          go_simp
          with_reducible rfl
        rotate_left
        · simp only [Act.put, List.setIfInBounds_toArray, List.set_cons_zero, List.set_cons_succ, i64_w, i32_w]
          rfl
        refine pure_ (i := 2) (N := some 17) (v := ?_) (a' := ?_) #[false, true, true, false, false, false, false, false, false, false] rfl rfl (by kernel_rfl) (fun _ _ _ h => h) (Or.inl ⟨by rfl, ?_⟩) ?_ ?_
        rotate_left
        · intro w'
          go_simp
          with_reducible rfl
        rotate_left
        · simp only [Act.put, List.setIfInBounds_toArray, List.set_cons_zero, List.set_cons_succ, i64_w, i32_w]
          rfl
        refine take_ (i := 0) (N := some 15) (v := ?_) (a' := ?_) #[true, true, true, false, false, false, false, false, false, false] rfl rfl (by kernel_rfl) (fun _ _ _ h => h) (Or.inl ⟨by rfl, ?_⟩) hHeld ?_ ?_
        rotate_left
        · rintro w' ⟨s0, s1⟩
          go_simp
          with_reducible rfl
        rotate_left
        · simp only [Act.put, List.setIfInBounds_toArray, List.set_cons_zero, List.set_cons_succ, i64_w, i32_w]
          rfl
        refine take_ (i := 3) (N := some 18) (v := ?_) (a' := ?_) #[true, true, true, true, false, false, false, false, false, false] rfl rfl (by kernel_rfl) (fun _ _ _ h => h) (Or.inl ⟨by rfl, ?_⟩) hHeld ?_ ?_
        rotate_left
        · rintro w' ⟨s0, s1⟩
          go_simp
          with_reducible rfl
        rotate_left
        · simp only [Act.put, List.setIfInBounds_toArray, List.set_cons_zero, List.set_cons_succ, i64_w, i32_w]
          rfl
        refine last_ (i := 4) (N := some 19) #[true, true, true, true, true, false, false, false, false, false] rfl rfl (by kernel_rfl) (by decide) (fun K hK => ?_)
        refine goes_ Tryd.func32 (by kernel_rfl) rfl #[.agg #[.slice A0 signK.length c0, .slice A1 signV.length c1], .int .u8 (by1.toNat : Int)] (by rfl) rfl rfl (by simp only [List.map_toArray, List.map_cons, List.map_nil]; rfl) ?_
        with_reducible refine (escape_table_byte_string_of.calls 9 A0 c0 signK A1 c1 signV (by1.toNat : Int) t1 is _ (Kd.C_drew HC.out.1) HL.out.1 (Kd.C_drew HC.out.2) HL.out.2 HOF.out).mono ?_
        rintro e w5 ⟨rfl, hb5⟩
        refine ⟨_, rfl, ?_⟩
        have H5 := Aside0.mk (show Below wr.heap.size wr w5 from ⟨hb5.os, hb5.tape, hb5.output, hb5.size, hb5.block⟩)
        refine hK.out _ _ ?_
        clear hK K
        refine norm_ (a' := ?_) ?_ ?_
        rotate_left
        · show Act.put _ (some 19) _ = _
          simp only [Act.put, List.setIfInBounds_toArray, List.set_cons_zero, List.set_cons_succ, i64_w, i32_w]
          rfl
        refine pure_ (i := 5) (N := some 14) (v := ?_) (a' := ?_) #[true, true, true, true, true, true, false, false, false, false] rfl rfl (by kernel_rfl) (fun _ _ _ h => h) (Or.inl ⟨by rfl, ?_⟩) ?_ ?_
        rotate_left
        · intro w'
          go_simp
          with_reducible rfl
        rotate_left
        · simp only [Act.put, List.setIfInBounds_toArray, List.set_cons_zero, List.set_cons_succ, i64_w, i32_w]
          rfl
        refine pure_ (i := 6) (N := some 20) (v := ?_) (a' := ?_) #[true, true, true, true, true, true, true, false, false, false] rfl rfl (by kernel_rfl) (fun _ _ _ h => h) (Or.inl ⟨by rfl, ?_⟩) ?_ ?_
        rotate_left
        · intro w'
          go_simp
          with_reducible rfl
        rotate_left
        · simp only [Act.put, List.setIfInBounds_toArray, List.set_cons_zero, List.set_cons_succ, i64_w, i32_w]
          rfl
        refine pure_ (i := 7) (N := some 21) (v := ?_) (a' := ?_) #[true, true, true, true, true, true, true, true, false, false] rfl rfl (by kernel_rfl) (fun _ _ _ h => h) (Or.inl ⟨by rfl, ?_⟩) ?_ ?_
        rotate_left
        · intro w'
          go_simp
          with_reducible rfl
        rotate_left
        · simp only [Act.put, List.setIfInBounds_toArray, List.set_cons_zero, List.set_cons_succ, i64_w, i32_w]
          rfl
        refine pure_ (i := 8) (N := some 6) (v := ?_) (a' := ?_) #[true, true, true, true, true, true, true, true, true, false] rfl rfl (by kernel_rfl) (fun _ _ _ h => h) (Or.inl ⟨by rfl, ?_⟩) ?_ ?_
        rotate_left
        · intro w'
          go_simp
          with_reducible rfl
        rotate_left
        · simp only [Act.put, List.setIfInBounds_toArray, List.set_cons_zero, List.set_cons_succ, i64_w, i32_w]
          rfl
        refine pure_ (i := 9) (N := some 7) (v := ?_) (a' := ?_) #[true, true, true, true, true, true, true, true, true, true] rfl rfl (by kernel_rfl) (fun _ _ _ h => h) (Or.inl ⟨by rfl, ?_⟩) ?_ ?_
        rotate_left
        · intro w'
          go_simp
          with_reducible rfl
        rotate_left
        · simp only [Act.put, List.setIfInBounds_toArray, List.set_cons_zero, List.set_cons_succ, i64_w, i32_w]
          rfl
        refine done_ (by kernel_rfl) ?_
        clear hHeld hb5 hc0 hc1 HC
        have HT5 := Aside0.mk (HT.out.trans (But.of_below H5.out (by have := HT.out.size; have := HS3.out; omega)))
        have HB5 := Aside0.mk (HBl.out.below H5.out)
        have HSZ := Aside0.mk (show w2.heap.size + 1 ≤ w5.heap.size by have := HT5.out.size; have := HS3.out; omega)
        clear HT HBl H5
        cases is with
        | true =>
          go_wp2_with (go_at_call 27; (with_reducible refine (strings_Builder_WriteString.hof _ _ _ t1 _ HB5.out (by have := HLEN.out; have := HSL.out; omega) HSZ.out).mono ?_))
          (first | rintro e w6 rfl hb6 ht6 | rintro e w6 ⟨rfl, hb6, ht6⟩)
          have HB6 := Aside0.mk hb6
          have HT6 := Aside0.mk (HT5.out.trans ht6)
          clear hb6 ht6
          go_wp2
          go_roundg k'
          case measure => have := HX.out; have := HKX.out; omega
          case rel => exact ⟨x + 1, by have := HX.out; omega, by have := HX.out; omega, by first | rfl | (rw [hw]), by have := HKX.out; omega, ⟨by have h6 := HB6.out; rw [show (x + 1).toNat = x.toNat + 1 by have := HX.out; omega, HTK.out, HTF.out (by first | trivial | rfl), Lib.byteCells_append]; exact h6⟩, HT6⟩
        | false =>
          have hsl : ∀ W : World, (Instr.slice 9 (.string a0) (some (.int .i64 x)) (some (.int .i64 (x + 1))) none).run Tryd.prog W = .ok (.string ⟨#[by1]⟩) W := fun W => by
            rw [run_slice_string W 9 a0 .i64 .i64 x (x + 1) Tryd.underlying9 HX.out.1 (by omega) (by have := HX.out.2.2; omega), HONE.out]
          go_wp2_with (go_at_call 27; (with_reducible refine (strings_Builder_WriteString.hof _ _ _ ⟨#[by1]⟩ _ HB5.out (by have := HLEN.out; have : (⟨#[by1]⟩ : ByteArray).size = 1 := rfl; omega) HSZ.out).mono ?_))
          (first | rintro e w6 rfl hb6 ht6 | rintro e w6 ⟨rfl, hb6, ht6⟩)
          have HB6 := Aside0.mk hb6
          have HT6 := Aside0.mk (HT5.out.trans ht6)
          clear hb6 ht6
          go_wp2
          go_roundg k'
          case measure => have := HX.out; have := HKX.out; omega
          case rel => exact ⟨x + 1, by have := HX.out; omega, by have := HX.out; omega, by first | rfl | (rw [hw]), by have := HKX.out; omega, ⟨by have h6 := HB6.out; rw [show (x + 1).toNat = x.toNat + 1 by have := HX.out; omega, HTK.out, HFF.out (by first | trivial | rfl), Lib.byteCells_append]; exact h6⟩, HT6⟩
      · have : x = a0.size := by omega
        subst this
        have hfull : a0.data.toList.take ((a0.size : Int)).toNat = a0.data.toList := by
          rw [Int.toNat_natCast]
          exact List.take_of_length_le (by rw [Array.length_toList]; exact Nat.le_refl _)
        rw [hfull] at HBl
        have HZ := Aside0.mk (show w.heap.size ≤ wr.heap.size by have := HT.out.size; have := HS3.out; have := HS2.out; omega)
        clear hfull
        go_wp2_with (go_at_call 28; (with_reducible refine (Tryd.Builder_String_any _ _ _ _ (HBl.out.builder (by have := HS2.out; omega)) HZ.out).mono ?_))
        (first | rintro e w6 rfl hb6 | rintro e w6 ⟨rfl, hb6⟩)
        have HB6 := Aside0.mk hb6
        clear hb6
        go_wp2
        go_ret
        refine ⟨rfl, ?_⟩
        have hbw := HT.out.below HB.out (Nat.le_refl _) (by have := HS2.out; omega)
        exact below_weaken hbw (Nat.le_refl _) HB6.out
  · cases h

end Go.Proofs.YtjijbncheikagaaDoor.Q
