-- Written by hookprint.py (wip/) of this session: the kit's print with hand-proved functions beside it. Not trusted: Lean checks it.
import Derived.Test.YtjijbncheikagaaDoorQ0
import Derived.Test.YtjijbncheikagaaDoorQ3
import Derived.Test.YtjijbncheikagaaDoorQ4
namespace Go.Proofs.YtjijbncheikagaaDoor.Q
open List (setIfInBounds_toArray set_cons_zero set_cons_succ)
open Go.RowKit Go.Lib Go.Proofs.YtjijbncheikagaaDoorX Go.Proofs.YtjijbncheikagaaDoorW.PrintWords Go.Proofs.YtjijbncheikagaaDoorW.PrintLast Go.Proofs.YtjijbncheikagaaDoorW.PrintMore
set_option linter.unusedVariables false
set_option linter.unusedSimpArgs false
def sgnL (l : List UInt8) : List UInt8 :=
  if l = [97, 109, 112] then [38] else if l = [108, 116] then [60] else if l = [103, 116] then [62] else if l = [113, 117, 111, 116] then [34] else if l = [97, 112, 111, 115] then [39]
  else match l with
    | 35 :: 120 :: h => (numR 16 6 ⟨h.toArray⟩).data.toList
    | 35 :: d => (numR 10 7 ⟨d.toArray⟩).data.toList
    | _ => []
theorem arr_len (s : ByteArray) : s.data.toList.length = s.size := Array.length_toList
theorem numR_len (B : Nat) (m : Int) (s : ByteArray) : (numR B m s).data.toList.length ≤ 4 := by
  have h0 : (⟨#[]⟩ : ByteArray).data.toList.length ≤ 4 := by decide
  unfold numR
  split
  · exact h0
  · split
    · exact h0
    · rename_i v _ _
      have h1 := (encode_size (v : Int)).2
      have h2 := arr_len (Utf8.encode (v : Int))
      omega
theorem sgnL_len (l : List UInt8) : (sgnL l).length ≤ 4 := by
  unfold sgnL
  repeat' split
  all_goals first | exact numR_len _ _ _ | decide
theorem extract_list (s : ByteArray) (i j : Nat) : (s.extract i j).toList = (s.data.toList.take j).drop i := by
  rw [ByteArray.toList_eq]
  simp [List.extract_eq_take_drop, List.take_drop]
  rcases Nat.le_total i j with h | h
  · rw [show i + (j - i) = j from by omega]
  · rw [show j - i = 0 from by omega, Nat.add_zero, List.drop_eq_nil_of_le (by rw [List.length_take]; omega), List.drop_eq_nil_of_le (by rw [List.length_take]; omega)]
theorem extract_of (s : ByteArray) (i : Nat) : s.extract i s.size = ⟨(s.data.toList.drop i).toArray⟩ := by
  have h := extract_list s i s.size
  rw [ByteArray.toList_eq, List.take_of_length_le (by rw [Array.length_toList]; exact Nat.le_refl _)] at h
  rw [← h]
theorem cutPre (s p : ByteArray) : strings_CutPrefix.f s p = some (if p.data.toList <+: s.data.toList then (⟨(s.data.toList.drop p.size).toArray⟩, true) else (s, false)) := by
  have hl : s.data.toList.length = s.size := Array.length_toList
  have hl2 : p.data.toList.length = p.size := Array.length_toList
  unfold strings_CutPrefix.f stringslite_CutPrefix.f stringslite_HasPrefix.f
  by_cases hs : p.size ≤ s.size
  · rw [if_pos (by omega), if_pos (by omega), if_pos (by omega)]
    simp only [Option.bind_some]
    rw [extract_list, ByteArray.toList_eq, List.drop_zero, Int.toNat_natCast]
    by_cases hp : p.data.toList <+: s.data.toList
    · have : s.data.toList.take p.size = p.data.toList := by rw [← hl2]; exact (List.prefix_iff_eq_take.1 hp).symm
      rw [this, if_pos hp]
      simp only [beq_self_eq_true, if_true]
      rw [if_pos (by omega), if_pos (by omega)]
      simp only [Option.bind_some]
      rw [extract_of]
    · have : (s.data.toList.take p.size == p.data.toList) = false := by
        rw [beq_eq_false_iff_ne]
        intro e
        exact hp (by rw [← e]; exact List.take_prefix _ _)
      rw [this, if_neg hp]; rfl
  · rw [if_neg (by omega)]
    have hp : ¬ p.data.toList <+: s.data.toList := fun h => by have := h.length_le; omega
    rw [if_neg hp]; rfl
theorem names_of (s : ByteArray) : ∃ x is, escape_table_string_string_of.f 9 [(⟨#[97, 109, 112]⟩ : ByteArray), (⟨#[108, 116]⟩ : ByteArray), (⟨#[103, 116]⟩ : ByteArray), (⟨#[113, 117, 111, 116]⟩ : ByteArray), (⟨#[97, 112, 111, 115]⟩ : ByteArray)] [(⟨#[38]⟩ : ByteArray), (⟨#[60]⟩ : ByteArray), (⟨#[62]⟩ : ByteArray), (⟨#[34]⟩ : ByteArray), (⟨#[39]⟩ : ByteArray)] s = some (x, is) ∧ (is = true → x = ⟨(sgnL s.data.toList).toArray⟩) ∧ (is = false → ¬ s.data.toList = [97, 109, 112] ∧ ¬ s.data.toList = [108, 116] ∧ ¬ s.data.toList = [103, 116] ∧ ¬ s.data.toList = [113, 117, 111, 116] ∧ ¬ s.data.toList = [97, 112, 111, 115]) := by
  unfold escape_table_string_string_of.f slices_Index_string_string.f
  have r0 : (rdOf ByteArray.empty [(⟨#[97, 109, 112]⟩ : ByteArray), (⟨#[108, 116]⟩ : ByteArray), (⟨#[103, 116]⟩ : ByteArray), (⟨#[113, 117, 111, 116]⟩ : ByteArray), (⟨#[97, 112, 111, 115]⟩ : ByteArray)] 0).toList = [97, 109, 112] := by rw [ByteArray.toList_eq]; rfl
  have r1 : (rdOf ByteArray.empty [(⟨#[97, 109, 112]⟩ : ByteArray), (⟨#[108, 116]⟩ : ByteArray), (⟨#[103, 116]⟩ : ByteArray), (⟨#[113, 117, 111, 116]⟩ : ByteArray), (⟨#[97, 112, 111, 115]⟩ : ByteArray)] 1).toList = [108, 116] := by rw [ByteArray.toList_eq]; rfl
  have r2 : (rdOf ByteArray.empty [(⟨#[97, 109, 112]⟩ : ByteArray), (⟨#[108, 116]⟩ : ByteArray), (⟨#[103, 116]⟩ : ByteArray), (⟨#[113, 117, 111, 116]⟩ : ByteArray), (⟨#[97, 112, 111, 115]⟩ : ByteArray)] 2).toList = [103, 116] := by rw [ByteArray.toList_eq]; rfl
  have r3 : (rdOf ByteArray.empty [(⟨#[97, 109, 112]⟩ : ByteArray), (⟨#[108, 116]⟩ : ByteArray), (⟨#[103, 116]⟩ : ByteArray), (⟨#[113, 117, 111, 116]⟩ : ByteArray), (⟨#[97, 112, 111, 115]⟩ : ByteArray)] 3).toList = [113, 117, 111, 116] := by rw [ByteArray.toList_eq]; rfl
  have r4 : (rdOf ByteArray.empty [(⟨#[97, 109, 112]⟩ : ByteArray), (⟨#[108, 116]⟩ : ByteArray), (⟨#[103, 116]⟩ : ByteArray), (⟨#[113, 117, 111, 116]⟩ : ByteArray), (⟨#[97, 112, 111, 115]⟩ : ByteArray)] 4).toList = [97, 112, 111, 115] := by rw [ByteArray.toList_eq]; rfl
  have w0 : wrap64 (0 + 1) = 1 := by unfold wrap64; omega
  have w1 : wrap64 (1 + 1) = 2 := by unfold wrap64; omega
  have w2 : wrap64 (2 + 1) = 3 := by unfold wrap64; omega
  have w3 : wrap64 (3 + 1) = 4 := by unfold wrap64; omega
  have w4 : wrap64 (4 + 1) = 5 := by unfold wrap64; omega
  generalize hn : ([(⟨#[97, 109, 112]⟩ : ByteArray), (⟨#[108, 116]⟩ : ByteArray), (⟨#[103, 116]⟩ : ByteArray), (⟨#[113, 117, 111, 116]⟩ : ByteArray), (⟨#[97, 112, 111, 115]⟩ : ByteArray)] : List ByteArray) = ns at *
  have hnl : (ns.length : Int) = 5 := by rw [← hn]; rfl
  rw [hnl]
  by_cases h0 : s.data.toList = [97, 109, 112]
  · refine ⟨⟨#[38]⟩, true, ?_, fun _ => by unfold sgnL; rw [if_pos h0], fun h => by cases h⟩
    rw [slices_Index_string_string.l0, if_pos (by decide), if_pos (by decide), hnl, if_pos (by decide), r0, ByteArray.toList_eq s, if_pos h0]; rfl
  by_cases h1 : s.data.toList = [108, 116]
  · refine ⟨⟨#[60]⟩, true, ?_, fun _ => by unfold sgnL; rw [if_neg h0, if_pos h1], fun h => by cases h⟩
    rw [slices_Index_string_string.l0, if_pos (by decide), if_pos (by decide), hnl, if_pos (by decide), r0, ByteArray.toList_eq s, if_neg h0, w0,
      slices_Index_string_string.l0, if_pos (by decide), if_pos (by decide), hnl, if_pos (by decide), r1, ByteArray.toList_eq s, if_pos h1]; rfl
  by_cases h2 : s.data.toList = [103, 116]
  · refine ⟨⟨#[62]⟩, true, ?_, fun _ => by unfold sgnL; rw [if_neg h0, if_neg h1, if_pos h2], fun h => by cases h⟩
    rw [slices_Index_string_string.l0, if_pos (by decide), if_pos (by decide), hnl, if_pos (by decide), r0, ByteArray.toList_eq s, if_neg h0, w0,
      slices_Index_string_string.l0, if_pos (by decide), if_pos (by decide), hnl, if_pos (by decide), r1, ByteArray.toList_eq s, if_neg h1, w1,
      slices_Index_string_string.l0, if_pos (by decide), if_pos (by decide), hnl, if_pos (by decide), r2, ByteArray.toList_eq s, if_pos h2]; rfl
  by_cases h3 : s.data.toList = [113, 117, 111, 116]
  · refine ⟨⟨#[34]⟩, true, ?_, fun _ => by unfold sgnL; rw [if_neg h0, if_neg h1, if_neg h2, if_pos h3], fun h => by cases h⟩
    rw [slices_Index_string_string.l0, if_pos (by decide), if_pos (by decide), hnl, if_pos (by decide), r0, ByteArray.toList_eq s, if_neg h0, w0,
      slices_Index_string_string.l0, if_pos (by decide), if_pos (by decide), hnl, if_pos (by decide), r1, ByteArray.toList_eq s, if_neg h1, w1,
      slices_Index_string_string.l0, if_pos (by decide), if_pos (by decide), hnl, if_pos (by decide), r2, ByteArray.toList_eq s, if_neg h2, w2,
      slices_Index_string_string.l0, if_pos (by decide), if_pos (by decide), hnl, if_pos (by decide), r3, ByteArray.toList_eq s, if_pos h3]; rfl
  by_cases h4 : s.data.toList = [97, 112, 111, 115]
  · refine ⟨⟨#[39]⟩, true, ?_, fun _ => by unfold sgnL; rw [if_neg h0, if_neg h1, if_neg h2, if_neg h3, if_pos h4], fun h => by cases h⟩
    rw [slices_Index_string_string.l0, if_pos (by decide), if_pos (by decide), hnl, if_pos (by decide), r0, ByteArray.toList_eq s, if_neg h0, w0,
      slices_Index_string_string.l0, if_pos (by decide), if_pos (by decide), hnl, if_pos (by decide), r1, ByteArray.toList_eq s, if_neg h1, w1,
      slices_Index_string_string.l0, if_pos (by decide), if_pos (by decide), hnl, if_pos (by decide), r2, ByteArray.toList_eq s, if_neg h2, w2,
      slices_Index_string_string.l0, if_pos (by decide), if_pos (by decide), hnl, if_pos (by decide), r3, ByteArray.toList_eq s, if_neg h3, w3,
      slices_Index_string_string.l0, if_pos (by decide), if_pos (by decide), hnl, if_pos (by decide), r4, ByteArray.toList_eq s, if_pos h4]; rfl
  refine ⟨⟨#[]⟩, false, ?_, (fun h => by cases h), fun _ => ⟨h0, h1, h2, h3, h4⟩⟩
  rw [slices_Index_string_string.l0, if_pos (by decide), if_pos (by decide), hnl, if_pos (by decide), r0, ByteArray.toList_eq s, if_neg h0, w0,
    slices_Index_string_string.l0, if_pos (by decide), if_pos (by decide), hnl, if_pos (by decide), r1, ByteArray.toList_eq s, if_neg h1, w1,
    slices_Index_string_string.l0, if_pos (by decide), if_pos (by decide), hnl, if_pos (by decide), r2, ByteArray.toList_eq s, if_neg h2, w2,
    slices_Index_string_string.l0, if_pos (by decide), if_pos (by decide), hnl, if_pos (by decide), r3, ByteArray.toList_eq s, if_neg h3, w3,
    slices_Index_string_string.l0, if_pos (by decide), if_pos (by decide), hnl, if_pos (by decide), r4, ByteArray.toList_eq s, if_neg h4, w4,
    slices_Index_string_string.l0, if_neg (by decide)]; rfl
theorem sign_eq (s : ByteArray) (hs : s.size ≤ 1000000000000) : escape_sign.f 9 s = some ⟨(sgnL s.data.toList).toArray⟩ := by
  obtain ⟨x, is, h1, h2, h3⟩ := names_of s
  have hnum : ∀ (B : Nat) (m : Int) (l : List UInt8), (B = 10 ∨ B = 16) → l.length ≤ 1000000000000 → escape_number.f ⟨l.toArray⟩ (B : Int) m = some (numR B m ⟨l.toArray⟩) := by
    intro B m l hB hl
    unfold escape_number.f
    rw [if_pos ⟨by simpa [ByteArray.size] using hl, by rcases hB with rfl | rfl <;> simp⟩, Int.toNat_natCast]
  have hl : s.data.toList.length = s.size := Array.length_toList
  unfold escape_sign.f escape_names.f
  simp only [Option.bind_some]
  rw [h1]
  simp only [Option.bind_some]
  cases is with
  | true => rw [if_pos rfl, h2 rfl]
  | false =>
    obtain ⟨g0, g1, g2, g3, g4⟩ := h3 rfl
    have c1 : strings_CutPrefix.f s ⟨#[35, 120]⟩ = some (if [35, 120] <+: s.data.toList then (⟨(s.data.toList.drop 2).toArray⟩, true) else (s, false)) := cutPre s _
    have c2 : strings_CutPrefix.f s ⟨#[35]⟩ = some (if [35] <+: s.data.toList then (⟨(s.data.toList.drop 1).toArray⟩, true) else (s, false)) := cutPre s _
    rw [if_neg (by decide), c1]
    simp only [Option.bind_some]
    have hsg : sgnL s.data.toList = match s.data.toList with | 35 :: 120 :: h => (numR 16 6 ⟨h.toArray⟩).data.toList | 35 :: d => (numR 10 7 ⟨d.toArray⟩).data.toList | _ => [] := by
      unfold sgnL
      rw [if_neg g0, if_neg g1, if_neg g2, if_neg g3, if_neg g4]
    rw [hsg]
    rw [c2]
    clear h1 h2 h3 g0 g1 g2 g3 g4 hsg c1 c2
    generalize s.data.toList = l at hl ⊢
    match l, hl with
    | [], hl => rfl
    | [a], hl =>
      by_cases ha : a = 35
      · subst ha
        rw [if_neg (show ¬ [35, 120] <+: ([35] : List UInt8) by decide)]
        simp only [Bool.false_eq_true, if_false]
        rw [if_pos (show [35] <+: ([35] : List UInt8) by decide)]
        simp only [Option.bind_some, if_true]
        have := hnum 10 7 [] (.inl rfl) (by simp)
        simp only [List.drop_one, List.tail_cons]
        rw [show ((10 : Nat) : Int) = 10 from rfl] at this
        rw [this]; rfl
      · have hp1 : ¬ [35, 120] <+: [a] := fun h => by have := h.length_le; simp at this
        have hp2 : ¬ [35] <+: [a] := fun h => by rw [List.cons_prefix_cons] at h; exact ha h.1.symm
        rw [if_neg hp1]
        simp only [Bool.false_eq_true, if_false]
        rw [if_neg hp2]
        simp only [Option.bind_some, Bool.false_eq_true, if_false]
        split
        · rename_i heq; simp at heq
        · rename_i heq; simp at heq; exact absurd heq.1 ha
        · rfl
    | a :: b :: t, hl =>
      by_cases ha : a = 35
      · subst ha
        by_cases hb : b = 120
        · subst hb
          have hp1 : [35, 120] <+: (35 :: 120 :: t : List UInt8) := ⟨t, rfl⟩
          rw [if_pos hp1]
          simp only [if_true]
          have := hnum 16 6 t (.inr rfl) (by simp at hl; omega)
          rw [show ((16 : Nat) : Int) = 16 from rfl] at this
          rw [show (35 :: 120 :: t : List UInt8).drop 2 = t from rfl, this]; rfl
        · have hp1 : ¬ [35, 120] <+: (35 :: b :: t) := fun h => by rw [List.cons_prefix_cons, List.cons_prefix_cons] at h; exact hb h.2.1.symm
          have hp2 : [35] <+: (35 :: b :: t : List UInt8) := ⟨b :: t, rfl⟩
          rw [if_neg hp1]
          simp only [Bool.false_eq_true, if_false]
          rw [if_pos hp2]
          simp only [Option.bind_some, if_true]
          have := hnum 10 7 (b :: t) (.inl rfl) (by simp at hl ⊢; omega)
          rw [show ((10 : Nat) : Int) = 10 from rfl] at this
          rw [show (35 :: b :: t : List UInt8).drop 1 = b :: t from rfl, this]
          split
          · rename_i heq; simp at heq; exact absurd heq.1 hb
          · rename_i heq; simp at heq; subst heq; rfl
          · rename_i h5 h6; exact absurd rfl (h6 _)
      · have hp1 : ¬ [35, 120] <+: (a :: b :: t) := fun h => by rw [List.cons_prefix_cons] at h; exact ha h.1.symm
        have hp2 : ¬ [35] <+: (a :: b :: t) := fun h => by rw [List.cons_prefix_cons] at h; exact ha h.1.symm
        rw [if_neg hp1]
        simp only [Bool.false_eq_true, if_false]
        rw [if_neg hp2]
        simp only [Option.bind_some, Bool.false_eq_true, if_false]
        split
        · rename_i heq; simp at heq; exact absurd heq.1 ha
        · rename_i heq; simp at heq; exact absurd heq.1 ha
        · rfl
def backG : Nat → List UInt8 → Option (List UInt8)
  | 0, _ => none
  | n + 1, l =>
    if (Lib.cut l [38]).2.2 = false then some (Lib.cut l [38]).1
    else if (Lib.cut (Lib.cut l [38]).2.1 [59]).2.2 = false ∨ sgnL (Lib.cut (Lib.cut l [38]).2.1 [59]).1 = [] then none
    else (backG n (Lib.cut (Lib.cut l [38]).2.1 [59]).2.1).map fun t => (Lib.cut l [38]).1 ++ sgnL (Lib.cut (Lib.cut l [38]).2.1 [59]).1 ++ t
def backR (s : ByteArray) : ByteArray × Int :=
  if validT s = false then (⟨#[]⟩, 3) else if s.data.toList.contains 60 = true then (⟨#[]⟩, 5)
  else match backG (s.size + 1) s.data.toList with | none => (⟨#[]⟩, 5) | some t => (⟨t.toArray⟩, 0)
theorem index_lt (l : List UInt8) (c : UInt8) (h : 0 ≤ Lib.index l [c]) : (Lib.index l [c]).toNat < l.length := by
  induction l with
  | nil => simp [Lib.index] at h
  | cons b t ih =>
    unfold Lib.index at h ⊢
    split
    · simp
    · rename_i hp
      rw [if_neg hp] at h
      split
      · rename_i h1
        rw [if_pos h1] at h
        exact absurd h (by decide)
      · rename_i h1
        rw [if_neg h1] at h
        have hlo : -1 ≤ Lib.index t [c] := Lib.index_ge t [c]
        have h2 : ¬ Lib.index t [c] = -1 := by simpa using h1
        have := ih (by omega)
        rw [List.length_cons]
        omega
theorem cut_lens (l : List UInt8) (c : UInt8) : (Lib.cut l [c]).1.length + (Lib.cut l [c]).2.1.length ≤ l.length ∧ ((Lib.cut l [c]).2.2 = true → (Lib.cut l [c]).1.length + (Lib.cut l [c]).2.1.length + 1 ≤ l.length) := by
  unfold Lib.cut
  split
  · rename_i h
    have hl := index_lt l c h
    constructor
    · simp only [List.length_take, List.length_drop, List.length_cons, List.length_nil]; omega
    · intro _; simp only [List.length_take, List.length_drop, List.length_cons, List.length_nil]; omega
  · exact ⟨by simp, fun h => by cases h⟩
def escape_Back.f (a0 : ByteArray) : Option (ByteArray × Int) := if a0.size ≤ 1000000000 then some (backR a0) else none
set_option maxHeartbeats 4000000 in
set_option maxRecDepth 100000 in
theorem escape_Back.calls (a0 : ByteArray) (r1 : ByteArray) (r2 : Int) (w : World) (h : escape_Back.f a0 = some (r1, r2)) (hT : Tabs w) :
    Calls Tryd.prog 13 #[.string a0] w fun e w' => e = .returned (.tuple #[.string r1, .int .i64 r2]) ∧ Below w.heap.size w w' := by
  unfold escape_Back.f at h
  split at h
  · rename_i hs
    have hr := Option.some.inj h
    have HS := Aside0.mk hs
    have HT := Aside0.mk hT
    have HV := Aside0.mk (fun b (hb : validT a0 = b) => utf_Valid.calls a0 b w (by unfold utf_Valid.f; rw [if_pos (by omega), hb]) hT)
    have HCt := Aside0.mk (fun b (hb : a0.data.toList.contains 60 = b) W (hW : Tabs W) => strings_Contains.calls a0 ⟨#[60]⟩ b W (by unfold strings_Contains.f; rw [if_pos (show (⟨#[60]⟩ : ByteArray).size = 1 from rfl)]; exact congrArg some hb) hW)
    clear h hs hT
    cases hv : validT a0 with
    | false =>
      have HV2 := Aside0.mk (HV.out false hv)
      unfold backR at hr
      rw [if_pos hv] at hr
      cases hr
      clear HV hv HCt
      go_enter Tryd.func13, Tryd.ntmps13
      go_wp2_with (go_at_call 24; (with_reducible refine HV2.out.mono ?_); rintro e w2 ⟨rfl, hb3⟩; have HB := Aside0.mk hb3; clear hb3)
      go_ret2
      exact ⟨rfl, HB.out⟩
    | true =>
      have HV2 := Aside0.mk (HV.out true hv)
      unfold backR at hr
      rw [if_neg (by rw [hv]; decide)] at hr
      clear HV hv
      cases hc : a0.data.toList.contains 60 with
      | true =>
        have HC2 := Aside0.mk (HCt.out true hc)
        rw [if_pos hc] at hr
        cases hr
        clear HCt hc
        go_enter Tryd.func13, Tryd.ntmps13
        go_wp2_with (first | (go_at_call 24; (with_reducible refine HV2.out.mono ?_); rintro e w2 ⟨rfl, hb3⟩; have HB := Aside0.mk hb3; clear hb3) | (go_at_call 25; (with_reducible refine (HC2.out _ (tabs_b HT.out HB.out)).mono ?_); rintro e w3 ⟨rfl, hb3⟩; have HB2 := Aside0.mk (below2 HB.out hb3); clear hb3))
        go_ret2
        exact ⟨rfl, HB2.out⟩
      | false =>
        have HC2 := Aside0.mk (HCt.out false hc)
        rw [if_neg (by rw [hc]; decide)] at hr
        clear HCt hc
        have HR := Aside0.mk hr
        clear hr
        go_enter Tryd.func13, Tryd.ntmps13
        go_wp2_with (first | (go_at_call 24; (with_reducible refine HV2.out.mono ?_); rintro e w2 ⟨rfl, hb3⟩; have HB := Aside0.mk hb3; clear hb3) | (go_at_call 25; (with_reducible refine (HC2.out _ (tabs_b HT.out HB.out)).mono ?_); rintro e w3 ⟨rfl, hb3⟩; have HB2 := Aside0.mk (below2 HB.out hb3); clear hb3))
        have hsz : (w3.alloc (.cells #[.pointer none, .slice none 0 0] 48)).heap.size = w3.heap.size + 1 := World.size_alloc _ _
        have HB3 := Aside0.mk (show Below w.heap.size w (w3.alloc (.cells #[.pointer none, .slice none 0 0] 48)) from below_alloc HB2.out _)
        have HBl := Aside0.mk (show IsBld 48 5 (w3.heap.size + 1) w3.heap.size (Lib.byteCells []) (w3.alloc (.cells #[.pointer none, .slice none 0 0] 48)) from .inl ⟨.slice none 0 0, blk_new _ _, World.ownsRow_nil _ _ _ _, by simp [Value.ownBlock]⟩)
        obtain ⟨w4, hw4⟩ : ∃ w4, w3.alloc (.cells #[.pointer none, .slice none 0 0] 48) = w4 := ⟨_, rfl⟩
        rw [hw4] at hsz HB3 HBl
        have HSZ := Aside0.mk hsz
        have HW := Aside0.mk (show w.heap.size ≤ w3.heap.size from HB2.out.size)
        rw [hw4]
        clear hw4 hsz HB HB2 HC2 HV2
        have HT4 := Aside0.mk (But.refl (w3.heap.size + 1) w3.heap.size w4)
        go_loopg [0] (a0.size + 1) (fun gk v0 wr => ∃ (l acc : List UInt8), v0 = .string ⟨l.toArray⟩ ∧ l.length < gk ∧ acc.length + 4 * l.length ≤ 4 * a0.size ∧ Aside0 ((backG gk l).map (acc ++ ·) = backG (a0.size + 1) a0.data.toList) ∧ Aside0 (IsBld 48 5 (w3.heap.size + 1) w3.heap.size (Lib.byteCells acc) wr) ∧ Aside0 (But (w3.heap.size + 1) w3.heap.size w4 wr))
        case atStart => exact ⟨a0.data.toList, [], rfl, by rw [arr_len]; omega, by rw [arr_len]; simp, ⟨by cases backG (a0.size + 1) a0.data.toList <;> rfl⟩, HBl, HT4⟩
        case round =>
          clear HBl HT4
          obtain ⟨l, acc, rfl, hlk, hla, HP, HBl, HTW⟩ := hrel
          obtain ⟨k', rfl⟩ : ∃ k', gk = k' + 1 := ⟨gk - 1, by omega⟩
          have hsl : (⟨l.toArray⟩ : ByteArray).size = l.length := by simp [ByteArray.size]
          have HCut := Aside0.mk (fun W (hW : Tabs W) (x : List UInt8) (c : UInt8) (hx : x.length ≤ l.length) => strings_Cut.calls ⟨x.toArray⟩ ⟨#[c]⟩ ⟨(Lib.cut x [c]).1.toArray⟩ ⟨(Lib.cut x [c]).2.1.toArray⟩ (Lib.cut x [c]).2.2 W (by unfold strings_Cut.f; rw [if_pos (by have := HS.out; simp only [ByteArray.size, List.size_toArray]; omega)]) hW)
          have HTA := Aside0.mk (fun W (h : But (w3.heap.size + 1) w3.heap.size w4 W) => tabs_b HT.out (h.below HB3.out HW.out (by have := HW.out; omega)))
          have hc1 := cut_lens l 38
          have hp := HP.out
          rw [backG] at hp
          obtain ⟨⟨c1, c2, c3⟩, hcut⟩ : ∃ c, Lib.cut l [38] = c := ⟨_, rfl⟩
          rw [hcut] at hc1 hp
          simp only at hc1 hp
          have HK := Aside0.mk hlk
          have HA := Aside0.mk hla
          have HC1 := Aside0.mk hc1
          have HC := Aside0.mk (HCut.out wr (HTA.out wr HTW.out) l 38 (Nat.le_refl _))
          rw [hcut] at HC
          have HSZ2 := Aside0.mk (show w3.heap.size + 1 ≤ wr.heap.size by have := HTW.out.size; have := HSZ.out; omega)
          cases c3 with
          | false =>
            rw [if_pos rfl] at hp
            have HP2 := Aside0.mk hp
            clear hp hcut hlk hla hc1 hsl
            go_wp2_with (first | (go_at_call 26; (with_reducible refine HC.out.mono ?_); rintro e w5 ⟨rfl, hb5⟩; have H5 := Aside0.mk hb5; have HB5 := Aside0.mk (HBl.out.below hb5); have HT5 := Aside0.mk (HTW.out.trans (But.of_below hb5 HSZ2.out)); clear hb5))
            go_wp2_with (go_at_call 27; (with_reducible refine (strings_Builder_WriteString.hof _ _ _ ⟨c1.toArray⟩ _ HB5.out (by have := HA.out; have := HC1.out.1; have := HS.out; rw [Lib.byteCells_length]; simp only [ByteArray.size, List.size_toArray]; omega) (by have := H5.out.size; have := HSZ2.out; omega)).mono ?_))
            (first | rintro e w6 rfl hb6 ht6 | rintro e w6 ⟨rfl, hb6, ht6⟩)
            have HB6 := Aside0.mk (show IsBld 48 5 (w3.heap.size + 1) w3.heap.size (Lib.byteCells (acc ++ c1)) w6 from by rw [Lib.byteCells_append]; exact hb6)
            have HT6 := Aside0.mk (HT5.out.trans ht6)
            clear hb6 ht6
            go_wp2_with (go_at_call 28; (with_reducible refine (Tryd.Builder_String_any _ _ _ _ (HB6.out.builder (by omega)) (by have := HT6.out.size; have := HSZ.out; omega)).mono ?_))
            (first | rintro e w7 rfl hb7 | rintro e w7 ⟨rfl, hb7⟩)
            have HB7 := Aside0.mk hb7
            clear hb7
            go_wp2
            go_ret2
            have h1 := HR.out
            rw [← HP2.out] at h1
            cases h1
            exact ⟨rfl, below_weaken (HT6.out.below HB3.out HW.out (by have := HW.out; omega)) HW.out HB7.out⟩
          | true =>
            rw [if_neg (by decide)] at hp
            obtain ⟨⟨d1, d2, d3⟩, hcut2⟩ : ∃ c, Lib.cut c2 [59] = c := ⟨_, rfl⟩
            have hd1 := cut_lens c2 59
            rw [hcut2] at hp hd1
            simp only at hp hd1
            have HC2l := Aside0.mk (show c2.length ≤ l.length by have := hc1.1; omega)
            have HCb := Aside0.mk (fun W hW => HCut.out W hW c2 59 HC2l.out)
            rw [hcut2] at HCb
            have HD1 := Aside0.mk hd1
            have HSg := Aside0.mk (fun W (hW : Tabs W) => escape_sign.calls 9 ⟨d1.toArray⟩ ⟨(sgnL d1).toArray⟩ W (sign_eq _ (by have h1 := hd1.1; have h2 := hc1.1; have := HS.out; have : l.length ≤ a0.size := (by omega); show d1.toArray.size ≤ _; rw [List.size_toArray]; omega)) hW)
            have hsg4 := sgnL_len d1
            obtain ⟨x, hx⟩ : ∃ x, sgnL d1 = x := ⟨_, rfl⟩
            rw [hx] at hp HSg hsg4
            have HX4 := Aside0.mk hsg4
            have hE2 : (⟨x.toArray⟩ : ByteArray).toList = x := by rw [ByteArray.toList_eq]
            clear hcut hcut2 hlk hla hc1 hsl hd1 hx hsg4
            by_cases hbad : d3 = false ∨ x = []
            · rw [if_pos hbad] at hp
              have HP2 := Aside0.mk hp
              clear hp
              have hE3 : (⟨x.toArray⟩ : ByteArray).toList.isEmpty = decide (x = []) := by rw [hE2]; cases x <;> rfl
              rcases hbad with rfl | hx0
              · clear hE2 hE3
                go_wp2_with (first | (go_at_call 26; (with_reducible refine HC.out.mono ?_); rintro e w5 ⟨rfl, hb5⟩; have H5 := Aside0.mk hb5; have HB5 := Aside0.mk (HBl.out.below hb5); have HT5 := Aside0.mk (HTW.out.trans (But.of_below hb5 HSZ2.out)); clear hb5))
                go_wp2_with (go_at_call 27; (with_reducible refine (strings_Builder_WriteString.hof _ _ _ ⟨c1.toArray⟩ _ HB5.out (by have := HA.out; have := HC1.out.1; have := HS.out; rw [Lib.byteCells_length]; simp only [ByteArray.size, List.size_toArray]; omega) (by have := H5.out.size; have := HSZ2.out; omega)).mono ?_))
                (first | rintro e w6 rfl hb6 ht6 | rintro e w6 ⟨rfl, hb6, ht6⟩)
                have HT6 := Aside0.mk (HT5.out.trans ht6)
                clear hb6 ht6
                go_wp2_with (first | (go_at_call 26; (with_reducible refine (HCb.out _ (HTA.out _ HT6.out)).mono ?_); rintro e w7 ⟨rfl, hb7⟩; have HT7 := Aside0.mk (HT6.out.trans (But.of_below hb7 (by have := HT6.out.size; have := HSZ.out; omega))); clear hb7) | (go_at_call 29; (with_reducible refine (HSg.out _ (HTA.out _ HT7.out)).mono ?_); rintro e w8 ⟨rfl, hb8⟩; have HT8 := Aside0.mk (HT7.out.trans (But.of_below hb8 (by have := HT7.out.size; have := HSZ.out; omega))); clear hb8))
                go_ret2
                have h1 := HR.out
                rw [← HP2.out] at h1
                cases h1
                exact ⟨rfl, HT8.out.below HB3.out HW.out (by have := HW.out; omega)⟩
              · subst hx0
                cases d3 with
                | false =>
                  clear hE2 hE3
                  go_wp2_with (first | (go_at_call 26; (with_reducible refine HC.out.mono ?_); rintro e w5 ⟨rfl, hb5⟩; have H5 := Aside0.mk hb5; have HB5 := Aside0.mk (HBl.out.below hb5); have HT5 := Aside0.mk (HTW.out.trans (But.of_below hb5 HSZ2.out)); clear hb5))
                  go_wp2_with (go_at_call 27; (with_reducible refine (strings_Builder_WriteString.hof _ _ _ ⟨c1.toArray⟩ _ HB5.out (by have := HA.out; have := HC1.out.1; have := HS.out; rw [Lib.byteCells_length]; simp only [ByteArray.size, List.size_toArray]; omega) (by have := H5.out.size; have := HSZ2.out; omega)).mono ?_))
                  (first | rintro e w6 rfl hb6 ht6 | rintro e w6 ⟨rfl, hb6, ht6⟩)
                  have HT6 := Aside0.mk (HT5.out.trans ht6)
                  clear hb6 ht6
                  go_wp2_with (first | (go_at_call 26; (with_reducible refine (HCb.out _ (HTA.out _ HT6.out)).mono ?_); rintro e w7 ⟨rfl, hb7⟩; have HT7 := Aside0.mk (HT6.out.trans (But.of_below hb7 (by have := HT6.out.size; have := HSZ.out; omega))); clear hb7) | (go_at_call 29; (with_reducible refine (HSg.out _ (HTA.out _ HT7.out)).mono ?_); rintro e w8 ⟨rfl, hb8⟩; have HT8 := Aside0.mk (HT7.out.trans (But.of_below hb8 (by have := HT7.out.size; have := HSZ.out; omega))); clear hb8))
                  go_ret2
                  have h1 := HR.out
                  rw [← HP2.out] at h1
                  cases h1
                  exact ⟨rfl, HT8.out.below HB3.out HW.out (by have := HW.out; omega)⟩
                | true =>
                  clear hE2 hE3
                  go_wp2_with (first | (go_at_call 26; (with_reducible refine HC.out.mono ?_); rintro e w5 ⟨rfl, hb5⟩; have H5 := Aside0.mk hb5; have HB5 := Aside0.mk (HBl.out.below hb5); have HT5 := Aside0.mk (HTW.out.trans (But.of_below hb5 HSZ2.out)); clear hb5))
                  go_wp2_with (go_at_call 27; (with_reducible refine (strings_Builder_WriteString.hof _ _ _ ⟨c1.toArray⟩ _ HB5.out (by have := HA.out; have := HC1.out.1; have := HS.out; rw [Lib.byteCells_length]; simp only [ByteArray.size, List.size_toArray]; omega) (by have := H5.out.size; have := HSZ2.out; omega)).mono ?_))
                  (first | rintro e w6 rfl hb6 ht6 | rintro e w6 ⟨rfl, hb6, ht6⟩)
                  have HT6 := Aside0.mk (HT5.out.trans ht6)
                  clear hb6 ht6
                  go_wp2_with (first | (go_at_call 26; (with_reducible refine (HCb.out _ (HTA.out _ HT6.out)).mono ?_); rintro e w7 ⟨rfl, hb7⟩; have HT7 := Aside0.mk (HT6.out.trans (But.of_below hb7 (by have := HT6.out.size; have := HSZ.out; omega))); clear hb7) | (go_at_call 29; (with_reducible refine (HSg.out _ (HTA.out _ HT7.out)).mono ?_); rintro e w8 ⟨rfl, hb8⟩; have HT8 := Aside0.mk (HT7.out.trans (But.of_below hb8 (by have := HT7.out.size; have := HSZ.out; omega))); clear hb8))
                  go_ret2
                  have h1 := HR.out
                  rw [← HP2.out] at h1
                  cases h1
                  exact ⟨rfl, HT8.out.below HB3.out HW.out (by have := HW.out; omega)⟩
            · rw [if_neg hbad] at hp
              obtain ⟨hd3, hx0⟩ : d3 = true ∧ ¬ x = [] := ⟨by cases d3 <;> simp_all, fun e => hbad (.inr e)⟩
              subst hd3
              have HP2 := Aside0.mk hp
              have hE3 : (⟨x.toArray⟩ : ByteArray).toList.isEmpty = false := by rw [hE2]; simpa using hx0
              have hE4 : ((⟨x.toArray⟩ : ByteArray).toList == []) = false := by rw [hE2]; exact beq_eq_false_iff_ne.2 hx0
              have hE5 : ¬ (⟨x.toArray⟩ : ByteArray).toList = [] := by rw [hE2]; exact hx0
              have hE6 : x.isEmpty = false := by simpa using hx0
              clear hp hbad hE2 hx0
              go_wp2_with (first | (go_at_call 26; (with_reducible refine HC.out.mono ?_); rintro e w5 ⟨rfl, hb5⟩; have H5 := Aside0.mk hb5; have HB5 := Aside0.mk (HBl.out.below hb5); have HT5 := Aside0.mk (HTW.out.trans (But.of_below hb5 HSZ2.out)); clear hb5))
              go_wp2_with (go_at_call 27; (with_reducible refine (strings_Builder_WriteString.hof _ _ _ ⟨c1.toArray⟩ _ HB5.out (by have := HA.out; have := HC1.out.1; have := HS.out; rw [Lib.byteCells_length]; simp only [ByteArray.size, List.size_toArray]; omega) (by have := H5.out.size; have := HSZ2.out; omega)).mono ?_))
              (first | rintro e w6 rfl hb6 ht6 | rintro e w6 ⟨rfl, hb6, ht6⟩)
              have HB6 := Aside0.mk (show IsBld 48 5 (w3.heap.size + 1) w3.heap.size (Lib.byteCells (acc ++ c1)) w6 from by rw [Lib.byteCells_append]; exact hb6)
              have HT6 := Aside0.mk (HT5.out.trans ht6)
              clear hb6 ht6
              go_wp2_with (first | (go_at_call 26; (with_reducible refine (HCb.out _ (HTA.out _ HT6.out)).mono ?_); rintro e w7 ⟨rfl, hb7⟩; have HB7 := Aside0.mk (HB6.out.below hb7); have HT7 := Aside0.mk (HT6.out.trans (But.of_below hb7 (by have := HT6.out.size; have := HSZ.out; omega))); clear hb7) | (go_at_call 29; (with_reducible refine (HSg.out _ (HTA.out _ HT7.out)).mono ?_); rintro e w8 ⟨rfl, hb8⟩; have HB8 := Aside0.mk (HB7.out.below hb8); have HT8 := Aside0.mk (HT7.out.trans (But.of_below hb8 (by have := HT7.out.size; have := HSZ.out; omega))); clear hb8))
              go_wp2_with (go_at_call 27; (with_reducible refine (strings_Builder_WriteString.hof _ _ _ ⟨x.toArray⟩ _ HB8.out (by have := HA.out; have := HC1.out.1; have := HS.out; have := HX4.out; rw [Lib.byteCells_length, List.length_append]; simp only [ByteArray.size, List.size_toArray]; omega) (by have := HT8.out.size; have := HSZ.out; omega)).mono ?_))
              (first | rintro e w9 rfl hb9 ht9 | rintro e w9 ⟨rfl, hb9, ht9⟩)
              have HB9 := Aside0.mk (show IsBld 48 5 (w3.heap.size + 1) w3.heap.size (Lib.byteCells (acc ++ c1 ++ x)) w9 from by rw [Lib.byteCells_append (acc ++ c1)]; exact hb9)
              have HT9 := Aside0.mk (HT8.out.trans ht9)
              clear hb9 ht9
              go_wp2
              go_roundg k'
              case measure => omega
              case rel => exact ⟨d2, acc ++ c1 ++ x, rfl, by have h1 := HK.out; have h2 := HC1.out.1; have h3 := HD1.out.2 (by first | trivial | rfl); have h4 := HC1.out.2 (by first | trivial | rfl); omega, by have h1 := HA.out; have h2 := HX4.out; have h3 := HD1.out.2 (by first | trivial | rfl); have h4 := HC1.out.2 (by first | trivial | rfl); simp only [List.length_append]; omega, ⟨by rw [← HP2.out, Option.map_map]; congr 1; funext t; simp⟩, HB9, HT9⟩
  · cases h
def strings_TrimLeft.f (a0 a1 : ByteArray) : Option ByteArray := if a1.size < 4294967281 ∧ a1.data.toList.all (fun b => decide (b.toNat < 128)) = true then some ⟨(Lib.trimLeftS a0.data.toList a1.data.toList).toArray⟩ else none
set_option maxHeartbeats 4000000 in
set_option maxRecDepth 100000 in
theorem strings_TrimLeft.calls (a0 a1 : ByteArray) (r : ByteArray) (w : World) (h : strings_TrimLeft.f a0 a1 = some r) :
    Calls Tryd.prog 82 #[.string a0, .string a1] w fun e w' => e = .returned (.string r) ∧ Below w.heap.size w w' := by
  unfold strings_TrimLeft.f at h
  split at h
  · rename_i hs
    obtain rfl := Option.some.inj h
    exact Any.strings_TrimLeft_laid Tryd.lays161 (by kernel_rfl) a0 a1 w hs.1 (ascii_of_all hs.2)
  · cases h
def token_run_string.f (s0_0 : ByteArray) (s0_1 : ByteArray) (a1 : ByteArray) : Option (ByteArray × ByteArray × ByteArray) := (strings_TrimLeft.f s0_1 a1).bind fun t150 => (if 0 ≤ (wrap64 ((s0_1.size : Int) - (t150.size : Int))) then (if (wrap64 ((s0_1.size : Int) - (t150.size : Int))) ≤ (s0_1.size : Int) then (some ((s0_1.extract 0 ((wrap64 ((s0_1.size : Int) - (t150.size : Int))) : Int).toNat), s0_0, t150)) else (none)) else (none))
set_option maxHeartbeats 8000000 in
set_option maxRecDepth 100000 in
theorem token_run_string.calls (g : Nat) (s0_0 : ByteArray) (s0_1 : ByteArray) (a1 : ByteArray) (r1 : ByteArray) (r2 : ByteArray) (r3 : ByteArray) (w0 w : World) (hI : IsS65 w0 w g s0_0 s0_1) (hB : Below w0.heap.size w0 w) (h : token_run_string.f s0_0 s0_1 a1 = some (r1, r2, r3)) :
    Calls Tryd.prog 67 #[.pointer (some ⟨g, 0, none⟩), .string a1] w fun e w' => e = .returned (.string r1) ∧ IsS65 w0 w' g r2 r3 ∧ Below w0.heap.size w0 w' ∧ KeepBut w w' g none := by
  have HI0 := Aside0.mk hI
  have HK := Aside0.mk (KeepBut.refl w g none)
  have HL := Aside0.mk hB.size
  clear hI
  have HW0 := Aside0.mk hB.size
  have HB := Aside0.mk hB
  clear hB
  have H : ((strings_TrimLeft.f s0_1 a1).bind fun t150 => (if 0 ≤ (wrap64 ((s0_1.size : Int) - (t150.size : Int))) then (if (wrap64 ((s0_1.size : Int) - (t150.size : Int))) ≤ (s0_1.size : Int) then (some ((s0_1.extract 0 ((wrap64 ((s0_1.size : Int) - (t150.size : Int))) : Int).toNat), s0_0, t150)) else (none)) else (none))) = some (r1, r2, r3) := h
  clear h
  replace H := Option.bind_eq_some_iff.mp H
  obtain ⟨t150, A30, H⟩ := H
  replace H : (if 0 ≤ (wrap64 ((s0_1.size : Int) - (t150.size : Int))) then (if (wrap64 ((s0_1.size : Int) - (t150.size : Int))) ≤ (s0_1.size : Int) then (some ((s0_1.extract 0 ((wrap64 ((s0_1.size : Int) - (t150.size : Int))) : Int).toNat), s0_0, t150)) else (none)) else (none)) = some (r1, r2, r3) := H
  have A3 := Aside0.mk A30
  clear A30
  obtain ⟨ji4, hji4⟩ : ∃ j_ : Int, (wrap64 ((s0_1.size : Int) - (t150.size : Int))) = j_ := ⟨_, rfl⟩
  replace H : (if 0 ≤ (ji4) then (if (ji4) ≤ (s0_1.size : Int) then (some ((s0_1.extract 0 ((ji4) : Int).toNat), s0_0, t150)) else (none)) else (none)) = some (r1, r2, r3) := by first | (rw [hji4] at H; exact H) | (simp only [hji4] at H ⊢; exact H)
  (try rw [hji4] at A3)
  have hji4w : (IntKind.i64.wrap ((s0_1.size : Int) - (t150.size : Int))) = ji4 := (i64_w _).trans hji4
  by_cases c5 : 0 ≤ (ji4)
  · rw [if_pos c5] at H
    have c5b0 := eq_true c5
    have c5b1 : decide (0 ≤ (ji4)) = true := decide_eq_true c5
    clear c5
    by_cases c6 : (ji4) ≤ (s0_1.size : Int)
    · rw [if_pos c6] at H
      have c6b0 := eq_true c6
      have c6b1 : decide ((ji4) ≤ (s0_1.size : Int)) = true := decide_eq_true c6
      clear c6
      obtain ⟨y151, hy151⟩ : ∃ y_ : ByteArray, y_ = (s0_1.extract 0 ((ji4) : Int).toNat) := ⟨_, rfl⟩
      replace H : (some (y151, s0_0, t150)) = some (r1, r2, r3) := by first | (rw [hy151]; with_reducible exact H) | (have H2_ := (Option.bind_some _ _).symm.trans H; rw [hy151]; with_reducible exact H2_) | (have H2_ := (Option.bind_some _ _).symm.trans H; with_reducible exact H2_) | with_reducible exact H | (rw [hy151]; exact H) | exact H
      have Ny151 := Aside0.mk hy151
      clear hy151
      have ey151 : (s0_1.extract 0 ((ji4) : Int).toNat) = y151 := Ny151.out.symm
      simp only [Option.some.injEq, Prod.mk.injEq] at H
      obtain ⟨rfl, rfl, rfl⟩ := H
      obtain ⟨HGz7, hgz7⟩ := HI0.out
      have hcz7_0 := cellS65_0 HGz7
      have hcz7_1 := cellS65_1 HGz7
      have hfz7_0 := blk_frozen HGz7 0
      have hfz7_1 := blk_frozen HGz7 1
      clear HGz7 hgz7
      go_enter Tryd.func67, Tryd.ntmps67
      go_wp2_with (first | (go_at_call 82; (with_reducible refine (strings_TrimLeft.calls s0_1 a1 t150 _ A3.out).mono ?_); rintro e w8 ⟨rfl, hb⟩; have n0_ := Aside0.mk (IsS65.below (by repeat (first | (with_reducible first | exact HI0.out | apply IsS65.alloc | apply IsS65.drewN | apply IsS65.drew | apply IsS65.set_0 | apply IsS65.set_1) | exact HI0.out)) hb); have n1_ := Aside0.mk (KeepBut.trans (by repeat (first | (with_reducible first | exact HK.out | apply KeepBut.set_ | apply keep_drewN | apply keep_drew | apply keep_alloc) | exact HK.out)) (KeepBut.of_below hb g none) (.inl rfl)); have n2_ := Aside0.mk (below_step (by repeat (first | (with_reducible first | exact HB.out | apply below_alloc | apply pw_below_drewN | apply below_drew1 | refine below_set ?_ (IsS65.ge HI0.out)) | exact HB.out)) hb); clear HI0; clear HK; clear HB; have HI0 := n0_; have HK := n1_; have HB := n2_; clear n0_ n1_ n2_; (try clear hb); (try clear hb2); (try clear hk); (try clear hi); obtain ⟨HGz9, hgz9⟩ := HI0.out; have hcz9_0 := cellS65_0 HGz9; have hcz9_1 := cellS65_1 HGz9; have hfz9_0 := blk_frozen HGz9 0; have hfz9_1 := blk_frozen HGz9 1; clear HGz9 hgz9))
      repeat (go_quiet (first | (go_at_call 82; (with_reducible refine (strings_TrimLeft.calls s0_1 a1 t150 _ A3.out).mono ?_); rintro e w8 ⟨rfl, hb⟩; have n0_ := Aside0.mk (IsS65.below (by repeat (first | (with_reducible first | exact HI0.out | apply IsS65.alloc | apply IsS65.drewN | apply IsS65.drew | apply IsS65.set_0 | apply IsS65.set_1) | exact HI0.out)) hb); have n1_ := Aside0.mk (KeepBut.trans (by repeat (first | (with_reducible first | exact HK.out | apply KeepBut.set_ | apply keep_drewN | apply keep_drew | apply keep_alloc) | exact HK.out)) (KeepBut.of_below hb g none) (.inl rfl)); have n2_ := Aside0.mk (below_step (by repeat (first | (with_reducible first | exact HB.out | apply below_alloc | apply pw_below_drewN | apply below_drew1 | refine below_set ?_ (IsS65.ge HI0.out)) | exact HB.out)) hb); clear HI0; clear HK; clear HB; have HI0 := n0_; have HK := n1_; have HB := n2_; clear n0_ n1_ n2_; (try clear hb); (try clear hb2); (try clear hk); (try clear hi); obtain ⟨HGz9, hgz9⟩ := HI0.out; have hcz9_0 := cellS65_0 HGz9; have hcz9_1 := cellS65_1 HGz9; have hfz9_0 := blk_frozen HGz9 0; have hfz9_1 := blk_frozen HGz9 1; clear HGz9 hgz9)); try go_wp2_with (first | (go_at_call 82; (with_reducible refine (strings_TrimLeft.calls s0_1 a1 t150 _ A3.out).mono ?_); rintro e w8 ⟨rfl, hb⟩; have n0_ := Aside0.mk (IsS65.below (by repeat (first | (with_reducible first | exact HI0.out | apply IsS65.alloc | apply IsS65.drewN | apply IsS65.drew | apply IsS65.set_0 | apply IsS65.set_1) | exact HI0.out)) hb); have n1_ := Aside0.mk (KeepBut.trans (by repeat (first | (with_reducible first | exact HK.out | apply KeepBut.set_ | apply keep_drewN | apply keep_drew | apply keep_alloc) | exact HK.out)) (KeepBut.of_below hb g none) (.inl rfl)); have n2_ := Aside0.mk (below_step (by repeat (first | (with_reducible first | exact HB.out | apply below_alloc | apply pw_below_drewN | apply below_drew1 | refine below_set ?_ (IsS65.ge HI0.out)) | exact HB.out)) hb); clear HI0; clear HK; clear HB; have HI0 := n0_; have HK := n1_; have HB := n2_; clear n0_ n1_ n2_; (try clear hb); (try clear hb2); (try clear hk); (try clear hi); obtain ⟨HGz9, hgz9⟩ := HI0.out; have hcz9_0 := cellS65_0 HGz9; have hcz9_1 := cellS65_1 HGz9; have hfz9_0 := blk_frozen HGz9 0; have hfz9_1 := blk_frozen HGz9 1; clear HGz9 hgz9)))
      go_ret
      exact ⟨by first | rfl | (simp only [nemp]; rfl) | (simp [errW_none, errW_some] <;> rfl) | (simp only [← hji4]; first | rfl | (simp [errW_none, errW_some] <;> rfl)) | (simp [*, errW_none, errW_some] <;> rfl), by repeat (first | (with_reducible first | exact HI0.out | apply IsS65.alloc | apply IsS65.drewN | apply IsS65.drew | apply IsS65.set_0 | apply IsS65.set_1) | exact HI0.out), by repeat (first | (with_reducible first | exact HB.out | apply below_alloc | apply pw_below_drewN | apply below_drew1 | refine below_set ?_ (IsS65.ge HI0.out)) | exact HB.out), by repeat (first | (with_reducible first | exact HK.out | apply KeepBut.set_ | apply keep_drewN | apply keep_drew | apply keep_alloc) | exact HK.out)⟩
    · rw [if_neg c6] at H
      exact absurd H (by simp)
  · rw [if_neg c5] at H
    exact absurd H (by simp)
def token_name.f (s0_0 : ByteArray) (s0_1 : ByteArray) : Option (ByteArray × ByteArray × ByteArray) := if s0_1.toList = ([] : List UInt8) then (some ((⟨#[]⟩ : ByteArray), s0_0, s0_1)) else (if 0 ≤ 1 then (if 1 ≤ (s0_1.size : Int) then ((strings_Contains.f (⟨#[65, 66, 67, 68, 69, 70, 71, 72, 73, 74, 75, 76, 77, 78, 79, 80, 81, 82, 83, 84, 85, 86, 87, 88, 89, 90, 97, 98, 99, 100, 101, 102, 103, 104, 105, 106, 107, 108, 109, 110, 111, 112, 113, 114, 115, 116, 117, 118, 119, 120, 121, 122, 95]⟩ : ByteArray) (s0_1.extract 0 1)).bind fun t153 => (if t153 = true then ((token_run_string.f s0_0 s0_1 (⟨#[65, 66, 67, 68, 69, 70, 71, 72, 73, 74, 75, 76, 77, 78, 79, 80, 81, 82, 83, 84, 85, 86, 87, 88, 89, 90, 97, 98, 99, 100, 101, 102, 103, 104, 105, 106, 107, 108, 109, 110, 111, 112, 113, 114, 115, 116, 117, 118, 119, 120, 121, 122, 95, 48, 49, 50, 51, 52, 53, 54, 55, 56, 57, 45, 46]⟩ : ByteArray)).bind fun bt154 => (some (bt154.1, bt154.2.1, bt154.2.2))) else (some ((⟨#[]⟩ : ByteArray), s0_0, s0_1)))) else (none)) else (none))
set_option maxHeartbeats 8000000 in
set_option maxRecDepth 100000 in
theorem token_name.calls (g : Nat) (s0_0 : ByteArray) (s0_1 : ByteArray) (r1 : ByteArray) (r2 : ByteArray) (r3 : ByteArray) (w0 w : World) (hI : IsS65 w0 w g s0_0 s0_1) (hB : Below w0.heap.size w0 w) (h : token_name.f s0_0 s0_1 = some (r1, r2, r3)) (hT : Tabs w0) :
    Calls Tryd.prog 66 #[.pointer (some ⟨g, 0, none⟩)] w fun e w' => e = .returned (.string r1) ∧ IsS65 w0 w' g r2 r3 ∧ Below w0.heap.size w0 w' ∧ KeepBut w w' g none := by
  have HT := Aside0.mk hT
  clear hT
  have HI0 := Aside0.mk hI
  have HK := Aside0.mk (KeepBut.refl w g none)
  have HL := Aside0.mk hB.size
  clear hI
  have HW0 := Aside0.mk hB.size
  have HB := Aside0.mk hB
  clear hB
  have H : (if s0_1.toList = ([] : List UInt8) then (some ((⟨#[]⟩ : ByteArray), s0_0, s0_1)) else (if 0 ≤ 1 then (if 1 ≤ (s0_1.size : Int) then ((strings_Contains.f (⟨#[65, 66, 67, 68, 69, 70, 71, 72, 73, 74, 75, 76, 77, 78, 79, 80, 81, 82, 83, 84, 85, 86, 87, 88, 89, 90, 97, 98, 99, 100, 101, 102, 103, 104, 105, 106, 107, 108, 109, 110, 111, 112, 113, 114, 115, 116, 117, 118, 119, 120, 121, 122, 95]⟩ : ByteArray) (s0_1.extract 0 1)).bind fun t153 => (if t153 = true then ((token_run_string.f s0_0 s0_1 (⟨#[65, 66, 67, 68, 69, 70, 71, 72, 73, 74, 75, 76, 77, 78, 79, 80, 81, 82, 83, 84, 85, 86, 87, 88, 89, 90, 97, 98, 99, 100, 101, 102, 103, 104, 105, 106, 107, 108, 109, 110, 111, 112, 113, 114, 115, 116, 117, 118, 119, 120, 121, 122, 95, 48, 49, 50, 51, 52, 53, 54, 55, 56, 57, 45, 46]⟩ : ByteArray)).bind fun bt154 => (some (bt154.1, bt154.2.1, bt154.2.2))) else (some ((⟨#[]⟩ : ByteArray), s0_0, s0_1)))) else (none)) else (none))) = some (r1, r2, r3) := h
  clear h
  by_cases c2 : s0_1.toList = ([] : List UInt8)
  · rw [if_pos c2] at H
    have c2b0 : (s0_1.toList == ([] : List UInt8)) = true := beq_iff_eq.mpr c2
    have c2b1 : (s0_1.toList != ([] : List UInt8)) = false := bne_eq_false_iff_eq.mpr c2
    clear c2
    simp only [Option.some.injEq, Prod.mk.injEq] at H
    obtain ⟨rfl, rfl, rfl⟩ := H
    obtain ⟨HGz3, hgz3⟩ := HI0.out
    have hcz3_0 := cellS65_0 HGz3
    have hcz3_1 := cellS65_1 HGz3
    have hfz3_0 := blk_frozen HGz3 0
    have hfz3_1 := blk_frozen HGz3 1
    clear HGz3 hgz3
    go_enter Tryd.func66, Tryd.ntmps66
    go_wp2
    go_ret
    exact ⟨by first | rfl | (simp only [nemp]; rfl) | (simp [errW_none, errW_some] <;> rfl) | (simp [*, errW_none, errW_some] <;> rfl), by repeat (first | (with_reducible first | exact HI0.out | apply IsS65.alloc | apply IsS65.drewN | apply IsS65.drew | apply IsS65.set_0 | apply IsS65.set_1) | exact HI0.out), by repeat (first | (with_reducible first | exact HB.out | apply below_alloc | apply pw_below_drewN | apply below_drew1 | refine below_set ?_ (IsS65.ge HI0.out)) | exact HB.out), by repeat (first | (with_reducible first | exact HK.out | apply KeepBut.set_ | apply keep_drewN | apply keep_drew | apply keep_alloc) | exact HK.out)⟩
  · rw [if_neg c2] at H
    have c2b0 : (s0_1.toList == ([] : List UInt8)) = false := beq_eq_false_iff_ne.mpr c2
    have c2b1 : (s0_1.toList != ([] : List UInt8)) = true := bne_iff_ne.mpr c2
    by_cases c4 : 0 ≤ 1
    · rw [if_pos c4] at H
      have c4b0 := eq_true c4
      have c4b1 : decide (0 ≤ 1) = true := decide_eq_true c4
      clear c4
      by_cases c5 : 1 ≤ (s0_1.size : Int)
      · rw [if_pos c5] at H
        have c5b0 := eq_true c5
        have c5b1 : decide (1 ≤ (s0_1.size : Int)) = true := decide_eq_true c5
        clear c5
        obtain ⟨y152, hy152⟩ : ∃ y_ : ByteArray, y_ = (s0_1.extract 0 1) := ⟨_, rfl⟩
        replace H : ((strings_Contains.f (⟨#[65, 66, 67, 68, 69, 70, 71, 72, 73, 74, 75, 76, 77, 78, 79, 80, 81, 82, 83, 84, 85, 86, 87, 88, 89, 90, 97, 98, 99, 100, 101, 102, 103, 104, 105, 106, 107, 108, 109, 110, 111, 112, 113, 114, 115, 116, 117, 118, 119, 120, 121, 122, 95]⟩ : ByteArray) y152).bind fun t153 => (if t153 = true then ((token_run_string.f s0_0 s0_1 (⟨#[65, 66, 67, 68, 69, 70, 71, 72, 73, 74, 75, 76, 77, 78, 79, 80, 81, 82, 83, 84, 85, 86, 87, 88, 89, 90, 97, 98, 99, 100, 101, 102, 103, 104, 105, 106, 107, 108, 109, 110, 111, 112, 113, 114, 115, 116, 117, 118, 119, 120, 121, 122, 95, 48, 49, 50, 51, 52, 53, 54, 55, 56, 57, 45, 46]⟩ : ByteArray)).bind fun bt154 => (some (bt154.1, bt154.2.1, bt154.2.2))) else (some ((⟨#[]⟩ : ByteArray), s0_0, s0_1)))) = some (r1, r2, r3) := by first | (rw [hy152]; with_reducible exact H) | (have H2_ := (Option.bind_some _ _).symm.trans H; rw [hy152]; with_reducible exact H2_) | (have H2_ := (Option.bind_some _ _).symm.trans H; with_reducible exact H2_) | with_reducible exact H | (rw [hy152]; exact H) | exact H
        have Ny152 := Aside0.mk hy152
        clear hy152
        have ey152 : (s0_1.extract 0 1) = y152 := Ny152.out.symm
        replace H := Option.bind_eq_some_iff.mp H
        obtain ⟨t153, A60, H⟩ := H
        replace H : (if t153 = true then ((token_run_string.f s0_0 s0_1 (⟨#[65, 66, 67, 68, 69, 70, 71, 72, 73, 74, 75, 76, 77, 78, 79, 80, 81, 82, 83, 84, 85, 86, 87, 88, 89, 90, 97, 98, 99, 100, 101, 102, 103, 104, 105, 106, 107, 108, 109, 110, 111, 112, 113, 114, 115, 116, 117, 118, 119, 120, 121, 122, 95, 48, 49, 50, 51, 52, 53, 54, 55, 56, 57, 45, 46]⟩ : ByteArray)).bind fun bt154 => (some (bt154.1, bt154.2.1, bt154.2.2))) else (some ((⟨#[]⟩ : ByteArray), s0_0, s0_1))) = some (r1, r2, r3) := H
        have A6 := Aside0.mk A60
        clear A60
        by_cases c7 : t153 = true
        · subst c7
          have H1 : ((token_run_string.f s0_0 s0_1 (⟨#[65, 66, 67, 68, 69, 70, 71, 72, 73, 74, 75, 76, 77, 78, 79, 80, 81, 82, 83, 84, 85, 86, 87, 88, 89, 90, 97, 98, 99, 100, 101, 102, 103, 104, 105, 106, 107, 108, 109, 110, 111, 112, 113, 114, 115, 116, 117, 118, 119, 120, 121, 122, 95, 48, 49, 50, 51, 52, 53, 54, 55, 56, 57, 45, 46]⟩ : ByteArray)).bind fun bt154 => (some (bt154.1, bt154.2.1, bt154.2.2))) = some (r1, r2, r3) := by rw [if_pos rfl] at H; exact H
          clear H
          have H := H1
          clear H1
          replace H := Option.bind_eq_some_iff.mp H
          obtain ⟨⟨t154, t155, t156⟩, A80, H⟩ := H
          replace H : (some (t154, t155, t156)) = some (r1, r2, r3) := H
          have A8 := Aside0.mk A80
          clear A80
          simp only [Option.some.injEq, Prod.mk.injEq] at H
          obtain ⟨rfl, rfl, rfl⟩ := H
          obtain ⟨HGz9, hgz9⟩ := HI0.out
          have hcz9_0 := cellS65_0 HGz9
          have hcz9_1 := cellS65_1 HGz9
          have hfz9_0 := blk_frozen HGz9 0
          have hfz9_1 := blk_frozen HGz9 1
          clear HGz9 hgz9
          go_enter Tryd.func66, Tryd.ntmps66
          go_wp2_with (first | (go_at_call 25; (with_reducible refine (strings_Contains.calls (⟨#[65, 66, 67, 68, 69, 70, 71, 72, 73, 74, 75, 76, 77, 78, 79, 80, 81, 82, 83, 84, 85, 86, 87, 88, 89, 90, 97, 98, 99, 100, 101, 102, 103, 104, 105, 106, 107, 108, 109, 110, 111, 112, 113, 114, 115, 116, 117, 118, 119, 120, 121, 122, 95]⟩ : ByteArray) y152 true _ A6.out (tabs_b HT.out (by repeat (first | (with_reducible first | exact HB.out | apply below_alloc | apply pw_below_drewN | apply below_drew1 | refine below_set ?_ (IsS65.ge HI0.out)) | exact HB.out)))).mono ?_); rintro e w10 ⟨rfl, hb⟩; have n0_ := Aside0.mk (IsS65.below (by repeat (first | (with_reducible first | exact HI0.out | apply IsS65.alloc | apply IsS65.drewN | apply IsS65.drew | apply IsS65.set_0 | apply IsS65.set_1) | exact HI0.out)) hb); have n1_ := Aside0.mk (KeepBut.trans (by repeat (first | (with_reducible first | exact HK.out | apply KeepBut.set_ | apply keep_drewN | apply keep_drew | apply keep_alloc) | exact HK.out)) (KeepBut.of_below hb g none) (.inl rfl)); have n2_ := Aside0.mk (below_step (by repeat (first | (with_reducible first | exact HB.out | apply below_alloc | apply pw_below_drewN | apply below_drew1 | refine below_set ?_ (IsS65.ge HI0.out)) | exact HB.out)) hb); clear HI0; clear HK; clear HB; have HI0 := n0_; have HK := n1_; have HB := n2_; clear n0_ n1_ n2_; (try clear hb); (try clear hb2); (try clear hk); (try clear hi)) | ((with_reducible refine gate_callee (f := 67) rfl ?_); refine goesL_ (some 18) rfl rfl Tryd.func67 (by kernel_rfl) rfl #[.pointer (some ⟨g, 0, none⟩), .string (⟨#[65, 66, 67, 68, 69, 70, 71, 72, 73, 74, 75, 76, 77, 78, 79, 80, 81, 82, 83, 84, 85, 86, 87, 88, 89, 90, 97, 98, 99, 100, 101, 102, 103, 104, 105, 106, 107, 108, 109, 110, 111, 112, 113, 114, 115, 116, 117, 118, 119, 120, 121, 122, 95, 48, 49, 50, 51, 52, 53, 54, 55, 56, 57, 45, 46]⟩ : ByteArray)] rfl (by (try simp only [List.map_toArray, List.map_cons, List.map_nil]); first | done | rfl | (simp only [List.length_drop, List.length_take]; rfl)) ?_; (with_reducible refine (token_run_string.calls g s0_0 s0_1 (⟨#[65, 66, 67, 68, 69, 70, 71, 72, 73, 74, 75, 76, 77, 78, 79, 80, 81, 82, 83, 84, 85, 86, 87, 88, 89, 90, 97, 98, 99, 100, 101, 102, 103, 104, 105, 106, 107, 108, 109, 110, 111, 112, 113, 114, 115, 116, 117, 118, 119, 120, 121, 122, 95, 48, 49, 50, 51, 52, 53, 54, 55, 56, 57, 45, 46]⟩ : ByteArray) t154 t155 t156 w0 _ ?side1 ?side2 A8.out).mono ?_); (case side1 => repeat (first | (with_reducible first | exact HI0.out | apply IsS65.alloc | apply IsS65.drewN | apply IsS65.drew | apply IsS65.set_0 | apply IsS65.set_1) | exact HI0.out)); (case side2 => repeat (first | (with_reducible first | exact HB.out | apply below_alloc | apply pw_below_drewN | apply below_drew1 | refine below_set ?_ (IsS65.ge HI0.out)) | exact HB.out)); rintro e w11 ⟨rfl, hi, hb, hk⟩; refine ⟨_, rfl, ?_⟩; have n0_ := Aside0.mk (KeepBut.trans (by repeat (first | (with_reducible first | exact HK.out | apply KeepBut.set_ | apply keep_drewN | apply keep_drew | apply keep_alloc) | exact HK.out)) hk (.inl rfl)); have n1_ := Aside0.mk (hb); have n2_ := Aside0.mk (hi); clear HK; clear HB; clear HI0; have HK := n0_; have HB := n1_; have HI0 := n2_; clear n0_ n1_ n2_; (try clear hb); (try clear hb2); (try clear hk); (try clear hi)))
          go_ret
          exact ⟨by first | rfl | (simp only [nemp]; rfl) | (simp [errW_none, errW_some] <;> rfl) | (simp [*, errW_none, errW_some] <;> rfl), by repeat (first | (with_reducible first | exact HI0.out | apply IsS65.alloc | apply IsS65.drewN | apply IsS65.drew | apply IsS65.set_0 | apply IsS65.set_1) | exact HI0.out), by repeat (first | (with_reducible first | exact HB.out | apply below_alloc | apply pw_below_drewN | apply below_drew1 | refine below_set ?_ (IsS65.ge HI0.out)) | exact HB.out), by repeat (first | (with_reducible first | exact HK.out | apply KeepBut.set_ | apply keep_drewN | apply keep_drew | apply keep_alloc) | exact HK.out)⟩
        · replace c7 := Bool.eq_false_iff.mpr c7
          subst c7
          have H1 : (some ((⟨#[]⟩ : ByteArray), s0_0, s0_1)) = some (r1, r2, r3) := by rw [if_neg (show ¬ (false = true) by decide)] at H; exact H
          clear H
          have H := H1
          clear H1
          simp only [Option.some.injEq, Prod.mk.injEq] at H
          obtain ⟨rfl, rfl, rfl⟩ := H
          obtain ⟨HGz12, hgz12⟩ := HI0.out
          have hcz12_0 := cellS65_0 HGz12
          have hcz12_1 := cellS65_1 HGz12
          have hfz12_0 := blk_frozen HGz12 0
          have hfz12_1 := blk_frozen HGz12 1
          clear HGz12 hgz12
          go_enter Tryd.func66, Tryd.ntmps66
          go_wp2_with (first | (go_at_call 25; (with_reducible refine (strings_Contains.calls (⟨#[65, 66, 67, 68, 69, 70, 71, 72, 73, 74, 75, 76, 77, 78, 79, 80, 81, 82, 83, 84, 85, 86, 87, 88, 89, 90, 97, 98, 99, 100, 101, 102, 103, 104, 105, 106, 107, 108, 109, 110, 111, 112, 113, 114, 115, 116, 117, 118, 119, 120, 121, 122, 95]⟩ : ByteArray) y152 false _ A6.out (tabs_b HT.out (by repeat (first | (with_reducible first | exact HB.out | apply below_alloc | apply pw_below_drewN | apply below_drew1 | refine below_set ?_ (IsS65.ge HI0.out)) | exact HB.out)))).mono ?_); rintro e w13 ⟨rfl, hb⟩; have n0_ := Aside0.mk (IsS65.below (by repeat (first | (with_reducible first | exact HI0.out | apply IsS65.alloc | apply IsS65.drewN | apply IsS65.drew | apply IsS65.set_0 | apply IsS65.set_1) | exact HI0.out)) hb); have n1_ := Aside0.mk (KeepBut.trans (by repeat (first | (with_reducible first | exact HK.out | apply KeepBut.set_ | apply keep_drewN | apply keep_drew | apply keep_alloc) | exact HK.out)) (KeepBut.of_below hb g none) (.inl rfl)); have n2_ := Aside0.mk (below_step (by repeat (first | (with_reducible first | exact HB.out | apply below_alloc | apply pw_below_drewN | apply below_drew1 | refine below_set ?_ (IsS65.ge HI0.out)) | exact HB.out)) hb); clear HI0; clear HK; clear HB; have HI0 := n0_; have HK := n1_; have HB := n2_; clear n0_ n1_ n2_; (try clear hb); (try clear hb2); (try clear hk); (try clear hi)))
          go_ret
          exact ⟨by first | rfl | (simp only [nemp]; rfl) | (simp [errW_none, errW_some] <;> rfl) | (simp [*, errW_none, errW_some] <;> rfl), by repeat (first | (with_reducible first | exact HI0.out | apply IsS65.alloc | apply IsS65.drewN | apply IsS65.drew | apply IsS65.set_0 | apply IsS65.set_1) | exact HI0.out), by repeat (first | (with_reducible first | exact HB.out | apply below_alloc | apply pw_below_drewN | apply below_drew1 | refine below_set ?_ (IsS65.ge HI0.out)) | exact HB.out), by repeat (first | (with_reducible first | exact HK.out | apply KeepBut.set_ | apply keep_drewN | apply keep_drew | apply keep_alloc) | exact HK.out)⟩
      · rw [if_neg c5] at H
        exact absurd H (by simp)
    · rw [if_neg c4] at H
      exact absurd H (by simp)
end Go.Proofs.YtjijbncheikagaaDoor.Q
