-- Written by hookprint.py (wip/) of this session: the kit's print with hand-proved functions beside it. Not trusted: Lean checks it.
import Derived.Test.YtjijbncheikagaaGreatDoorQ0
import Derived.Test.YtjijbncheikagaaGreatDoorQ2
import Derived.Test.YtjijbncheikagaaGreatDoorQ3
import Derived.Test.YtjijbncheikagaaGreatDoorQ4
namespace Go.Proofs.YtjijbncheikagaaGreatDoor.Q
open List (setIfInBounds_toArray set_cons_zero set_cons_succ)
open Go.RowKit Go.Lib Go.Proofs.YtjijbncheikagaaGreatDoorX Go.Proofs.YtjijbncheikagaaGreatDoorW.PrintWords Go.Proofs.YtjijbncheikagaaGreatDoorW.PrintLast Go.Proofs.YtjijbncheikagaaGreatDoorW.PrintMore
set_option linter.unusedVariables false
set_option linter.unusedSimpArgs false
def sgnL (l : List UInt8) : List UInt8 :=
  if l = [97, 109, 112] then [38] else if l = [108, 116] then [60] else if l = [103, 116] then [62] else if l = [113, 117, 111, 116] then [34] else if l = [97, 112, 111, 115] then [39]
  else match l with
    | 35 :: 120 :: h => (numR 16 6 ⟨h.toArray⟩).data.toList
    | 35 :: d => (numR 10 7 ⟨d.toArray⟩).data.toList
    | _ => []
theorem arr_len (s : ByteArray) : s.data.toList.length = s.size := Array.length_toList
theorem numR_len (B : Nat) (m : Int) (s : ByteArray) : (numR B m s).data.toList.length ≤ 4 := by
  have h0 : (⟨#[]⟩ : ByteArray).data.toList.length ≤ 4 := by decide
  unfold numR
  split
  · exact h0
  · split
    · exact h0
    · rename_i v _ _
      have h1 := (encode_size (v : Int)).2
      have h2 := arr_len (Utf8.encode (v : Int))
      omega
theorem sgnL_len (l : List UInt8) : (sgnL l).length ≤ 4 := by
  unfold sgnL
  repeat' split
  all_goals first | exact numR_len _ _ _ | decide
theorem extract_list (s : ByteArray) (i j : Nat) : (s.extract i j).toList = (s.data.toList.take j).drop i := by
  rw [ByteArray.toList_eq]
  simp [List.extract_eq_take_drop, List.take_drop]
  rcases Nat.le_total i j with h | h
  · rw [show i + (j - i) = j from by omega]
  · rw [show j - i = 0 from by omega, Nat.add_zero, List.drop_eq_nil_of_le (by rw [List.length_take]; omega), List.drop_eq_nil_of_le (by rw [List.length_take]; omega)]
theorem extract_of (s : ByteArray) (i : Nat) : s.extract i s.size = ⟨(s.data.toList.drop i).toArray⟩ := by
  have h := extract_list s i s.size
  rw [ByteArray.toList_eq, List.take_of_length_le (by rw [Array.length_toList]; exact Nat.le_refl _)] at h
  rw [← h]
theorem cutPre (s p : ByteArray) : strings_CutPrefix.f s p = some (if p.data.toList <+: s.data.toList then (⟨(s.data.toList.drop p.size).toArray⟩, true) else (s, false)) := by
  have hl : s.data.toList.length = s.size := Array.length_toList
  have hl2 : p.data.toList.length = p.size := Array.length_toList
  unfold strings_CutPrefix.f stringslite_CutPrefix.f stringslite_HasPrefix.f
  by_cases hs : p.size ≤ s.size
  · rw [if_pos (by omega), if_pos (by omega), if_pos (by omega)]
    simp only [Option.bind_some]
    rw [extract_list, ByteArray.toList_eq, List.drop_zero, Int.toNat_natCast]
    by_cases hp : p.data.toList <+: s.data.toList
    · have : s.data.toList.take p.size = p.data.toList := by rw [← hl2]; exact (List.prefix_iff_eq_take.1 hp).symm
      rw [this, if_pos hp]
      simp only [beq_self_eq_true, if_true]
      rw [if_pos (by omega), if_pos (by omega)]
      simp only [Option.bind_some]
      rw [extract_of]
    · have : (s.data.toList.take p.size == p.data.toList) = false := by
        rw [beq_eq_false_iff_ne]
        intro e
        exact hp (by rw [← e]; exact List.take_prefix _ _)
      rw [this, if_neg hp]; rfl
  · rw [if_neg (by omega)]
    have hp : ¬ p.data.toList <+: s.data.toList := fun h => by have := h.length_le; omega
    rw [if_neg hp]; rfl
theorem names_of (s : ByteArray) : ∃ x is, escape_table_string_string_of.f 9 [(⟨#[97, 109, 112]⟩ : ByteArray), (⟨#[108, 116]⟩ : ByteArray), (⟨#[103, 116]⟩ : ByteArray), (⟨#[113, 117, 111, 116]⟩ : ByteArray), (⟨#[97, 112, 111, 115]⟩ : ByteArray)] [(⟨#[38]⟩ : ByteArray), (⟨#[60]⟩ : ByteArray), (⟨#[62]⟩ : ByteArray), (⟨#[34]⟩ : ByteArray), (⟨#[39]⟩ : ByteArray)] s = some (x, is) ∧ (is = true → x = ⟨(sgnL s.data.toList).toArray⟩) ∧ (is = false → ¬ s.data.toList = [97, 109, 112] ∧ ¬ s.data.toList = [108, 116] ∧ ¬ s.data.toList = [103, 116] ∧ ¬ s.data.toList = [113, 117, 111, 116] ∧ ¬ s.data.toList = [97, 112, 111, 115]) := by
  unfold escape_table_string_string_of.f slices_Index_string_string.f
  have r0 : (rdOf ByteArray.empty [(⟨#[97, 109, 112]⟩ : ByteArray), (⟨#[108, 116]⟩ : ByteArray), (⟨#[103, 116]⟩ : ByteArray), (⟨#[113, 117, 111, 116]⟩ : ByteArray), (⟨#[97, 112, 111, 115]⟩ : ByteArray)] 0).toList = [97, 109, 112] := by rw [ByteArray.toList_eq]; rfl
  have r1 : (rdOf ByteArray.empty [(⟨#[97, 109, 112]⟩ : ByteArray), (⟨#[108, 116]⟩ : ByteArray), (⟨#[103, 116]⟩ : ByteArray), (⟨#[113, 117, 111, 116]⟩ : ByteArray), (⟨#[97, 112, 111, 115]⟩ : ByteArray)] 1).toList = [108, 116] := by rw [ByteArray.toList_eq]; rfl
  have r2 : (rdOf ByteArray.empty [(⟨#[97, 109, 112]⟩ : ByteArray), (⟨#[108, 116]⟩ : ByteArray), (⟨#[103, 116]⟩ : ByteArray), (⟨#[113, 117, 111, 116]⟩ : ByteArray), (⟨#[97, 112, 111, 115]⟩ : ByteArray)] 2).toList = [103, 116] := by rw [ByteArray.toList_eq]; rfl
  have r3 : (rdOf ByteArray.empty [(⟨#[97, 109, 112]⟩ : ByteArray), (⟨#[108, 116]⟩ : ByteArray), (⟨#[103, 116]⟩ : ByteArray), (⟨#[113, 117, 111, 116]⟩ : ByteArray), (⟨#[97, 112, 111, 115]⟩ : ByteArray)] 3).toList = [113, 117, 111, 116] := by rw [ByteArray.toList_eq]; rfl
  have r4 : (rdOf ByteArray.empty [(⟨#[97, 109, 112]⟩ : ByteArray), (⟨#[108, 116]⟩ : ByteArray), (⟨#[103, 116]⟩ : ByteArray), (⟨#[113, 117, 111, 116]⟩ : ByteArray), (⟨#[97, 112, 111, 115]⟩ : ByteArray)] 4).toList = [97, 112, 111, 115] := by rw [ByteArray.toList_eq]; rfl
  have w0 : wrap64 (0 + 1) = 1 := by unfold wrap64; omega
  have w1 : wrap64 (1 + 1) = 2 := by unfold wrap64; omega
  have w2 : wrap64 (2 + 1) = 3 := by unfold wrap64; omega
  have w3 : wrap64 (3 + 1) = 4 := by unfold wrap64; omega
  have w4 : wrap64 (4 + 1) = 5 := by unfold wrap64; omega
  generalize hn : ([(⟨#[97, 109, 112]⟩ : ByteArray), (⟨#[108, 116]⟩ : ByteArray), (⟨#[103, 116]⟩ : ByteArray), (⟨#[113, 117, 111, 116]⟩ : ByteArray), (⟨#[97, 112, 111, 115]⟩ : ByteArray)] : List ByteArray) = ns at *
  have hnl : (ns.length : Int) = 5 := by rw [← hn]; rfl
  rw [hnl]
  by_cases h0 : s.data.toList = [97, 109, 112]
  · refine ⟨⟨#[38]⟩, true, ?_, fun _ => by unfold sgnL; rw [if_pos h0], fun h => by cases h⟩
    rw [slices_Index_string_string.l0, if_pos (by decide), if_pos (by decide), hnl, if_pos (by decide), r0, ByteArray.toList_eq s, if_pos h0]; rfl
  by_cases h1 : s.data.toList = [108, 116]
  · refine ⟨⟨#[60]⟩, true, ?_, fun _ => by unfold sgnL; rw [if_neg h0, if_pos h1], fun h => by cases h⟩
    rw [slices_Index_string_string.l0, if_pos (by decide), if_pos (by decide), hnl, if_pos (by decide), r0, ByteArray.toList_eq s, if_neg h0, w0,
      slices_Index_string_string.l0, if_pos (by decide), if_pos (by decide), hnl, if_pos (by decide), r1, ByteArray.toList_eq s, if_pos h1]; rfl
  by_cases h2 : s.data.toList = [103, 116]
  · refine ⟨⟨#[62]⟩, true, ?_, fun _ => by unfold sgnL; rw [if_neg h0, if_neg h1, if_pos h2], fun h => by cases h⟩
    rw [slices_Index_string_string.l0, if_pos (by decide), if_pos (by decide), hnl, if_pos (by decide), r0, ByteArray.toList_eq s, if_neg h0, w0,
      slices_Index_string_string.l0, if_pos (by decide), if_pos (by decide), hnl, if_pos (by decide), r1, ByteArray.toList_eq s, if_neg h1, w1,
      slices_Index_string_string.l0, if_pos (by decide), if_pos (by decide), hnl, if_pos (by decide), r2, ByteArray.toList_eq s, if_pos h2]; rfl
  by_cases h3 : s.data.toList = [113, 117, 111, 116]
  · refine ⟨⟨#[34]⟩, true, ?_, fun _ => by unfold sgnL; rw [if_neg h0, if_neg h1, if_neg h2, if_pos h3], fun h => by cases h⟩
    rw [slices_Index_string_string.l0, if_pos (by decide), if_pos (by decide), hnl, if_pos (by decide), r0, ByteArray.toList_eq s, if_neg h0, w0,
      slices_Index_string_string.l0, if_pos (by decide), if_pos (by decide), hnl, if_pos (by decide), r1, ByteArray.toList_eq s, if_neg h1, w1,
      slices_Index_string_string.l0, if_pos (by decide), if_pos (by decide), hnl, if_pos (by decide), r2, ByteArray.toList_eq s, if_neg h2, w2,
      slices_Index_string_string.l0, if_pos (by decide), if_pos (by decide), hnl, if_pos (by decide), r3, ByteArray.toList_eq s, if_pos h3]; rfl
  by_cases h4 : s.data.toList = [97, 112, 111, 115]
  · refine ⟨⟨#[39]⟩, true, ?_, fun _ => by unfold sgnL; rw [if_neg h0, if_neg h1, if_neg h2, if_neg h3, if_pos h4], fun h => by cases h⟩
    rw [slices_Index_string_string.l0, if_pos (by decide), if_pos (by decide), hnl, if_pos (by decide), r0, ByteArray.toList_eq s, if_neg h0, w0,
      slices_Index_string_string.l0, if_pos (by decide), if_pos (by decide), hnl, if_pos (by decide), r1, ByteArray.toList_eq s, if_neg h1, w1,
      slices_Index_string_string.l0, if_pos (by decide), if_pos (by decide), hnl, if_pos (by decide), r2, ByteArray.toList_eq s, if_neg h2, w2,
      slices_Index_string_string.l0, if_pos (by decide), if_pos (by decide), hnl, if_pos (by decide), r3, ByteArray.toList_eq s, if_neg h3, w3,
      slices_Index_string_string.l0, if_pos (by decide), if_pos (by decide), hnl, if_pos (by decide), r4, ByteArray.toList_eq s, if_pos h4]; rfl
  refine ⟨⟨#[]⟩, false, ?_, (fun h => by cases h), fun _ => ⟨h0, h1, h2, h3, h4⟩⟩
  rw [slices_Index_string_string.l0, if_pos (by decide), if_pos (by decide), hnl, if_pos (by decide), r0, ByteArray.toList_eq s, if_neg h0, w0,
    slices_Index_string_string.l0, if_pos (by decide), if_pos (by decide), hnl, if_pos (by decide), r1, ByteArray.toList_eq s, if_neg h1, w1,
    slices_Index_string_string.l0, if_pos (by decide), if_pos (by decide), hnl, if_pos (by decide), r2, ByteArray.toList_eq s, if_neg h2, w2,
    slices_Index_string_string.l0, if_pos (by decide), if_pos (by decide), hnl, if_pos (by decide), r3, ByteArray.toList_eq s, if_neg h3, w3,
    slices_Index_string_string.l0, if_pos (by decide), if_pos (by decide), hnl, if_pos (by decide), r4, ByteArray.toList_eq s, if_neg h4, w4,
    slices_Index_string_string.l0, if_neg (by decide)]; rfl
theorem sign_eq (s : ByteArray) (hs : s.size ≤ 1000000000000) : escape_sign.f 9 s = some ⟨(sgnL s.data.toList).toArray⟩ := by
  obtain ⟨x, is, h1, h2, h3⟩ := names_of s
  have hnum : ∀ (B : Nat) (m : Int) (l : List UInt8), (B = 10 ∨ B = 16) → l.length ≤ 1000000000000 → escape_number.f ⟨l.toArray⟩ (B : Int) m = some (numR B m ⟨l.toArray⟩) := by
    intro B m l hB hl
    unfold escape_number.f
    rw [if_pos ⟨by simpa [ByteArray.size] using hl, by rcases hB with rfl | rfl <;> simp⟩, Int.toNat_natCast]
  have hl : s.data.toList.length = s.size := Array.length_toList
  unfold escape_sign.f escape_names.f
  simp only [Option.bind_some]
  rw [h1]
  simp only [Option.bind_some]
  cases is with
  | true => rw [if_pos rfl, h2 rfl]
  | false =>
    obtain ⟨g0, g1, g2, g3, g4⟩ := h3 rfl
    have c1 : strings_CutPrefix.f s ⟨#[35, 120]⟩ = some (if [35, 120] <+: s.data.toList then (⟨(s.data.toList.drop 2).toArray⟩, true) else (s, false)) := cutPre s _
    have c2 : strings_CutPrefix.f s ⟨#[35]⟩ = some (if [35] <+: s.data.toList then (⟨(s.data.toList.drop 1).toArray⟩, true) else (s, false)) := cutPre s _
    rw [if_neg (by decide), c1]
    simp only [Option.bind_some]
    have hsg : sgnL s.data.toList = match s.data.toList with | 35 :: 120 :: h => (numR 16 6 ⟨h.toArray⟩).data.toList | 35 :: d => (numR 10 7 ⟨d.toArray⟩).data.toList | _ => [] := by
      unfold sgnL
      rw [if_neg g0, if_neg g1, if_neg g2, if_neg g3, if_neg g4]
    rw [hsg]
    rw [c2]
    clear h1 h2 h3 g0 g1 g2 g3 g4 hsg c1 c2
    generalize s.data.toList = l at hl ⊢
    match l, hl with
    | [], hl => rfl
    | [a], hl =>
      by_cases ha : a = 35
      · subst ha
        rw [if_neg (show ¬ [35, 120] <+: ([35] : List UInt8) by decide)]
        simp only [Bool.false_eq_true, if_false]
        rw [if_pos (show [35] <+: ([35] : List UInt8) by decide)]
        simp only [Option.bind_some, if_true]
        have := hnum 10 7 [] (.inl rfl) (by simp)
        simp only [List.drop_one, List.tail_cons]
        rw [show ((10 : Nat) : Int) = 10 from rfl] at this
        rw [this]; rfl
      · have hp1 : ¬ [35, 120] <+: [a] := fun h => by have := h.length_le; simp at this
        have hp2 : ¬ [35] <+: [a] := fun h => by rw [List.cons_prefix_cons] at h; exact ha h.1.symm
        rw [if_neg hp1]
        simp only [Bool.false_eq_true, if_false]
        rw [if_neg hp2]
        simp only [Option.bind_some, Bool.false_eq_true, if_false]
        split
        · rename_i heq; simp at heq
        · rename_i heq; simp at heq; exact absurd heq.1 ha
        · rfl
    | a :: b :: t, hl =>
      by_cases ha : a = 35
      · subst ha
        by_cases hb : b = 120
        · subst hb
          have hp1 : [35, 120] <+: (35 :: 120 :: t : List UInt8) := ⟨t, rfl⟩
          rw [if_pos hp1]
          simp only [if_true]
          have := hnum 16 6 t (.inr rfl) (by simp at hl; omega)
          rw [show ((16 : Nat) : Int) = 16 from rfl] at this
          rw [show (35 :: 120 :: t : List UInt8).drop 2 = t from rfl, this]; rfl
        · have hp1 : ¬ [35, 120] <+: (35 :: b :: t) := fun h => by rw [List.cons_prefix_cons, List.cons_prefix_cons] at h; exact hb h.2.1.symm
          have hp2 : [35] <+: (35 :: b :: t : List UInt8) := ⟨b :: t, rfl⟩
          rw [if_neg hp1]
          simp only [Bool.false_eq_true, if_false]
          rw [if_pos hp2]
          simp only [Option.bind_some, if_true]
          have := hnum 10 7 (b :: t) (.inl rfl) (by simp at hl ⊢; omega)
          rw [show ((10 : Nat) : Int) = 10 from rfl] at this
          rw [show (35 :: b :: t : List UInt8).drop 1 = b :: t from rfl, this]
          split
          · rename_i heq; simp at heq; exact absurd heq.1 hb
          · rename_i heq; simp at heq; subst heq; rfl
          · rename_i h5 h6; exact absurd rfl (h6 _)
      · have hp1 : ¬ [35, 120] <+: (a :: b :: t) := fun h => by rw [List.cons_prefix_cons] at h; exact ha h.1.symm
        have hp2 : ¬ [35] <+: (a :: b :: t) := fun h => by rw [List.cons_prefix_cons] at h; exact ha h.1.symm
        rw [if_neg hp1]
        simp only [Bool.false_eq_true, if_false]
        rw [if_neg hp2]
        simp only [Option.bind_some, Bool.false_eq_true, if_false]
        split
        · rename_i heq; simp at heq; exact absurd heq.1 ha
        · rename_i heq; simp at heq; exact absurd heq.1 ha
        · rfl
def backG : Nat → List UInt8 → Option (List UInt8)
  | 0, _ => none
  | n + 1, l =>
    if (Lib.cut l [38]).2.2 = false then some (Lib.cut l [38]).1
    else if (Lib.cut (Lib.cut l [38]).2.1 [59]).2.2 = false ∨ sgnL (Lib.cut (Lib.cut l [38]).2.1 [59]).1 = [] then none
    else (backG n (Lib.cut (Lib.cut l [38]).2.1 [59]).2.1).map fun t => (Lib.cut l [38]).1 ++ sgnL (Lib.cut (Lib.cut l [38]).2.1 [59]).1 ++ t
def backR (s : ByteArray) : ByteArray × Int :=
  if validT s = false then (⟨#[]⟩, 3) else if s.data.toList.contains 60 = true then (⟨#[]⟩, 5)
  else match backG (s.size + 1) s.data.toList with | none => (⟨#[]⟩, 5) | some t => (⟨t.toArray⟩, 0)
theorem index_lt (l : List UInt8) (c : UInt8) (h : 0 ≤ Lib.index l [c]) : (Lib.index l [c]).toNat < l.length := by
  induction l with
  | nil => simp [Lib.index] at h
  | cons b t ih =>
    unfold Lib.index at h ⊢
    split
    · simp
    · rename_i hp
      rw [if_neg hp] at h
      split
      · rename_i h1
        rw [if_pos h1] at h
        exact absurd h (by decide)
      · rename_i h1
        rw [if_neg h1] at h
        have hlo : -1 ≤ Lib.index t [c] := Lib.index_ge t [c]
        have h2 : ¬ Lib.index t [c] = -1 := by simpa using h1
        have := ih (by omega)
        rw [List.length_cons]
        omega
theorem cut_lens (l : List UInt8) (c : UInt8) : (Lib.cut l [c]).1.length + (Lib.cut l [c]).2.1.length ≤ l.length ∧ ((Lib.cut l [c]).2.2 = true → (Lib.cut l [c]).1.length + (Lib.cut l [c]).2.1.length + 1 ≤ l.length) := by
  unfold Lib.cut
  split
  · rename_i h
    have hl := index_lt l c h
    constructor
    · simp only [List.length_take, List.length_drop, List.length_cons, List.length_nil]; omega
    · intro _; simp only [List.length_take, List.length_drop, List.length_cons, List.length_nil]; omega
  · exact ⟨by simp, fun h => by cases h⟩
def escape_Back.f (a0 : ByteArray) : Option (ByteArray × Int) := if a0.size ≤ 1000000000 then some (backR a0) else none
set_option maxHeartbeats 4000000 in
set_option maxRecDepth 100000 in
theorem escape_Back.calls (a0 : ByteArray) (r1 : ByteArray) (r2 : Int) (w : World) (h : escape_Back.f a0 = some (r1, r2)) (hT : Tabs w) :
    Calls Tryz.prog 23 #[.string a0] w fun e w' => e = .returned (.tuple #[.string r1, .int .i64 r2]) ∧ Below w.heap.size w w' := by
  unfold escape_Back.f at h
  split at h
  · rename_i hs
    have hr := Option.some.inj h
    have HS := Aside0.mk hs
    have HT := Aside0.mk hT
    have HV := Aside0.mk (fun b (hb : validT a0 = b) => utf_Valid.calls a0 b w (by unfold utf_Valid.f; rw [if_pos (by omega), hb]) hT)
    have HCt := Aside0.mk (fun b (hb : a0.data.toList.contains 60 = b) W (hW : Tabs W) => strings_Contains.calls a0 ⟨#[60]⟩ b W (by unfold strings_Contains.f; rw [if_pos (show (⟨#[60]⟩ : ByteArray).size = 1 from rfl)]; exact congrArg some hb) hW)
    clear h hs hT
    cases hv : validT a0 with
    | false =>
      have HV2 := Aside0.mk (HV.out false hv)
      unfold backR at hr
      rw [if_pos hv] at hr
      cases hr
      clear HV hv HCt
      go_enter Tryz.func23, Tryz.ntmps23
      go_wp2_with (go_at_call 9; (with_reducible refine HV2.out.mono ?_); rintro e w2 ⟨rfl, hb3⟩; have HB := Aside0.mk hb3; clear hb3)
      go_ret2
      exact ⟨rfl, HB.out⟩
    | true =>
      have HV2 := Aside0.mk (HV.out true hv)
      unfold backR at hr
      rw [if_neg (by rw [hv]; decide)] at hr
      clear HV hv
      cases hc : a0.data.toList.contains 60 with
      | true =>
        have HC2 := Aside0.mk (HCt.out true hc)
        rw [if_pos hc] at hr
        cases hr
        clear HCt hc
        go_enter Tryz.func23, Tryz.ntmps23
        go_wp2_with (first | (go_at_call 9; (with_reducible refine HV2.out.mono ?_); rintro e w2 ⟨rfl, hb3⟩; have HB := Aside0.mk hb3; clear hb3) | (go_at_call 41; (with_reducible refine (HC2.out _ (tabs_b HT.out HB.out)).mono ?_); rintro e w3 ⟨rfl, hb3⟩; have HB2 := Aside0.mk (below2 HB.out hb3); clear hb3))
        go_ret2
        exact ⟨rfl, HB2.out⟩
      | false =>
        have HC2 := Aside0.mk (HCt.out false hc)
        rw [if_neg (by rw [hc]; decide)] at hr
        clear HCt hc
        have HR := Aside0.mk hr
        clear hr
        go_enter Tryz.func23, Tryz.ntmps23
        go_wp2_with (first | (go_at_call 9; (with_reducible refine HV2.out.mono ?_); rintro e w2 ⟨rfl, hb3⟩; have HB := Aside0.mk hb3; clear hb3) | (go_at_call 41; (with_reducible refine (HC2.out _ (tabs_b HT.out HB.out)).mono ?_); rintro e w3 ⟨rfl, hb3⟩; have HB2 := Aside0.mk (below2 HB.out hb3); clear hb3))
        have hsz : (w3.alloc (.cells #[.pointer none, .slice none 0 0] 72)).heap.size = w3.heap.size + 1 := World.size_alloc _ _
        have HB3 := Aside0.mk (show Below w.heap.size w (w3.alloc (.cells #[.pointer none, .slice none 0 0] 72)) from below_alloc HB2.out _)
        have HBl := Aside0.mk (show IsBld 72 5 (w3.heap.size + 1) w3.heap.size (Lib.byteCells []) (w3.alloc (.cells #[.pointer none, .slice none 0 0] 72)) from .inl ⟨.slice none 0 0, blk_new _ _, World.ownsRow_nil _ _ _ _, by simp [Value.ownBlock]⟩)
        obtain ⟨w4, hw4⟩ : ∃ w4, w3.alloc (.cells #[.pointer none, .slice none 0 0] 72) = w4 := ⟨_, rfl⟩
        rw [hw4] at hsz HB3 HBl
        have HSZ := Aside0.mk hsz
        have HW := Aside0.mk (show w.heap.size ≤ w3.heap.size from HB2.out.size)
        rw [hw4]
        clear hw4 hsz HB HB2 HC2 HV2
        have HT4 := Aside0.mk (But.refl (w3.heap.size + 1) w3.heap.size w4)
        go_loopg [0] (a0.size + 1) (fun gk v0 wr => ∃ (l acc : List UInt8), v0 = .string ⟨l.toArray⟩ ∧ l.length < gk ∧ acc.length + 4 * l.length ≤ 4 * a0.size ∧ Aside0 ((backG gk l).map (acc ++ ·) = backG (a0.size + 1) a0.data.toList) ∧ Aside0 (IsBld 72 5 (w3.heap.size + 1) w3.heap.size (Lib.byteCells acc) wr) ∧ Aside0 (But (w3.heap.size + 1) w3.heap.size w4 wr))
        case atStart => exact ⟨a0.data.toList, [], rfl, by rw [arr_len]; omega, by rw [arr_len]; simp, ⟨by cases backG (a0.size + 1) a0.data.toList <;> rfl⟩, HBl, HT4⟩
        case round =>
          clear HBl HT4
          obtain ⟨l, acc, rfl, hlk, hla, HP, HBl, HTW⟩ := hrel
          obtain ⟨k', rfl⟩ : ∃ k', gk = k' + 1 := ⟨gk - 1, by omega⟩
          have hsl : (⟨l.toArray⟩ : ByteArray).size = l.length := by simp [ByteArray.size]
          have HCut := Aside0.mk (fun W (hW : Tabs W) (x : List UInt8) (c : UInt8) (hx : x.length ≤ l.length) => strings_Cut.calls ⟨x.toArray⟩ ⟨#[c]⟩ ⟨(Lib.cut x [c]).1.toArray⟩ ⟨(Lib.cut x [c]).2.1.toArray⟩ (Lib.cut x [c]).2.2 W (by unfold strings_Cut.f; rw [if_pos (by have := HS.out; simp only [ByteArray.size, List.size_toArray]; omega)]) hW)
          have HTA := Aside0.mk (fun W (h : But (w3.heap.size + 1) w3.heap.size w4 W) => tabs_b HT.out (h.below HB3.out HW.out (by have := HW.out; omega)))
          have hc1 := cut_lens l 38
          have hp := HP.out
          rw [backG] at hp
          obtain ⟨⟨c1, c2, c3⟩, hcut⟩ : ∃ c, Lib.cut l [38] = c := ⟨_, rfl⟩
          rw [hcut] at hc1 hp
          simp only at hc1 hp
          have HK := Aside0.mk hlk
          have HA := Aside0.mk hla
          have HC1 := Aside0.mk hc1
          have HC := Aside0.mk (HCut.out wr (HTA.out wr HTW.out) l 38 (Nat.le_refl _))
          rw [hcut] at HC
          have HSZ2 := Aside0.mk (show w3.heap.size + 1 ≤ wr.heap.size by have := HTW.out.size; have := HSZ.out; omega)
          cases c3 with
          | false =>
            rw [if_pos rfl] at hp
            have HP2 := Aside0.mk hp
            clear hp hcut hlk hla hc1 hsl
            go_wp2_with (first | (go_at_call 42; (with_reducible refine HC.out.mono ?_); rintro e w5 ⟨rfl, hb5⟩; have H5 := Aside0.mk hb5; have HB5 := Aside0.mk (HBl.out.below hb5); have HT5 := Aside0.mk (HTW.out.trans (But.of_below hb5 HSZ2.out)); clear hb5))
            go_wp2_with (go_at_call 43; (with_reducible refine (strings_Builder_WriteString.hof _ _ _ ⟨c1.toArray⟩ _ HB5.out zz76 (by have := H5.out.size; have := HSZ2.out; omega)).mono ?_))
            (first | rintro e w6 rfl hb6 ht6 | rintro e w6 ⟨rfl, hb6, ht6⟩)
            have HB6 := Aside0.mk (show IsBld 72 5 (w3.heap.size + 1) w3.heap.size (Lib.byteCells (acc ++ c1)) w6 from by rw [Lib.byteCells_append]; exact hb6)
            have HT6 := Aside0.mk (HT5.out.trans ht6)
            clear hb6 ht6
            go_wp2_with (go_at_call 44; (with_reducible refine (Tryz.Builder_String_any _ _ _ _ (HB6.out.builder (by omega)) (by have := HT6.out.size; have := HSZ.out; omega)).mono ?_))
            (first | rintro e w7 rfl hb7 | rintro e w7 ⟨rfl, hb7⟩)
            have HB7 := Aside0.mk hb7
            clear hb7
            go_wp2
            go_ret2
            have h1 := HR.out
            rw [← HP2.out] at h1
            cases h1
            exact ⟨rfl, below_weaken (HT6.out.below HB3.out HW.out (by have := HW.out; omega)) HW.out HB7.out⟩
          | true =>
            rw [if_neg (by decide)] at hp
            obtain ⟨⟨d1, d2, d3⟩, hcut2⟩ : ∃ c, Lib.cut c2 [59] = c := ⟨_, rfl⟩
            have hd1 := cut_lens c2 59
            rw [hcut2] at hp hd1
            simp only at hp hd1
            have HC2l := Aside0.mk (show c2.length ≤ l.length by have := hc1.1; omega)
            have HCb := Aside0.mk (fun W hW => HCut.out W hW c2 59 HC2l.out)
            rw [hcut2] at HCb
            have HD1 := Aside0.mk hd1
            have HSg := Aside0.mk (fun W (hW : Tabs W) => escape_sign.calls 9 ⟨d1.toArray⟩ ⟨(sgnL d1).toArray⟩ W (sign_eq _ (by have h1 := hd1.1; have h2 := hc1.1; have := HS.out; have : l.length ≤ a0.size := (by omega); show d1.toArray.size ≤ _; rw [List.size_toArray]; omega)) hW)
            have hsg4 := sgnL_len d1
            obtain ⟨x, hx⟩ : ∃ x, sgnL d1 = x := ⟨_, rfl⟩
            rw [hx] at hp HSg hsg4
            have HX4 := Aside0.mk hsg4
            have hE2 : (⟨x.toArray⟩ : ByteArray).toList = x := by rw [ByteArray.toList_eq]
            clear hcut hcut2 hlk hla hc1 hsl hd1 hx hsg4
            by_cases hbad : d3 = false ∨ x = []
            · rw [if_pos hbad] at hp
              have HP2 := Aside0.mk hp
              clear hp
              have hE3 : (⟨x.toArray⟩ : ByteArray).toList.isEmpty = decide (x = []) := by rw [hE2]; cases x <;> rfl
              rcases hbad with rfl | hx0
              · clear hE2 hE3
                go_wp2_with (first | (go_at_call 42; (with_reducible refine HC.out.mono ?_); rintro e w5 ⟨rfl, hb5⟩; have H5 := Aside0.mk hb5; have HB5 := Aside0.mk (HBl.out.below hb5); have HT5 := Aside0.mk (HTW.out.trans (But.of_below hb5 HSZ2.out)); clear hb5))
                go_wp2_with (go_at_call 43; (with_reducible refine (strings_Builder_WriteString.hof _ _ _ ⟨c1.toArray⟩ _ HB5.out zz76 (by have := H5.out.size; have := HSZ2.out; omega)).mono ?_))
                (first | rintro e w6 rfl hb6 ht6 | rintro e w6 ⟨rfl, hb6, ht6⟩)
                have HT6 := Aside0.mk (HT5.out.trans ht6)
                clear hb6 ht6
                go_wp2_with (first | (go_at_call 42; (with_reducible refine (HCb.out _ (HTA.out _ HT6.out)).mono ?_); rintro e w7 ⟨rfl, hb7⟩; have HT7 := Aside0.mk (HT6.out.trans (But.of_below hb7 (by have := HT6.out.size; have := HSZ.out; omega))); clear hb7) | (go_at_call 45; (with_reducible refine (HSg.out _ (HTA.out _ HT7.out)).mono ?_); rintro e w8 ⟨rfl, hb8⟩; have HT8 := Aside0.mk (HT7.out.trans (But.of_below hb8 (by have := HT7.out.size; have := HSZ.out; omega))); clear hb8))
                go_ret2
                have h1 := HR.out
                rw [← HP2.out] at h1
                cases h1
                exact ⟨rfl, HT8.out.below HB3.out HW.out (by have := HW.out; omega)⟩
              · subst hx0
                cases d3 with
                | false =>
                  clear hE2 hE3
                  go_wp2_with (first | (go_at_call 42; (with_reducible refine HC.out.mono ?_); rintro e w5 ⟨rfl, hb5⟩; have H5 := Aside0.mk hb5; have HB5 := Aside0.mk (HBl.out.below hb5); have HT5 := Aside0.mk (HTW.out.trans (But.of_below hb5 HSZ2.out)); clear hb5))
                  go_wp2_with (go_at_call 43; (with_reducible refine (strings_Builder_WriteString.hof _ _ _ ⟨c1.toArray⟩ _ HB5.out zz76 (by have := H5.out.size; have := HSZ2.out; omega)).mono ?_))
                  (first | rintro e w6 rfl hb6 ht6 | rintro e w6 ⟨rfl, hb6, ht6⟩)
                  have HT6 := Aside0.mk (HT5.out.trans ht6)
                  clear hb6 ht6
                  go_wp2_with (first | (go_at_call 42; (with_reducible refine (HCb.out _ (HTA.out _ HT6.out)).mono ?_); rintro e w7 ⟨rfl, hb7⟩; have HT7 := Aside0.mk (HT6.out.trans (But.of_below hb7 (by have := HT6.out.size; have := HSZ.out; omega))); clear hb7) | (go_at_call 45; (with_reducible refine (HSg.out _ (HTA.out _ HT7.out)).mono ?_); rintro e w8 ⟨rfl, hb8⟩; have HT8 := Aside0.mk (HT7.out.trans (But.of_below hb8 (by have := HT7.out.size; have := HSZ.out; omega))); clear hb8))
                  go_ret2
                  have h1 := HR.out
                  rw [← HP2.out] at h1
                  cases h1
                  exact ⟨rfl, HT8.out.below HB3.out HW.out (by have := HW.out; omega)⟩
                | true =>
                  clear hE2 hE3
                  go_wp2_with (first | (go_at_call 42; (with_reducible refine HC.out.mono ?_); rintro e w5 ⟨rfl, hb5⟩; have H5 := Aside0.mk hb5; have HB5 := Aside0.mk (HBl.out.below hb5); have HT5 := Aside0.mk (HTW.out.trans (But.of_below hb5 HSZ2.out)); clear hb5))
                  go_wp2_with (go_at_call 43; (with_reducible refine (strings_Builder_WriteString.hof _ _ _ ⟨c1.toArray⟩ _ HB5.out zz76 (by have := H5.out.size; have := HSZ2.out; omega)).mono ?_))
                  (first | rintro e w6 rfl hb6 ht6 | rintro e w6 ⟨rfl, hb6, ht6⟩)
                  have HT6 := Aside0.mk (HT5.out.trans ht6)
                  clear hb6 ht6
                  go_wp2_with (first | (go_at_call 42; (with_reducible refine (HCb.out _ (HTA.out _ HT6.out)).mono ?_); rintro e w7 ⟨rfl, hb7⟩; have HT7 := Aside0.mk (HT6.out.trans (But.of_below hb7 (by have := HT6.out.size; have := HSZ.out; omega))); clear hb7) | (go_at_call 45; (with_reducible refine (HSg.out _ (HTA.out _ HT7.out)).mono ?_); rintro e w8 ⟨rfl, hb8⟩; have HT8 := Aside0.mk (HT7.out.trans (But.of_below hb8 (by have := HT7.out.size; have := HSZ.out; omega))); clear hb8))
                  go_ret2
                  have h1 := HR.out
                  rw [← HP2.out] at h1
                  cases h1
                  exact ⟨rfl, HT8.out.below HB3.out HW.out (by have := HW.out; omega)⟩
            · rw [if_neg hbad] at hp
              obtain ⟨hd3, hx0⟩ : d3 = true ∧ ¬ x = [] := ⟨by cases d3 <;> simp_all, fun e => hbad (.inr e)⟩
              subst hd3
              have HP2 := Aside0.mk hp
              have hE3 : (⟨x.toArray⟩ : ByteArray).toList.isEmpty = false := by rw [hE2]; simpa using hx0
              have hE4 : ((⟨x.toArray⟩ : ByteArray).toList == []) = false := by rw [hE2]; exact beq_eq_false_iff_ne.2 hx0
              have hE5 : ¬ (⟨x.toArray⟩ : ByteArray).toList = [] := by rw [hE2]; exact hx0
              have hE6 : x.isEmpty = false := by simpa using hx0
              clear hp hbad hE2 hx0
              go_wp2_with (first | (go_at_call 42; (with_reducible refine HC.out.mono ?_); rintro e w5 ⟨rfl, hb5⟩; have H5 := Aside0.mk hb5; have HB5 := Aside0.mk (HBl.out.below hb5); have HT5 := Aside0.mk (HTW.out.trans (But.of_below hb5 HSZ2.out)); clear hb5))
              go_wp2_with (go_at_call 43; (with_reducible refine (strings_Builder_WriteString.hof _ _ _ ⟨c1.toArray⟩ _ HB5.out zz76 (by have := H5.out.size; have := HSZ2.out; omega)).mono ?_))
              (first | rintro e w6 rfl hb6 ht6 | rintro e w6 ⟨rfl, hb6, ht6⟩)
              have HB6 := Aside0.mk (show IsBld 72 5 (w3.heap.size + 1) w3.heap.size (Lib.byteCells (acc ++ c1)) w6 from by rw [Lib.byteCells_append]; exact hb6)
              have HT6 := Aside0.mk (HT5.out.trans ht6)
              clear hb6 ht6
              go_wp2_with (first | (go_at_call 42; (with_reducible refine (HCb.out _ (HTA.out _ HT6.out)).mono ?_); rintro e w7 ⟨rfl, hb7⟩; have HB7 := Aside0.mk (HB6.out.below hb7); have HT7 := Aside0.mk (HT6.out.trans (But.of_below hb7 (by have := HT6.out.size; have := HSZ.out; omega))); clear hb7) | (go_at_call 45; (with_reducible refine (HSg.out _ (HTA.out _ HT7.out)).mono ?_); rintro e w8 ⟨rfl, hb8⟩; have HB8 := Aside0.mk (HB7.out.below hb8); have HT8 := Aside0.mk (HT7.out.trans (But.of_below hb8 (by have := HT7.out.size; have := HSZ.out; omega))); clear hb8))
              go_wp2_with (go_at_call 43; (with_reducible refine (strings_Builder_WriteString.hof _ _ _ ⟨x.toArray⟩ _ HB8.out (by have := HA.out; have := HC1.out.1; have := HS.out; have := HX4.out; rw [Lib.byteCells_length, List.length_append]; simp only [ByteArray.size, List.size_toArray]; omega) (by have := HT8.out.size; have := HSZ.out; omega)).mono ?_))
              (first | rintro e w9 rfl hb9 ht9 | rintro e w9 ⟨rfl, hb9, ht9⟩)
              have HB9 := Aside0.mk (show IsBld 72 5 (w3.heap.size + 1) w3.heap.size (Lib.byteCells (acc ++ c1 ++ x)) w9 from by rw [Lib.byteCells_append (acc ++ c1)]; exact hb9)
              have HT9 := Aside0.mk (HT8.out.trans ht9)
              clear hb9 ht9
              go_wp2
              go_roundg k'
              case measure => omega
              case rel => exact ⟨d2, acc ++ c1 ++ x, rfl, by have h1 := HK.out; have h2 := HC1.out.1; have h3 := HD1.out.2 (by first | trivial | rfl); have h4 := HC1.out.2 (by first | trivial | rfl); omega, by have h1 := HA.out; have h2 := HX4.out; have h3 := HD1.out.2 (by first | trivial | rfl); have h4 := HC1.out.2 (by first | trivial | rfl); simp only [List.length_append]; omega, ⟨by rw [← HP2.out, Option.map_map]; congr 1; funext t; simp⟩, HB9, HT9⟩
  · cases h
def token_value.f (s0_0 : ByteArray) (s0_1 : ByteArray) : Option (ByteArray × Bool × ByteArray × ByteArray) := (token_walk_string_is.f s0_0 s0_1 (⟨#[39]⟩ : ByteArray)).bind fun bt165 => (if bt165.1 = true then ((token_upTo_string.f bt165.2.1 bt165.2.2 (⟨#[39]⟩ : ByteArray)).bind fun bt168 => ((escape_Back.f bt168.1).bind fun bt172 => (if bt168.2.1 = true then ((token_walk_string_is.f bt168.2.2.1 bt168.2.2.2 (⟨#[39]⟩ : ByteArray)).bind fun bt174 => (if bt174.1 = true then (some (bt172.1, (bt172.2 == 0), bt174.2.1, bt174.2.2)) else (some (bt172.1, false, bt174.2.1, bt174.2.2)))) else (some (bt172.1, false, bt168.2.2.1, bt168.2.2.2))))) else ((token_walk_string_is.f bt165.2.1 bt165.2.2 (⟨#[34]⟩ : ByteArray)).bind fun bt177 => (if bt177.1 = true then ((token_upTo_string.f bt177.2.1 bt177.2.2 (⟨#[34]⟩ : ByteArray)).bind fun bt180 => ((escape_Back.f bt180.1).bind fun bt184 => (if bt180.2.1 = true then ((token_walk_string_is.f bt180.2.2.1 bt180.2.2.2 (⟨#[34]⟩ : ByteArray)).bind fun bt186 => (if bt186.1 = true then (some (bt184.1, (bt184.2 == 0), bt186.2.1, bt186.2.2)) else (some (bt184.1, false, bt186.2.1, bt186.2.2)))) else (some (bt184.1, false, bt180.2.2.1, bt180.2.2.2))))) else (some ((⟨#[]⟩ : ByteArray), false, bt177.2.1, bt177.2.2)))))
set_option maxHeartbeats 8000000 in
set_option maxRecDepth 100000 in
theorem token_value.calls (g : Nat) (s0_0 : ByteArray) (s0_1 : ByteArray) (r1 : ByteArray) (r2 : Bool) (r3 : ByteArray) (r4 : ByteArray) (w0 w : World) (hI : IsS35 w0 w g s0_0 s0_1) (hB : Below w0.heap.size w0 w) (h : token_value.f s0_0 s0_1 = some (r1, r2, r3, r4)) (hT : Tabs w0) :
    Calls Tryz.prog 59 #[.pointer (some ⟨g, 0, none⟩)] w fun e w' => e = .returned (.tuple #[.string r1, .bool r2]) ∧ IsS35 w0 w' g r3 r4 ∧ Below w0.heap.size w0 w' ∧ KeepBut w w' g none := by
  have HT := Aside0.mk hT
  clear hT
  have HI0 := Aside0.mk hI
  have HK := Aside0.mk (KeepBut.refl w g none)
  have HL := Aside0.mk hB.size
  clear hI
  have HW0 := Aside0.mk hB.size
  have HB := Aside0.mk hB
  clear hB
  have H : ((token_walk_string_is.f s0_0 s0_1 (⟨#[39]⟩ : ByteArray)).bind fun bt165 => (if bt165.1 = true then ((token_upTo_string.f bt165.2.1 bt165.2.2 (⟨#[39]⟩ : ByteArray)).bind fun bt168 => ((escape_Back.f bt168.1).bind fun bt172 => (if bt168.2.1 = true then ((token_walk_string_is.f bt168.2.2.1 bt168.2.2.2 (⟨#[39]⟩ : ByteArray)).bind fun bt174 => (if bt174.1 = true then (some (bt172.1, (bt172.2 == 0), bt174.2.1, bt174.2.2)) else (some (bt172.1, false, bt174.2.1, bt174.2.2)))) else (some (bt172.1, false, bt168.2.2.1, bt168.2.2.2))))) else ((token_walk_string_is.f bt165.2.1 bt165.2.2 (⟨#[34]⟩ : ByteArray)).bind fun bt177 => (if bt177.1 = true then ((token_upTo_string.f bt177.2.1 bt177.2.2 (⟨#[34]⟩ : ByteArray)).bind fun bt180 => ((escape_Back.f bt180.1).bind fun bt184 => (if bt180.2.1 = true then ((token_walk_string_is.f bt180.2.2.1 bt180.2.2.2 (⟨#[34]⟩ : ByteArray)).bind fun bt186 => (if bt186.1 = true then (some (bt184.1, (bt184.2 == 0), bt186.2.1, bt186.2.2)) else (some (bt184.1, false, bt186.2.1, bt186.2.2)))) else (some (bt184.1, false, bt180.2.2.1, bt180.2.2.2))))) else (some ((⟨#[]⟩ : ByteArray), false, bt177.2.1, bt177.2.2)))))) = some (r1, r2, r3, r4) := h
  clear h
  replace H := Option.bind_eq_some_iff.mp H
  obtain ⟨⟨t165, t166, t167⟩, A20, H⟩ := H
  replace H : (if t165 = true then ((token_upTo_string.f t166 t167 (⟨#[39]⟩ : ByteArray)).bind fun bt168 => ((escape_Back.f bt168.1).bind fun bt172 => (if bt168.2.1 = true then ((token_walk_string_is.f bt168.2.2.1 bt168.2.2.2 (⟨#[39]⟩ : ByteArray)).bind fun bt174 => (if bt174.1 = true then (some (bt172.1, (bt172.2 == 0), bt174.2.1, bt174.2.2)) else (some (bt172.1, false, bt174.2.1, bt174.2.2)))) else (some (bt172.1, false, bt168.2.2.1, bt168.2.2.2))))) else ((token_walk_string_is.f t166 t167 (⟨#[34]⟩ : ByteArray)).bind fun bt177 => (if bt177.1 = true then ((token_upTo_string.f bt177.2.1 bt177.2.2 (⟨#[34]⟩ : ByteArray)).bind fun bt180 => ((escape_Back.f bt180.1).bind fun bt184 => (if bt180.2.1 = true then ((token_walk_string_is.f bt180.2.2.1 bt180.2.2.2 (⟨#[34]⟩ : ByteArray)).bind fun bt186 => (if bt186.1 = true then (some (bt184.1, (bt184.2 == 0), bt186.2.1, bt186.2.2)) else (some (bt184.1, false, bt186.2.1, bt186.2.2)))) else (some (bt184.1, false, bt180.2.2.1, bt180.2.2.2))))) else (some ((⟨#[]⟩ : ByteArray), false, bt177.2.1, bt177.2.2))))) = some (r1, r2, r3, r4) := H
  have A2 := Aside0.mk A20
  clear A20
  by_cases c3 : t165 = true
  · subst c3
    have H1 : ((token_upTo_string.f t166 t167 (⟨#[39]⟩ : ByteArray)).bind fun bt168 => ((escape_Back.f bt168.1).bind fun bt172 => (if bt168.2.1 = true then ((token_walk_string_is.f bt168.2.2.1 bt168.2.2.2 (⟨#[39]⟩ : ByteArray)).bind fun bt174 => (if bt174.1 = true then (some (bt172.1, (bt172.2 == 0), bt174.2.1, bt174.2.2)) else (some (bt172.1, false, bt174.2.1, bt174.2.2)))) else (some (bt172.1, false, bt168.2.2.1, bt168.2.2.2))))) = some (r1, r2, r3, r4) := by rw [if_pos rfl] at H; exact H
    clear H
    have H := H1
    clear H1
    replace H := Option.bind_eq_some_iff.mp H
    obtain ⟨⟨t168, t169, t170, t171⟩, A40, H⟩ := H
    replace H : ((escape_Back.f t168).bind fun bt172 => (if t169 = true then ((token_walk_string_is.f t170 t171 (⟨#[39]⟩ : ByteArray)).bind fun bt174 => (if bt174.1 = true then (some (bt172.1, (bt172.2 == 0), bt174.2.1, bt174.2.2)) else (some (bt172.1, false, bt174.2.1, bt174.2.2)))) else (some (bt172.1, false, t170, t171)))) = some (r1, r2, r3, r4) := H
    have A4 := Aside0.mk A40
    clear A40
    replace H := Option.bind_eq_some_iff.mp H
    obtain ⟨⟨t172, t173⟩, A50, H⟩ := H
    replace H : (if t169 = true then ((token_walk_string_is.f t170 t171 (⟨#[39]⟩ : ByteArray)).bind fun bt174 => (if bt174.1 = true then (some (t172, (t173 == 0), bt174.2.1, bt174.2.2)) else (some (t172, false, bt174.2.1, bt174.2.2)))) else (some (t172, false, t170, t171))) = some (r1, r2, r3, r4) := H
    have A5 := Aside0.mk A50
    clear A50
    by_cases c6 : t169 = true
    · subst c6
      have H1 : ((token_walk_string_is.f t170 t171 (⟨#[39]⟩ : ByteArray)).bind fun bt174 => (if bt174.1 = true then (some (t172, (t173 == 0), bt174.2.1, bt174.2.2)) else (some (t172, false, bt174.2.1, bt174.2.2)))) = some (r1, r2, r3, r4) := by rw [if_pos rfl] at H; exact H
      clear H
      have H := H1
      clear H1
      replace H := Option.bind_eq_some_iff.mp H
      obtain ⟨⟨t174, t175, t176⟩, A70, H⟩ := H
      replace H : (if t174 = true then (some (t172, (t173 == 0), t175, t176)) else (some (t172, false, t175, t176))) = some (r1, r2, r3, r4) := H
      have A7 := Aside0.mk A70
      clear A70
      by_cases c8 : t174 = true
      · subst c8
        have H1 : (some (t172, (t173 == 0), t175, t176)) = some (r1, r2, r3, r4) := by rw [if_pos rfl] at H; exact H
        clear H
        have H := H1
        clear H1
        simp only [Option.some.injEq, Prod.mk.injEq] at H
        obtain ⟨rfl, rfl, rfl, rfl⟩ := H
        go_enter Tryz.func59, Tryz.ntmps59
        go_wp2_with (first | ((with_reducible refine gate_callee (f := 10) rfl ?_); refine goesL_ (some 11) rfl rfl Tryz.func10 zz29 rfl #[.pointer (some ⟨g, 0, none⟩), .string (⟨#[39]⟩ : ByteArray)] rfl zz1 ?_; (with_reducible refine (token_walk_string_is.calls g s0_0 s0_1 (⟨#[39]⟩ : ByteArray) true t166 t167 w0 _ ?side1 ?side2 A2.out).mono ?_); (case side1 => exact zz6); (case side2 => exact zz5); rintro e w9 ⟨rfl, hi, hb, hk⟩; refine ⟨_, rfl, ?_⟩; have n0_ := Aside0.mk (KeepBut.trans zz3 hk (.inl rfl)); have n1_ := Aside0.mk (hb); have n2_ := Aside0.mk (hi); clear HK; clear HB; clear HI0; have HK := n0_; have HB := n1_; have HI0 := n2_; clear n0_ n1_ n2_; (try clear hb); (try clear hb2); (try clear hk); (try clear hi)) | ((with_reducible refine gate_callee (f := 22) rfl ?_); refine goesL_ (some 20) rfl rfl Tryz.func22 zz29 rfl #[.pointer (some ⟨g, 0, none⟩), .string (⟨#[39]⟩ : ByteArray)] rfl zz1 ?_; (with_reducible refine (token_upTo_string.calls g t166 t167 (⟨#[39]⟩ : ByteArray) t168 true t170 t171 w0 _ ?side1 ?side2 A4.out).mono ?_); (case side1 => exact zz6); (case side2 => exact zz5); rintro e w10 ⟨rfl, hi, hb, hk⟩; refine ⟨_, rfl, ?_⟩; have n0_ := Aside0.mk (KeepBut.trans zz3 hk (.inl rfl)); have n1_ := Aside0.mk (hb); have n2_ := Aside0.mk (hi); clear HK; clear HB; clear HI0; have HK := n0_; have HB := n1_; have HI0 := n2_; clear n0_ n1_ n2_; (try clear hb); (try clear hb2); (try clear hk); (try clear hi)) | ((with_reducible refine gate_callee (f := 23) rfl ?_); refine goesL_ (some 25) rfl rfl Tryz.func23 zz29 rfl #[.string t168] rfl zz1 ?_; (with_reducible refine (escape_Back.calls t168 t172 t173 _ A5.out (tabs_b HT.out zz5)).mono ?_); rintro e w11 ⟨rfl, hb⟩; refine ⟨_, rfl, ?_⟩; have n0_ := Aside0.mk (IsS35.below zz6 hb); have n1_ := Aside0.mk (KeepBut.trans zz3 (KeepBut.of_below hb g none) (.inl rfl)); have n2_ := Aside0.mk (below_step zz5 hb); clear HI0; clear HK; clear HB; have HI0 := n0_; have HK := n1_; have HB := n2_; clear n0_ n1_ n2_; (try clear hb); (try clear hb2); (try clear hk); (try clear hi)) | (go_at_call 10; (with_reducible refine (token_walk_string_is.calls g t170 t171 (⟨#[39]⟩ : ByteArray) true t175 t176 w0 _ ?side1 ?side2 A7.out).mono ?_); (case side1 => exact zz6); (case side2 => exact zz5); rintro e w12 ⟨rfl, hi, hb, hk⟩; have n0_ := Aside0.mk (KeepBut.trans zz3 hk (.inl rfl)); have n1_ := Aside0.mk (hb); have n2_ := Aside0.mk (hi); clear HK; clear HB; clear HI0; have HK := n0_; have HB := n1_; have HI0 := n2_; clear n0_ n1_ n2_; (try clear hb); (try clear hb2); (try clear hk); (try clear hi)))
        go_ret2
        exact ⟨zz4, zz6, zz5, zz3⟩
      · replace c8 := Bool.eq_false_iff.mpr c8
        subst c8
        have H1 : (some (t172, false, t175, t176)) = some (r1, r2, r3, r4) := by rw [if_neg (show ¬ (false = true) by decide)] at H; exact H
        clear H
        have H := H1
        clear H1
        simp only [Option.some.injEq, Prod.mk.injEq] at H
        obtain ⟨rfl, rfl, rfl, rfl⟩ := H
        go_enter Tryz.func59, Tryz.ntmps59
        go_wp2_with (first | ((with_reducible refine gate_callee (f := 10) rfl ?_); refine goesL_ (some 11) rfl rfl Tryz.func10 zz29 rfl #[.pointer (some ⟨g, 0, none⟩), .string (⟨#[39]⟩ : ByteArray)] rfl zz1 ?_; (with_reducible refine (token_walk_string_is.calls g s0_0 s0_1 (⟨#[39]⟩ : ByteArray) true t166 t167 w0 _ ?side1 ?side2 A2.out).mono ?_); (case side1 => exact zz6); (case side2 => exact zz5); rintro e w13 ⟨rfl, hi, hb, hk⟩; refine ⟨_, rfl, ?_⟩; have n0_ := Aside0.mk (KeepBut.trans zz3 hk (.inl rfl)); have n1_ := Aside0.mk (hb); have n2_ := Aside0.mk (hi); clear HK; clear HB; clear HI0; have HK := n0_; have HB := n1_; have HI0 := n2_; clear n0_ n1_ n2_; (try clear hb); (try clear hb2); (try clear hk); (try clear hi)) | ((with_reducible refine gate_callee (f := 22) rfl ?_); refine goesL_ (some 20) rfl rfl Tryz.func22 zz29 rfl #[.pointer (some ⟨g, 0, none⟩), .string (⟨#[39]⟩ : ByteArray)] rfl zz1 ?_; (with_reducible refine (token_upTo_string.calls g t166 t167 (⟨#[39]⟩ : ByteArray) t168 true t170 t171 w0 _ ?side1 ?side2 A4.out).mono ?_); (case side1 => exact zz6); (case side2 => exact zz5); rintro e w14 ⟨rfl, hi, hb, hk⟩; refine ⟨_, rfl, ?_⟩; have n0_ := Aside0.mk (KeepBut.trans zz3 hk (.inl rfl)); have n1_ := Aside0.mk (hb); have n2_ := Aside0.mk (hi); clear HK; clear HB; clear HI0; have HK := n0_; have HB := n1_; have HI0 := n2_; clear n0_ n1_ n2_; (try clear hb); (try clear hb2); (try clear hk); (try clear hi)) | ((with_reducible refine gate_callee (f := 23) rfl ?_); refine goesL_ (some 25) rfl rfl Tryz.func23 zz29 rfl #[.string t168] rfl zz1 ?_; (with_reducible refine (escape_Back.calls t168 t172 t173 _ A5.out (tabs_b HT.out zz5)).mono ?_); rintro e w15 ⟨rfl, hb⟩; refine ⟨_, rfl, ?_⟩; have n0_ := Aside0.mk (IsS35.below zz6 hb); have n1_ := Aside0.mk (KeepBut.trans zz3 (KeepBut.of_below hb g none) (.inl rfl)); have n2_ := Aside0.mk (below_step zz5 hb); clear HI0; clear HK; clear HB; have HI0 := n0_; have HK := n1_; have HB := n2_; clear n0_ n1_ n2_; (try clear hb); (try clear hb2); (try clear hk); (try clear hi)) | (go_at_call 10; (with_reducible refine (token_walk_string_is.calls g t170 t171 (⟨#[39]⟩ : ByteArray) false t175 t176 w0 _ ?side1 ?side2 A7.out).mono ?_); (case side1 => exact zz6); (case side2 => exact zz5); rintro e w16 ⟨rfl, hi, hb, hk⟩; have n0_ := Aside0.mk (KeepBut.trans zz3 hk (.inl rfl)); have n1_ := Aside0.mk (hb); have n2_ := Aside0.mk (hi); clear HK; clear HB; clear HI0; have HK := n0_; have HB := n1_; have HI0 := n2_; clear n0_ n1_ n2_; (try clear hb); (try clear hb2); (try clear hk); (try clear hi)))
        go_ret2
        exact ⟨zz4, zz6, zz5, zz3⟩
    · replace c6 := Bool.eq_false_iff.mpr c6
      subst c6
      have H1 : (some (t172, false, t170, t171)) = some (r1, r2, r3, r4) := by rw [if_neg (show ¬ (false = true) by decide)] at H; exact H
      clear H
      have H := H1
      clear H1
      simp only [Option.some.injEq, Prod.mk.injEq] at H
      obtain ⟨rfl, rfl, rfl, rfl⟩ := H
      go_enter Tryz.func59, Tryz.ntmps59
      go_wp2_with (first | ((with_reducible refine gate_callee (f := 10) rfl ?_); refine goesL_ (some 11) rfl rfl Tryz.func10 zz29 rfl #[.pointer (some ⟨g, 0, none⟩), .string (⟨#[39]⟩ : ByteArray)] rfl zz1 ?_; (with_reducible refine (token_walk_string_is.calls g s0_0 s0_1 (⟨#[39]⟩ : ByteArray) true t166 t167 w0 _ ?side1 ?side2 A2.out).mono ?_); (case side1 => exact zz6); (case side2 => exact zz5); rintro e w17 ⟨rfl, hi, hb, hk⟩; refine ⟨_, rfl, ?_⟩; have n0_ := Aside0.mk (KeepBut.trans zz3 hk (.inl rfl)); have n1_ := Aside0.mk (hb); have n2_ := Aside0.mk (hi); clear HK; clear HB; clear HI0; have HK := n0_; have HB := n1_; have HI0 := n2_; clear n0_ n1_ n2_; (try clear hb); (try clear hb2); (try clear hk); (try clear hi)) | ((with_reducible refine gate_callee (f := 22) rfl ?_); refine goesL_ (some 20) rfl rfl Tryz.func22 zz29 rfl #[.pointer (some ⟨g, 0, none⟩), .string (⟨#[39]⟩ : ByteArray)] rfl zz1 ?_; (with_reducible refine (token_upTo_string.calls g t166 t167 (⟨#[39]⟩ : ByteArray) t168 false t170 t171 w0 _ ?side1 ?side2 A4.out).mono ?_); (case side1 => exact zz6); (case side2 => exact zz5); rintro e w18 ⟨rfl, hi, hb, hk⟩; refine ⟨_, rfl, ?_⟩; have n0_ := Aside0.mk (KeepBut.trans zz3 hk (.inl rfl)); have n1_ := Aside0.mk (hb); have n2_ := Aside0.mk (hi); clear HK; clear HB; clear HI0; have HK := n0_; have HB := n1_; have HI0 := n2_; clear n0_ n1_ n2_; (try clear hb); (try clear hb2); (try clear hk); (try clear hi)) | ((with_reducible refine gate_callee (f := 23) rfl ?_); refine goesL_ (some 25) rfl rfl Tryz.func23 zz29 rfl #[.string t168] rfl zz1 ?_; (with_reducible refine (escape_Back.calls t168 t172 t173 _ A5.out (tabs_b HT.out zz5)).mono ?_); rintro e w19 ⟨rfl, hb⟩; refine ⟨_, rfl, ?_⟩; have n0_ := Aside0.mk (IsS35.below zz6 hb); have n1_ := Aside0.mk (KeepBut.trans zz3 (KeepBut.of_below hb g none) (.inl rfl)); have n2_ := Aside0.mk (below_step zz5 hb); clear HI0; clear HK; clear HB; have HI0 := n0_; have HK := n1_; have HB := n2_; clear n0_ n1_ n2_; (try clear hb); (try clear hb2); (try clear hk); (try clear hi)))
      go_ret2
      exact ⟨zz4, zz6, zz5, zz3⟩
  · replace c3 := Bool.eq_false_iff.mpr c3
    subst c3
    have H1 : ((token_walk_string_is.f t166 t167 (⟨#[34]⟩ : ByteArray)).bind fun bt177 => (if bt177.1 = true then ((token_upTo_string.f bt177.2.1 bt177.2.2 (⟨#[34]⟩ : ByteArray)).bind fun bt180 => ((escape_Back.f bt180.1).bind fun bt184 => (if bt180.2.1 = true then ((token_walk_string_is.f bt180.2.2.1 bt180.2.2.2 (⟨#[34]⟩ : ByteArray)).bind fun bt186 => (if bt186.1 = true then (some (bt184.1, (bt184.2 == 0), bt186.2.1, bt186.2.2)) else (some (bt184.1, false, bt186.2.1, bt186.2.2)))) else (some (bt184.1, false, bt180.2.2.1, bt180.2.2.2))))) else (some ((⟨#[]⟩ : ByteArray), false, bt177.2.1, bt177.2.2)))) = some (r1, r2, r3, r4) := by rw [if_neg (show ¬ (false = true) by decide)] at H; exact H
    clear H
    have H := H1
    clear H1
    replace H := Option.bind_eq_some_iff.mp H
    obtain ⟨⟨t177, t178, t179⟩, A200, H⟩ := H
    replace H : (if t177 = true then ((token_upTo_string.f t178 t179 (⟨#[34]⟩ : ByteArray)).bind fun bt180 => ((escape_Back.f bt180.1).bind fun bt184 => (if bt180.2.1 = true then ((token_walk_string_is.f bt180.2.2.1 bt180.2.2.2 (⟨#[34]⟩ : ByteArray)).bind fun bt186 => (if bt186.1 = true then (some (bt184.1, (bt184.2 == 0), bt186.2.1, bt186.2.2)) else (some (bt184.1, false, bt186.2.1, bt186.2.2)))) else (some (bt184.1, false, bt180.2.2.1, bt180.2.2.2))))) else (some ((⟨#[]⟩ : ByteArray), false, t178, t179))) = some (r1, r2, r3, r4) := H
    have A20 := Aside0.mk A200
    clear A200
    by_cases c21 : t177 = true
    · subst c21
      have H1 : ((token_upTo_string.f t178 t179 (⟨#[34]⟩ : ByteArray)).bind fun bt180 => ((escape_Back.f bt180.1).bind fun bt184 => (if bt180.2.1 = true then ((token_walk_string_is.f bt180.2.2.1 bt180.2.2.2 (⟨#[34]⟩ : ByteArray)).bind fun bt186 => (if bt186.1 = true then (some (bt184.1, (bt184.2 == 0), bt186.2.1, bt186.2.2)) else (some (bt184.1, false, bt186.2.1, bt186.2.2)))) else (some (bt184.1, false, bt180.2.2.1, bt180.2.2.2))))) = some (r1, r2, r3, r4) := by rw [if_pos rfl] at H; exact H
      clear H
      have H := H1
      clear H1
      replace H := Option.bind_eq_some_iff.mp H
      obtain ⟨⟨t180, t181, t182, t183⟩, A220, H⟩ := H
      replace H : ((escape_Back.f t180).bind fun bt184 => (if t181 = true then ((token_walk_string_is.f t182 t183 (⟨#[34]⟩ : ByteArray)).bind fun bt186 => (if bt186.1 = true then (some (bt184.1, (bt184.2 == 0), bt186.2.1, bt186.2.2)) else (some (bt184.1, false, bt186.2.1, bt186.2.2)))) else (some (bt184.1, false, t182, t183)))) = some (r1, r2, r3, r4) := H
      have A22 := Aside0.mk A220
      clear A220
      replace H := Option.bind_eq_some_iff.mp H
      obtain ⟨⟨t184, t185⟩, A230, H⟩ := H
      replace H : (if t181 = true then ((token_walk_string_is.f t182 t183 (⟨#[34]⟩ : ByteArray)).bind fun bt186 => (if bt186.1 = true then (some (t184, (t185 == 0), bt186.2.1, bt186.2.2)) else (some (t184, false, bt186.2.1, bt186.2.2)))) else (some (t184, false, t182, t183))) = some (r1, r2, r3, r4) := H
      have A23 := Aside0.mk A230
      clear A230
      by_cases c24 : t181 = true
      · subst c24
        have H1 : ((token_walk_string_is.f t182 t183 (⟨#[34]⟩ : ByteArray)).bind fun bt186 => (if bt186.1 = true then (some (t184, (t185 == 0), bt186.2.1, bt186.2.2)) else (some (t184, false, bt186.2.1, bt186.2.2)))) = some (r1, r2, r3, r4) := by rw [if_pos rfl] at H; exact H
        clear H
        have H := H1
        clear H1
        replace H := Option.bind_eq_some_iff.mp H
        obtain ⟨⟨t186, t187, t188⟩, A250, H⟩ := H
        replace H : (if t186 = true then (some (t184, (t185 == 0), t187, t188)) else (some (t184, false, t187, t188))) = some (r1, r2, r3, r4) := H
        have A25 := Aside0.mk A250
        clear A250
        by_cases c26 : t186 = true
        · subst c26
          have H1 : (some (t184, (t185 == 0), t187, t188)) = some (r1, r2, r3, r4) := by rw [if_pos rfl] at H; exact H
          clear H
          have H := H1
          clear H1
          simp only [Option.some.injEq, Prod.mk.injEq] at H
          obtain ⟨rfl, rfl, rfl, rfl⟩ := H
          go_enter Tryz.func59, Tryz.ntmps59
          go_wp2_with (first | ((with_reducible refine gate_callee (f := 10) rfl ?_); refine goesL_ (some 11) rfl rfl Tryz.func10 zz29 rfl #[.pointer (some ⟨g, 0, none⟩), .string (⟨#[39]⟩ : ByteArray)] rfl zz1 ?_; (with_reducible refine (token_walk_string_is.calls g s0_0 s0_1 (⟨#[39]⟩ : ByteArray) false t166 t167 w0 _ ?side1 ?side2 A2.out).mono ?_); (case side1 => exact zz6); (case side2 => exact zz5); rintro e w27 ⟨rfl, hi, hb, hk⟩; refine ⟨_, rfl, ?_⟩; have n0_ := Aside0.mk (KeepBut.trans zz3 hk (.inl rfl)); have n1_ := Aside0.mk (hb); have n2_ := Aside0.mk (hi); clear HK; clear HB; clear HI0; have HK := n0_; have HB := n1_; have HI0 := n2_; clear n0_ n1_ n2_; (try clear hb); (try clear hb2); (try clear hk); (try clear hi)) | ((with_reducible refine gate_callee (f := 10) rfl ?_); refine goesL_ (some 15) rfl rfl Tryz.func10 zz29 rfl #[.pointer (some ⟨g, 0, none⟩), .string (⟨#[34]⟩ : ByteArray)] rfl zz1 ?_; (with_reducible refine (token_walk_string_is.calls g t166 t167 (⟨#[34]⟩ : ByteArray) true t178 t179 w0 _ ?side1 ?side2 A20.out).mono ?_); (case side1 => exact zz6); (case side2 => exact zz5); rintro e w28 ⟨rfl, hi, hb, hk⟩; refine ⟨_, rfl, ?_⟩; have n0_ := Aside0.mk (KeepBut.trans zz3 hk (.inl rfl)); have n1_ := Aside0.mk (hb); have n2_ := Aside0.mk (hi); clear HK; clear HB; clear HI0; have HK := n0_; have HB := n1_; have HI0 := n2_; clear n0_ n1_ n2_; (try clear hb); (try clear hb2); (try clear hk); (try clear hi)) | ((with_reducible refine gate_callee (f := 22) rfl ?_); refine goesL_ (some 20) rfl rfl Tryz.func22 zz29 rfl #[.pointer (some ⟨g, 0, none⟩), .string (⟨#[34]⟩ : ByteArray)] rfl zz1 ?_; (with_reducible refine (token_upTo_string.calls g t178 t179 (⟨#[34]⟩ : ByteArray) t180 true t182 t183 w0 _ ?side1 ?side2 A22.out).mono ?_); (case side1 => exact zz6); (case side2 => exact zz5); rintro e w29 ⟨rfl, hi, hb, hk⟩; refine ⟨_, rfl, ?_⟩; have n0_ := Aside0.mk (KeepBut.trans zz3 hk (.inl rfl)); have n1_ := Aside0.mk (hb); have n2_ := Aside0.mk (hi); clear HK; clear HB; clear HI0; have HK := n0_; have HB := n1_; have HI0 := n2_; clear n0_ n1_ n2_; (try clear hb); (try clear hb2); (try clear hk); (try clear hi)) | ((with_reducible refine gate_callee (f := 23) rfl ?_); refine goesL_ (some 25) rfl rfl Tryz.func23 zz29 rfl #[.string t180] rfl zz1 ?_; (with_reducible refine (escape_Back.calls t180 t184 t185 _ A23.out (tabs_b HT.out zz5)).mono ?_); rintro e w30 ⟨rfl, hb⟩; refine ⟨_, rfl, ?_⟩; have n0_ := Aside0.mk (IsS35.below zz6 hb); have n1_ := Aside0.mk (KeepBut.trans zz3 (KeepBut.of_below hb g none) (.inl rfl)); have n2_ := Aside0.mk (below_step zz5 hb); clear HI0; clear HK; clear HB; have HI0 := n0_; have HK := n1_; have HB := n2_; clear n0_ n1_ n2_; (try clear hb); (try clear hb2); (try clear hk); (try clear hi)) | (go_at_call 10; (with_reducible refine (token_walk_string_is.calls g t182 t183 (⟨#[34]⟩ : ByteArray) true t187 t188 w0 _ ?side1 ?side2 A25.out).mono ?_); (case side1 => exact zz6); (case side2 => exact zz5); rintro e w31 ⟨rfl, hi, hb, hk⟩; have n0_ := Aside0.mk (KeepBut.trans zz3 hk (.inl rfl)); have n1_ := Aside0.mk (hb); have n2_ := Aside0.mk (hi); clear HK; clear HB; clear HI0; have HK := n0_; have HB := n1_; have HI0 := n2_; clear n0_ n1_ n2_; (try clear hb); (try clear hb2); (try clear hk); (try clear hi)))
          go_ret2
          exact ⟨zz4, zz6, zz5, zz3⟩
        · replace c26 := Bool.eq_false_iff.mpr c26
          subst c26
          have H1 : (some (t184, false, t187, t188)) = some (r1, r2, r3, r4) := by rw [if_neg (show ¬ (false = true) by decide)] at H; exact H
          clear H
          have H := H1
          clear H1
          simp only [Option.some.injEq, Prod.mk.injEq] at H
          obtain ⟨rfl, rfl, rfl, rfl⟩ := H
          go_enter Tryz.func59, Tryz.ntmps59
          go_wp2_with (first | ((with_reducible refine gate_callee (f := 10) rfl ?_); refine goesL_ (some 11) rfl rfl Tryz.func10 zz29 rfl #[.pointer (some ⟨g, 0, none⟩), .string (⟨#[39]⟩ : ByteArray)] rfl zz1 ?_; (with_reducible refine (token_walk_string_is.calls g s0_0 s0_1 (⟨#[39]⟩ : ByteArray) false t166 t167 w0 _ ?side1 ?side2 A2.out).mono ?_); (case side1 => exact zz6); (case side2 => exact zz5); rintro e w32 ⟨rfl, hi, hb, hk⟩; refine ⟨_, rfl, ?_⟩; have n0_ := Aside0.mk (KeepBut.trans zz3 hk (.inl rfl)); have n1_ := Aside0.mk (hb); have n2_ := Aside0.mk (hi); clear HK; clear HB; clear HI0; have HK := n0_; have HB := n1_; have HI0 := n2_; clear n0_ n1_ n2_; (try clear hb); (try clear hb2); (try clear hk); (try clear hi)) | ((with_reducible refine gate_callee (f := 10) rfl ?_); refine goesL_ (some 15) rfl rfl Tryz.func10 zz29 rfl #[.pointer (some ⟨g, 0, none⟩), .string (⟨#[34]⟩ : ByteArray)] rfl zz1 ?_; (with_reducible refine (token_walk_string_is.calls g t166 t167 (⟨#[34]⟩ : ByteArray) true t178 t179 w0 _ ?side1 ?side2 A20.out).mono ?_); (case side1 => exact zz6); (case side2 => exact zz5); rintro e w33 ⟨rfl, hi, hb, hk⟩; refine ⟨_, rfl, ?_⟩; have n0_ := Aside0.mk (KeepBut.trans zz3 hk (.inl rfl)); have n1_ := Aside0.mk (hb); have n2_ := Aside0.mk (hi); clear HK; clear HB; clear HI0; have HK := n0_; have HB := n1_; have HI0 := n2_; clear n0_ n1_ n2_; (try clear hb); (try clear hb2); (try clear hk); (try clear hi)) | ((with_reducible refine gate_callee (f := 22) rfl ?_); refine goesL_ (some 20) rfl rfl Tryz.func22 zz29 rfl #[.pointer (some ⟨g, 0, none⟩), .string (⟨#[34]⟩ : ByteArray)] rfl zz1 ?_; (with_reducible refine (token_upTo_string.calls g t178 t179 (⟨#[34]⟩ : ByteArray) t180 true t182 t183 w0 _ ?side1 ?side2 A22.out).mono ?_); (case side1 => exact zz6); (case side2 => exact zz5); rintro e w34 ⟨rfl, hi, hb, hk⟩; refine ⟨_, rfl, ?_⟩; have n0_ := Aside0.mk (KeepBut.trans zz3 hk (.inl rfl)); have n1_ := Aside0.mk (hb); have n2_ := Aside0.mk (hi); clear HK; clear HB; clear HI0; have HK := n0_; have HB := n1_; have HI0 := n2_; clear n0_ n1_ n2_; (try clear hb); (try clear hb2); (try clear hk); (try clear hi)) | ((with_reducible refine gate_callee (f := 23) rfl ?_); refine goesL_ (some 25) rfl rfl Tryz.func23 zz29 rfl #[.string t180] rfl zz1 ?_; (with_reducible refine (escape_Back.calls t180 t184 t185 _ A23.out (tabs_b HT.out zz5)).mono ?_); rintro e w35 ⟨rfl, hb⟩; refine ⟨_, rfl, ?_⟩; have n0_ := Aside0.mk (IsS35.below zz6 hb); have n1_ := Aside0.mk (KeepBut.trans zz3 (KeepBut.of_below hb g none) (.inl rfl)); have n2_ := Aside0.mk (below_step zz5 hb); clear HI0; clear HK; clear HB; have HI0 := n0_; have HK := n1_; have HB := n2_; clear n0_ n1_ n2_; (try clear hb); (try clear hb2); (try clear hk); (try clear hi)) | (go_at_call 10; (with_reducible refine (token_walk_string_is.calls g t182 t183 (⟨#[34]⟩ : ByteArray) false t187 t188 w0 _ ?side1 ?side2 A25.out).mono ?_); (case side1 => exact zz6); (case side2 => exact zz5); rintro e w36 ⟨rfl, hi, hb, hk⟩; have n0_ := Aside0.mk (KeepBut.trans zz3 hk (.inl rfl)); have n1_ := Aside0.mk (hb); have n2_ := Aside0.mk (hi); clear HK; clear HB; clear HI0; have HK := n0_; have HB := n1_; have HI0 := n2_; clear n0_ n1_ n2_; (try clear hb); (try clear hb2); (try clear hk); (try clear hi)))
          go_ret2
          exact ⟨zz4, zz6, zz5, zz3⟩
      · replace c24 := Bool.eq_false_iff.mpr c24
        subst c24
        have H1 : (some (t184, false, t182, t183)) = some (r1, r2, r3, r4) := by rw [if_neg (show ¬ (false = true) by decide)] at H; exact H
        clear H
        have H := H1
        clear H1
        simp only [Option.some.injEq, Prod.mk.injEq] at H
        obtain ⟨rfl, rfl, rfl, rfl⟩ := H
        go_enter Tryz.func59, Tryz.ntmps59
        go_wp2_with (first | ((with_reducible refine gate_callee (f := 10) rfl ?_); refine goesL_ (some 11) rfl rfl Tryz.func10 zz29 rfl #[.pointer (some ⟨g, 0, none⟩), .string (⟨#[39]⟩ : ByteArray)] rfl zz1 ?_; (with_reducible refine (token_walk_string_is.calls g s0_0 s0_1 (⟨#[39]⟩ : ByteArray) false t166 t167 w0 _ ?side1 ?side2 A2.out).mono ?_); (case side1 => exact zz6); (case side2 => exact zz5); rintro e w37 ⟨rfl, hi, hb, hk⟩; refine ⟨_, rfl, ?_⟩; have n0_ := Aside0.mk (KeepBut.trans zz3 hk (.inl rfl)); have n1_ := Aside0.mk (hb); have n2_ := Aside0.mk (hi); clear HK; clear HB; clear HI0; have HK := n0_; have HB := n1_; have HI0 := n2_; clear n0_ n1_ n2_; (try clear hb); (try clear hb2); (try clear hk); (try clear hi)) | ((with_reducible refine gate_callee (f := 10) rfl ?_); refine goesL_ (some 15) rfl rfl Tryz.func10 zz29 rfl #[.pointer (some ⟨g, 0, none⟩), .string (⟨#[34]⟩ : ByteArray)] rfl zz1 ?_; (with_reducible refine (token_walk_string_is.calls g t166 t167 (⟨#[34]⟩ : ByteArray) true t178 t179 w0 _ ?side1 ?side2 A20.out).mono ?_); (case side1 => exact zz6); (case side2 => exact zz5); rintro e w38 ⟨rfl, hi, hb, hk⟩; refine ⟨_, rfl, ?_⟩; have n0_ := Aside0.mk (KeepBut.trans zz3 hk (.inl rfl)); have n1_ := Aside0.mk (hb); have n2_ := Aside0.mk (hi); clear HK; clear HB; clear HI0; have HK := n0_; have HB := n1_; have HI0 := n2_; clear n0_ n1_ n2_; (try clear hb); (try clear hb2); (try clear hk); (try clear hi)) | ((with_reducible refine gate_callee (f := 22) rfl ?_); refine goesL_ (some 20) rfl rfl Tryz.func22 zz29 rfl #[.pointer (some ⟨g, 0, none⟩), .string (⟨#[34]⟩ : ByteArray)] rfl zz1 ?_; (with_reducible refine (token_upTo_string.calls g t178 t179 (⟨#[34]⟩ : ByteArray) t180 false t182 t183 w0 _ ?side1 ?side2 A22.out).mono ?_); (case side1 => exact zz6); (case side2 => exact zz5); rintro e w39 ⟨rfl, hi, hb, hk⟩; refine ⟨_, rfl, ?_⟩; have n0_ := Aside0.mk (KeepBut.trans zz3 hk (.inl rfl)); have n1_ := Aside0.mk (hb); have n2_ := Aside0.mk (hi); clear HK; clear HB; clear HI0; have HK := n0_; have HB := n1_; have HI0 := n2_; clear n0_ n1_ n2_; (try clear hb); (try clear hb2); (try clear hk); (try clear hi)) | ((with_reducible refine gate_callee (f := 23) rfl ?_); refine goesL_ (some 25) rfl rfl Tryz.func23 zz29 rfl #[.string t180] rfl zz1 ?_; (with_reducible refine (escape_Back.calls t180 t184 t185 _ A23.out (tabs_b HT.out zz5)).mono ?_); rintro e w40 ⟨rfl, hb⟩; refine ⟨_, rfl, ?_⟩; have n0_ := Aside0.mk (IsS35.below zz6 hb); have n1_ := Aside0.mk (KeepBut.trans zz3 (KeepBut.of_below hb g none) (.inl rfl)); have n2_ := Aside0.mk (below_step zz5 hb); clear HI0; clear HK; clear HB; have HI0 := n0_; have HK := n1_; have HB := n2_; clear n0_ n1_ n2_; (try clear hb); (try clear hb2); (try clear hk); (try clear hi)))
        go_ret2
        exact ⟨zz4, zz6, zz5, zz3⟩
    · replace c21 := Bool.eq_false_iff.mpr c21
      subst c21
      have H1 : (some ((⟨#[]⟩ : ByteArray), false, t178, t179)) = some (r1, r2, r3, r4) := by rw [if_neg (show ¬ (false = true) by decide)] at H; exact H
      clear H
      have H := H1
      clear H1
      simp only [Option.some.injEq, Prod.mk.injEq] at H
      obtain ⟨rfl, rfl, rfl, rfl⟩ := H
      go_enter Tryz.func59, Tryz.ntmps59
      go_wp2_with (first | ((with_reducible refine gate_callee (f := 10) rfl ?_); refine goesL_ (some 11) rfl rfl Tryz.func10 zz29 rfl #[.pointer (some ⟨g, 0, none⟩), .string (⟨#[39]⟩ : ByteArray)] rfl zz1 ?_; (with_reducible refine (token_walk_string_is.calls g s0_0 s0_1 (⟨#[39]⟩ : ByteArray) false t166 t167 w0 _ ?side1 ?side2 A2.out).mono ?_); (case side1 => exact zz6); (case side2 => exact zz5); rintro e w41 ⟨rfl, hi, hb, hk⟩; refine ⟨_, rfl, ?_⟩; have n0_ := Aside0.mk (KeepBut.trans zz3 hk (.inl rfl)); have n1_ := Aside0.mk (hb); have n2_ := Aside0.mk (hi); clear HK; clear HB; clear HI0; have HK := n0_; have HB := n1_; have HI0 := n2_; clear n0_ n1_ n2_; (try clear hb); (try clear hb2); (try clear hk); (try clear hi)) | ((with_reducible refine gate_callee (f := 10) rfl ?_); refine goesL_ (some 15) rfl rfl Tryz.func10 zz29 rfl #[.pointer (some ⟨g, 0, none⟩), .string (⟨#[34]⟩ : ByteArray)] rfl zz1 ?_; (with_reducible refine (token_walk_string_is.calls g t166 t167 (⟨#[34]⟩ : ByteArray) false t178 t179 w0 _ ?side1 ?side2 A20.out).mono ?_); (case side1 => exact zz6); (case side2 => exact zz5); rintro e w42 ⟨rfl, hi, hb, hk⟩; refine ⟨_, rfl, ?_⟩; have n0_ := Aside0.mk (KeepBut.trans zz3 hk (.inl rfl)); have n1_ := Aside0.mk (hb); have n2_ := Aside0.mk (hi); clear HK; clear HB; clear HI0; have HK := n0_; have HB := n1_; have HI0 := n2_; clear n0_ n1_ n2_; (try clear hb); (try clear hb2); (try clear hk); (try clear hi)))
      go_ret2
      exact ⟨zz4, zz6, zz5, zz3⟩
def token_attr.j0 : Nat → Bool → ByteArray → ByteArray → ByteArray → ByteArray → Option (ByteArray × ByteArray × Bool × ByteArray × ByteArray)
  | 0, _, _, _, _, _ => none
  | k + 1, x19, x1000, x1001, x194000, x194001 => if x19 = true then (some (x194000, x194001, false, x1000, x1001)) else ((token_run_string.f x1000 x1001 (⟨#[9, 10, 13, 32]⟩ : ByteArray)).bind fun bt200 => ((token_value.f bt200.2.1 bt200.2.2).bind fun bt203 => (some (x194000, bt203.1, bt203.2.1, bt203.2.2.1, bt203.2.2.2))))
def token_attr.f (k : Nat) (s0_0 : ByteArray) (s0_1 : ByteArray) : Option (ByteArray × ByteArray × Bool × ByteArray × ByteArray) := (token_name.f s0_0 s0_1).bind fun bt190 => ((token_run_string.f bt190.2.1 bt190.2.2 (⟨#[9, 10, 13, 32]⟩ : ByteArray)).bind fun bt194 => (if bt190.1.toList = ([] : List UInt8) then (token_attr.j0 k true bt194.2.1 bt194.2.2 bt190.1 (⟨#[]⟩ : ByteArray)) else ((token_walk_string_is.f bt194.2.1 bt194.2.2 (⟨#[61]⟩ : ByteArray)).bind fun bt197 => (token_attr.j0 k (!bt197.1) bt197.2.1 bt197.2.2 bt190.1 (⟨#[]⟩ : ByteArray)))))
theorem token_attr.mono_l : ∀ k, (∀ y0 y1 y2 y3 y4, LeO (token_attr.j0 k y0 y1 y2 y3 y4) (token_attr.j0 (k + 1) y0 y1 y2 y3 y4))
  | 0 => fun _ _ _ _ _ r h => by simp [token_attr.j0] at h
  | k + 1 => by
    have ih0 := token_attr.mono_l k
    · intro y0 y1 y2 y3 y4
      unfold token_attr.j0
      repeat' first
      | (with_reducible exact ih0 _ _ _ _ _)
      | (with_reducible exact LeO.refl _)
      | (with_reducible exact LeO.none _)
      | (with_reducible refine LeO.ite ?_ ?_)
      | (with_reducible refine LeO.bind ?_ (fun _ => ?_))
      | exact ih0 _ _ _ _ _
      | exact LeO.none _
      | refine LeO.ite ?_ ?_
      | refine LeO.bind ?_ (fun _ => ?_)
theorem token_attr.mono : ∀ a0 a1 k, LeO (token_attr.f k a0 a1) (token_attr.f (k + 1) a0 a1) := by
  intro a0 a1 k
  have ih0 := token_attr.mono_l k
  unfold token_attr.f
  repeat' first
      | (with_reducible exact ih0 _ _ _ _ _)
      | (with_reducible exact LeO.refl _)
      | (with_reducible exact LeO.none _)
      | (with_reducible refine LeO.ite ?_ ?_)
      | (with_reducible refine LeO.bind ?_ (fun _ => ?_))
      | exact ih0 _ _ _ _ _
      | exact LeO.none _
      | refine LeO.ite ?_ ?_
      | refine LeO.bind ?_ (fun _ => ?_)
set_option maxHeartbeats 8000000 in
set_option maxRecDepth 100000 in
theorem token_attr.calls (k : Nat) (g : Nat) (s0_0 : ByteArray) (s0_1 : ByteArray) (r1 : ByteArray) (r2 : ByteArray) (r3 : Bool) (r4 : ByteArray) (r5 : ByteArray) (w0 w : World) (hI : IsS35 w0 w g s0_0 s0_1) (hB : Below w0.heap.size w0 w) (h : token_attr.f k s0_0 s0_1 = some (r1, r2, r3, r4, r5)) (hT : Tabs w0) :
    Calls Tryz.prog 37 #[.pointer (some ⟨g, 0, none⟩)] w fun e w' => e = .returned (.tuple #[.agg #[.string r1, .string r2], .bool r3]) ∧ IsS35 w0 w' g r4 r5 ∧ Below w0.heap.size w0 w' ∧ KeepBut w w' g none := by
  have hu45 := Tryz.underlying45
  have HT := Aside0.mk hT
  clear hT
  have HI0 := Aside0.mk hI
  have HK := Aside0.mk (KeepBut.refl w g none)
  have HL := Aside0.mk hB.size
  clear hI
  have HW0 := Aside0.mk hB.size
  have HB := Aside0.mk hB
  clear hB
  have H : ((token_name.f s0_0 s0_1).bind fun bt190 => ((token_run_string.f bt190.2.1 bt190.2.2 (⟨#[9, 10, 13, 32]⟩ : ByteArray)).bind fun bt194 => (if bt190.1.toList = ([] : List UInt8) then (token_attr.j0 k true bt194.2.1 bt194.2.2 bt190.1 (⟨#[]⟩ : ByteArray)) else ((token_walk_string_is.f bt194.2.1 bt194.2.2 (⟨#[61]⟩ : ByteArray)).bind fun bt197 => (token_attr.j0 k (!bt197.1) bt197.2.1 bt197.2.2 bt190.1 (⟨#[]⟩ : ByteArray)))))) = some (r1, r2, r3, r4, r5) := h
  clear h
  replace H := Option.bind_eq_some_iff.mp H
  obtain ⟨⟨t190, t191, t192⟩, A20, H⟩ := H
  replace H : ((token_run_string.f t191 t192 (⟨#[9, 10, 13, 32]⟩ : ByteArray)).bind fun bt194 => (if t190.toList = ([] : List UInt8) then (token_attr.j0 k true bt194.2.1 bt194.2.2 t190 (⟨#[]⟩ : ByteArray)) else ((token_walk_string_is.f bt194.2.1 bt194.2.2 (⟨#[61]⟩ : ByteArray)).bind fun bt197 => (token_attr.j0 k (!bt197.1) bt197.2.1 bt197.2.2 t190 (⟨#[]⟩ : ByteArray))))) = some (r1, r2, r3, r4, r5) := H
  have A2 := Aside0.mk A20
  clear A20
  replace H := Option.bind_eq_some_iff.mp H
  obtain ⟨⟨t194, t195, t196⟩, A30, H⟩ := H
  replace H : (if t190.toList = ([] : List UInt8) then (token_attr.j0 k true t195 t196 t190 (⟨#[]⟩ : ByteArray)) else ((token_walk_string_is.f t195 t196 (⟨#[61]⟩ : ByteArray)).bind fun bt197 => (token_attr.j0 k (!bt197.1) bt197.2.1 bt197.2.2 t190 (⟨#[]⟩ : ByteArray)))) = some (r1, r2, r3, r4, r5) := H
  have A3 := Aside0.mk A30
  clear A30
  have HC4 := Aside0.mk H
  clear H
  go_enter Tryz.func37, Tryz.ntmps37
  go_upto_region 3 with (first | ((with_reducible refine gate_dst (N := 2) rfl ?_); refine box_event ?hg (N := 2) ?hd (cs := #[.string (⟨#[]⟩ : ByteArray), .string (⟨#[]⟩ : ByteArray)]) (t := 45) ?hr ?_; (case hd => rfl); (case hg => rfl); (case hr => exact zz28); intro gb189 hg w5 hbox hb; have n0_ := Aside0.mk (IsS35.below zz6 hb); have n1_ := Aside0.mk (KeepBut.trans zz3 (KeepBut.of_below hb g none) (.inl rfl)); have n2_ := Aside0.mk (below_step zz5 hb); have n3_ := Aside0.mk (hbox); have n4_ := Aside0.mk ((by rw [hg]; exact (keep_size (w := w) (g := g) (row := none) zz3) : w.heap.size ≤ gb189)); have n5_ := Aside0.mk ((Nat.le_trans HW0.out (by rw [hg]; exact (keep_size (w := w) (g := g) (row := none) zz3) : w.heap.size ≤ gb189) : w0.heap.size ≤ gb189)); have n6_ := Aside0.mk ((by rw [hg]; exact Nat.ne_of_lt (IsS35.lt (show IsS35 w0 _ g s0_0 s0_1 from by repeat (first | (with_reducible first | exact HI0.out | apply IsS35.alloc | apply IsS35.drewN | apply IsS35.drew | apply IsS35.set_0 | apply IsS35.set_1) | exact HI0.out))) : g ≠ gb189)); have n7_ := Aside0.mk ((by rw [hg]; exact Nat.ne_of_gt (IsS35.lt (show IsS35 w0 _ g s0_0 s0_1 from by repeat (first | (with_reducible first | exact HI0.out | apply IsS35.alloc | apply IsS35.drewN | apply IsS35.drew | apply IsS35.set_0 | apply IsS35.set_1) | exact HI0.out))) : gb189 ≠ g)); clear HI0; clear HK; clear HB; have HI0 := n0_; have HK := n1_; have HB := n2_; have BK189 := n3_; have GW189 := n4_; have GE189 := n5_; have NB0_189 := n6_; have NB189_0 := n7_; clear n0_ n1_ n2_ n3_ n4_ n5_ n6_ n7_; clear hb hbox hg) | ((with_reducible refine gate_callee (f := 35) rfl ?_); refine goesL_ (some 8) rfl rfl Tryz.func35 zz29 rfl #[.pointer (some ⟨g, 0, none⟩)] rfl zz1 ?_; (with_reducible refine (token_name.calls g s0_0 s0_1 t190 t191 t192 w0 _ ?side1 ?side2 A2.out HT.out).mono ?_); (case side1 => exact (by repeat (first | (with_reducible first | exact HI0.out | apply IsS35.alloc | apply IsS35.drewN | apply IsS35.drew | apply IsS35.set_0 | apply IsS35.set_1 | refine IsS35.far ?_ NB0_189.out _) | exact HI0.out))); (case side2 => exact (by repeat (first | (with_reducible first | exact HB.out | apply below_alloc | apply pw_below_drewN | apply below_drew1 | refine below_set ?_ (IsS35.ge HI0.out) | refine below_set ?_ GE189.out) | exact HB.out))); rintro e w6 ⟨rfl, hi, hb, hk⟩; refine ⟨_, rfl, ?_⟩; have n0_ := Aside0.mk (KeepBut.blk hk (g' := gb189) (o := .cells #[.string (⟨#[]⟩ : ByteArray), .string (⟨#[]⟩ : ByteArray)] 45 (0, 0)) zz62 NB189_0.out (by simp)); have n1_ := Aside0.mk (KeepBut.trans zz73 hk (.inl rfl)); have n2_ := Aside0.mk (hb); have n3_ := Aside0.mk (hi); clear BK189; clear HK; clear HB; clear HI0; have BK189 := n0_; have HK := n1_; have HB := n2_; have HI0 := n3_; clear n0_ n1_ n2_ n3_; (try clear hb); (try clear hb2); (try clear hk); (try clear hi)) | ((with_reducible refine gate_dst (N := 4) rfl ?_); refine box_event ?hg (N := 4) ?hd (cs := #[.string (⟨#[]⟩ : ByteArray), .string (⟨#[]⟩ : ByteArray)]) (t := 45) ?hr ?_; (case hd => rfl); (case hg => rfl); (case hr => exact zz28); intro gb193 hg w7 hbox hb; have n0_ := Aside0.mk (IsS35.below (by repeat (first | (with_reducible first | exact HI0.out | apply IsS35.alloc | apply IsS35.drewN | apply IsS35.drew | apply IsS35.set_0 | apply IsS35.set_1 | refine IsS35.far ?_ NB0_189.out _) | exact HI0.out)) hb); have n1_ := Aside0.mk (blk_below (g := gb189) (o := .cells #[.string (⟨#[]⟩ : ByteArray), .string (⟨#[]⟩ : ByteArray)] 45 (0, 0)) zz62 hb); have n2_ := Aside0.mk (KeepBut.trans zz73 (KeepBut.of_below hb g none) (.inl rfl)); have n3_ := Aside0.mk (below_step (by repeat (first | (with_reducible first | exact HB.out | apply below_alloc | apply pw_below_drewN | apply below_drew1 | refine below_set ?_ (IsS35.ge HI0.out) | refine below_set ?_ GE189.out) | exact HB.out)) hb); have n4_ := Aside0.mk (hbox); have n5_ := Aside0.mk ((by rw [hg]; exact (keep_size (w := w) (g := g) (row := none) zz73) : w.heap.size ≤ gb193)); have n6_ := Aside0.mk ((Nat.le_trans HW0.out (by rw [hg]; exact (keep_size (w := w) (g := g) (row := none) zz73) : w.heap.size ≤ gb193) : w0.heap.size ≤ gb193)); have n7_ := Aside0.mk ((by rw [hg]; exact Nat.ne_of_lt (blk_lt (g := gb189) (o := .cells #[.string (⟨#[]⟩ : ByteArray), .string (⟨#[]⟩ : ByteArray)] 45 (0, 0)) zz62) : gb189 ≠ gb193)); have n8_ := Aside0.mk ((by rw [hg]; exact Nat.ne_of_gt (blk_lt (g := gb189) (o := .cells #[.string (⟨#[]⟩ : ByteArray), .string (⟨#[]⟩ : ByteArray)] 45 (0, 0)) zz62) : gb193 ≠ gb189)); have n9_ := Aside0.mk ((by rw [hg]; exact Nat.ne_of_lt (IsS35.lt (show IsS35 w0 _ g t191 t192 from by repeat (first | (with_reducible first | exact HI0.out | apply IsS35.alloc | apply IsS35.drewN | apply IsS35.drew | apply IsS35.set_0 | apply IsS35.set_1 | refine IsS35.far ?_ NB0_189.out _) | exact HI0.out))) : g ≠ gb193)); have n10_ := Aside0.mk ((by rw [hg]; exact Nat.ne_of_gt (IsS35.lt (show IsS35 w0 _ g t191 t192 from by repeat (first | (with_reducible first | exact HI0.out | apply IsS35.alloc | apply IsS35.drewN | apply IsS35.drew | apply IsS35.set_0 | apply IsS35.set_1 | refine IsS35.far ?_ NB0_189.out _) | exact HI0.out))) : gb193 ≠ g)); clear HI0; clear BK189; clear HK; clear HB; have HI0 := n0_; have BK189 := n1_; have HK := n2_; have HB := n3_; have BK193 := n4_; have GW193 := n5_; have GE193 := n6_; have NB189_193 := n7_; have NB193_189 := n8_; have NB0_193 := n9_; have NB193_0 := n10_; clear n0_ n1_ n2_ n3_ n4_ n5_ n6_ n7_ n8_ n9_ n10_; clear hb hbox hg; have hnb8 := NB193_189.out; have hnc8 := NB189_193.out; have hnb9 := NB193_0.out; have hnc9 := NB0_193.out; have hcz10_0 : w7.cell? ⟨gb193, 0, none⟩ = some (.string (⟨#[]⟩ : ByteArray)) := (blk_cell BK193.out 0).trans rfl; have hcz10_1 : w7.cell? ⟨gb193, 1, none⟩ = some (.string (⟨#[]⟩ : ByteArray)) := (blk_cell BK193.out 1).trans rfl; have hfz10_0 := blk_frozen BK193.out 0; have hfz10_1 := blk_frozen BK193.out 1) | ((with_reducible refine gate_callee (f := 36) rfl ?_); refine goesL_ (some 11) rfl rfl Tryz.func36 zz29 rfl #[.pointer (some ⟨g, 0, none⟩), .string (⟨#[9, 10, 13, 32]⟩ : ByteArray)] rfl zz1 ?_; (with_reducible refine (token_run_string.calls g t191 t192 (⟨#[9, 10, 13, 32]⟩ : ByteArray) t194 t195 t196 w0 _ ?side1 ?side2 A3.out).mono ?_); (case side1 => exact zz39); (case side2 => exact zz41); rintro e w11 ⟨rfl, hi, hb, hk⟩; refine ⟨_, rfl, ?_⟩; have n0_ := Aside0.mk (KeepBut.blk hk (g' := gb189) (o := .cells #[.string (⟨#[]⟩ : ByteArray), .string (⟨#[]⟩ : ByteArray)] 45 (0, 0)) (by (with_reducible repeat (first | refine blk_drewN ?_ _ | refine blk_drew ?_ | refine blk_alloc ?_ _)); refine blk_far ?_ NB189_193.out _; (with_reducible repeat (first | refine blk_drewN ?_ _ | refine blk_drew ?_ | refine blk_alloc ?_ _)); refine blk_far ?_ NB189_193.out _; (with_reducible repeat (first | refine blk_drewN ?_ _ | refine blk_drew ?_ | refine blk_alloc ?_ _)); exact BK189.out) NB189_0.out (by simp)); have n1_ := Aside0.mk (KeepBut.blk hk (g' := gb193) (o := .cells #[.string t190, .string (⟨#[]⟩ : ByteArray)] 45 (0, 0)) (by (with_reducible repeat (first | refine blk_drewN ?_ _ | refine blk_drew ?_ | refine blk_alloc ?_ _)); refine blk_put (cs := #[.string t190, .string (⟨#[]⟩ : ByteArray)]) ?_ 1 _ rfl; (with_reducible repeat (first | refine blk_drewN ?_ _ | refine blk_drew ?_ | refine blk_alloc ?_ _)); refine blk_put (cs := #[.string (⟨#[]⟩ : ByteArray), .string (⟨#[]⟩ : ByteArray)]) ?_ 0 _ rfl; (with_reducible repeat (first | refine blk_drewN ?_ _ | refine blk_drew ?_ | refine blk_alloc ?_ _)); exact BK193.out) NB193_0.out (by simp)); have n2_ := Aside0.mk (KeepBut.trans zz44 hk (.inl rfl)); have n3_ := Aside0.mk (hb); have n4_ := Aside0.mk (hi); clear BK189; clear BK193; clear HK; clear HB; clear HI0; have BK189 := n0_; have BK193 := n1_; have HK := n2_; have HB := n3_; have HI0 := n4_; clear n0_ n1_ n2_ n3_ n4_; (try clear hb); (try clear hb2); (try clear hk); (try clear hi)))
  (try simp only [Act.put, List.setIfInBounds_toArray, List.set_cons_zero, List.set_cons_succ])
  go_cut [19] (fun v19 wc => ∃ (kq : Nat) (x19_3 : Bool) (x1000_3 : ByteArray) (x1001_3 : ByteArray), v19 = .bool x19_3 ∧ Aside0 (token_attr.j0 kq x19_3 x1000_3 x1001_3 t190 (⟨#[]⟩ : ByteArray) = some (r1, r2, r3, r4, r5)) ∧ Aside0 (kq ≤ k) ∧ Aside0 (wc.heap[gb189]? = some (.cells #[.string (⟨#[]⟩ : ByteArray), .string (⟨#[]⟩ : ByteArray)] 45 (0, 0))) ∧ Aside0 (wc.heap[gb193]? = some (.cells #[.string t190, .string (⟨#[]⟩ : ByteArray)] 45 (0, 0))) ∧ Aside0 (IsS35 w0 wc g x1000_3 x1001_3) ∧ Aside0 (KeepBut w wc g none) ∧ Aside0 (Below w0.heap.size w0 wc))
  case first =>
    have H := HC4.out
    clear HC4
    by_cases c12 : t190.toList = ([] : List UInt8)
    · rw [if_pos c12] at H
      have c12b0 : (t190.toList == ([] : List UInt8)) = true := beq_iff_eq.mpr c12
      have c12b1 : (t190.toList != ([] : List UInt8)) = false := bne_eq_false_iff_eq.mpr c12
      clear c12
      (first | rw [c12b0] | (simp only [i64_w, i32_w]; rw [c12b0]) | skip)
      have H' := Aside0.mk H
      clear H
      have hnb13 := NB193_189.out
      have hnc13 := NB189_193.out
      have hnb14 := NB193_0.out
      have hnc14 := NB0_193.out
      have hcz15_0 : w11.cell? ⟨gb193, 0, none⟩ = some (.string t190) := (blk_cell BK193.out 0).trans rfl
      have hcz15_1 : w11.cell? ⟨gb193, 1, none⟩ = some (.string (⟨#[]⟩ : ByteArray)) := (blk_cell BK193.out 1).trans rfl
      have hfz15_0 := blk_frozen BK193.out 0
      have hfz15_1 := blk_frozen BK193.out 1
      go_wp2
      go_meet
      case rel => exact ⟨_, (true), (t195), (t196), zz2, H', ⟨by first | omega | exact Nat.le_refl _⟩, ⟨zz62⟩, ⟨zz81⟩, ⟨zz39⟩, ⟨zz44⟩, ⟨zz41⟩⟩
    · rw [if_neg c12] at H
      have c12b0 : (t190.toList == ([] : List UInt8)) = false := beq_eq_false_iff_ne.mpr c12
      have c12b1 : (t190.toList != ([] : List UInt8)) = true := bne_iff_ne.mpr c12
      (first | rw [c12b0] | (simp only [i64_w, i32_w]; rw [c12b0]) | skip)
      replace H := Option.bind_eq_some_iff.mp H
      obtain ⟨⟨t197, t198, t199⟩, A160, H⟩ := H
      replace H : (token_attr.j0 k (!t197) t198 t199 t190 (⟨#[]⟩ : ByteArray)) = some (r1, r2, r3, r4, r5) := H
      have A16 := Aside0.mk A160
      clear A160
      have H' := Aside0.mk H
      clear H
      have hnb17 := NB193_189.out
      have hnc17 := NB189_193.out
      have hnb18 := NB193_0.out
      have hnc18 := NB0_193.out
      have hcz19_0 : w11.cell? ⟨gb193, 0, none⟩ = some (.string t190) := (blk_cell BK193.out 0).trans rfl
      have hcz19_1 : w11.cell? ⟨gb193, 1, none⟩ = some (.string (⟨#[]⟩ : ByteArray)) := (blk_cell BK193.out 1).trans rfl
      have hfz19_0 := blk_frozen BK193.out 0
      have hfz19_1 := blk_frozen BK193.out 1
      go_wp2_with (first | (go_at_call 10; (with_reducible refine (token_walk_string_is.calls g t195 t196 (⟨#[61]⟩ : ByteArray) t197 t198 t199 w0 _ ?side1 ?side2 A16.out).mono ?_); (case side1 => exact zz39); (case side2 => exact zz41); rintro e w20 ⟨rfl, hi, hb, hk⟩; have n0_ := Aside0.mk (KeepBut.blk hk (g' := gb189) (o := .cells #[.string (⟨#[]⟩ : ByteArray), .string (⟨#[]⟩ : ByteArray)] 45 (0, 0)) zz62 NB189_0.out (by simp)); have n1_ := Aside0.mk (KeepBut.blk hk (g' := gb193) (o := .cells #[.string t190, .string (⟨#[]⟩ : ByteArray)] 45 (0, 0)) zz81 NB193_0.out (by simp)); have n2_ := Aside0.mk (KeepBut.trans zz44 hk (.inl rfl)); have n3_ := Aside0.mk (hb); have n4_ := Aside0.mk (hi); clear BK189; clear BK193; clear HK; clear HB; clear HI0; have BK189 := n0_; have BK193 := n1_; have HK := n2_; have HB := n3_; have HI0 := n4_; clear n0_ n1_ n2_ n3_ n4_; (try clear hb); (try clear hb2); (try clear hk); (try clear hi)))
      go_meet
      case rel => exact ⟨_, (!t197), (t198), (t199), zz2, H', ⟨by first | omega | exact Nat.le_refl _⟩, ⟨zz62⟩, ⟨zz81⟩, ⟨zz39⟩, ⟨zz44⟩, ⟨zz41⟩⟩
  case rest =>
    clear HC4
    try clear c1
    try clear p2
    try clear c3
    try clear c8
    try clear c9
    try clear c12
    try clear c12b0
    try clear c12b1
    try clear c13
    try clear c14
    try clear c17
    try clear c18
    try clear hcz10_0
    try clear hcz10_1
    try clear hcz15_0
    try clear hcz15_1
    try clear hcz19_0
    try clear hcz19_1
    try clear hfz10_0
    try clear hfz10_1
    try clear hfz15_0
    try clear hfz15_1
    try clear hfz19_0
    try clear hfz19_1
    obtain ⟨kq, x19_3, x1000_3, x1001_3, rfl, HA, HJ3, BK189, BK193, HI0, HK, HB⟩ := hcut
    cases kq with
    | zero => exact absurd HA.out (by simp [token_attr.j0])
    | succ kj3 =>
      have H := HA.out
      clear HA
      simp only [token_attr.j0] at H
      by_cases c21 : x19_3 = true
      · subst c21
        have H1 : (some (t190, (⟨#[]⟩ : ByteArray), false, x1000_3, x1001_3)) = some (r1, r2, r3, r4, r5) := by rw [if_pos rfl] at H; exact H
        clear H
        have H := H1
        clear H1
        simp only [Option.some.injEq, Prod.mk.injEq] at H
        obtain ⟨rfl, rfl, rfl, rfl, rfl⟩ := H
        have hnb22 := NB193_189.out
        have hnc22 := NB189_193.out
        have hnb23 := NB193_0.out
        have hnc23 := NB0_193.out
        have hcz24_0 : wc.cell? ⟨gb193, 0, none⟩ = some (.string t190) := (blk_cell BK193.out 0).trans rfl
        have hcz24_1 : wc.cell? ⟨gb193, 1, none⟩ = some (.string (⟨#[]⟩ : ByteArray)) := (blk_cell BK193.out 1).trans rfl
        have hfz24_0 := blk_frozen BK193.out 0
        have hfz24_1 := blk_frozen BK193.out 1
        have hnb25 := NB189_0.out
        have hnc25 := NB0_189.out
        have hcz26_0 : wc.cell? ⟨gb189, 0, none⟩ = some (.string (⟨#[]⟩ : ByteArray)) := (blk_cell BK189.out 0).trans rfl
        have hcz26_1 : wc.cell? ⟨gb189, 1, none⟩ = some (.string (⟨#[]⟩ : ByteArray)) := (blk_cell BK189.out 1).trans rfl
        have hfz26_0 := blk_frozen BK189.out 0
        have hfz26_1 := blk_frozen BK189.out 1
        go_wp2
        refine bodyPost_ret (results_ct rfl _ _ gb189 45 #[.string t190, .string (⟨#[]⟩ : ByteArray)] (0, 0) _ rfl (by (with_reducible repeat (first | refine blk_drewN ?_ _ | refine blk_drew ?_ | refine blk_alloc ?_ _)); refine blk_put (cs := #[.string t190, .string (⟨#[]⟩ : ByteArray)]) ?_ 1 _ rfl; (with_reducible repeat (first | refine blk_drewN ?_ _ | refine blk_drew ?_ | refine blk_alloc ?_ _)); refine blk_put (cs := #[.string (⟨#[]⟩ : ByteArray), .string (⟨#[]⟩ : ByteArray)]) ?_ 0 _ rfl; (with_reducible repeat (first | refine blk_drewN ?_ _ | refine blk_drew ?_ | refine blk_alloc ?_ _)); exact BK189.out) Tryz.underlying45 rfl zz29) rfl ?_
        exact ⟨zz4, zz39, zz41, zz44⟩
      · replace c21 := Bool.eq_false_iff.mpr c21
        subst c21
        have H1 : ((token_run_string.f x1000_3 x1001_3 (⟨#[9, 10, 13, 32]⟩ : ByteArray)).bind fun bt200 => ((token_value.f bt200.2.1 bt200.2.2).bind fun bt203 => (some (t190, bt203.1, bt203.2.1, bt203.2.2.1, bt203.2.2.2)))) = some (r1, r2, r3, r4, r5) := by rw [if_neg (show ¬ (false = true) by decide)] at H; exact H
        clear H
        have H := H1
        clear H1
        replace H := Option.bind_eq_some_iff.mp H
        obtain ⟨⟨t200, t201, t202⟩, A270, H⟩ := H
        replace H : ((token_value.f t201 t202).bind fun bt203 => (some (t190, bt203.1, bt203.2.1, bt203.2.2.1, bt203.2.2.2))) = some (r1, r2, r3, r4, r5) := H
        have A27 := Aside0.mk A270
        clear A270
        replace H := Option.bind_eq_some_iff.mp H
        obtain ⟨⟨t203, t204, t205, t206⟩, A280, H⟩ := H
        replace H : (some (t190, t203, t204, t205, t206)) = some (r1, r2, r3, r4, r5) := H
        have A28 := Aside0.mk A280
        clear A280
        simp only [Option.some.injEq, Prod.mk.injEq] at H
        obtain ⟨rfl, rfl, rfl, rfl, rfl⟩ := H
        go_wp2_with (first | ((with_reducible refine gate_callee (f := 36) rfl ?_); refine goesL_ (some 22) rfl rfl Tryz.func36 zz29 rfl #[.pointer (some ⟨g, 0, none⟩), .string (⟨#[9, 10, 13, 32]⟩ : ByteArray)] rfl zz1 ?_; (with_reducible refine (token_run_string.calls g x1000_3 x1001_3 (⟨#[9, 10, 13, 32]⟩ : ByteArray) t200 t201 t202 w0 _ ?side1 ?side2 A27.out).mono ?_); (case side1 => exact zz39); (case side2 => exact zz41); rintro e w29 ⟨rfl, hi, hb, hk⟩; refine ⟨_, rfl, ?_⟩; have n0_ := Aside0.mk (KeepBut.blk hk (g' := gb189) (o := .cells #[.string (⟨#[]⟩ : ByteArray), .string (⟨#[]⟩ : ByteArray)] 45 (0, 0)) zz62 NB189_0.out (by simp)); have n1_ := Aside0.mk (KeepBut.blk hk (g' := gb193) (o := .cells #[.string t190, .string (⟨#[]⟩ : ByteArray)] 45 (0, 0)) zz81 NB193_0.out (by simp)); have n2_ := Aside0.mk (KeepBut.trans zz44 hk (.inl rfl)); have n3_ := Aside0.mk (hb); have n4_ := Aside0.mk (hi); clear BK189; clear BK193; clear HK; clear HB; clear HI0; have BK189 := n0_; have BK193 := n1_; have HK := n2_; have HB := n3_; have HI0 := n4_; clear n0_ n1_ n2_ n3_ n4_; (try clear hb); (try clear hb2); (try clear hk); (try clear hi)) | ((with_reducible refine gate_callee (f := 59) rfl ?_); refine goesL_ (some 25) rfl rfl Tryz.func59 zz29 rfl #[.pointer (some ⟨g, 0, none⟩)] rfl zz1 ?_; (with_reducible refine (token_value.calls g t201 t202 t203 t204 t205 t206 w0 _ ?side1 ?side2 A28.out HT.out).mono ?_); (case side1 => exact zz39); (case side2 => exact zz41); rintro e w30 ⟨rfl, hi, hb, hk⟩; refine ⟨_, rfl, ?_⟩; have n0_ := Aside0.mk (KeepBut.blk hk (g' := gb189) (o := .cells #[.string (⟨#[]⟩ : ByteArray), .string (⟨#[]⟩ : ByteArray)] 45 (0, 0)) zz62 NB189_0.out (by simp)); have n1_ := Aside0.mk (KeepBut.blk hk (g' := gb193) (o := .cells #[.string t190, .string (⟨#[]⟩ : ByteArray)] 45 (0, 0)) zz81 NB193_0.out (by simp)); have n2_ := Aside0.mk (KeepBut.trans zz44 hk (.inl rfl)); have n3_ := Aside0.mk (hb); have n4_ := Aside0.mk (hi); clear BK189; clear BK193; clear HK; clear HB; clear HI0; have BK189 := n0_; have BK193 := n1_; have HK := n2_; have HB := n3_; have HI0 := n4_; clear n0_ n1_ n2_ n3_ n4_; (try clear hb); (try clear hb2); (try clear hk); (try clear hi); have hnb31 := NB193_189.out; have hnc31 := NB189_193.out; have hnb32 := NB193_0.out; have hnc32 := NB0_193.out; have hcz33_0 : w30.cell? ⟨gb193, 0, none⟩ = some (.string t190) := (blk_cell BK193.out 0).trans rfl; have hcz33_1 : w30.cell? ⟨gb193, 1, none⟩ = some (.string (⟨#[]⟩ : ByteArray)) := (blk_cell BK193.out 1).trans rfl; have hfz33_0 := blk_frozen BK193.out 0; have hfz33_1 := blk_frozen BK193.out 1; have hnb34 := NB189_0.out; have hnc34 := NB0_189.out; have hcz35_0 : w30.cell? ⟨gb189, 0, none⟩ = some (.string (⟨#[]⟩ : ByteArray)) := (blk_cell BK189.out 0).trans rfl; have hcz35_1 : w30.cell? ⟨gb189, 1, none⟩ = some (.string (⟨#[]⟩ : ByteArray)) := (blk_cell BK189.out 1).trans rfl; have hfz35_0 := blk_frozen BK189.out 0; have hfz35_1 := blk_frozen BK189.out 1))
        refine bodyPost_ret (results_ct rfl _ _ gb189 45 #[.string t190, .string t203] (0, 0) _ rfl (by (with_reducible repeat (first | refine blk_drewN ?_ _ | refine blk_drew ?_ | refine blk_alloc ?_ _)); refine blk_put (cs := #[.string t190, .string (⟨#[]⟩ : ByteArray)]) ?_ 1 _ rfl; (with_reducible repeat (first | refine blk_drewN ?_ _ | refine blk_drew ?_ | refine blk_alloc ?_ _)); refine blk_put (cs := #[.string (⟨#[]⟩ : ByteArray), .string (⟨#[]⟩ : ByteArray)]) ?_ 0 _ rfl; (with_reducible repeat (first | refine blk_drewN ?_ _ | refine blk_drew ?_ | refine blk_alloc ?_ _)); refine blk_far ?_ NB189_193.out _; (with_reducible repeat (first | refine blk_drewN ?_ _ | refine blk_drew ?_ | refine blk_alloc ?_ _)); exact BK189.out) Tryz.underlying45 rfl zz29) rfl ?_
        exact ⟨zz4, zz39, zz41, zz44⟩
theorem token_open_1.hof (x : S45) (gb : Nat) (s0 s1 : ByteArray) (w : World) (hbox : w.heap[gb]? = some (.cells #[.string s0, .string s1] 45 (0, 0))) :
    Calls Tryz.prog 39 #[.agg #[.string x.f0, .string x.f1], .pointer (some ⟨gb, 0, none⟩)] w fun e w' => e = .returned (.bool (x.f0.toList == s0.toList)) ∧ Below w.heap.size w w' := by
  go_enter Tryz.func39, Tryz.ntmps39
  have hlt := blk_lt hbox
  have hc : w.cell? ⟨gb, 0, none⟩ = some (.string s0) := (blk_cell hbox 0).trans rfl
  go_wp2
  go_ret
  exact ⟨rfl, below_alloc (Below.refl _ _) _⟩
set_option maxHeartbeats 2000000 in
theorem api_Attr_60.hof (A0 : Option Addr) (c0 : Nat) (l0 : List S45) (F : Nat) (caps : Array Value) (g : S45 → Bool) (w : World)
    (hr0 : Kd.C k45 w A0 l0.length l0) (hl : l0.length ≤ 140737488351232) (hF : IsFn Tryz.prog F)
    (hg : ∀ (x : S45) (W : World), x ∈ l0 → Below w.heap.size w W → Calls Tryz.prog F (#[.agg #[.string x.f0, .string x.f1]] ++ caps) W fun e W' => e = .returned (.bool (g x)) ∧ Below W.heap.size W W') :
    Calls Tryz.prog 60 #[.slice A0 l0.length c0, .func (.func F) #[] caps] w fun e w' => e = .returned (.int .i64 (idxP g l0)) ∧ Below w.heap.size w w' := by
  have HB := Aside0.mk (Below.refl w.heap.size w)
  have HR := Aside0.mk hr0
  have HG := Aside0.mk hg
  clear hr0 hg
  go_enter Tryz.func60, Tryz.ntmps60
  go_wp2
  go_loopg [5, 8] (l0.length + 1) (fun gk v5 v8 wr => ∃ i : Nat, i ≤ l0.length ∧ v8 = .int .i64 i ∧ Aside0 (∀ j (hj : j < i) (hj' : j < l0.length), g (l0[j]'hj') = false) ∧ l0.length < gk + i ∧ Aside0 (Below w.heap.size w wr))
  case atStart => exact ⟨0, Nat.zero_le _, rfl, ⟨fun j hj => absurd hj (by omega)⟩, by omega, HB⟩
  case round =>
    clear HB
    obtain ⟨i, hi, rfl, HN, hk, HB⟩ := hrel
    by_cases hlt : i < l0.length
    · obtain ⟨k', rfl⟩ : ∃ k', gk = k' + 1 := ⟨gk - 1, by omega⟩
      have hltz : (i : Int) < (l0.length : Int) := by omega
      obtain ⟨ad, e1, hx, hy⟩ := at_T45 (Kd.C_below HR.out HB.out) (i : Int) (by omega) (by omega)
      cases e1
      rw [Int.toNat_natCast] at hx hy
      have hrd : rd_T45 l0 (i : Int) = l0[i] := by simp [rd_T45, hlt]
      rw [hrd] at hx hy
      clear hrd
      obtain ⟨x, hxx⟩ : ∃ x, l0[i] = x := ⟨_, rfl⟩
      rw [hxx] at hx hy
      have HX := Aside0.mk hxx
      clear hxx
      cases hgx : g x with
      | true =>
        have HGX := Aside0.mk hgx
        clear hgx
        go_wp2_with (first | ((with_reducible refine gate_value rfl ?_); refine goesV (some 16) rfl rfl rfl rfl hF #[.agg #[.string x.f0, .string x.f1]] (by simp only [List.map_toArray, List.map_cons, List.map_nil]; rfl) ?_; (with_reducible refine (HG.out x _ (mem_of_getElem HX.out) HB.out).mono ?_); rintro e w4 ⟨rfl, hb⟩; refine ⟨_, rfl, ?_⟩; have HB2 := Aside0.mk (below_step HB.out hb); clear HB hb; rw [HGX.out]))
        go_ret
        exact ⟨by rw [idxP_hit hlt (fun j hj => HN.out j hj _) (by rw [HX.out]; exact HGX.out)]; rfl, HB2.out⟩
      | false =>
        have HGX := Aside0.mk hgx
        clear hgx
        go_wp2_with (first | ((with_reducible refine gate_value rfl ?_); refine goesV (some 16) rfl rfl rfl rfl hF #[.agg #[.string x.f0, .string x.f1]] (by simp only [List.map_toArray, List.map_cons, List.map_nil]; rfl) ?_; (with_reducible refine (HG.out x _ (mem_of_getElem HX.out) HB.out).mono ?_); rintro e w4 ⟨rfl, hb⟩; refine ⟨_, rfl, ?_⟩; have HB2 := Aside0.mk (below_step HB.out hb); clear HB hb; rw [HGX.out]))
        go_roundg k'
        case measure => omega
        case rel => exact ⟨i + 1, by omega, by go_num, ⟨fun j hj hj' => by
          rcases Nat.lt_or_ge j i with h | h
          · exact HN.out j h hj'
          · obtain rfl : j = i := by omega
            rw [HX.out]; exact HGX.out⟩, by omega, HB2⟩
    · have : i = l0.length := by omega
      subst this
      go_wp2
      go_ret
      exact ⟨by rw [idxP_none (fun j hj => HN.out j hj hj)]; rfl, HB.out⟩
def in_token_open_1.f (l0 : List S45) (s1_0 s1_1 : ByteArray) : Option Bool := if l0.length ≤ 140737488351232 then some (l0.any fun x => x.f0.toList == s1_0.toList) else none
theorem in_token_open_1.calls (A0 : Option Addr) (c0 : Nat) (l0 : List S45) (gb : Nat) (s1_0 s1_1 : ByteArray) (r : Bool) (w : World) (hr0 : Kd.C k45 w A0 l0.length l0) (hc0 : l0.length ≤ c0) (hbox : w.heap[gb]? = some (.cells #[.string s1_0, .string s1_1] 45 (0, 0))) (h : in_token_open_1.f l0 s1_0 s1_1 = some r) :
    Calls Tryz.prog 38 #[.slice A0 l0.length c0, .func (.func 39) #[] #[.pointer (some ⟨gb, 0, none⟩)]] w fun e w' => e = .returned (.bool r) ∧ Below w.heap.size w w' := by
  unfold in_token_open_1.f at h
  split at h
  · rename_i hl
    obtain rfl := Option.some.inj h
    have hF : IsFn Tryz.prog 39 := ⟨⟨_, Tryz.func39, zz29, zz29⟩⟩
    have H := Aside0.mk (api_Attr_60.hof A0 c0 l0 39 #[.pointer (some ⟨gb, 0, none⟩)] (fun x => x.f0.toList == s1_0.toList) w hr0 hl hF (fun x W _ hb => token_open_1.hof x gb s1_0 s1_1 W (blk_below hbox hb)))
    clear hr0 hl hbox
    go_enter Tryz.func38, Tryz.ntmps38
    go_wp2_with (go_at_call 60; (with_reducible refine H.out.mono ?_); rintro e w' ⟨rfl, hb⟩; have HB := Aside0.mk hb; clear hb H)
    go_ret
    exact ⟨by rw [← idxP_any]; rfl, HB.out⟩
  · cases h
end Go.Proofs.YtjijbncheikagaaGreatDoor.Q
