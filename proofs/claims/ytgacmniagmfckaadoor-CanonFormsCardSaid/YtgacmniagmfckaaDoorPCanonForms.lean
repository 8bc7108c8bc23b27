/- CanonForms, in plain words: a namespace is told where it turns, and nowhere else; what has nothing within is closed at once. -/
import Derived.Test.YtgacmniagmfckaaDoorCanon
namespace Go.Proofs.YtgacmniagmfckaaDoor.P
open Go.RowKit Go.Lib Go.Proofs.YtgacmniagmfckaaDoorX Go.Proofs.YtgacmniagmfckaaDoorW.PrintWords Go.Proofs.YtgacmniagmfckaaDoor.Q
set_option linter.unusedVariables false
set_option linter.unusedSimpArgs false
theorem awake_ev : ∀ k, 60 ≤ k → cardexlaw10_awake.f k = some true :=
  le_rounds (f := cardexlaw10_awake.f) (fun k => cardexlaw10_awake.mono k) (by decide +kernel)
theorem third (x : Int) : wrap64 (Int.tmod (IntKind.u64.wrap x) 3) = 0 ∨ wrap64 (Int.tmod (IntKind.u64.wrap x) 3) = 1 ∨ wrap64 (Int.tmod (IntKind.u64.wrap x) 3) = 2 := by
  have h0 : 0 ≤ IntKind.u64.wrap x := by rw [IntKind.wrap_u64]; omega
  rw [Int.tmod_eq_emod_of_nonneg h0, w64 (by omega) (by omega)]
  omega
def spT (sp : ByteArray) : ByteArray := ((⟨#[60, 107]⟩ : ByteArray) ++ (⟨#[32, 120, 109, 108, 110, 115, 61, 39]⟩ : ByteArray) ++ sp) ++ (⟨#[39]⟩ : ByteArray)
def Sp (sp : ByteArray) : Prop := sp = ⟨#[117]⟩ ∨ sp = ⟨#[118]⟩
theorem sp_head (sp tx : ByteArray) (h : Sp sp) : headT ⟨#[]⟩ (kidN sp tx) ⟨#[]⟩ = spT sp := by
  rw [headK]
  rcases h with rfl | rfl
  · rw [if_neg (by rw [ByteArray.toList_eq]; decide)]; decide +kernel
  · rw [if_neg (by rw [ByteArray.toList_eq]; decide)]; decide +kernel
def tl (t : ByteArray) : ByteArray := if t.toList = [] then (⟨#[47, 62]⟩ : ByteArray) else ((⟨#[62]⟩ : ByteArray) ++ escT t) ++ (⟨#[60, 47, 107, 62]⟩ : ByteArray)
theorem tl_none : tl ⟨#[]⟩ = ⟨#[47, 62]⟩ := if_pos emp_list
theorem j3_step (l : List Int) (tx W sp : ByteArray) (nodes : List S32) (i k : Nat) (hi2 : i < 20) (hW : W.size ≤ 2000000) (hn : nodes.length ≤ 1000) (ht : tx.size ≤ 100) (hk : 200 ≤ k) :
    ∃ tx' : ByteArray, (tx' = tx ∨ tx' = ⟨#[]⟩) ∧ ∀ r, cardexlaw10_CanonForms.l0 k l tx (nodes ++ [kidN sp tx']) (W ++ tl tx') ((i + 1 : Nat) : Int) = some r → cardexlaw10_CanonForms.j3 (k + 3) l tx nodes W (i : Int) 0 0 (⟨#[107]⟩ : ByteArray) sp (⟨#[]⟩ : ByteArray) = some r := by
  have he := ref_escape tx (by omega) (k + 2) (by omega)
  have e1 : (ba (escL tx.data.toList)).size ≤ 6 * tx.size := escT_len tx
  have s2 : (⟨#[62]⟩ : ByteArray).size = 1 := rfl
  by_cases hev : Int.tmod (i : Int) 2 = 0
  · by_cases hx : tx.toList = []
    · refine ⟨⟨#[]⟩, .inr rfl, fun r h => ?_⟩
      rw [cardexlaw10_CanonForms.j3, if_pos hev, if_pos hx, if_pos (by omega), cardexlaw10_CanonForms.j4, if_pos (by omega), cardexlaw10_CanonForms.j5, up1 i (by omega)]
      rw [tl_none] at h
      exact h
    · refine ⟨tx, .inl rfl, fun r h => ?_⟩
      rw [cardexlaw10_CanonForms.j3, if_pos hev, if_neg hx, if_pos (by omega), he, Option.bind_some, if_pos (by simp only [ByteArray.size_append, s2]; omega), if_pos (by simp only [ByteArray.size_append, s2]; omega), cardexlaw10_CanonForms.j4, if_pos (by omega), cardexlaw10_CanonForms.j5, up1 i (by omega)]
      have e : ((W ++ (⟨#[62]⟩ : ByteArray)) ++ ba (escL tx.data.toList)) ++ (⟨#[60, 47, 107, 62]⟩ : ByteArray) = W ++ tl tx := by
        unfold tl
        rw [if_neg hx]
        simp only [ByteArray.append_assoc]
        rfl
      rw [e]
      exact h
  · refine ⟨⟨#[]⟩, .inr rfl, fun r h => ?_⟩
    rw [cardexlaw10_CanonForms.j3, if_neg hev, if_pos (by omega), if_pos (by omega), cardexlaw10_CanonForms.j5, up1 i (by omega)]
    rw [tl_none] at h
    exact (cardexlaw10_CanonForms.mono_l k).2.1 _ _ _ _ _ r h
theorem kid_none (sp t : ByteArray) (h : sp.toList = []) : kidT (kidN sp t) = (⟨#[60, 107]⟩ : ByteArray) ++ tl t := by
  unfold kidT tl
  rw [headK, if_pos h]
  by_cases ht : t.toList = []
  · rw [if_pos (show (kidN sp t).f5.toList = [] from ht), if_pos ht]
  · rw [if_neg (show ¬ (kidN sp t).f5.toList = [] from ht), if_neg ht]
    simp only [ByteArray.append_assoc]
    rfl
theorem kid_some (sp t : ByteArray) (h : Sp sp) : kidT (kidN sp t) = spT sp ++ tl t := by
  unfold kidT tl
  rw [sp_head sp t h]
  by_cases ht : t.toList = []
  · rw [if_pos (show (kidN sp t).f5.toList = [] from ht), if_pos ht]
  · rw [if_neg (show ¬ (kidN sp t).f5.toList = [] from ht), if_neg ht]
    simp only [ByteArray.append_assoc]
    rfl
theorem forms_step (l : List Int) (tx want : ByteArray) (nodes : List S32) (i k : Nat) (hi : i < l.length) (hi2 : i < 20) (hw : want.size ≤ 1000000) (hn : nodes.length ≤ 1000) (ht : tx.size ≤ 100) (hv : validT tx = true) (hk : 200 ≤ k) :
    ∃ x, KidOk x ∧ ∀ r, cardexlaw10_CanonForms.l0 k l tx (nodes ++ [x]) (want ++ kidT x) ((i + 1 : Nat) : Int) = some r → cardexlaw10_CanonForms.j2 (k + 3 + 1) l tx nodes want (i : Int) true = some r := by
  have s1 : (⟨#[60, 107]⟩ : ByteArray).size = 2 := rfl
  have s3 : (⟨#[32, 120, 109, 108, 110, 115, 61, 39]⟩ : ByteArray).size = 8 := rfl
  have s4 : (⟨#[39]⟩ : ByteArray).size = 1 := rfl
  have v0 : validT ⟨#[]⟩ = true := by decide +kernel
  have v1 : validT ⟨#[117]⟩ = true := by decide +kernel
  have v2 : validT ⟨#[118]⟩ = true := by decide +kernel
  have ok : ∀ sp t : ByteArray, sp.size ≤ 1 → validT sp = true → (t = tx ∨ t = ⟨#[]⟩) → KidOk (kidN sp t) := by
    rintro sp t h1 h2 (rfl | rfl)
    · exact ⟨_, _, rfl, h1, ht, h2, hv⟩
    · exact ⟨_, _, rfl, h1, Nat.zero_le _, h2, v0⟩
  have one : ∀ sp : ByteArray, Sp sp → sp.size = 1 → validT sp = true → ∃ x, KidOk x ∧ ∀ r, cardexlaw10_CanonForms.l0 k l tx (nodes ++ [x]) (want ++ kidT x) ((i + 1 : Nat) : Int) = some r →
      (if (want ++ (⟨#[60, 107]⟩ : ByteArray)).size + 8 ≤ 9223372036854775807 then (if ((want ++ (⟨#[60, 107]⟩ : ByteArray)) ++ (⟨#[32, 120, 109, 108, 110, 115, 61, 39]⟩ : ByteArray)).size + sp.size ≤ 9223372036854775807 then (if (((want ++ (⟨#[60, 107]⟩ : ByteArray)) ++ (⟨#[32, 120, 109, 108, 110, 115, 61, 39]⟩ : ByteArray)) ++ sp).size + 1 ≤ 9223372036854775807 then cardexlaw10_CanonForms.j3 (k + 3) l tx nodes ((((want ++ (⟨#[60, 107]⟩ : ByteArray)) ++ (⟨#[32, 120, 109, 108, 110, 115, 61, 39]⟩ : ByteArray)) ++ sp) ++ (⟨#[39]⟩ : ByteArray)) (i : Int) 0 0 (⟨#[107]⟩ : ByteArray) sp (⟨#[]⟩ : ByteArray) else none) else none) else none) = some r := by
    intro sp hsp hz hval
    have eW : (((want ++ (⟨#[60, 107]⟩ : ByteArray)) ++ (⟨#[32, 120, 109, 108, 110, 115, 61, 39]⟩ : ByteArray)) ++ sp) ++ (⟨#[39]⟩ : ByteArray) = want ++ spT sp := by
      unfold spT
      simp only [ByteArray.append_assoc]
    obtain ⟨t, ht', h3⟩ := j3_step l tx (want ++ spT sp) sp nodes i k hi2 (by rw [← eW]; simp only [ByteArray.size_append, s1, s3, s4]; omega) hn ht hk
    refine ⟨kidN sp t, ok sp t (by omega) hval ht', fun r h => ?_⟩
    rw [if_pos (by simp only [ByteArray.size_append, s1]; omega), if_pos (by simp only [ByteArray.size_append, s1, s3]; omega), if_pos (by simp only [ByteArray.size_append, s1, s3]; omega), eW]
    refine h3 r ?_
    rw [kid_some sp t hsp, ← ByteArray.append_assoc] at h
    exact h
  rcases third (rd l (i : Int)) with h | h | h
  · obtain ⟨t, ht', h3⟩ := j3_step l tx (want ++ (⟨#[60, 107]⟩ : ByteArray)) ⟨#[]⟩ nodes i k hi2 (by rw [ByteArray.size_append, s1]; omega) hn ht hk
    refine ⟨kidN ⟨#[]⟩ t, ok _ t (Nat.zero_le _) v0 ht', fun r hr => ?_⟩
    rw [cardexlaw10_CanonForms.j2, if_pos rfl, Option.bind_some, if_pos (by omega), if_pos (by omega), h, if_pos (by decide), if_pos (by decide), if_pos (by omega)]
    rw [show rdOf ByteArray.empty [(⟨#[]⟩ : ByteArray), (⟨#[117]⟩ : ByteArray), (⟨#[118]⟩ : ByteArray)] 0 = ⟨#[]⟩ from rfl, if_pos emp_list]
    refine h3 r ?_
    rw [kid_none _ t emp_list, ← ByteArray.append_assoc] at hr
    exact hr
  · obtain ⟨x, hx, h3⟩ := one ⟨#[117]⟩ (.inl rfl) rfl v1
    refine ⟨x, hx, fun r hr => ?_⟩
    rw [cardexlaw10_CanonForms.j2, if_pos rfl, Option.bind_some, if_pos (by omega), if_pos (by omega), h, if_pos (by decide), if_pos (by decide), if_pos (by omega)]
    rw [show rdOf ByteArray.empty [(⟨#[]⟩ : ByteArray), (⟨#[117]⟩ : ByteArray), (⟨#[118]⟩ : ByteArray)] 1 = ⟨#[117]⟩ from rfl, if_neg (by rw [ByteArray.toList_eq]; decide)]
    exact h3 r hr
  · obtain ⟨x, hx, h3⟩ := one ⟨#[118]⟩ (.inr rfl) rfl v2
    refine ⟨x, hx, fun r hr => ?_⟩
    rw [cardexlaw10_CanonForms.j2, if_pos rfl, Option.bind_some, if_pos (by omega), if_pos (by omega), h, if_pos (by decide), if_pos (by decide), if_pos (by omega)]
    rw [show rdOf ByteArray.empty [(⟨#[]⟩ : ByteArray), (⟨#[117]⟩ : ByteArray), (⟨#[118]⟩ : ByteArray)] 2 = ⟨#[118]⟩ from rfl, if_neg (by rw [ByteArray.toList_eq]; decide)]
    exact h3 r hr
def headW : ByteArray := ⟨#[60, 63, 120, 109, 108, 32, 118, 101, 114, 115, 105, 111, 110, 61, 39, 49, 46, 48, 39, 32, 101, 110, 99, 111, 100, 105, 110, 103, 61, 39, 85, 84, 70, 45, 56, 39, 63, 62, 10, 60, 114, 62]⟩
theorem forms_end (l : List Int) (tx : ByteArray) (ks : List S32) (hk : ∀ x ∈ ks, KidOk x) (hn : ks.length ≤ 20) (i : Int) (k : Nat) (hK : 200 ≤ k) : cardexlaw10_CanonForms.j2 (k + 1 + 1 + 1) l tx (rootN :: ks) (headW ++ catT ks) i false = some true := by
  have hc := catT_size ks hk
  have hw := flat_write ks hk (by omega) (k + 1) (by omega)
  have j6 : ∀ W : ByteArray, (prologT ++ flatT ks).toList = W.toList → cardexlaw10_CanonForms.j6 (k + 1 + 1) (rootN :: ks) W = some true := by
    intro W hW
    rw [cardexlaw10_CanonForms.j6, hw, Option.bind_some, awake_ev (k + 1) (by omega), Option.bind_some, if_pos rfl, if_pos rfl, beq_iff_eq.mpr hW, cardexlaw10_CanonForms.j7, if_pos rfl]
  rw [cardexlaw10_CanonForms.j2, if_neg Bool.false_ne_true, if_pos (by rw [ByteArray.size_append]; show 42 + _ + 4 ≤ _; omega)]
  cases ks with
  | nil =>
    rw [if_pos (by decide)]
    exact j6 _ (by decide +kernel)
  | cons x r =>
    rw [if_neg (by simp <;> omega)]
    refine j6 _ ?_
    unfold flatT
    rw [if_neg (by simp)]
    rw [← ByteArray.append_assoc, ← ByteArray.append_assoc]
    rfl
theorem forms_loop (l : List Int) (tx : ByteArray) (ht : tx.size ≤ 100) (hv : validT tx = true) : ∀ (d i k : Nat) (ks : List S32), i + d = 20 → i ≤ l.length → ks.length = i → (∀ x ∈ ks, KidOk x) → cardexlaw10_CanonForms.l0 (k + 5 * d + 300) l tx (rootN :: ks) (headW ++ catT ks) (i : Int) = some true
  | 0, i, k, ks, hi, hl, hn, hk => by
    obtain rfl : i = 20 := by omega
    rw [show k + 5 * 0 + 300 = (k + 296 + 1 + 1 + 1) + 1 by omega, cardexlaw10_CanonForms.l0]
    have h := forms_end l tx ks hk (by omega) ((20 : Nat) : Int) (k + 296) (by omega)
    split
    · rw [decide_eq_false (by omega)]; exact h
    · exact h
  | d + 1, i, k, ks, hi, hl, hn, hk => by
    rw [show k + 5 * (d + 1) + 300 = ((k + 5 * d + 300) + 3 + 1) + 1 by omega, cardexlaw10_CanonForms.l0]
    by_cases hlt : i < l.length
    · have hc := catT_size ks hk
      obtain ⟨x, hx, he⟩ := forms_step l tx (headW ++ catT ks) (rootN :: ks) i (k + 5 * d + 300) hlt (by omega) (by rw [ByteArray.size_append]; show 42 + _ ≤ _; omega) (by simp <;> omega) ht hv (by omega)
      rw [if_pos (by omega), decide_eq_true (by omega)]
      refine he true ?_
      rw [ByteArray.append_assoc, ← catT_snoc]
      exact forms_loop l tx ht hv d (i + 1) k (ks ++ [x]) (by omega) (by omega) (by simp <;> omega) (fun y hy => by
        rcases List.mem_append.1 hy with hy | hy
        · exact hk y hy
        · rw [List.mem_singleton.1 hy]; exact hx)
    · rw [if_neg (by omega)]
      exact forms_end l tx ks hk (by omega) _ _ (by omega)
theorem canonForms {P Q : Prop} (l : List Int) (tx : ByteArray) (hok : P) (hw : Q) : ∃ k, cardexlaw10_CanonForms.f k l tx = some true := by
  by_cases hs : (tx.size : Int) > 100
  · refine ⟨100, ?_⟩
    unfold cardexlaw10_CanonForms.f
    rw [if_pos hs, cardexlaw10_CanonForms.j0, if_pos rfl, awake_ev _ (by omega)]
    rfl
  · refine ⟨1000, ?_⟩
    unfold cardexlaw10_CanonForms.f
    rw [if_neg hs, ref_valid tx (by omega) 1000 (by omega), Option.bind_some, cardexlaw10_CanonForms.j0]
    cases hv : validT tx with
    | false => rw [if_pos (by decide), awake_ev _ (by omega)]; rfl
    | true =>
      rw [if_neg (by decide)]
      exact forms_loop l tx (by omega) hv 20 0 599 [] (by omega) (by omega) rfl (fun x hx => by cases hx)
end Go.Proofs.YtgacmniagmfckaaDoor.P
