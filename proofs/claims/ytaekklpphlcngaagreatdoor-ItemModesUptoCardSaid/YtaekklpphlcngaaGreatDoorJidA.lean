/- Plain law of this session: what jid's functions compute, without rounds; what is parsed is parsed again as it was. -/
import Derived.Test.YtaekklpphlcngaaGreatDoorBa
import Derived.Test.YtaekklpphlcngaaGreatDoorQ
namespace Go.Proofs.YtaekklpphlcngaaGreatDoor.P
open Go.RowKit Go.Lib Go.Proofs.YtaekklpphlcngaaGreatDoorX Go.Proofs.YtaekklpphlcngaaGreatDoorW.PrintWords Go.Proofs.YtaekklpphlcngaaGreatDoor.Q
set_option linter.unusedVariables false
set_option linter.unusedSimpArgs false
theorem prefix_one (l : List UInt8) (b : UInt8) (h : l.length < 4611686018427387904) : strings_HasPrefix.f (ba l) (⟨#[b]⟩ : ByteArray) = some (l.head? == some b) := by
  have h1 : ((⟨#[b]⟩ : ByteArray).size : Int) = 1 := rfl
  unfold strings_HasPrefix.f stringslite_HasPrefix.f
  rw [h1, ba_size]
  cases l with
  | nil => rfl
  | cons c t =>
    rw [if_pos (by simp; omega), if_pos (by omega), if_pos (by simp; omega), ba_extract, ba_toList]
    simp [ByteArray.toList_eq]
theorem suffix_one (l : List UInt8) (b : UInt8) (h : l.length < 4611686018427387904) : stringslite_HasSuffix.f (ba l) (⟨#[b]⟩ : ByteArray) = some (l.getLast? == some b) := by
  have h1 : ((⟨#[b]⟩ : ByteArray).size : Int) = 1 := rfl
  unfold stringslite_HasSuffix.f
  rw [h1, ba_size]
  rcases List.eq_nil_or_concat l with rfl | ⟨t, c, rfl⟩
  · rfl
  · have hl : (t.concat c).length = t.length + 1 := by simp
    rw [hl] at h ⊢
    rw [wrap_small (by omega) (by omega), if_pos (by omega), if_pos (by omega), if_pos (by omega), ba_extract, ba_toList]
    have e : (((t.length + 1 : Nat) : Int) - 1).toNat = t.length := by omega
    rw [e]
    rw [List.concat_eq_append, List.take_of_length_le (by simp), List.drop_left]
    simp [ByteArray.toList_eq]
theorem suffix_one' (l : List UInt8) (b : UInt8) (h : l.length < 4611686018427387904) : strings_HasSuffix.f (ba l) (⟨#[b]⟩ : ByteArray) = some (l.getLast? == some b) := by
  unfold strings_HasSuffix.f
  rw [suffix_one l b h]; rfl
theorem trim_dot (l : List UInt8) (h : l.length < 4611686018427387904) : strings_TrimSuffix.f (ba l) (⟨#[46]⟩ : ByteArray) = some (ba (trimDot l)) := by
  unfold strings_TrimSuffix.f stringslite_TrimSuffix.f trimDot
  rw [suffix_one l 46 h]
  have h1 : ((⟨#[46]⟩ : ByteArray).size : Int) = 1 := rfl
  rw [h1, ba_size]
  by_cases hd : l.getLast? = some 46
  · have hp : 0 < l.length := by
      cases l with
      | nil => cases hd
      | cons _ _ => simp
    have hb : (l.getLast? == some (46 : UInt8)) = true := by rw [hd]; rfl
    rw [if_pos hd, hb]
    simp only [Option.bind_some, if_true]
    rw [wrap_small (by omega) (by omega), if_pos (by omega), if_pos (by omega), ba_extract]
    simp only [Option.bind_some, List.drop_zero]
    rw [List.dropLast_eq_take]
    congr 3
    omega
  · have hb : (l.getLast? == some (46 : UInt8)) = false := by
      rw [beq_eq_false_iff_ne]; exact hd
    rw [if_neg hd, hb]
    rfl
def partOk (x : ByteArray) : Bool := !(x.data.toList == []) && !(x.data.toList.head? == some 45) && !(x.data.toList.getLast? == some 45)
def dots (l : List UInt8) : List ByteArray := Lib.splitB (⟨#[46]⟩ : ByteArray) 0 (Lib.countB (ba l) (⟨#[46]⟩ : ByteArray)) (ba l)
def rightP (l : List UInt8) : Bool := (dots l).all partOk
theorem splitB_size (sep : ByteArray) : ∀ (k : Nat) (s : ByteArray), ∀ x ∈ Lib.splitB sep 0 k s, x.size ≤ s.size
  | 0, s, x, h => by
    rw [Lib.splitB_zero] at h
    rw [List.mem_singleton.1 h]
    exact Nat.le_refl _
  | k + 1, s, x, h => by
    unfold Lib.splitB at h
    split at h
    · rw [List.mem_singleton.1 h]
      exact Nat.le_refl _
    · rcases List.mem_cons.1 h with rfl | h
      · rw [ByteArray.size_extract]; omega
      · have := splitB_size sep k _ x h
        rw [ByteArray.size_extract] at this; omega
theorem right_loop (xs : List ByteArray) (hx : ∀ x ∈ xs, x.size < 4611686018427387904) (hl : xs.length < 4611686018427387904) :
    ∀ (d i k : Nat), i + d = xs.length → d < k → jid_right.l0 k xs (xs.length : Int) (i : Int) = some ((xs.drop i).all partOk)
  | 0, i, k, hi, hk => by
    obtain ⟨k, rfl⟩ : ∃ k', k = k' + 1 := ⟨k - 1, by omega⟩
    rw [jid_right.l0, if_neg (by omega), List.drop_eq_nil_of_le (by omega)]
    rfl
  | d + 1, i, k, hi, hk => by
    obtain ⟨k, rfl⟩ : ∃ k', k = k' + 1 := ⟨k - 1, by omega⟩
    have hlt : i < xs.length := by omega
    have hg : rdOf ByteArray.empty xs (i : Int) = xs[i] := rdOf_get _ xs i hlt
    have hm : xs[i] ∈ xs := List.getElem_mem hlt
    have hs := hx _ hm
    rw [jid_right.l0, if_pos (by omega), if_pos (by omega), if_pos (by omega), hg, List.drop_eq_getElem_cons hlt, List.all_cons]
    rw [wrap_small (x := (i : Int) + 1) (by omega) (by omega)]
    have ih := right_loop xs hx hl d (i + 1) k (by omega) (by omega)
    rw [show ((i + 1 : Nat) : Int) = (i : Int) + 1 by omega] at ih
    rw [ih]
    obtain ⟨x, hxx⟩ : ∃ x, xs[i] = x := ⟨_, rfl⟩
    rw [hxx] at hs ⊢
    rw [← ba_of x, prefix_one _ _ (by rw [size_list]; exact hs), suffix_one' _ _ (by rw [size_list]; exact hs), ba_toList]
    unfold partOk
    rw [ba_list]
    by_cases h1 : x.data.toList = []
    · rw [if_pos h1, h1]; rfl
    · rw [if_neg h1]
      have h1' : (x.data.toList == []) = false := by rw [beq_eq_false_iff_ne]; exact h1
      rw [h1']
      cases h2 : (x.data.toList.head? == some 45) with
      | true => rfl
      | false =>
        cases h3 : (x.data.toList.getLast? == some 45) with
        | true => rfl
        | false => rfl
theorem right_ev (l : List UInt8) (h : l.length < 4294967281) : ∃ K, ∀ k, K ≤ k → jid_right.f k (ba l) = some (rightP l) := by
  refine ⟨(dots l).length + 1, fun k hk => ?_⟩
  unfold jid_right.f strings_Split.f
  rw [if_pos ⟨by rw [ba_size]; omega, by decide⟩]
  simp only [Option.bind_some]
  have hs := splitB_size (⟨#[46]⟩ : ByteArray) (Lib.countB (ba l) (⟨#[46]⟩ : ByteArray)) (ba l)
  have hle := Lib.splitB_length_le (⟨#[46]⟩ : ByteArray) 0 (Lib.countB (ba l) (⟨#[46]⟩ : ByteArray)) (ba l)
  have hc := Lib.countB_le (⟨#[46]⟩ : ByteArray) (by decide) (ba l).size (ba l) (Nat.le_refl _)
  rw [ba_size] at hs hc
  exact right_loop (dots l) (fun x hx => by have := hs x hx; omega) (by unfold dots; omega) (dots l).length 0 k (by omega) (by omega)
structure Fix (T : Int → List Int) (g : Int → Bool) (L : List Int) : Prop where
  each : ∀ c ∈ L, scal c ∧ mayB c = true ∧ T c = [c] ∧ g c = true
  way : straightB L = true
theorem textOf_wrs : ∀ (L : List Int) (acc : ByteArray), (∀ c ∈ L, scal c) → L.foldl (fun out c => out ++ Utf8.encode (wrap32 c)) acc = ba (acc.data.toList ++ wrs L)
  | [], acc, _ => by simp [wrs, ba]
  | c :: L, acc, h => by
    have hc := h c (.head _)
    have hw : wrap32 c = c := by
      obtain ⟨h0, h1, h2⟩ := hc
      unfold wrap32; omega
    rw [List.foldl_cons, textOf_wrs L _ (fun x hx => h x (.tail _ hx)), hw, wrs_cons]
    congr 1
    rw [← List.append_assoc]
    simp [enc]
theorem textOf_ba (L : List Int) (h : ∀ c ∈ L, scal c) : textOf L = ba (wrs L) := by
  have := textOf_wrs L ⟨#[]⟩ h
  unfold textOf
  rw [this]
  rfl
theorem runesI_wrs (L : List Int) (h : ∀ c ∈ L, scal c) : runesI (ba (wrs L)) = L := by
  unfold runesI
  rw [ba_list, ba_size]
  exact runes_wrs _ L h (Nat.le_refl _)
def Still (T : Int → List Int) : Prop := ∀ c, scal c → mayB c = true → ∀ y ∈ T c, scal y ∧ mayB y = true ∧ T y = [y]
theorem of_ok {T : Int → List Int} {g : Int → Bool} (hT : Still T) {s y : ByteArray} (h : ofP T g s = (y, 0)) : ∃ L, y = ba (wrs L) ∧ Fix T g L := by
  unfold ofP at h
  split at h
  · rename_i hv
    unfold validT at hv
    rw [Bool.and_eq_true, List.all_eq_true] at hv
    have hall : ∀ c ∈ (runesI s).flatMap T, scal c ∧ mayB c = true ∧ T c = [c] := by
      intro c hc
      obtain ⟨x, hx, hcx⟩ := List.mem_flatMap.1 hc
      exact hT x (runes_scal _ _ x hx) (hv.2 x hx) c hcx
    split at h
    · cases h
    · rename_i hg
      split at h
      · rename_i hw
        injection h with h1 h2
        refine ⟨_, by rw [← h1, textOf_ba _ (fun c hc => (hall c hc).1)], ?_, hw⟩
        intro c hc
        refine ⟨(hall c hc).1, (hall c hc).2.1, (hall c hc).2.2, ?_⟩
        cases hgc : g c with
        | true => rfl
        | false =>
          exfalso
          apply hg
          rw [List.any_eq_true]
          exact ⟨c, hc, by rw [hgc]; rfl⟩
      · cases h
  · cases h
theorem flat_same {T : Int → List Int} : ∀ L : List Int, (∀ c ∈ L, T c = [c]) → L.flatMap T = L
  | [], _ => rfl
  | c :: L, h => by
    rw [List.flatMap_cons, h c (.head _), flat_same L (fun x hx => h x (.tail _ hx))]
    rfl
theorem valid_ba (L : List Int) (h : ∀ c ∈ L, scal c ∧ mayB c = true) : validT (ba (wrs L)) = true := by
  unfold validT
  rw [Bool.and_eq_true, ba_list, valid_wrs L (fun c hc => (h c hc).1), runesI_wrs L (fun c hc => (h c hc).1)]
  exact ⟨rfl, List.all_eq_true.2 fun c hc => (h c hc).2⟩
theorem of_fix {T : Int → List Int} {g : Int → Bool} {L : List Int} (h : Fix T g L) : ofP T g (ba (wrs L)) = (ba (wrs L), 0) := by
  unfold ofP
  rw [if_pos (valid_ba L fun c hc => ⟨(h.each c hc).1, (h.each c hc).2.1⟩), runesI_wrs L (fun c hc => (h.each c hc).1), flat_same L (fun c hc => (h.each c hc).2.2.1), if_neg ?_, if_pos h.way, textOf_ba L (fun c hc => (h.each c hc).1)]
  rw [List.any_eq_true]
  rintro ⟨c, hc, hg⟩
  rw [(h.each c hc).2.2.2] at hg
  cases hg
theorem of_nil (T : Int → List Int) (g : Int → Bool) : ofP T g (ba []) = (ba [], 0) := by
  have := of_fix (T := T) (g := g) (L := []) ⟨(fun c hc => by cases hc), rfl⟩
  exact this
def inTab : List Int → Int → Bool
  | a :: b :: l, c => (decide (a ≤ c) && decide (c ≤ b)) || inTab l c
  | _, _ => false
theorem gone_tab (c : Int) : goneB c = inTab [173, 173, 847, 847, 6150, 6150, 8203, 8205, 8288, 8288, 65024, 65039, 65279, 65279] c := by
  simp [goneB, pairsL, inR, inTab]
theorem left_tab (c : Int) : leftB c = inTab [1424, 1535, 1536, 1791, 64285, 64335] c := by
  simp [leftB, pairsL, inR, inTab]
theorem letter_tab (c : Int) : letterB c = inTab [65, 90, 97, 122, 192, 214, 216, 246, 248, 591, 880, 1327, 19968, 40959] c := by
  simp [letterB, pairsL, inR, inTab]
theorem kept_still : Still keptL := by
  intro c hc hm y hy
  unfold keptL at hy
  split at hy
  · cases hy
  · rename_i hg
    rw [List.mem_singleton.1 hy]
    exact ⟨hc, hm, by unfold keptL; rw [if_neg hg]⟩
set_option maxRecDepth 100000 in
theorem small_still : Still smallL := by
  intro c hc hm y hy
  obtain ⟨h0, h1, h2⟩ := hc
  unfold smallL at hy
  split at hy
  · rename_i hu
    rw [List.mem_singleton.1 hy]
    have hn : goneB (c + 32) = false := by
      rw [gone_tab]
      simp only [inTab, Bool.or_eq_false_iff, Bool.and_eq_false_iff, decide_eq_false_iff_not, Bool.or_false]
      omega
    refine ⟨⟨by omega, by omega, by omega⟩, ?_, ?_⟩
    · unfold mayB
      simp only [Bool.or_eq_true, Bool.and_eq_true, beq_iff_eq, decide_eq_true_eq]
      omega
    · unfold smallL keptL
      rw [if_neg (by omega), if_neg (by omega), hn]
      rfl
  · rename_i hu
    split at hy
    · have : y = 115 := by
        rcases List.mem_cons.1 hy with h | h
        · exact h
        · exact List.mem_singleton.1 h
      subst this
      exact ⟨⟨by decide, by decide, by decide⟩, by decide, by decide⟩
    · rename_i hs
      unfold keptL at hy
      split at hy
      · cases hy
      · rename_i hg
        rw [List.mem_singleton.1 hy]
        exact ⟨⟨h0, h1, h2⟩, hm, by unfold smallL keptL; rw [if_neg hu, if_neg hs, if_neg hg]⟩
theorem of_size (T : Int → List Int) (g : Int → Bool) (hT : ∀ x, (T x).length ≤ 2) (s : ByteArray) : (ofP T g s).1.size ≤ 8 * s.size := by
  unfold ofP
  split
  · split
    · exact Nat.zero_le _
    · split
      · have h1 := textOf_size ((runesI s).flatMap T)
        have h2 := flat_len T hT (runesI s)
        have h3 := runesI_len s
        simp only; omega
      · exact Nat.zero_le _
  · exact Nat.zero_le _
def domP (s : ByteArray) : ByteArray × Int :=
  if (ofP smallL hostOk s).2 = 0 then
    (if 100 < (trimDot (ofP smallL hostOk s).1.data.toList).length then (ba [], 14)
     else if rightP (trimDot (ofP smallL hostOk s).1.data.toList) = true then (ba (trimDot (ofP smallL hostOk s).1.data.toList), 0) else (ba [], 14))
  else (ba [], (ofP smallL hostOk s).2)
theorem dom_ev (s : ByteArray) (h : s.size ≤ 100000000) : ∃ K, ∀ k, K ≤ k → jid_Domain.f k s = some (domP s) := by
  have hz := of_size smallL hostOk smallL_len s
  have hz2 := trimDot_len (ofP smallL hostOk s).1.data.toList
  rw [size_list] at hz2
  obtain ⟨K, hK⟩ := right_ev (trimDot (ofP smallL hostOk s).1.data.toList) (by omega)
  refine ⟨K, fun k hk => ?_⟩
  unfold jid_Domain.f prep_Host.f domP
  rw [if_pos (by omega)]
  simp only [Option.bind_some]
  split
  · have ht := trim_dot (ofP smallL hostOk s).1.data.toList (by rw [size_list]; omega)
    rw [ba_of] at ht
    rw [ht]
    simp only [Option.bind_some]
    rw [ba_size, hK k hk]
    by_cases h1 : 100 < (trimDot (ofP smallL hostOk s).1.data.toList).length
    · rw [if_pos (by omega), if_pos h1]; rfl
    · rw [if_neg (by omega), if_neg h1]
      simp only [Option.bind_some]
      split <;> rfl
  · rfl
theorem last_dot {L : List Int} (h : ∀ c ∈ L, scal c) (hd : (wrs L).getLast? = some 46) : ∃ L', L = L' ++ [46] ∧ (wrs L).dropLast = wrs L' := by
  rcases List.eq_nil_or_concat L with rfl | ⟨L', c, rfl⟩
  · cases hd
  · rw [List.concat_eq_append] at hd h ⊢
    have hc : scal c := h c (by simp)
    rw [wrs_append] at hd ⊢
    have e1 : wrs [c] = enc c := by simp [wrs]
    rw [e1] at hd ⊢
    have hl : (enc c).getLast? = some 46 := by
      rw [List.getLast?_append] at hd
      cases hx : (enc c).getLast? with
      | none => rw [List.getLast?_eq_none_iff] at hx; exact absurd hx (enc_ne hc)
      | some z => rw [hx] at hd; exact hd
    have hm : (46 : UInt8) ∈ enc c := List.mem_of_getLast? hl
    rcases mem_enc hc hm with ⟨_, e, e2⟩ | h1
    · refine ⟨L', by rw [e]; rfl, ?_⟩
      rw [e2, List.dropLast_concat]
    · exact absurd h1 (by decide)
theorem dots_pieces (l : List UInt8) : (dots l).map (·.data.toList) = pieces 46 l := by
  unfold dots
  rw [Lib.splitB_data, ← splitK_pieces, ba_list]
  rfl
theorem right_pieces (l : List UInt8) : rightP l = (pieces 46 l).all pOk := by
  rw [← dots_pieces, List.all_map]
  rfl
theorem dots_end (l : List UInt8) (h : l.getLast? = some 46) : rightP l = false := by
  rw [right_pieces]
  have := (pieces_last 46 l h).2
  rw [List.all_eq_false]
  exact ⟨[], List.mem_of_getLast? this, by decide⟩
theorem right_nil : rightP [] = false := by
  rw [right_pieces]; rfl
theorem straight_pre {L : List Int} (h : straightB (L ++ [46]) = true) : straightB L = true := by
  unfold straightB at h ⊢
  have hl : leftB 46 = false := by rw [left_tab]; rfl
  have e : ((L ++ [46]).getD ((L ++ [46]).length - 1) 0) = (46 : Int) := by simp
  rw [e, hl] at h
  simp only [Bool.and_false, Bool.false_and, Bool.or_false, List.any_append, Bool.not_eq_true'] at h
  have : L.any leftB = false := by
    cases hx : L.any leftB with
    | false => rfl
    | true => rw [hx] at h; simp at h
  rw [this]
  rfl
structure DomOk (D : ByteArray) (L : List Int) : Prop where
  text : D = ba (wrs L)
  fix : Fix smallL hostOk L
  size : (wrs L).length ≤ 100
  right : rightP (wrs L) = true
theorem dom_ok {s D : ByteArray} (h : domP s = (D, 0)) : ∃ L, DomOk D L := by
  unfold domP at h
  obtain ⟨⟨y, e⟩, hy⟩ : ∃ y, ofP smallL hostOk s = y := ⟨_, rfl⟩
  rw [hy] at h
  simp only at h
  split at h
  · rename_i he
    subst he
    obtain ⟨L, rfl, hf⟩ := of_ok small_still hy
    rw [ba_list] at h
    split at h
    · cases h
    · rename_i hl
      split at h
      · rename_i hr
        injection h with h1 h2
        unfold trimDot at h1 hl hr
        split at h1
        · rename_i hd
          rw [if_pos hd] at hl hr
          obtain ⟨L', rfl, e2⟩ := last_dot (fun c hc => (hf.each c hc).1) hd
          rw [e2] at h1 hl hr
          exact ⟨L', h1.symm, ⟨fun c hc => hf.each c (List.mem_append_left _ hc), straight_pre hf.way⟩, by omega, hr⟩
        · rename_i hd
          rw [if_neg hd] at hl hr
          exact ⟨L, h1.symm, hf, by omega, hr⟩
      · cases h
  · cases h
    exact absurd rfl ‹_›
theorem dom_fix {D : ByteArray} {L : List Int} (h : DomOk D L) : domP D = (D, 0) := by
  obtain ⟨rfl, hf, hs, hr⟩ := h
  unfold domP
  rw [of_fix hf]
  simp only [if_true]
  have ht : trimDot (wrs L) = wrs L := by
    unfold trimDot
    split
    · rename_i hd
      rw [dots_end _ hd] at hr
      cases hr
    · rfl
  rw [ba_list, ht, if_neg (by omega), if_pos hr]
def partsP (l : List UInt8) : List UInt8 × Bool × List UInt8 × List UInt8 × Bool :=
  if (Lib.cut (Lib.cut l [47]).1 [64]).2.2 = true then ((Lib.cut (Lib.cut l [47]).1 [64]).1, true, (Lib.cut (Lib.cut l [47]).1 [64]).2.1, (Lib.cut l [47]).2.1, (Lib.cut l [47]).2.2)
  else ([], false, (Lib.cut l [47]).1, (Lib.cut l [47]).2.1, (Lib.cut l [47]).2.2)
theorem parts_eq (s : ByteArray) (h : s.size < 4294967281) : jid_parts.f s = some (ba (partsP s.data.toList).1, (partsP s.data.toList).2.1, ba (partsP s.data.toList).2.2.1, ba (partsP s.data.toList).2.2.2.1, (partsP s.data.toList).2.2.2.2) := by
  have hl := (cut_len s.data.toList [47]).1
  rw [size_list] at hl
  unfold jid_parts.f strings_Cut.f
  rw [if_pos h]
  simp only [Option.bind_some]
  rw [if_pos (by simp only [ByteArray.size, List.size_toArray]; omega)]
  simp only [Option.bind_some]
  unfold partsP
  show (if (Lib.cut (Lib.cut s.data.toList [47]).1 [64]).2.2 = true then _ else _) = _
  split
  · rename_i hc
    show some (_, (Lib.cut (Lib.cut s.data.toList [47]).1 [64]).2.2, _, _, _) = _
    rw [hc]
    rfl
  · rename_i hc
    show some (_, (Lib.cut (Lib.cut s.data.toList [47]).1 [64]).2.2, _, _, _) = _
    rw [Bool.eq_false_iff.2 hc]
    rfl
theorem parts_len (l : List UInt8) : (partsP l).1.length ≤ l.length ∧ (partsP l).2.2.1.length ≤ l.length ∧ (partsP l).2.2.2.1.length ≤ l.length := by
  have h1 := cut_len l [47]
  have h2 := cut_len (Lib.cut l [47]).1 [64]
  unfold partsP
  split <;> simp only [List.length_nil] <;> omega
def nodeP (l : List UInt8) (is : Bool) : ByteArray × Int := keptR (ofP smallL nodeOk (ba l)) is 64
def resP (l : List UInt8) (is : Bool) : ByteArray × Int := keptR (ofP keptL resOk (ba l)) is 64
def parseL (l : List UInt8) : ByteArray × ByteArray × ByteArray × Int :=
  if (domP (ba (partsP l).2.2.1)).2 = 0 then
    (if (nodeP (partsP l).1 (partsP l).2.1).2 = 0 then
      (if (resP (partsP l).2.2.2.1 (partsP l).2.2.2.2).2 = 0 then ((nodeP (partsP l).1 (partsP l).2.1).1, (domP (ba (partsP l).2.2.1)).1, (resP (partsP l).2.2.2.1 (partsP l).2.2.2.2).1, 0)
       else (ba [], ba [], ba [], (resP (partsP l).2.2.2.1 (partsP l).2.2.2.2).2))
     else (ba [], ba [], ba [], (nodeP (partsP l).1 (partsP l).2.1).2))
  else (ba [], ba [], ba [], (domP (ba (partsP l).2.2.1)).2)
theorem kept_node (l : List UInt8) (is : Bool) (h : l.length ≤ 100000000) : jid_kept_string.f (ba l) is 49 64 = some (nodeP l is) := by
  have hz := of_size smallL nodeOk smallL_len (ba l)
  rw [ba_size] at hz
  unfold jid_kept_string.f prep_Node.f nodeP
  rw [if_pos rfl, if_pos (by rw [ba_size]; omega)]
  simp only [Option.bind_some]
  rw [if_pos (by omega)]
theorem kept_res (l : List UInt8) (is : Bool) (h : l.length ≤ 100000000) : jid_kept_string.f (ba l) is 50 64 = some (resP l is) := by
  have hz := of_size keptL resOk keptL_len (ba l)
  rw [ba_size] at hz
  unfold jid_kept_string.f prep_Resource.f resP
  rw [if_neg (by decide), if_pos rfl, if_pos (by rw [ba_size]; omega)]
  simp only [Option.bind_some]
  rw [if_pos (by omega)]
theorem parse_ev (s : ByteArray) (h : s.size ≤ 100000000) : ∃ K, ∀ k, K ≤ k → jid_Parse.f k s = some (parseL s.data.toList) := by
  have hp := parts_len s.data.toList
  rw [size_list] at hp
  obtain ⟨K, hK⟩ := dom_ev (ba (partsP s.data.toList).2.2.1) (by rw [ba_size]; omega)
  refine ⟨K, fun k hk => ?_⟩
  unfold jid_Parse.f parseL
  rw [parts_eq s (by omega)]
  simp only [Option.bind_some]
  rw [hK k hk, kept_node _ _ (by omega), kept_res _ _ (by omega)]
  simp only [Option.bind_some]
  split
  · split
    · split <;> rfl
    · rfl
  · rfl
def textL (a b c : List UInt8) : List UInt8 := (if a = [] then b else a ++ 64 :: b) ++ (if c = [] then [] else 47 :: c)
theorem text_eq (a b c : List UInt8) (h : a.length + b.length + c.length ≤ 4611686018427387904) : jid_Text.f (ba a) (ba b) (ba c) = some (ba (textL a b c)) := by
  unfold jid_Text.f textL
  have e1 : (⟨#[64]⟩ : ByteArray) = ba [64] := rfl
  have e2 : (⟨#[47]⟩ : ByteArray) = ba [47] := rfl
  rw [ba_toList, ba_toList, e1, e2]
  simp only [ba_append, ba_size, List.length_append, List.length_cons, List.length_nil]
  by_cases ha : a = []
  · rw [if_pos ha, if_pos ha]
    by_cases hc : c = []
    · rw [if_pos hc, if_pos hc, List.append_nil]
    · rw [if_neg hc, if_neg hc, if_pos (by omega), if_pos (by omega)]
      rfl
  · rw [if_neg ha, if_neg ha, if_pos (by omega), if_pos (by omega)]
    by_cases hc : c = []
    · rw [if_pos hc, if_pos hc, List.append_nil]
      simp
    · rw [if_neg hc, if_neg hc, if_pos (by omega), if_pos (by omega)]
      simp
theorem keptR_ok {y : ByteArray × Int} {is : Bool} {most : Int} {L : ByteArray} (h : keptR y is most = (L, 0)) : y = (L, 0) ∧ (is = true → L.size ≠ 0 ∧ (L.size : Int) ≤ most) := by
  unfold keptR at h
  split at h
  · rename_i h0
    split at h
    · cases h
    · rename_i hn
      injection h with h1 h2
      refine ⟨by rw [← h1, ← h0], fun hi => ?_⟩
      rw [← h1]
      constructor
      · intro e; exact hn ⟨hi, .inl e⟩
      · rcases Int.lt_or_le most y.1.size with hl | hl
        · exact absurd ⟨hi, .inr hl⟩ hn
        · exact hl
  · rename_i h0
    injection h with h1 h2
    exact absurd h2 h0
theorem keptR_fix {L : ByteArray} {is : Bool} {most : Int} (h : is = true → L.size ≠ 0 ∧ (L.size : Int) ≤ most) : keptR (L, 0) is most = (L, 0) := by
  unfold keptR
  rw [if_pos rfl, if_neg ?_]
  rintro ⟨hi, h0 | h0⟩
  · exact (h hi).1 h0
  · have := (h hi).2
    simp only at h0; omega
structure JidOk (a b c : ByteArray) : Prop where
  loc : ∃ L, a = ba (wrs L) ∧ Fix smallL nodeOk L
  locn : a.size ≤ 64
  dom : ∃ L, DomOk b L
  res : ∃ L, c = ba (wrs L) ∧ Fix keptL resOk L
  resn : c.size ≤ 64
theorem nodeP_ok {l : List UInt8} {is : Bool} {y : ByteArray} (h : nodeP l is = (y, 0)) (hn : is = false → l = []) : (∃ L, y = ba (wrs L) ∧ Fix smallL nodeOk L) ∧ y.size ≤ 64 := by
  obtain ⟨h1, h2⟩ := keptR_ok h
  refine ⟨of_ok small_still h1, ?_⟩
  cases is with
  | true => have := (h2 rfl).2; omega
  | false =>
    rw [hn rfl, of_nil] at h1
    cases h1
    exact Nat.zero_le _
theorem resP_ok {l : List UInt8} {is : Bool} {y : ByteArray} (h : resP l is = (y, 0)) (hn : is = false → l = []) : (∃ L, y = ba (wrs L) ∧ Fix keptL resOk L) ∧ y.size ≤ 64 := by
  obtain ⟨h1, h2⟩ := keptR_ok h
  refine ⟨of_ok kept_still h1, ?_⟩
  cases is with
  | true => have := (h2 rfl).2; omega
  | false =>
    rw [hn rfl, of_nil] at h1
    cases h1
    exact Nat.zero_le _
theorem cut_false {l sep : List UInt8} (h : (Lib.cut l sep).2.2 = false) : (Lib.cut l sep).2.1 = [] := by
  unfold Lib.cut at h ⊢
  split
  · rename_i h1
    rw [if_pos h1] at h
    cases h
  · rfl
theorem parts_false (l : List UInt8) : ((partsP l).2.1 = false → (partsP l).1 = []) ∧ ((partsP l).2.2.2.2 = false → (partsP l).2.2.2.1 = []) := by
  unfold partsP
  split
  · exact ⟨(fun h => by cases h), fun h => cut_false h⟩
  · exact ⟨fun _ => rfl, fun h => cut_false h⟩
theorem parse_ok {l : List UInt8} {a b c : ByteArray} (h : parseL l = (a, b, c, 0)) : JidOk a b c := by
  unfold parseL at h
  have hf := parts_false l
  split at h
  · rename_i hd
    split at h
    · rename_i hn
      split at h
      · rename_i hr
        injection h with h1 h2
        injection h2 with h2 h3
        injection h3 with h3 h4
        have n1 : nodeP (partsP l).1 (partsP l).2.1 = (a, 0) := by rw [← h1, ← hn]
        have n2 : resP (partsP l).2.2.2.1 (partsP l).2.2.2.2 = (c, 0) := by rw [← h3, ← hr]
        have n3 : domP (ba (partsP l).2.2.1) = (b, 0) := by rw [← h2, ← hd]
        exact ⟨(nodeP_ok n1 hf.1).1, (nodeP_ok n1 hf.1).2, dom_ok n3, (resP_ok n2 hf.2).1, (resP_ok n2 hf.2).2⟩
      · rename_i hr
        injection h with h1 h2
        injection h2 with h2 h3
        injection h3 with h3 h4
        exact absurd h4 hr
    · rename_i hr
      injection h with h1 h2
      injection h2 with h2 h3
      injection h3 with h3 h4
      exact absurd h4 hr
  · rename_i hr
    injection h with h1 h2
    injection h2 with h2 h3
    injection h3 with h3 h4
    exact absurd h4 hr
theorem not_mem_wrs {T : Int → List Int} {g : Int → Bool} {L : List Int} (h : Fix T g L) (b : UInt8) (hb : b.toNat < 128) (hg : g b.toNat = false) : b ∉ wrs L := by
  intro hm
  have := mem_wrs (fun c hc => (h.each c hc).1) hm hb
  rw [(h.each _ this).2.2.2] at hg
  cases hg
theorem parts_text (a b c : List UInt8) (ha1 : (47 : UInt8) ∉ a) (ha2 : (64 : UInt8) ∉ a) (hb1 : (47 : UInt8) ∉ b) (hb2 : (64 : UInt8) ∉ b) :
    partsP (textL a b c) = (a, !decide (a = []), b, c, !decide (c = [])) := by
  have hhead : ∀ h : List UInt8, (47 : UInt8) ∉ h → Lib.cut (h ++ (if c = [] then [] else 47 :: c)) [47] = (h, c, !decide (c = [])) := by
    intro h hh
    split
    · rename_i e
      rw [List.append_nil, cut_none 47 h hh, e]; rfl
    · rename_i e
      rw [cut_some 47 h c hh, decide_eq_false e]; rfl
  have hh : (47 : UInt8) ∉ (if a = [] then b else a ++ 64 :: b) := by
    split
    · exact hb1
    · intro e
      rcases List.mem_append.1 e with e | e
      · exact ha1 e
      · rcases List.mem_cons.1 e with e | e
        · exact absurd e (by decide)
        · exact hb1 e
  unfold partsP textL
  rw [hhead _ hh]
  simp only
  by_cases h : a = []
  · rw [if_pos h, cut_none 64 b hb2, h]
    rfl
  · rw [if_neg h, cut_some 64 a b ha2, decide_eq_false h]
    rfl
theorem parse_fix {a b c : ByteArray} (h : JidOk a b c) : parseL (textL a.data.toList b.data.toList c.data.toList) = (a, b, c, 0) := by
  obtain ⟨⟨La, rfl, fa⟩, na, ⟨Lb, hb⟩, ⟨Lc, rfl, fc⟩, nc⟩ := h
  have hdom := dom_fix hb
  obtain ⟨rfl, fb, sb, rb⟩ := hb
  rw [ba_size] at na nc
  have ga1 : nodeOk 47 = false := by decide
  have ga2 : nodeOk 64 = false := by decide
  have gb1 : hostOk 47 = false := by unfold hostOk; rw [letter_tab, left_tab]; rfl
  have gb2 : hostOk 64 = false := by unfold hostOk; rw [letter_tab, left_tab]; rfl
  rw [ba_list, ba_list, ba_list]
  have hp := parts_text (wrs La) (wrs Lb) (wrs Lc) (not_mem_wrs fa 47 (by decide) ga1) (not_mem_wrs fa 64 (by decide) ga2) (not_mem_wrs fb 47 (by decide) gb1) (not_mem_wrs fb 64 (by decide) gb2)
  have hn : nodeP (wrs La) (!decide (wrs La = [])) = (ba (wrs La), 0) := by
    unfold nodeP
    rw [of_fix fa]
    apply keptR_fix
    intro e
    rw [ba_size]
    have : wrs La ≠ [] := by intro e2; rw [decide_eq_true e2] at e; cases e
    have := List.length_pos_iff.2 this
    omega
  have hr : resP (wrs Lc) (!decide (wrs Lc = [])) = (ba (wrs Lc), 0) := by
    unfold resP
    rw [of_fix fc]
    apply keptR_fix
    intro e
    rw [ba_size]
    have : wrs Lc ≠ [] := by intro e2; rw [decide_eq_true e2] at e; cases e
    have := List.length_pos_iff.2 this
    omega
  unfold parseL
  rw [hp]
  simp only
  rw [hdom, hn, hr]
  rfl
theorem JidOk.len {a b c : ByteArray} (h : JidOk a b c) : a.size ≤ 64 ∧ b.size ≤ 100 ∧ c.size ≤ 64 := by
  obtain ⟨L, hb⟩ := h.dom
  refine ⟨h.locn, ?_, h.resn⟩
  rw [hb.text, ba_size]
  exact hb.size
theorem JidOk.text {a b c : ByteArray} (h : JidOk a b c) : jid_Text.f a b c = some (ba (textL a.data.toList b.data.toList c.data.toList)) := by
  have hl := h.len
  have := text_eq a.data.toList b.data.toList c.data.toList (by rw [size_list, size_list, size_list]; omega)
  exact this
theorem textL_len (a b c : List UInt8) : (textL a b c).length ≤ a.length + b.length + c.length + 2 := by
  unfold textL
  split <;> split <;> simp <;> omega
def bareL (l : List UInt8) : ByteArray × Int :=
  if (parseL l).2.2.2 = 0 then (if (parseL l).2.2.1.data.toList = [] then (ba (textL (parseL l).1.data.toList (parseL l).2.1.data.toList (parseL l).2.2.1.data.toList), 0) else (ba [], 14)) else (ba [], (parseL l).2.2.2)
theorem bare_ev (s : ByteArray) (h : s.size ≤ 100000000) : ∃ K, ∀ k, K ≤ k → jid_Bare.f k s = some (bareL s.data.toList) := by
  obtain ⟨K, hK⟩ := parse_ev s h
  refine ⟨K, fun k hk => ?_⟩
  unfold jid_Bare.f bareL
  rw [hK k hk]
  simp only [Option.bind_some]
  split
  · rename_i h0
    obtain ⟨⟨a, b, c, e⟩, hp⟩ : ∃ p, parseL s.data.toList = p := ⟨_, rfl⟩
    rw [hp] at h0 ⊢
    simp only at h0 ⊢
    subst h0
    have hok := parse_ok hp
    rw [ByteArray.toList_eq, hok.text]
    split <;> rfl
  · rfl
end Go.Proofs.YtaekklpphlcngaaGreatDoor.P
