/- Plain law of this session: what jid's functions compute, without rounds; what is parsed is parsed again as it was. -/
import Derived.Test.YtmhfjeekhkoikaaGreatDoorUtf
import Derived.Test.YtmhfjeekhkoikaaGreatDoorQ
namespace Go.Proofs.YtmhfjeekhkoikaaGreatDoor.P
open Go.RowKit Go.Lib Go.Proofs.YtmhfjeekhkoikaaGreatDoorX Go.Proofs.YtmhfjeekhkoikaaGreatDoorW.PrintWords Go.Proofs.YtmhfjeekhkoikaaGreatDoor.Q
set_option linter.unusedVariables false
set_option linter.unusedSimpArgs false
def ba (l : List UInt8) : ByteArray := ⟨l.toArray⟩
theorem ba_list (l : List UInt8) : (ba l).data.toList = l := by simp [ba]
theorem ba_toList (l : List UInt8) : (ba l).toList = l := by rw [ByteArray.toList_eq]; exact ba_list l
theorem ba_of (s : ByteArray) : ba s.data.toList = s := rfl
theorem ba_size (l : List UInt8) : (ba l).size = l.length := by simp [ba, ByteArray.size]
theorem size_list (s : ByteArray) : s.data.toList.length = s.size := Array.length_toList
theorem ba_append (a b : List UInt8) : ba a ++ ba b = ba (a ++ b) := by
  apply ByteArray.ext
  simp [ba]
theorem ba_extract (l : List UInt8) (i j : Nat) : (ba l).extract i j = ba ((l.take j).drop i) := by
  rw [← ba_of ((ba l).extract i j)]
  congr 1
  simp [ba, List.extract_eq_take_drop, List.take_drop]
  rcases Nat.le_total i j with h | h
  · rw [show i + (j - i) = j from by omega]
  · rw [show j - i = 0 from by omega, Nat.add_zero, List.drop_eq_nil_of_le (by rw [List.length_take]; omega), List.drop_eq_nil_of_le (by rw [List.length_take]; omega)]
theorem wrap_small {x : Int} (h0 : -9223372036854775808 ≤ x) (h1 : x ≤ 9223372036854775807) : wrap64 x = x := by
  unfold wrap64
  omega
theorem prefix_one (l : List UInt8) (b : UInt8) (h : l.length < 4611686018427387904) : strings_HasPrefix.f (ba l) (⟨#[b]⟩ : ByteArray) = some (l.head? == some b) := by
  have h1 : ((⟨#[b]⟩ : ByteArray).size : Int) = 1 := rfl
  unfold strings_HasPrefix.f stringslite_HasPrefix.f
  rw [h1, ba_size]
  cases l with
  | nil => rfl
  | cons c t =>
    rw [if_pos (by simp; omega), if_pos (by omega), if_pos (by simp; omega), ba_extract, ba_toList]
    simp [ByteArray.toList_eq]
theorem suffix_one (l : List UInt8) (b : UInt8) (h : l.length < 4611686018427387904) : stringslite_HasSuffix.f (ba l) (⟨#[b]⟩ : ByteArray) = some (l.getLast? == some b) := by
  have h1 : ((⟨#[b]⟩ : ByteArray).size : Int) = 1 := rfl
  unfold stringslite_HasSuffix.f
  rw [h1, ba_size]
  rcases List.eq_nil_or_concat l with rfl | ⟨t, c, rfl⟩
  · rfl
  · have hl : (t.concat c).length = t.length + 1 := by simp
    rw [hl] at h ⊢
    rw [wrap_small (by omega) (by omega), if_pos (by omega), if_pos (by omega), if_pos (by omega), ba_extract, ba_toList]
    have e : (((t.length + 1 : Nat) : Int) - 1).toNat = t.length := by omega
    rw [e]
    rw [List.concat_eq_append, List.take_of_length_le (by simp), List.drop_left]
    simp [ByteArray.toList_eq]
theorem suffix_one' (l : List UInt8) (b : UInt8) (h : l.length < 4611686018427387904) : strings_HasSuffix.f (ba l) (⟨#[b]⟩ : ByteArray) = some (l.getLast? == some b) := by
  unfold strings_HasSuffix.f
  rw [suffix_one l b h]; rfl
theorem trim_dot (l : List UInt8) (h : l.length < 4611686018427387904) : strings_TrimSuffix.f (ba l) (⟨#[46]⟩ : ByteArray) = some (ba (trimDot l)) := by
  unfold strings_TrimSuffix.f stringslite_TrimSuffix.f trimDot
  rw [suffix_one l 46 h]
  have h1 : ((⟨#[46]⟩ : ByteArray).size : Int) = 1 := rfl
  rw [h1, ba_size]
  by_cases hd : l.getLast? = some 46
  · have hp : 0 < l.length := by
      cases l with
      | nil => cases hd
      | cons _ _ => simp
    have hb : (l.getLast? == some (46 : UInt8)) = true := by rw [hd]; rfl
    rw [if_pos hd, hb]
    simp only [Option.bind_some, if_true]
    rw [wrap_small (by omega) (by omega), if_pos (by omega), if_pos (by omega), ba_extract]
    simp only [Option.bind_some, List.drop_zero]
    rw [List.dropLast_eq_take]
    congr 3
    omega
  · have hb : (l.getLast? == some (46 : UInt8)) = false := by
      rw [beq_eq_false_iff_ne]; exact hd
    rw [if_neg hd, hb]
    rfl
def partOk (x : ByteArray) : Bool := !(x.data.toList == []) && !(x.data.toList.head? == some 45) && !(x.data.toList.getLast? == some 45)
def dots (l : List UInt8) : List ByteArray := Lib.splitB (⟨#[46]⟩ : ByteArray) 0 (Lib.countB (ba l) (⟨#[46]⟩ : ByteArray)) (ba l)
def rightP (l : List UInt8) : Bool := (dots l).all partOk
theorem splitB_size (sep : ByteArray) : ∀ (k : Nat) (s : ByteArray), ∀ x ∈ Lib.splitB sep 0 k s, x.size ≤ s.size
  | 0, s, x, h => by
    rw [Lib.splitB_zero] at h
    rw [List.mem_singleton.1 h]
    exact Nat.le_refl _
  | k + 1, s, x, h => by
    unfold Lib.splitB at h
    split at h
    · rw [List.mem_singleton.1 h]
      exact Nat.le_refl _
    · rcases List.mem_cons.1 h with rfl | h
      · rw [ByteArray.size_extract]; omega
      · have := splitB_size sep k _ x h
        rw [ByteArray.size_extract] at this; omega
theorem right_loop (xs : List ByteArray) (hx : ∀ x ∈ xs, x.size < 4611686018427387904) (hl : xs.length < 4611686018427387904) :
    ∀ (d i k : Nat), i + d = xs.length → d < k → jid_right.l0 k xs (xs.length : Int) (i : Int) = some ((xs.drop i).all partOk)
  | 0, i, k, hi, hk => by
    obtain ⟨k, rfl⟩ : ∃ k', k = k' + 1 := ⟨k - 1, by omega⟩
    rw [jid_right.l0, if_neg (by omega), List.drop_eq_nil_of_le (by omega)]
    rfl
  | d + 1, i, k, hi, hk => by
    obtain ⟨k, rfl⟩ : ∃ k', k = k' + 1 := ⟨k - 1, by omega⟩
    have hlt : i < xs.length := by omega
    have hg : rdOf ByteArray.empty xs (i : Int) = xs[i] := rdOf_get _ xs i hlt
    have hm : xs[i] ∈ xs := List.getElem_mem hlt
    have hs := hx _ hm
    rw [jid_right.l0, if_pos (by omega), if_pos (by omega), if_pos (by omega), hg, List.drop_eq_getElem_cons hlt, List.all_cons]
    rw [wrap_small (x := (i : Int) + 1) (by omega) (by omega)]
    have ih := right_loop xs hx hl d (i + 1) k (by omega) (by omega)
    rw [show ((i + 1 : Nat) : Int) = (i : Int) + 1 by omega] at ih
    rw [ih]
    obtain ⟨x, hxx⟩ : ∃ x, xs[i] = x := ⟨_, rfl⟩
    rw [hxx] at hs ⊢
    rw [← ba_of x, prefix_one _ _ (by rw [size_list]; exact hs), suffix_one' _ _ (by rw [size_list]; exact hs), ba_toList]
    unfold partOk
    rw [ba_list]
    by_cases h1 : x.data.toList = []
    · rw [if_pos h1, h1]; rfl
    · rw [if_neg h1]
      have h1' : (x.data.toList == []) = false := by rw [beq_eq_false_iff_ne]; exact h1
      rw [h1']
      cases h2 : (x.data.toList.head? == some 45) with
      | true => rfl
      | false =>
        cases h3 : (x.data.toList.getLast? == some 45) with
        | true => rfl
        | false => rfl
theorem right_ev (l : List UInt8) (h : l.length < 4294967281) : ∃ K, ∀ k, K ≤ k → jid_right.f k (ba l) = some (rightP l) := by
  refine ⟨(dots l).length + 1, fun k hk => ?_⟩
  unfold jid_right.f strings_Split.f
  rw [if_pos ⟨by rw [ba_size]; omega, by decide⟩]
  simp only [Option.bind_some]
  have hs := splitB_size (⟨#[46]⟩ : ByteArray) (Lib.countB (ba l) (⟨#[46]⟩ : ByteArray)) (ba l)
  have hle := Lib.splitB_length_le (⟨#[46]⟩ : ByteArray) 0 (Lib.countB (ba l) (⟨#[46]⟩ : ByteArray)) (ba l)
  have hc := Lib.countB_le (⟨#[46]⟩ : ByteArray) (by decide) (ba l).size (ba l) (Nat.le_refl _)
  rw [ba_size] at hs hc
  exact right_loop (dots l) (fun x hx => by have := hs x hx; omega) (by unfold dots; omega) (dots l).length 0 k (by omega) (by omega)
structure Fix (T : Int → List Int) (g : Int → Bool) (L : List Int) : Prop where
  each : ∀ c ∈ L, scal c ∧ mayB c = true ∧ T c = [c] ∧ g c = true
  way : straightB L = true
theorem textOf_wrs : ∀ (L : List Int) (acc : ByteArray), (∀ c ∈ L, scal c) → L.foldl (fun out c => out ++ Utf8.encode (wrap32 c)) acc = ba (acc.data.toList ++ wrs L)
  | [], acc, _ => by simp [wrs, ba]
  | c :: L, acc, h => by
    have hc := h c (.head _)
    have hw : wrap32 c = c := by
      obtain ⟨h0, h1, h2⟩ := hc
      unfold wrap32; omega
    rw [List.foldl_cons, textOf_wrs L _ (fun x hx => h x (.tail _ hx)), hw, wrs_cons]
    congr 1
    rw [← List.append_assoc]
    simp [enc]
theorem textOf_ba (L : List Int) (h : ∀ c ∈ L, scal c) : textOf L = ba (wrs L) := by
  have := textOf_wrs L ⟨#[]⟩ h
  unfold textOf
  rw [this]
  rfl
theorem runesI_wrs (L : List Int) (h : ∀ c ∈ L, scal c) : runesI (ba (wrs L)) = L := by
  unfold runesI
  rw [ba_list, ba_size]
  exact runes_wrs _ L h (Nat.le_refl _)
def Still (T : Int → List Int) : Prop := ∀ c, scal c → mayB c = true → ∀ y ∈ T c, scal y ∧ mayB y = true ∧ T y = [y]
theorem of_ok {T : Int → List Int} {g : Int → Bool} (hT : Still T) {s y : ByteArray} (h : ofP T g s = (y, 0)) : ∃ L, y = ba (wrs L) ∧ Fix T g L := by
  unfold ofP at h
  split at h
  · rename_i hv
    unfold validT at hv
    rw [Bool.and_eq_true, List.all_eq_true] at hv
    have hall : ∀ c ∈ (runesI s).flatMap T, scal c ∧ mayB c = true ∧ T c = [c] := by
      intro c hc
      obtain ⟨x, hx, hcx⟩ := List.mem_flatMap.1 hc
      exact hT x (runes_scal _ _ x hx) (hv.2 x hx) c hcx
    split at h
    · cases h
    · rename_i hg
      split at h
      · rename_i hw
        injection h with h1 h2
        refine ⟨_, by rw [← h1, textOf_ba _ (fun c hc => (hall c hc).1)], ?_, hw⟩
        intro c hc
        refine ⟨(hall c hc).1, (hall c hc).2.1, (hall c hc).2.2, ?_⟩
        cases hgc : g c with
        | true => rfl
        | false =>
          exfalso
          apply hg
          rw [List.any_eq_true]
          exact ⟨c, hc, by rw [hgc]; rfl⟩
      · cases h
  · cases h
theorem flat_same {T : Int → List Int} : ∀ L : List Int, (∀ c ∈ L, T c = [c]) → L.flatMap T = L
  | [], _ => rfl
  | c :: L, h => by
    rw [List.flatMap_cons, h c (.head _), flat_same L (fun x hx => h x (.tail _ hx))]
    rfl
theorem valid_ba (L : List Int) (h : ∀ c ∈ L, scal c ∧ mayB c = true) : validT (ba (wrs L)) = true := by
  unfold validT
  rw [Bool.and_eq_true, ba_list, valid_wrs L (fun c hc => (h c hc).1), runesI_wrs L (fun c hc => (h c hc).1)]
  exact ⟨rfl, List.all_eq_true.2 fun c hc => (h c hc).2⟩
theorem of_fix {T : Int → List Int} {g : Int → Bool} {L : List Int} (h : Fix T g L) : ofP T g (ba (wrs L)) = (ba (wrs L), 0) := by
  unfold ofP
  rw [if_pos (valid_ba L fun c hc => ⟨(h.each c hc).1, (h.each c hc).2.1⟩), runesI_wrs L (fun c hc => (h.each c hc).1), flat_same L (fun c hc => (h.each c hc).2.2.1), if_neg ?_, if_pos h.way, textOf_ba L (fun c hc => (h.each c hc).1)]
  rw [List.any_eq_true]
  rintro ⟨c, hc, hg⟩
  rw [(h.each c hc).2.2.2] at hg
  cases hg
theorem of_nil (T : Int → List Int) (g : Int → Bool) : ofP T g (ba []) = (ba [], 0) := by
  have := of_fix (T := T) (g := g) (L := []) ⟨(fun c hc => by cases hc), rfl⟩
  exact this
def inTab : List Int → Int → Bool
  | a :: b :: l, c => (decide (a ≤ c) && decide (c ≤ b)) || inTab l c
  | _, _ => false
theorem gone_tab (c : Int) : goneB c = inTab [173, 173, 847, 847, 6150, 6150, 8203, 8205, 8288, 8288, 65024, 65039, 65279, 65279] c := by
  simp [goneB, pairsL, inR, inTab]
theorem left_tab (c : Int) : leftB c = inTab [1424, 1535, 1536, 1791, 64285, 64335] c := by
  simp [leftB, pairsL, inR, inTab]
theorem kept_still : Still keptL := by
  intro c hc hm y hy
  unfold keptL at hy
  split at hy
  · cases hy
  · rename_i hg
    rw [List.mem_singleton.1 hy]
    exact ⟨hc, hm, by unfold keptL; rw [if_neg hg]⟩
set_option maxRecDepth 100000 in
theorem small_still : Still smallL := by
  intro c hc hm y hy
  obtain ⟨h0, h1, h2⟩ := hc
  unfold smallL at hy
  split at hy
  · rename_i hu
    rw [List.mem_singleton.1 hy]
    have hn : goneB (c + 32) = false := by
      rw [gone_tab]
      simp only [inTab, Bool.or_eq_false_iff, Bool.and_eq_false_iff, decide_eq_false_iff_not, Bool.or_false]
      omega
    refine ⟨⟨by omega, by omega, by omega⟩, ?_, ?_⟩
    · unfold mayB
      simp only [Bool.or_eq_true, Bool.and_eq_true, beq_iff_eq, decide_eq_true_eq]
      omega
    · unfold smallL keptL
      rw [if_neg (by omega), if_neg (by omega), hn]
      rfl
  · rename_i hu
    split at hy
    · have : y = 115 := by
        rcases List.mem_cons.1 hy with h | h
        · exact h
        · exact List.mem_singleton.1 h
      subst this
      exact ⟨⟨by decide, by decide, by decide⟩, by decide, by decide⟩
    · rename_i hs
      unfold keptL at hy
      split at hy
      · cases hy
      · rename_i hg
        rw [List.mem_singleton.1 hy]
        exact ⟨⟨h0, h1, h2⟩, hm, by unfold smallL keptL; rw [if_neg hu, if_neg hs, if_neg hg]⟩
theorem of_size (T : Int → List Int) (g : Int → Bool) (hT : ∀ x, (T x).length ≤ 2) (s : ByteArray) : (ofP T g s).1.size ≤ 8 * s.size := by
  unfold ofP
  split
  · split
    · exact Nat.zero_le _
    · split
      · have h1 := textOf_size ((runesI s).flatMap T)
        have h2 := flat_len T hT (runesI s)
        have h3 := runesI_len s
        simp only; omega
      · exact Nat.zero_le _
  · exact Nat.zero_le _
def domP (s : ByteArray) : ByteArray × Int :=
  if (ofP smallL hostOk s).2 = 0 then
    (if 100 < (trimDot (ofP smallL hostOk s).1.data.toList).length then (ba [], 14)
     else if rightP (trimDot (ofP smallL hostOk s).1.data.toList) = true then (ba (trimDot (ofP smallL hostOk s).1.data.toList), 0) else (ba [], 14))
  else (ba [], (ofP smallL hostOk s).2)
theorem dom_ev (s : ByteArray) (h : s.size ≤ 100000000) : ∃ K, ∀ k, K ≤ k → jid_Domain.f k s = some (domP s) := by
  have hz := of_size smallL hostOk smallL_len s
  have hz2 := trimDot_len (ofP smallL hostOk s).1.data.toList
  rw [size_list] at hz2
  obtain ⟨K, hK⟩ := right_ev (trimDot (ofP smallL hostOk s).1.data.toList) (by omega)
  refine ⟨K, fun k hk => ?_⟩
  unfold jid_Domain.f prep_Host.f domP
  rw [if_pos (by omega)]
  simp only [Option.bind_some]
  split
  · have ht := trim_dot (ofP smallL hostOk s).1.data.toList (by rw [size_list]; omega)
    rw [ba_of] at ht
    rw [ht]
    simp only [Option.bind_some]
    rw [ba_size, hK k hk]
    by_cases h1 : 100 < (trimDot (ofP smallL hostOk s).1.data.toList).length
    · rw [if_pos (by omega), if_pos h1]; rfl
    · rw [if_neg (by omega), if_neg h1]
      simp only [Option.bind_some]
      split <;> rfl
  · rfl
theorem last_dot {L : List Int} (h : ∀ c ∈ L, scal c) (hd : (wrs L).getLast? = some 46) : ∃ L', L = L' ++ [46] ∧ (wrs L).dropLast = wrs L' := by
  rcases List.eq_nil_or_concat L with rfl | ⟨L', c, rfl⟩
  · cases hd
  · rw [List.concat_eq_append] at hd h ⊢
    have hc : scal c := h c (by simp)
    rw [wrs_append] at hd ⊢
    have e1 : wrs [c] = enc c := by simp [wrs]
    rw [e1] at hd ⊢
    have hl : (enc c).getLast? = some 46 := by
      rw [List.getLast?_append] at hd
      cases hx : (enc c).getLast? with
      | none => rw [List.getLast?_eq_none_iff] at hx; exact absurd hx (enc_ne hc)
      | some z => rw [hx] at hd; exact hd
    have hm : (46 : UInt8) ∈ enc c := List.mem_of_getLast? hl
    rcases mem_enc hc hm with ⟨_, e, e2⟩ | h1
    · refine ⟨L', by rw [e]; rfl, ?_⟩
      rw [e2, List.dropLast_concat]
    · exact absurd h1 (by decide)
theorem dots_pieces (l : List UInt8) : (dots l).map (·.data.toList) = pieces 46 l := by
  unfold dots
  rw [Lib.splitB_data, ← splitK_pieces, ba_list]
  rfl
theorem right_pieces (l : List UInt8) : rightP l = (pieces 46 l).all pOk := by
  rw [← dots_pieces, List.all_map]
  rfl
theorem right_nil : rightP [] = false := by
  rw [right_pieces]; rfl
theorem straight_pre {L : List Int} (h : straightB (L ++ [46]) = true) : straightB L = true := by
  unfold straightB at h ⊢
  have hl : leftB 46 = false := by rw [left_tab]; rfl
  have e : ((L ++ [46]).getD ((L ++ [46]).length - 1) 0) = (46 : Int) := by simp
  rw [e, hl] at h
  simp only [Bool.and_false, Bool.false_and, Bool.or_false, List.any_append, Bool.not_eq_true'] at h
  have : L.any leftB = false := by
    cases hx : L.any leftB with
    | false => rfl
    | true => rw [hx] at h; simp at h
  rw [this]
  rfl
structure DomOk (D : ByteArray) (L : List Int) : Prop where
  text : D = ba (wrs L)
  fix : Fix smallL hostOk L
  size : (wrs L).length ≤ 100
  right : rightP (wrs L) = true
theorem dom_ok {s D : ByteArray} (h : domP s = (D, 0)) : ∃ L, DomOk D L := by
  unfold domP at h
  obtain ⟨⟨y, e⟩, hy⟩ : ∃ y, ofP smallL hostOk s = y := ⟨_, rfl⟩
  rw [hy] at h
  simp only at h
  split at h
  · rename_i he
    subst he
    obtain ⟨L, rfl, hf⟩ := of_ok small_still hy
    rw [ba_list] at h
    split at h
    · cases h
    · rename_i hl
      split at h
      · rename_i hr
        injection h with h1 h2
        unfold trimDot at h1 hl hr
        split at h1
        · rename_i hd
          rw [if_pos hd] at hl hr
          obtain ⟨L', rfl, e2⟩ := last_dot (fun c hc => (hf.each c hc).1) hd
          rw [e2] at h1 hl hr
          exact ⟨L', h1.symm, ⟨fun c hc => hf.each c (List.mem_append_left _ hc), straight_pre hf.way⟩, by omega, hr⟩
        · rename_i hd
          rw [if_neg hd] at hl hr
          exact ⟨L, h1.symm, hf, by omega, hr⟩
      · cases h
  · cases h
    exact absurd rfl ‹_›
def partsP (l : List UInt8) : List UInt8 × Bool × List UInt8 × List UInt8 × Bool :=
  if (Lib.cut (Lib.cut l [47]).1 [64]).2.2 = true then ((Lib.cut (Lib.cut l [47]).1 [64]).1, true, (Lib.cut (Lib.cut l [47]).1 [64]).2.1, (Lib.cut l [47]).2.1, (Lib.cut l [47]).2.2)
  else ([], false, (Lib.cut l [47]).1, (Lib.cut l [47]).2.1, (Lib.cut l [47]).2.2)
theorem cut_len (l sep : List UInt8) : (Lib.cut l sep).1.length ≤ l.length ∧ (Lib.cut l sep).2.1.length ≤ l.length := by
  unfold Lib.cut
  split
  · simp only [List.length_take, List.length_drop]; omega
  · simp
theorem parts_eq (s : ByteArray) (h : s.size < 4294967281) : jid_parts.f s = some (ba (partsP s.data.toList).1, (partsP s.data.toList).2.1, ba (partsP s.data.toList).2.2.1, ba (partsP s.data.toList).2.2.2.1, (partsP s.data.toList).2.2.2.2) := by
  have hl := (cut_len s.data.toList [47]).1
  rw [size_list] at hl
  unfold jid_parts.f strings_Cut.f
  rw [if_pos h]
  simp only [Option.bind_some]
  rw [if_pos (by simp only [ByteArray.size, List.size_toArray]; omega)]
  simp only [Option.bind_some]
  unfold partsP
  show (if (Lib.cut (Lib.cut s.data.toList [47]).1 [64]).2.2 = true then _ else _) = _
  split
  · rename_i hc
    show some (_, (Lib.cut (Lib.cut s.data.toList [47]).1 [64]).2.2, _, _, _) = _
    rw [hc]
    rfl
  · rename_i hc
    show some (_, (Lib.cut (Lib.cut s.data.toList [47]).1 [64]).2.2, _, _, _) = _
    rw [Bool.eq_false_iff.2 hc]
    rfl
theorem parts_len (l : List UInt8) : (partsP l).1.length ≤ l.length ∧ (partsP l).2.2.1.length ≤ l.length ∧ (partsP l).2.2.2.1.length ≤ l.length := by
  have h1 := cut_len l [47]
  have h2 := cut_len (Lib.cut l [47]).1 [64]
  unfold partsP
  split <;> simp only [List.length_nil] <;> omega
def nodeP (l : List UInt8) (is : Bool) : ByteArray × Int := keptR (ofP smallL nodeOk (ba l)) is 64
def resP (l : List UInt8) (is : Bool) : ByteArray × Int := keptR (ofP keptL resOk (ba l)) is 64
def parseL (l : List UInt8) : ByteArray × ByteArray × ByteArray × Int :=
  if (domP (ba (partsP l).2.2.1)).2 = 0 then
    (if (nodeP (partsP l).1 (partsP l).2.1).2 = 0 then
      (if (resP (partsP l).2.2.2.1 (partsP l).2.2.2.2).2 = 0 then ((nodeP (partsP l).1 (partsP l).2.1).1, (domP (ba (partsP l).2.2.1)).1, (resP (partsP l).2.2.2.1 (partsP l).2.2.2.2).1, 0)
       else (ba [], ba [], ba [], (resP (partsP l).2.2.2.1 (partsP l).2.2.2.2).2))
     else (ba [], ba [], ba [], (nodeP (partsP l).1 (partsP l).2.1).2))
  else (ba [], ba [], ba [], (domP (ba (partsP l).2.2.1)).2)
theorem kept_node (l : List UInt8) (is : Bool) (h : l.length ≤ 100000000) : jid_kept_string.f (ba l) is 17 64 = some (nodeP l is) := by
  have hz := of_size smallL nodeOk smallL_len (ba l)
  rw [ba_size] at hz
  unfold jid_kept_string.f prep_Node.f nodeP
  rw [if_pos rfl, if_pos (by rw [ba_size]; omega)]
  simp only [Option.bind_some]
  rw [if_pos (by omega)]
theorem kept_res (l : List UInt8) (is : Bool) (h : l.length ≤ 100000000) : jid_kept_string.f (ba l) is 18 64 = some (resP l is) := by
  have hz := of_size keptL resOk keptL_len (ba l)
  rw [ba_size] at hz
  unfold jid_kept_string.f prep_Resource.f resP
  rw [if_neg (by decide), if_pos rfl, if_pos (by rw [ba_size]; omega)]
  simp only [Option.bind_some]
  rw [if_pos (by omega)]
theorem parse_ev (s : ByteArray) (h : s.size ≤ 100000000) : ∃ K, ∀ k, K ≤ k → jid_Parse.f k s = some (parseL s.data.toList) := by
  have hp := parts_len s.data.toList
  rw [size_list] at hp
  obtain ⟨K, hK⟩ := dom_ev (ba (partsP s.data.toList).2.2.1) (by rw [ba_size]; omega)
  refine ⟨K, fun k hk => ?_⟩
  unfold jid_Parse.f parseL
  rw [parts_eq s (by omega)]
  simp only [Option.bind_some]
  rw [hK k hk, kept_node _ _ (by omega), kept_res _ _ (by omega)]
  simp only [Option.bind_some]
  split
  · split
    · split <;> rfl
    · rfl
  · rfl
def textL (a b c : List UInt8) : List UInt8 := (if a = [] then b else a ++ 64 :: b) ++ (if c = [] then [] else 47 :: c)
theorem text_eq (a b c : List UInt8) (h : a.length + b.length + c.length ≤ 4611686018427387904) : jid_Text.f (ba a) (ba b) (ba c) = some (ba (textL a b c)) := by
  unfold jid_Text.f textL
  have e1 : (⟨#[64]⟩ : ByteArray) = ba [64] := rfl
  have e2 : (⟨#[47]⟩ : ByteArray) = ba [47] := rfl
  rw [ba_toList, ba_toList, e1, e2]
  simp only [ba_append, ba_size, List.length_append, List.length_cons, List.length_nil]
  by_cases ha : a = []
  · rw [if_pos ha, if_pos ha]
    by_cases hc : c = []
    · rw [if_pos hc, if_pos hc, List.append_nil]
    · rw [if_neg hc, if_neg hc, if_pos (by omega), if_pos (by omega)]
      rfl
  · rw [if_neg ha, if_neg ha, if_pos (by omega), if_pos (by omega)]
    by_cases hc : c = []
    · rw [if_pos hc, if_pos hc, List.append_nil]
      simp
    · rw [if_neg hc, if_neg hc, if_pos (by omega), if_pos (by omega)]
      simp
theorem index_none (c : UInt8) : ∀ l : List UInt8, c ∉ l → Lib.index l [c] = -1
  | [], _ => rfl
  | b :: l, h => by
    have h1 : b ≠ c := fun e => h (by rw [e]; exact .head _)
    have hp : ([c] : List UInt8).isPrefixOf (b :: l) = false := by simp [List.isPrefixOf, Ne.symm h1]
    rw [Lib.index, hp, index_none c l (fun e => h (.tail _ e))]
    rfl
theorem index_some (c : UInt8) : ∀ (p q : List UInt8), c ∉ p → Lib.index (p ++ c :: q) [c] = p.length
  | [], q, _ => by rw [List.nil_append, Lib.index]; simp [List.isPrefixOf]
  | b :: p, q, h => by
    have h1 : b ≠ c := fun e => h (by rw [e]; exact .head _)
    have hp : ([c] : List UInt8).isPrefixOf (b :: (p ++ c :: q)) = false := by simp [List.isPrefixOf, Ne.symm h1]
    rw [List.cons_append, Lib.index, hp, index_some c p q (fun e => h (.tail _ e))]
    have : (((p.length : Nat) : Int) == -1) = false := by rw [beq_eq_false_iff_ne]; omega
    rw [this]
    simp
theorem cut_none (c : UInt8) (l : List UInt8) (h : c ∉ l) : Lib.cut l [c] = (l, [], false) := by
  unfold Lib.cut
  rw [index_none c l h]
  rfl
theorem cut_some (c : UInt8) (p q : List UInt8) (h : c ∉ p) : Lib.cut (p ++ c :: q) [c] = (p, q, true) := by
  unfold Lib.cut
  rw [index_some c p q h, if_pos (by omega)]
  simp
theorem keptR_ok {y : ByteArray × Int} {is : Bool} {most : Int} {L : ByteArray} (h : keptR y is most = (L, 0)) : y = (L, 0) ∧ (is = true → L.size ≠ 0 ∧ (L.size : Int) ≤ most) := by
  unfold keptR at h
  split at h
  · rename_i h0
    split at h
    · cases h
    · rename_i hn
      injection h with h1 h2
      refine ⟨by rw [← h1, ← h0], fun hi => ?_⟩
      rw [← h1]
      constructor
      · intro e; exact hn ⟨hi, .inl e⟩
      · rcases Int.lt_or_le most y.1.size with hl | hl
        · exact absurd ⟨hi, .inr hl⟩ hn
        · exact hl
  · rename_i h0
    injection h with h1 h2
    exact absurd h2 h0
structure JidOk (a b c : ByteArray) : Prop where
  loc : ∃ L, a = ba (wrs L) ∧ Fix smallL nodeOk L
  locn : a.size ≤ 64
  dom : ∃ L, DomOk b L
  res : ∃ L, c = ba (wrs L) ∧ Fix keptL resOk L
  resn : c.size ≤ 64
theorem nodeP_ok {l : List UInt8} {is : Bool} {y : ByteArray} (h : nodeP l is = (y, 0)) (hn : is = false → l = []) : (∃ L, y = ba (wrs L) ∧ Fix smallL nodeOk L) ∧ y.size ≤ 64 := by
  obtain ⟨h1, h2⟩ := keptR_ok h
  refine ⟨of_ok small_still h1, ?_⟩
  cases is with
  | true => have := (h2 rfl).2; omega
  | false =>
    rw [hn rfl, of_nil] at h1
    cases h1
    exact Nat.zero_le _
theorem resP_ok {l : List UInt8} {is : Bool} {y : ByteArray} (h : resP l is = (y, 0)) (hn : is = false → l = []) : (∃ L, y = ba (wrs L) ∧ Fix keptL resOk L) ∧ y.size ≤ 64 := by
  obtain ⟨h1, h2⟩ := keptR_ok h
  refine ⟨of_ok kept_still h1, ?_⟩
  cases is with
  | true => have := (h2 rfl).2; omega
  | false =>
    rw [hn rfl, of_nil] at h1
    cases h1
    exact Nat.zero_le _
theorem cut_false {l sep : List UInt8} (h : (Lib.cut l sep).2.2 = false) : (Lib.cut l sep).2.1 = [] := by
  unfold Lib.cut at h ⊢
  split
  · rename_i h1
    rw [if_pos h1] at h
    cases h
  · rfl
theorem parts_false (l : List UInt8) : ((partsP l).2.1 = false → (partsP l).1 = []) ∧ ((partsP l).2.2.2.2 = false → (partsP l).2.2.2.1 = []) := by
  unfold partsP
  split
  · exact ⟨(fun h => by cases h), fun h => cut_false h⟩
  · exact ⟨fun _ => rfl, fun h => cut_false h⟩
theorem parse_ok {l : List UInt8} {a b c : ByteArray} (h : parseL l = (a, b, c, 0)) : JidOk a b c := by
  unfold parseL at h
  have hf := parts_false l
  split at h
  · rename_i hd
    split at h
    · rename_i hn
      split at h
      · rename_i hr
        injection h with h1 h2
        injection h2 with h2 h3
        injection h3 with h3 h4
        have n1 : nodeP (partsP l).1 (partsP l).2.1 = (a, 0) := by rw [← h1, ← hn]
        have n2 : resP (partsP l).2.2.2.1 (partsP l).2.2.2.2 = (c, 0) := by rw [← h3, ← hr]
        have n3 : domP (ba (partsP l).2.2.1) = (b, 0) := by rw [← h2, ← hd]
        exact ⟨(nodeP_ok n1 hf.1).1, (nodeP_ok n1 hf.1).2, dom_ok n3, (resP_ok n2 hf.2).1, (resP_ok n2 hf.2).2⟩
      · rename_i hr
        injection h with h1 h2
        injection h2 with h2 h3
        injection h3 with h3 h4
        exact absurd h4 hr
    · rename_i hr
      injection h with h1 h2
      injection h2 with h2 h3
      injection h3 with h3 h4
      exact absurd h4 hr
  · rename_i hr
    injection h with h1 h2
    injection h2 with h2 h3
    injection h3 with h3 h4
    exact absurd h4 hr
theorem JidOk.len {a b c : ByteArray} (h : JidOk a b c) : a.size ≤ 64 ∧ b.size ≤ 100 ∧ c.size ≤ 64 := by
  obtain ⟨L, hb⟩ := h.dom
  refine ⟨h.locn, ?_, h.resn⟩
  rw [hb.text, ba_size]
  exact hb.size
theorem JidOk.text {a b c : ByteArray} (h : JidOk a b c) : jid_Text.f a b c = some (ba (textL a.data.toList b.data.toList c.data.toList)) := by
  have hl := h.len
  have := text_eq a.data.toList b.data.toList c.data.toList (by rw [size_list, size_list, size_list]; omega)
  exact this
def bareL (l : List UInt8) : ByteArray × Int :=
  if (parseL l).2.2.2 = 0 then (if (parseL l).2.2.1.data.toList = [] then (ba (textL (parseL l).1.data.toList (parseL l).2.1.data.toList (parseL l).2.2.1.data.toList), 0) else (ba [], 14)) else (ba [], (parseL l).2.2.2)
theorem bare_ev (s : ByteArray) (h : s.size ≤ 100000000) : ∃ K, ∀ k, K ≤ k → jid_Bare.f k s = some (bareL s.data.toList) := by
  obtain ⟨K, hK⟩ := parse_ev s h
  refine ⟨K, fun k hk => ?_⟩
  unfold jid_Bare.f bareL
  rw [hK k hk]
  simp only [Option.bind_some]
  split
  · rename_i h0
    obtain ⟨⟨a, b, c, e⟩, hp⟩ : ∃ p, parseL s.data.toList = p := ⟨_, rfl⟩
    rw [hp] at h0 ⊢
    simp only at h0 ⊢
    subst h0
    have hok := parse_ok hp
    rw [ByteArray.toList_eq, hok.text]
    split <;> rfl
  · rfl
def domainL (l : List UInt8) : List UInt8 := if (Lib.cut l [64]).2.2 = true then (Lib.cut l [64]).2.1 else l
theorem domain_eq (s : ByteArray) (h : s.size < 4294967281) : jid_domain.f s = some (ba (domainL s.data.toList)) := by
  unfold jid_domain.f strings_Cut.f domainL
  rw [if_pos h]
  show (if (Lib.cut s.data.toList [64]).2.2 = true then _ else _) = _
  split <;> rfl
def lessL (a b : List UInt8) : Bool := if domainL a = domainL b then Op.bytesLess a b else Op.bytesLess (domainL a) (domainL b)
theorem less_irrefl (a : List UInt8) : Op.bytesLess a a = false := by
  cases h : Op.bytesLess a a with
  | false => rfl
  | true => rw [(less_asymm a a h).1] at h; cases h
def compareS (a0 a1 : ByteArray) : Int := if Op.bytesLess a0.toList a1.toList = true then -1 else if Op.bytesLess a1.toList a0.toList = true then 1 else 0
theorem compare_f (a b : ByteArray) : cmp_Compare_string.f a b = some (compareS a b) := by
  have hn : ∀ a : ByteArray, cmp_isNaN_string.f a = some false := fun a => by simp [cmp_isNaN_string.f]
  unfold cmp_Compare_string.f compareS
  rw [hn, hn]
  simp only [Option.bind_some, Bool.false_eq_true, if_false]
  split
  · rfl
  · split <;> rfl
theorem compare_eq (a b : List UInt8) : compareS (ba a) (ba b) = if a = b then 0 else if Op.bytesLess a b = true then -1 else 1 := by
  unfold compareS
  rw [ba_toList, ba_toList]
  by_cases h : a = b
  · rw [if_pos h, h, less_irrefl]; rfl
  · rw [if_neg h]
    split
    · rfl
    · rename_i h1
      cases h2 : Op.bytesLess b a with
      | true => rfl
      | false =>
        have := less_total a b (Bool.eq_false_iff.2 h1) h2
        exact absurd (by simpa using this) h
theorem or_two (x y : Int) (k : Nat) (h : 3 ≤ k) : cmp_Or_int.f k [x, y] = some (if x = 0 then y else x) := by
  obtain ⟨k, rfl⟩ : ∃ j, k = j + 3 := ⟨k - 3, by omega⟩
  have w1 : wrap64 (0 + 1) = 1 := wrap_small (by decide) (by decide)
  have w2 : wrap64 (1 + 1) = 2 := wrap_small (by decide) (by decide)
  have h2 : (([x, y] : List Int).length : Int) = 2 := rfl
  have e0 : rd [x, y] 0 = x := rfl
  have e1 : rd [x, y] 1 = y := rfl
  unfold cmp_Or_int.f
  rw [cmp_Or_int.l0, h2, if_pos (by decide), if_pos (by decide), if_pos (by decide), e0, w1]
  split
  · rw [cmp_Or_int.l0, h2, if_pos (by decide), if_pos (by decide), if_pos (by decide), e1, w2]
    split
    · rename_i hy
      rw [cmp_Or_int.l0, if_neg (by decide), hy]
    · rfl
  · rfl
theorem less_ev (s t : ByteArray) (hs : s.size < 4294967281) (ht : t.size < 4294967281) (k : Nat) (hk : 3 ≤ k) : jid_Less.f k s t = some (lessL s.data.toList t.data.toList) := by
  unfold jid_Less.f
  rw [domain_eq s hs, domain_eq t ht]
  simp only [Option.bind_some]
  rw [compare_f, compare_f]
  simp only [Option.bind_some]
  rw [or_two _ _ k hk]
  simp only [Option.bind_some]
  have e := compare_eq s.data.toList t.data.toList
  rw [ba_of, ba_of] at e
  rw [compare_eq, e]
  unfold lessL
  by_cases h1 : domainL s.data.toList = domainL t.data.toList
  · rw [if_pos h1, if_pos h1, if_pos rfl]
    by_cases h2 : s.data.toList = t.data.toList
    · rw [if_pos h2, h2, less_irrefl]; rfl
    · rw [if_neg h2]
      cases h3 : Op.bytesLess s.data.toList t.data.toList <;> rfl
  · rw [if_neg h1, if_neg h1]
    cases h3 : Op.bytesLess (domainL s.data.toList) (domainL t.data.toList) <;> rfl
theorem awake_ev : ∃ K, ∀ k, K ≤ k → cardexlaw07_awake.f k = some true := by
  obtain ⟨K1, h1⟩ := bare_ev (⟨#[65, 64, 66]⟩ : ByteArray) (by decide)
  obtain ⟨K2, h2⟩ := parse_ev (⟨#[97, 64, 98, 47, 67]⟩ : ByteArray) (by decide)
  have e1 : bareL [65, 64, 66] = (ba [97, 64, 98], 0) := by decide +kernel
  have e2 : parseL [97, 64, 98, 47, 67] = (ba [97], ba [98], ba [67], 0) := by decide +kernel
  refine ⟨K1 + K2 + 3, fun k hk => ?_⟩
  unfold cardexlaw07_awake.f
  rw [h1 k (by omega), h2 k (by omega), less_ev _ _ (by decide) (by decide) k (by omega)]
  simp only [Option.bind_some]
  rw [e1, e2]
  simp only [ba_toList, if_true]
  rw [if_pos (by decide), text_eq [97] [98] [67] (by decide)]
  simp only [Option.bind_some, ba_toList]
  rw [if_pos (by decide)]
  rfl
end Go.Proofs.YtmhfjeekhkoikaaGreatDoor.P
