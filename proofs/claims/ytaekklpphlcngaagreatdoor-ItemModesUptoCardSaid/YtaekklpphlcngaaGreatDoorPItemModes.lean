/- Lists that rise; one put in its place (plain Lean). -/
import Derived.Test.YtaekklpphlcngaaGreatDoorPl
import Derived.Test.YtaekklpphlcngaaGreatDoorJidA
import Derived.Test.YtaekklpphlcngaaGreatDoorRefB
section
namespace Go.Proofs.YtaekklpphlcngaaGreatDoor.P
open Go
def insertAt {α : Type} (l : List α) (k : Nat) (x : α) : List α := l.take k ++ x :: l.drop k
def Rising {α : Type} (lt : α → α → Bool) (l : List α) : Prop := l.Pairwise fun a b => lt a b = true
theorem rising_insAt {α : Type} {lt : α → α → Bool} {l : List α} {k : Nat} {x : α} (h : Rising lt l) (h1 : ∀ y ∈ l.take k, lt y x = true) (h2 : ∀ y ∈ l.drop k, lt x y = true) : Rising lt (insertAt l k x) := by
  unfold Rising insertAt at *
  rw [← List.take_append_drop k l] at h
  rw [List.pairwise_append] at h ⊢
  obtain ⟨ha, hb, hab⟩ := h
  refine ⟨ha, List.pairwise_cons.2 ⟨h2, hb⟩, fun a h3 b h4 => ?_⟩
  rcases List.mem_cons.1 h4 with rfl | h4
  · exact h1 a h3
  · exact hab a h3 b h4
theorem lessS_trans : ∀ (a b c : List UInt8), Op.bytesLess a b = true → Op.bytesLess b c = true → Op.bytesLess a c = true
  | [], _, [], _, h => by cases ‹List UInt8› <;> simp [Op.bytesLess] at h
  | [], _, _ :: _, _, _ => rfl
  | _ :: _, [], _, h, _ => by simp [Op.bytesLess] at h
  | _ :: _, _ :: _, [], _, h => by simp [Op.bytesLess] at h
  | x :: a, y :: b, z :: c, h, g => by
    simp only [Op.bytesLess, Bool.or_eq_true, decide_eq_true_eq, Bool.and_eq_true, beq_iff_eq] at h g ⊢
    rcases h with h | ⟨rfl, h⟩ <;> rcases g with g | ⟨rfl, g⟩
    · exact .inl (UInt8.lt_trans h g)
    · exact .inl h
    · exact .inl g
    · exact .inr ⟨rfl, lessS_trans a b c h g⟩
end Go.Proofs.YtaekklpphlcngaaGreatDoor.P
end
section
namespace Go.Proofs.YtaekklpphlcngaaGreatDoor.P
open Go.RowKit Go.Lib Go.Proofs.YtaekklpphlcngaaGreatDoorX Go.Proofs.YtaekklpphlcngaaGreatDoorW.PrintWords Go.Proofs.YtaekklpphlcngaaGreatDoor.Q
def nums (l : List UInt8) : List Int := l.map fun b => (b.toNat : Int)
theorem wrs_nums : ∀ l : List UInt8, (∀ b ∈ l, b.toNat < 128) → wrs (nums l) = l
  | [], _ => rfl
  | b :: l, h => by
    have hb := h b (.head _)
    have ih := wrs_nums l (fun x hx => h x (.tail _ hx))
    show wrs ((b.toNat : Int) :: nums l) = _
    rw [wrs_cons, ih, enc_ascii (by omega) (by omega)]
    simp
end Go.Proofs.YtaekklpphlcngaaGreatDoor.P
end
section
namespace Go.Proofs.YtaekklpphlcngaaGreatDoor.P
open Go.RowKit Go.Lib Go.Proofs.YtaekklpphlcngaaGreatDoorX Go.Proofs.YtaekklpphlcngaaGreatDoorW.PrintWords Go.Proofs.YtaekklpphlcngaaGreatDoor.Q
set_option linter.unusedVariables false
set_option linter.unusedSimpArgs false
def lineB (s : ByteArray) (n : Int) : Bool := lineT s && decide (((runesI s).length : Int) ≤ n)
theorem line_f (s : ByteArray) (n : Int) (h : s.size ≤ 17592186044415) : utf_Line.f s n = some (lineB s n) := by
  unfold utf_Line.f lineB
  rw [if_pos h]
theorem refline_loop (s : ByteArray) (n : Int) (l : List Int) (hs : s.size ≤ 100000000) (hl : l.length ≤ 100000000) : ∀ (d i k : Nat), i + d = l.length → s.size + 10 + d < k →
    cardexref01_Line.l0 k s n l (i : Int) = some ((l.drop i).all (fun c => decide (32 ≤ c)) && validT s && decide ((l.length : Int) ≤ n))
  | 0, i, k, hi, hk => by
    obtain ⟨k, rfl⟩ : ∃ j, k = j + 1 := ⟨k - 1, by omega⟩
    rw [cardexref01_Line.l0, if_neg (by omega), ref_valid s (by omega) k (by omega), List.drop_eq_nil_of_le (by omega)]
    cases validT s <;> rfl
  | d + 1, i, k, hi, hk => by
    obtain ⟨k, rfl⟩ : ∃ j, k = j + 1 := ⟨k - 1, by omega⟩
    have hlt : i < l.length := by omega
    rw [cardexref01_Line.l0, if_pos (by omega), if_pos (by omega), rd_get l i hlt, List.drop_eq_getElem_cons hlt, List.all_cons]
    by_cases h : l[i] < 32
    · rw [if_pos h, decide_eq_false (by omega)]; rfl
    · rw [if_neg h, wrap_small (by omega) (by omega), decide_eq_true (by omega : (32 : Int) ≤ l[i])]
      have ih := refline_loop s n l hs hl d (i + 1) k (by omega) (by omega)
      rw [show ((i + 1 : Nat) : Int) = (i : Int) + 1 by omega] at ih
      rw [ih, Bool.true_and]
theorem ref_line (s : ByteArray) (n : Int) (hs : s.size ≤ 100000000) (k : Nat) (hk : 2 * s.size + 12 ≤ k) : cardexref01_Line.f k s n = some (lineB s n) := by
  have hr := runesI_len s
  unfold cardexref01_Line.f
  rw [ref_runes s (by omega) k (by omega)]
  simp only [Option.bind_some]
  cases hv : validT s with
  | true =>
    rw [if_pos rfl]
    have := refline_loop s n (runesI s) hs (by omega) (runesI s).length 0 k (by omega) (by omega)
    rw [show ((0 : Nat) : Int) = 0 from rfl, List.drop_zero, hv] at this
    rw [this]
    have hall : (runesI s).all (fun c => decide (32 ≤ c)) = (runesI s).all shownB := by
      unfold validT at hv
      rw [Bool.and_eq_true, List.all_eq_true] at hv
      rw [Bool.eq_iff_iff, List.all_eq_true, List.all_eq_true]
      constructor
      · intro h c hc
        have h1 := of_decide_eq_true (h c hc)
        have h2 := hv.2 c hc
        unfold mayB at h2
        unfold shownB
        simp only [Bool.or_eq_true, Bool.and_eq_true, decide_eq_true_eq, beq_iff_eq] at h2 ⊢
        omega
      · intro h c hc
        have h2 := h c hc
        unfold shownB at h2
        simp only [Bool.or_eq_true, Bool.and_eq_true, decide_eq_true_eq] at h2
        exact decide_eq_true (by omega)
    rw [hall]
    unfold lineB lineT
    unfold validT at hv
    rw [Bool.and_eq_true] at hv
    rw [hv.1, Bool.and_true, Bool.true_and]
  | false =>
    rw [if_neg (by decide)]
    have := refline_loop s n [] hs (by simp) 0 0 k (by simp) (by omega)
    rw [show ((0 : Nat) : Int) = 0 from rfl, hv] at this
    rw [this]
    have hl : lineT s = false := by
      cases h : lineT s with
      | false => rfl
      | true => rw [line_valid h] at hv; cases hv
    unfold lineB
    rw [hl]; rfl
def Pr (l : List UInt8) : Prop := ∀ b ∈ l, 32 ≤ b.toNat ∧ b.toNat < 127
theorem pr_line {l : List UInt8} (h : Pr l) (n : Int) : lineB (ba l) n = decide ((l.length : Int) ≤ n) := by
  have e := wrs_nums l (fun b hb => by have := h b hb; omega)
  have hs : ∀ c ∈ nums l, scal c ∧ shownB c = true := by
    intro c hc
    obtain ⟨b, hb, rfl⟩ := List.mem_map.1 hc
    have := h b hb
    refine ⟨⟨by omega, by omega, by omega⟩, ?_⟩
    unfold shownB
    simp only [Bool.or_eq_true, Bool.and_eq_true, decide_eq_true_eq]
    omega
  have hr : runesI (ba l) = nums l := by
    have := runesI_wrs (nums l) (fun c hc => (hs c hc).1)
    rwa [e] at this
  have hv := valid_wrs (nums l) (fun c hc => (hs c hc).1)
  rw [e] at hv
  unfold lineB lineT
  rw [ba_list, hv, hr, List.all_eq_true.2 (fun c hc => (hs c hc).2)]
  unfold nums
  rw [List.length_map]
  rfl
theorem playline_loop (s : ByteArray) (n : Int) (hs : s.size ≤ 100000000) (hn : n ≤ 1000) : ∀ (d i k : Nat) (out : List UInt8), i + d = s.size → 2 * d + 3 ≤ k → Pr out → (out.length : Int) ≤ n → 
    ∃ r : List UInt8, cardexplay_Line.l0 k s n (ba out) (i : Int) = some (ba r) ∧ Pr r ∧ (r.length : Int) ≤ n
  | 0, i, k, out, hi, hk, hp, ho => by
    obtain ⟨k, rfl⟩ : ∃ j, k = j + 2 := ⟨k - 2, by omega⟩
    rw [cardexplay_Line.l0, if_neg (by omega), cardexplay_Line.j1, if_neg (by decide)]
    exact ⟨out, rfl, hp, ho⟩
  | d + 1, i, k, out, hi, hk, hp, ho => by
    obtain ⟨k, rfl⟩ : ∃ j, k = j + 2 := ⟨k - 2, by omega⟩
    have hlt : i < s.size := by omega
    rw [cardexplay_Line.l0, if_pos (by omega), cardexplay_Line.j1, ba_size]
    by_cases h1 : (out.length : Int) < n
    · rw [decide_eq_true h1, if_pos rfl, if_pos (by omega), if_pos (by omega)]
      obtain ⟨b, hb⟩ : ∃ b : UInt8, bt s (i : Int) = (b.toNat : Int) ∧ s.extract i (i + 1) = ba [b] := by
        have hl : i < s.data.toList.length := by rw [size_list]; exact hlt
        refine ⟨s.data.toList[i], ?_, ?_⟩
        · rw [bt_byte]
          unfold byte
          rw [List.getD_eq_getElem?_getD, List.getElem?_eq_getElem hl]; rfl
        · have h0 : s.extract i (i + 1) = (ba s.data.toList).extract i (i + 1) := rfl
          rw [h0, ba_extract]
          congr 1
          rw [List.take_add_one, List.drop_append_of_le_length (by rw [List.length_take]; omega), List.drop_eq_nil_of_le (by rw [List.length_take]; omega)]
          simp [List.getElem?_eq_getElem hl]
      have hw : wrap64 ((i : Int) + 1) = ((i + 1 : Nat) : Int) := by rw [wrap_small (by omega) (by omega)]; omega
      rw [hb.1]
      have next : ∀ out', Pr out' → (out'.length : Int) ≤ n → ∃ r : List UInt8, cardexplay_Line.l0 k s n (ba out') (wrap64 ((i : Int) + 1)) = some (ba r) ∧ Pr r ∧ (r.length : Int) ≤ n := by
        intro out' h3 h4
        rw [hw]
        exact playline_loop s n hs hn d (i + 1) k out' (by omega) (by omega) h3 h4
      by_cases h32 : (b.toNat : Int) ≥ 32
      · rw [if_pos h32]
        by_cases h127 : (b.toNat : Int) < 127
        · rw [if_pos h127, if_pos (by rw [hw]; omega), if_pos (by rw [hw]; omega), hw]
          simp only [Option.bind_some, Int.toNat_natCast]
          rw [hb.2, ba_size, if_pos (by simp only [List.length_cons, List.length_nil]; omega), ba_append, ← hw]
          refine next _ (fun c hc => ?_) (by simp only [List.length_append, List.length_cons, List.length_nil]; omega)
          rcases List.mem_append.1 hc with hc | hc
          · exact hp c hc
          · rw [List.mem_singleton.1 hc]; omega
        · rw [if_neg h127]; exact next out hp ho
      · rw [if_neg h32]; exact next out hp ho
    · rw [decide_eq_false h1, if_neg (by decide)]
      exact ⟨out, rfl, hp, ho⟩
theorem play_line (s : ByteArray) (n : Int) (hs : s.size ≤ 1000000) (h0 : 0 ≤ n) (hn : n ≤ 1000) (k : Nat) (hk : 2 * s.size + 12 ≤ k) : ∃ r, cardexplay_Line.f k s n = some r ∧ lineB r n = true ∧ r.size ≤ 1001000 := by
  unfold cardexplay_Line.f
  rw [ref_line s n (by omega) k hk]
  simp only [Option.bind_some]
  cases hl : lineB s n with
  | true => exact ⟨s, if_pos rfl, hl, by omega⟩
  | false =>
    rw [if_neg (by decide)]
    obtain ⟨r, h1, h2, h3⟩ := playline_loop s n (by omega) hn s.size 0 k [] (by omega) (by omega) (fun b hb => by cases hb) (by simp; exact h0)
    exact ⟨ba r, h1, by rw [pr_line h2]; exact decide_eq_true h3, by rw [ba_size]; omega⟩
def ltS (a b : ByteArray) : Bool := Op.bytesLess a.toList b.toList
theorem ltS_trans {a b c : ByteArray} (h : ltS a b = true) (g : ltS b c = true) : ltS a c = true := lessS_trans _ _ _ h g
theorem ltS_total {a b : ByteArray} (h : ltS a b = false) (g : ¬ (a.toList == b.toList) = true) : ltS b a = true := by
  cases h2 : ltS b a with
  | true => rfl
  | false => exact absurd (less_total _ _ h h2) g
theorem grp_rising {out : List ByteArray} (h : Rising ltS out) (x : ByteArray) : Rising ltS (grpS out x) := by
  unfold grpS
  split
  · exact h
  · split
    · exact h
    · rename_i hh
      have hk := upTo_le x out
      have hbelow : ∀ y ∈ out.take (upTo x out), ltS y x = true := by
        clear h hh hk
        induction out with
        | nil => intro y hy; simp at hy
        | cons z l ih =>
          intro y hy
          unfold upTo at hy
          split at hy
          · rename_i hc
            rw [List.take_succ_cons] at hy
            rcases List.mem_cons.1 hy with rfl | hy
            · exact hc
            · exact ih y hy
          · simp at hy
      have habove : ∀ y ∈ out.drop (upTo x out), ltS x y = true := by
        intro y hy
        by_cases hl : upTo x out < out.length
        · have hz : ltS out[upTo x out] x = false := by
            clear h hh hk hbelow hy
            induction out with
            | nil => simp at hl
            | cons z l ih =>
              by_cases hc : Op.bytesLess z.toList x.toList = true
              · have hu : upTo x (z :: l) = upTo x l + 1 := by
                  rw [upTo, if_pos hc]
                simp only [hu, List.getElem_cons_succ]
                exact ih (by simpa [hu] using hl)
              · have hu : upTo x (z :: l) = 0 := by rw [upTo, if_neg hc]
                simp only [hu, List.getElem_cons_zero]
                exact Bool.eq_false_iff.2 hc
          have hne : ¬ (out[upTo x out].toList == x.toList) = true := by
            unfold hasAt at hh
            rw [List.getElem?_eq_getElem hl] at hh
            exact hh
          have hxz := ltS_total hz hne
          rw [List.drop_eq_getElem_cons hl] at hy
          rcases List.mem_cons.1 hy with rfl | hy
          · exact hxz
          · have hr := h
            unfold Rising at hr
            rw [← List.take_append_drop (upTo x out) out, List.drop_eq_getElem_cons hl, List.pairwise_append, List.pairwise_cons] at hr
            exact ltS_trans hxz (hr.2.1.1 y hy)
        · rw [List.drop_eq_nil_of_le (by omega)] at hy
          cases hy
      have := rising_insAt (k := upTo x out) (x := x) h hbelow habove
      unfold insertAt at this
      unfold insAt
      rw [List.append_assoc]
      exact this
theorem grp_mem {out : List ByteArray} {x y : ByteArray} (h : y ∈ grpS out x) : y ∈ out ∨ (y = x ∧ x.toList ≠ []) := by
  unfold grpS at h
  split at h
  · exact .inl h
  · rename_i hx
    split at h
    · exact .inl h
    · unfold insAt at h
      rw [List.mem_append, List.mem_append, List.mem_singleton] at h
      rcases h with (h | h) | h
      · exact .inl (List.mem_of_mem_take h)
      · exact .inr ⟨h, fun e => hx (by rw [e]; rfl)⟩
      · exact .inl (List.mem_of_mem_drop h)
structure GOk (g : List ByteArray) : Prop where
  rising : Rising ltS g
  each : ∀ x ∈ g, x.toList ≠ [] ∧ lineB x 100 = true ∧ x.size ≤ 2000000
  few : g.length ≤ 8
theorem grp_fold : ∀ (l acc : List ByteArray), (∀ x ∈ l, lineB x 100 = true ∧ x.size ≤ 2000000) → Rising ltS acc → (∀ x ∈ acc, x.toList ≠ [] ∧ lineB x 100 = true ∧ x.size ≤ 2000000) → acc.length + l.length ≤ 8 → GOk (l.foldl grpS acc)
  | [], acc, _, h1, h2, h3 => ⟨h1, h2, by simpa using h3⟩
  | x :: l, acc, hl, h1, h2, h3 => by
    rw [List.foldl_cons]
    refine grp_fold l _ (fun y hy => hl y (.tail _ hy)) (grp_rising h1 x) (fun y hy => ?_) ?_
    · rcases grp_mem hy with hy | ⟨rfl, hy⟩
      · exact h2 y hy
      · exact ⟨hy, hl y (.head _)⟩
    · have := grpS_len acc x
      simp only [List.length_cons] at h3
      omega
theorem groups_ok {l : List ByteArray} (h : GOk l) : ∀ (d i k : Nat), i + d = l.length → d < k → item_groups.l0 k l l (l.length : Int) (i : Int) = some true
  | 0, i, k, hi, hk => by
    obtain ⟨k, rfl⟩ : ∃ j, k = j + 1 := ⟨k - 1, by omega⟩
    have := h.few
    rw [item_groups.l0, if_neg (by omega), decide_eq_true (by omega)]
  | d + 1, i, k, hi, hk => by
    obtain ⟨k, rfl⟩ : ∃ j, k = j + 1 := ⟨k - 1, by omega⟩
    have hlt : i < l.length := by omega
    have hf := h.few
    have hx := h.each l[i] (List.getElem_mem hlt)
    have ih := groups_ok h d (i + 1) k (by omega) (by omega)
    rw [show ((i + 1 : Nat) : Int) = (i : Int) + 1 by omega] at ih
    rw [item_groups.l0, if_pos (by omega), if_pos (by omega), if_pos (by omega), rdOf_get _ l i hlt, if_neg hx.1, line_f _ _ (by have := hx.2.2; omega)]
    simp only [Option.bind_some]
    rw [if_pos hx.2.1, wrap_small (x := (i : Int) + 1) (by omega) (by omega)]
    by_cases h0 : (i : Int) > 0
    · have e : wrap64 ((i : Int) - 1) = ((i - 1 : Nat) : Int) := by rw [wrap_small (by omega) (by omega)]; omega
      rw [if_pos h0, e, if_pos (by omega), if_pos (by omega), rdOf_get _ l (i - 1) (by omega)]
      have hr := List.pairwise_iff_getElem.1 h.rising (i - 1) i (by omega) hlt (by omega)
      rw [if_pos (show Op.bytesLess l[i - 1].toList l[i].toList = true from hr)]
      exact ih
    · rw [if_neg h0]
      exact ih
theorem groups_f {l : List ByteArray} (h : GOk l) (k : Nat) (hk : 9 ≤ k) : item_groups.f k l = some true := by
  have := h.few
  exact groups_ok h l.length 0 k (by omega) (by omega)
def textsN (l : List ByteArray) : Nat := (l.map fun s => s.size + 1).sum
theorem texts_loop2 (l : List ByteArray) (hs : ∀ x ∈ l, x.size ≤ 2000000) (hl : l.length ≤ 2000000) : ∀ (d i k : Nat) (acc : Nat), i + d = l.length → d < k → acc ≤ i * 2000001 → cardexplay_Texts.l0 k l (acc : Int) (i : Int) = some ((acc + textsN (l.drop i) : Nat) : Int)
  | 0, i, k, acc, hi, hk, ha => by
    obtain ⟨k, rfl⟩ : ∃ j, k = j + 1 := ⟨k - 1, by omega⟩
    rw [cardexplay_Texts.l0, if_neg (by omega), List.drop_eq_nil_of_le (by omega)]
    rfl
  | d + 1, i, k, acc, hi, hk, ha => by
    obtain ⟨k, rfl⟩ : ∃ j, k = j + 1 := ⟨k - 1, by omega⟩
    have hlt : i < l.length := by omega
    have hx := hs l[i] (List.getElem_mem hlt)
    rw [cardexplay_Texts.l0, if_pos (by omega), if_pos (by omega), rdOf_get _ l i hlt]
    have e1 : wrap64 ((wrap64 ((acc : Int) + 1)) + (l[i].size : Int)) = ((acc + (l[i].size + 1) : Nat) : Int) := by
      rw [wrap_small (x := (acc : Int) + 1) (by omega) (by omega), wrap_small (by omega) (by omega)]; omega
    have e2 : wrap64 ((i : Int) + 1) = ((i + 1 : Nat) : Int) := by rw [wrap_small (by omega) (by omega)]; omega
    rw [e1, e2, texts_loop2 l hs hl d (i + 1) k _ (by omega) (by omega) (by rw [Nat.add_mul]; omega), List.drop_eq_getElem_cons hlt]
    unfold textsN
    rw [List.map_cons, List.sum_cons]
    congr 2
    omega
theorem texts_f (l : List ByteArray) (hs : ∀ x ∈ l, x.size ≤ 2000000) (hl : l.length ≤ 2000000) (k : Nat) (hk : l.length < k) : cardexplay_Texts.f k l = some ((textsN l : Nat) : Int) := by
  have := texts_loop2 l hs hl l.length 0 k 0 (by omega) hk (by omega)
  rw [List.drop_zero, Nat.zero_add] at this
  exact this
theorem texts_le (l : List ByteArray) (hs : ∀ x ∈ l, x.size ≤ 2000000) (hl : l.length ≤ 2000000) : textsN l ≤ 2000001 * l.length := by
  induction l with
  | nil => exact Nat.le_refl _
  | cons x l ih =>
    have h1 := hs x (.head _)
    have h2 := ih (fun y hy => hs y (.tail _ hy)) (by simp only [List.length_cons] at hl; omega)
    unfold textsN at h2 ⊢
    rw [List.map_cons, List.sum_cons, List.length_cons]
    omega
theorem texts_ge (l : List ByteArray) : l.length ≤ textsN l ∧ ∀ x ∈ l, x.size ≤ textsN l := by
  induction l with
  | nil => exact ⟨Nat.le_refl _, fun x hx => by cases hx⟩
  | cons x l ih =>
    unfold textsN at ih ⊢
    rw [List.map_cons, List.sum_cons]
    refine ⟨by simp only [List.length_cons]; omega, fun y hy => ?_⟩
    rcases List.mem_cons.1 hy with rfl | hy
    · omega
    · have := ih.2 y hy; omega
theorem small_one (a0 a1 : ByteArray) (l : List ByteArray) (a3 : Int) (a4 a5 : Bool) (h0 : a0.size ≤ 2000000) (h1 : a1.size ≤ 2000000) (hs : ∀ x ∈ l, x.size ≤ 2000000) (hl : l.length ≤ 2000000) (k : Nat) (hk : l.length + 10 < k) :
    cardexplay_SmallItems.f k [(⟨a0, a1, l, a3, a4, a5⟩ : S24)] = some (decide (11 + a0.size + a1.size + textsN l ≤ 20000)) := by
  have ht := texts_le l hs hl
  obtain ⟨k, rfl⟩ : ∃ j, k = j + 6 := ⟨k - 6, by omega⟩
  have e0 : textsN ([] : List ByteArray) = 0 := rfl
  have hw : ∀ x : Int, 0 ≤ x → x ≤ 9223372036854775807 → wrap64 x = x := fun x hx hy => wrap_small (by omega) hy
  have ez : (((⟨#[]⟩ : ByteArray).size : Nat) : Int) = 0 := rfl
  unfold cardexplay_SmallItems.f
  rw [if_pos (by simp)]
  unfold cardexplay_Small.f
  simp only [cardexplay_Small.l0, cardexplay_Small.l1, cardexplay_Small.l2, rd_T38, rd_T35, rd_T24, List.getD_cons_zero, List.getD_eq_getElem?_getD, List.getElem?_cons_zero, Option.getD_some, Int.toNat_zero, List.length_cons, List.length_nil, if_pos (show (0 : Int) < ((0 + 1 : Nat) : Int) by decide), if_pos (show (0 : Int) ≤ 0 by decide)]
  rw [texts_f [] (fun x hx => by cases hx) (by simp) _ (by simp), e0]
  simp only [Option.bind_some]
  rw [texts_f l hs hl _ (by omega)]
  simp only [Option.bind_some]
  have f1 : wrap64 (0 + 1) = 1 := by decide +kernel
  simp only [f1, if_neg (show ¬ (1 : Int) < ((0 + 1 : Nat) : Int) by decide), if_pos (show (0 : Int) ≤ 0 by decide), if_pos (show (0 : Int) < ((0 + 1 : Nat) : Int) by decide)]
  have w1 : wrap64 (1 + 0) = 1 := by decide +kernel
  have w2 : wrap64 (1 + 5) = 6 := by decide +kernel
  have w3 : wrap64 (6 + 0) = 6 := by decide +kernel
  have w4 : wrap64 (6 + 5) = 11 := by decide +kernel
  have z0 : ((0 : Nat) : Int) = 0 := rfl
  simp only [ez, w1, w2, w3, z0, w4]
  rw [hw (11 + (a0.size : Int)) (by omega) (by omega), hw (11 + (a0.size : Int) + (a1.size : Int)) (by omega) (by omega), hw (11 + (a0.size : Int) + (a1.size : Int) + (textsN l : Int)) (by omega) (by omega)]
  show some (decide _) = some (decide _)
  refine congrArg some ?_
  rw [decide_eq_decide]
  omega
theorem le_rounds {α : Type} {f : Nat → Option α} (h : ∀ k, LeO (f k) (f (k + 1))) {k0 : Nat} {r : α} (h0 : f k0 = some r) : ∀ k, k0 ≤ k → f k = some r := by
  intro k hk
  obtain ⟨d, rfl⟩ : ∃ d, k = k0 + d := ⟨k - k0, by omega⟩
  clear hk
  induction d with
  | zero => exact h0
  | succ d ih => exact h (k0 + d) r ih
theorem right_eval (k : Nat) (j n : ByteArray) (g : List ByteArray) (s : Int) (a p : Bool) (b : ByteArray × Int) (c d : Bool) (h1 : jid_Bare.f k j = some b) (h2 : utf_Line.f n 100 = some c) (h3 : item_groups.f k g = some d) :
    item_Right.f k j n g s a p = some (decide (b.2 = 0) && (b.1.toList == j.toList) && c && d && decide (0 ≤ s) && decide (s ≤ 3) && !(a && ((s == 1) || (s == 3))) && !(p && ((s == 2) || (s == 3)))) := by
  unfold item_Right.f
  rw [h1]
  simp only [Option.bind_some]
  by_cases hb : b.2 = 0
  · rw [if_pos hb, decide_eq_true hb]
    by_cases hj : b.1.toList = j.toList
    · have hj' : (b.1.toList == j.toList) = true := by rw [hj]; exact beq_self_eq_true _
      rw [if_pos hj, hj', h2]
      simp only [Option.bind_some]
      cases c with
      | true =>
        rw [if_pos rfl, h3]
        simp only [Option.bind_some]
        cases d with
        | true => rw [if_pos rfl]; rfl
        | false => rw [if_neg Bool.false_ne_true]; simp
      | false => rw [if_neg Bool.false_ne_true]; simp
    · have hj' : (b.1.toList == j.toList) = false := beq_eq_false_iff_ne.mpr hj
      rw [if_neg hj, hj']; simp
  · rw [if_neg hb, decide_eq_false hb]; simp
def JOk (j : ByteArray) : Prop := bareL j.data.toList = (j, 0) ∧ j.size ≤ 1000
theorem bare_idem {l : List UInt8} {t : ByteArray} (h : bareL l = (t, 0)) : JOk t := by
  unfold bareL at h
  obtain ⟨⟨a, b, c, e⟩, hp⟩ : ∃ p, parseL l = p := ⟨_, rfl⟩
  rw [hp] at h
  simp only at h
  by_cases he : e = 0
  · subst he
    rw [if_pos rfl] at h
    have hok := parse_ok hp
    by_cases hc : c.data.toList = []
    · rw [if_pos hc] at h
      have ht := congrArg Prod.fst h
      simp only at ht
      have hf := parse_fix hok
      have hl := hok.len
      have htl := textL_len a.data.toList b.data.toList c.data.toList
      rw [size_list, size_list, size_list] at htl
      refine ⟨?_, by rw [← ht, ba_size]; omega⟩
      rw [← ht, ba_list]
      unfold bareL
      rw [hf]
      simp only [if_true]
      rw [if_pos hc]
    · rw [if_neg hc] at h
      cases congrArg Prod.snd h
  · rw [if_neg he] at h
    exact absurd (congrArg Prod.snd h) he
theorem ah_ok : JOk (⟨#[97, 64, 104]⟩ : ByteArray) := by
  refine ⟨?_, by decide⟩
  decide +kernel
theorem play_jid (a0 : ByteArray) (h : a0.size ≤ 100000) : ∃ K j, JOk j ∧ ∀ k, K ≤ k → cardexplay_Jid.f k a0 0 = some j := by
  obtain ⟨K, hK⟩ := ref_bare a0 h
  obtain ⟨⟨t, e⟩, hb⟩ : ∃ p, bareL a0.data.toList = p := ⟨_, rfl⟩
  by_cases he : e = 0
  · subst he
    refine ⟨K, t, bare_idem hb, fun k hk => ?_⟩
    unfold cardexplay_Jid.f
    rw [hK k hk, hb]
    simp only [Option.bind_some, if_true]
  · refine ⟨K, _, ah_ok, fun k hk => ?_⟩
    unfold cardexplay_Jid.f
    rw [hK k hk, hb]
    simp only [Option.bind_some]
    rw [if_neg he]
    have hm : cardexplay_mod.f 0 5 = some 0 := by decide +kernel
    rw [hm]
    rfl
theorem item_tail (acc : List ByteArray) (ha : acc.length ≤ 1000000) (a4 a5 : Bool) (j n : ByteArray) (s : Int) :
    ∃ ask appr : Bool, (ask = true → s = 0 ∨ s = 2) ∧ (appr = true → s = 0 ∨ s = 1) ∧
      ((cardexref08_Groups.f acc).bind fun t587 => (if a4 = true then (if s = 0 then (if a5 = true then (some (j, n, t587, s, true, true)) else (some (j, n, t587, s, true, false))) else (if a5 = true then (some (j, n, t587, s, (s == 2), (s == 1))) else (some (j, n, t587, s, (s == 2), false)))) else (if a5 = true then (if s = 0 then (some (j, n, t587, s, false, true)) else (some (j, n, t587, s, false, (s == 1)))) else (some (j, n, t587, s, false, false))))) = some (j, n, acc.foldl grpS [], s, ask, appr) := by
  unfold cardexref08_Groups.f
  rw [if_pos ha]
  simp only [Option.bind_some]
  refine ⟨a4 && (decide (s = 0) || s == 2), a5 && (decide (s = 0) || s == 1), ?_, ?_, ?_⟩
  · intro h
    rw [Bool.and_eq_true, Bool.or_eq_true] at h
    rcases h.2 with h | h
    · exact .inl (of_decide_eq_true h)
    · exact .inr (by simpa using h)
  · intro h
    rw [Bool.and_eq_true, Bool.or_eq_true] at h
    rcases h.2 with h | h
    · exact .inl (of_decide_eq_true h)
    · exact .inr (by simpa using h)
  · by_cases h0 : s = 0 <;> cases a4 <;> cases a5 <;> simp [h0]
theorem line_more {s : ByteArray} {n m : Int} (h : lineB s n = true) (hm : n ≤ m) : lineB s m = true := by
  unfold lineB at h ⊢
  rw [Bool.and_eq_true, decide_eq_true_eq] at h
  rw [Bool.and_eq_true, decide_eq_true_eq]
  exact ⟨h.1, by omega⟩
theorem item_loop (a0 a1 : ByteArray) (l : List ByteArray) (hs : ∀ x ∈ l, x.size ≤ 100000) (a3 : Int) (a4 a5 : Bool) (j n : ByteArray) (s : Int) : ∀ (d i k : Nat) (acc : List ByteArray), i + d = 4 → 200020 + d ≤ k → acc.length ≤ i → (∀ x ∈ acc, lineB x 100 = true ∧ x.size ≤ 2000000) →
    ∃ (g : List ByteArray) (ask appr : Bool), GOk g ∧ (ask = true → s = 0 ∨ s = 2) ∧ (appr = true → s = 0 ∨ s = 1) ∧ cardexplay_Item.l0 k acc (i : Int) a0 a1 l a3 a4 a5 j n s false false = some (j, n, g, s, ask, appr)
  | 0, i, k, acc, hi, hk, hl, ha => by
    obtain ⟨k, rfl⟩ : ∃ j, k = j + 1 := ⟨k - 1, by omega⟩
    obtain ⟨ask, appr, h1, h2, h3⟩ := item_tail acc (by omega) a4 a5 j n s
    refine ⟨_, ask, appr, grp_fold acc [] ha List.Pairwise.nil (fun x hx => by cases hx) (by simp; omega), h1, h2, ?_⟩
    rw [cardexplay_Item.l0]
    split
    · rw [if_neg (by omega)]; exact h3
    · exact h3
  | d + 1, i, k, acc, hi, hk, hl, ha => by
    obtain ⟨k, rfl⟩ : ∃ j, k = j + 1 := ⟨k - 1, by omega⟩
    by_cases hlt : i < l.length
    · have hx := hs l[i] (List.getElem_mem hlt)
      obtain ⟨r, hr, hrl, hrs⟩ := play_line l[i] 30 (by omega) (by decide) (by decide) k (by omega)
      obtain ⟨g, ask, appr, h0, h1, h2, h3⟩ := item_loop a0 a1 l hs a3 a4 a5 j n s d (i + 1) k (acc ++ [r]) (by omega) (by omega) (by simp; omega) (fun x hx => by
        rcases List.mem_append.1 hx with hx | hx
        · exact ha x hx
        · rw [List.mem_singleton.1 hx]; exact ⟨line_more hrl (by decide), by omega⟩)
      refine ⟨g, ask, appr, h0, h1, h2, ?_⟩
      have e2 : wrap64 ((i : Int) + 1) = ((i + 1 : Nat) : Int) := by rw [wrap_small (by omega) (by omega)]; omega
      rw [cardexplay_Item.l0, if_pos (by omega), if_pos (by omega), if_pos (by omega), rdOf_get _ l i hlt, hr]
      simp only [Option.bind_some]
      rw [if_pos (by omega), e2]
      exact h3
    · obtain ⟨ask, appr, h1, h2, h3⟩ := item_tail acc (by omega) a4 a5 j n s
      refine ⟨_, ask, appr, grp_fold acc [] ha List.Pairwise.nil (fun x hx => by cases hx) (by simp; omega), h1, h2, ?_⟩
      rw [cardexplay_Item.l0, if_neg (by omega)]
      exact h3
theorem mod_four (n : Int) : ∃ s, cardexplay_mod.f n 4 = some s ∧ 0 ≤ s ∧ s ≤ 3 := by
  have e4 : IntKind.u64.wrap 4 = 4 := by decide +kernel
  have hu : 0 ≤ IntKind.u64.wrap n := by
    have e : IntKind.u64.wrap n = n % 18446744073709551616 := by simp [IntKind.wrap, IntKind.signed, IntKind.bits]
    rw [e]
    exact Int.emod_nonneg _ (by decide)
  unfold cardexplay_mod.f
  rw [e4, if_neg (by decide), Int.tmod_eq_emod_of_nonneg hu]
  have h1 : 0 ≤ IntKind.u64.wrap n % 4 := Int.emod_nonneg _ (by decide)
  have h2 : IntKind.u64.wrap n % 4 < 4 := Int.emod_lt_of_pos _ (by decide)
  exact ⟨_, rfl, by rw [wrap_small (by omega) (by omega)]; omega, by rw [wrap_small (by omega) (by omega)]; omega⟩
theorem play_item (a0 a1 : ByteArray) (l : List ByteArray) (a3 : Int) (a4 a5 : Bool) (h0 : a0.size ≤ 100000) (h1 : a1.size ≤ 100000) (hs : ∀ x ∈ l, x.size ≤ 100000) :
    ∃ K j, JOk j ∧ ∀ k, K ≤ k → ∃ (n : ByteArray) (g : List ByteArray) (s : Int) (ask appr : Bool), lineB n 100 = true ∧ n.size ≤ 2000000 ∧ GOk g ∧ 0 ≤ s ∧ s ≤ 3 ∧ (ask = true → s = 0 ∨ s = 2) ∧ (appr = true → s = 0 ∨ s = 1) ∧ cardexplay_Item.f k a0 a1 l a3 a4 a5 0 = some (j, n, g, s, ask, appr) := by
  obtain ⟨K, j, hj, hK⟩ := play_jid a0 h0
  obtain ⟨s, hm, hs0, hs3⟩ := mod_four a3
  refine ⟨K + 300000, j, hj, fun k hk => ?_⟩
  obtain ⟨n, hn, hnl, hns⟩ := play_line a1 100 (by omega) (by decide) (by decide) k (by omega)
  obtain ⟨g, ask, appr, hg, ha, hp, hl⟩ := item_loop a0 a1 l hs a3 a4 a5 j n s 4 0 k [] rfl (by omega) (Nat.zero_le _) (fun x hx => by cases hx)
  refine ⟨n, g, s, ask, appr, hnl, by omega, hg, hs0, hs3, ha, hp, ?_⟩
  unfold cardexplay_Item.f
  rw [hK k (by omega), hn, hm]
  exact hl
theorem made_right {s : Int} {ask appr : Bool} (h0 : 0 ≤ s) (h3 : s ≤ 3) (ha : ask = true → s = 0 ∨ s = 2) (hp : appr = true → s = 0 ∨ s = 1) : (decide (0 ≤ s) && decide (s ≤ 3) && !(ask && ((s == 1) || (s == 3))) && !(appr && ((s == 2) || (s == 3)))) = true := by
  have hs : s = 0 ∨ s = 1 ∨ s = 2 ∨ s = 3 := by omega
  rcases hs with rfl | rfl | rfl | rfl
  · cases ask <;> cases appr <;> rfl
  · cases ask with
    | true => have := ha rfl; omega
    | false => cases appr <;> rfl
  · cases appr with
    | true => have := hp rfl; omega
    | false => cases ask <;> rfl
  · cases ask with
    | true => have := ha rfl; omega
    | false => cases appr with
      | true => have := hp rfl; omega
      | false => rfl
end Go.Proofs.YtaekklpphlcngaaGreatDoor.P
end
section
namespace Go.Proofs.YtaekklpphlcngaaGreatDoor.P
open Go.RowKit Go.Lib Go.Proofs.YtaekklpphlcngaaGreatDoorX Go.Proofs.YtaekklpphlcngaaGreatDoorW.PrintWords Go.Proofs.YtaekklpphlcngaaGreatDoor.Q
set_option linter.unusedVariables false
set_option linter.unusedSimpArgs false
theorem awake_ev : ∃ K, ∀ k, K ≤ k → cardexlaw14_awake.f k = some true := by
  refine ⟨2000, le_rounds (f := cardexlaw14_awake.f) (fun k => cardexlaw14_awake.mono k) ?_⟩
  decide +kernel
theorem slash_bare {l : List UInt8} (h : (47 : UInt8) ∈ l) : (bareL l).2 ≠ 0 := by
  obtain ⟨p, q, e, hn⟩ := List.eq_append_cons_of_mem h
  have hc : (Lib.cut l [47]).2.2 = true := by rw [e, cut_some 47 p q hn]
  have hf : (partsP l).2.2.2.2 = true := by unfold partsP; split <;> exact hc
  obtain ⟨⟨a, b, c, e⟩, hp⟩ : ∃ p, parseL l = p := ⟨_, rfl⟩
  unfold bareL
  rw [hp]
  simp only
  by_cases he : e = 0
  · subst he
    rw [if_pos rfl]
    have h2 : c.data.toList ≠ [] := by
      unfold parseL at hp
      split at hp
      · split at hp
        · split at hp
          · rename_i hr
            injection hp with h1 h2
            injection h2 with h2 h3
            injection h3 with h3 h4
            have n2 : resP (partsP l).2.2.2.1 (partsP l).2.2.2.2 = (c, 0) := by rw [← h3, ← hr]
            have := ((keptR_ok n2).2 hf).1
            intro h0
            exact this (by rw [← size_list, h0]; rfl)
          · rename_i hr
            injection hp with h1 h2
            injection h2 with h2 h3
            injection h3 with h3 h4
            exact absurd h4 hr
        · rename_i hr
          injection hp with h1 h2
          injection h2 with h2 h3
          injection h3 with h3 h4
          exact absurd h4 hr
      · rename_i hr
        injection hp with h1 h2
        injection h2 with h2 h3
        injection h3 with h3 h4
        exact absurd h4 hr
    rw [if_neg h2]
    simp
  · rw [if_neg he]
    exact he
def wantB (s : Int) (x1 x2 : Bool) : Bool := decide (0 ≤ s) && decide (s ≤ 3) && !(x1 && ((s == 1) || (s == 3))) && !(x2 && ((s == 2) || (s == 3)))
theorem modes_j0 (k : Nat) (n : Int) (x1 x2 : Bool) (j m : ByteArray) (g : List ByteArray) (a : Int) (b c : Bool) :
    cardexlaw14_ItemModes.j0 (k + 1) n x1 x2 false j m g a b c = cardexlaw14_ItemModes.j1 k x1 x2 ((Int.tmod n 6 == 1) || (Int.tmod n 6 == 3)) ((Int.tmod n 6 == 2) || (Int.tmod n 6 == 3)) j m g (Int.tmod n 6) x1 x2 := by
  rw [cardexlaw14_ItemModes.j0, if_neg Bool.false_ne_true]
  by_cases h1 : Int.tmod n 6 = 1
  · rw [if_pos h1, h1]; rfl
  · rw [if_neg h1]
    by_cases h2 : Int.tmod n 6 = 2
    · rw [if_pos h2, h2]; rfl
    · rw [if_neg h2, beq_eq_false_iff_ne.mpr h1, beq_eq_false_iff_ne.mpr h2, Bool.false_or]
theorem modes_j1 (k : Nat) (x1 x2 : Bool) (j m : ByteArray) (g : List ByteArray) (s : Int) (b c : Bool) :
    cardexlaw14_ItemModes.j1 (k + 1) x1 x2 ((s == 1) || (s == 3)) ((s == 2) || (s == 3)) j m g s b c = cardexlaw14_ItemModes.j2 k (wantB s x1 x2) j m g s b c := by
  rw [cardexlaw14_ItemModes.j1]
  unfold wantB
  by_cases h0 : (0 : Int) ≤ s
  · rw [if_pos h0, decide_eq_true h0]
    by_cases h3 : s ≤ 3
    · rw [if_pos h3, decide_eq_true h3]
      generalize ((s == 1) || (s == 3)) = p
      generalize ((s == 2) || (s == 3)) = q
      cases x1 <;> cases x2 <;> cases p <;> cases q <;> rfl
    · rw [if_neg h3, decide_eq_false h3]; simp
  · rw [if_neg h0, decide_eq_false h0]; simp
theorem itemModes {P : Prop} (n : Int) (x1 x2 : Bool) (a0 a1 : ByteArray) (l : List ByteArray) (a3 : Int) (a4 a5 : Bool) (hw : (Lit.int .i64 n).wf = true) (hok : P) (hmu : a0.size + 1 + (a1.size + 1 + ((l.map fun s => s.size + 1).sum + 1 + (1 + (1 + 1)))) + 1 ≤ 1048576) : ∃ k, cardexlaw14_ItemModes.f k n x1 x2 a0 a1 l a3 a4 a5 = some true := by
  obtain ⟨K0, hA⟩ := awake_ev
  have hT : a0.size + a1.size + textsN l ≤ 1048576 := by unfold textsN; omega
  have hg := texts_ge l
  have hsm := fun k hk => small_one a0 a1 l a3 a4 a5 (by omega) (by omega) (fun x hx => by have := hg.2 x hx; omega) (by have := hg.1; omega) k hk
  by_cases hs : 11 + a0.size + a1.size + textsN l ≤ 20000
  · obtain ⟨K1, j, hj, hP⟩ := play_item a0 a1 l a3 a4 a5 (by omega) (by omega) (fun x hx => by have := hg.2 x hx; omega)
    obtain ⟨K2, hE⟩ := bare_ev (j ++ (⟨#[47, 114]⟩ : ByteArray)) (by have := hj.2; rw [ByteArray.size_append]; show j.size + 2 ≤ _; omega)
    obtain ⟨K4, hB⟩ := bare_ev j (by have := hj.2; omega)
    have hne : (bareL (j ++ (⟨#[47, 114]⟩ : ByteArray)).data.toList).2 ≠ 0 := slash_bare (by rw [ByteArray.data_append, Array.toList_append]; exact List.mem_append_right _ (List.mem_cons_self ..))
    rw [hj.1] at hB
    obtain ⟨k3, hk3⟩ : ∃ k3, k3 = K0 + K1 + K2 + K4 + l.length + 1000 := ⟨_, rfl⟩
    refine ⟨k3 + 1 + 1 + 1, ?_⟩
    obtain ⟨m, g, s, ask, appr, hn, hns, hG, hs0, hs3, ha, hp, hI⟩ := hP (k3 + 1 + 1 + 1) (by omega)
    have hL : utf_Line.f m 100 = some true := by rw [line_f m 100 (by omega), hn]
    unfold cardexlaw14_ItemModes.f
    rw [hsm _ (by omega), decide_eq_true hs, Option.bind_some, if_pos rfl, hI, Option.bind_some, hA _ (by omega), Option.bind_some, if_pos rfl, right_eval _ j m g s ask appr (j, 0) true true (hB _ (by omega)) hL (groups_f hG _ (by omega))]
    have hr : (decide ((j, (0 : Int)).2 = 0) && ((j, (0 : Int)).1.toList == j.toList) && true && true && decide (0 ≤ s) && decide (s ≤ 3) && !(ask && ((s == 1) || (s == 3))) && !(appr && ((s == 2) || (s == 3)))) = true := by
      have := made_right hs0 hs3 ha hp
      simpa using this
    rw [hr, Option.bind_some]
    show cardexlaw14_ItemModes.j0 (k3 + 1 + 1 + 1) n x1 x2 false j m g s ask appr = some true
    rw [modes_j0, modes_j1, cardexlaw14_ItemModes.j2, if_pos (by have := hj.2; omega), right_eval k3 j m g (Int.tmod n 6) x1 x2 (j, 0) true true (hB _ (by omega)) hL (groups_f hG _ (by omega)), Option.bind_some]
    have hr2 : (decide ((j, (0 : Int)).2 = 0) && ((j, (0 : Int)).1.toList == j.toList) && true && true && decide (0 ≤ Int.tmod n 6) && decide (Int.tmod n 6 ≤ 3) && !(x1 && ((Int.tmod n 6 == 1) || (Int.tmod n 6 == 3))) && !(x2 && ((Int.tmod n 6 == 2) || (Int.tmod n 6 == 3)))) = wantB (Int.tmod n 6) x1 x2 := by
      unfold wantB
      rw [decide_eq_true (rfl : (j, (0 : Int)).2 = 0), beq_self_eq_true]
      rfl
    rw [hr2, if_pos rfl, right_eval k3 _ m g (Int.tmod n 6) x1 x2 _ true true (hE _ (by omega)) hL (groups_f hG _ (by omega)), decide_eq_false hne]
    rfl
  · refine ⟨K0 + l.length + 20, ?_⟩
    unfold cardexlaw14_ItemModes.f
    rw [hsm _ (by omega), decide_eq_false hs, Option.bind_some, if_neg Bool.false_ne_true, hA _ (by omega)]
    rfl
end Go.Proofs.YtaekklpphlcngaaGreatDoor.P
end
