/- Plain law of this session: a text escaped, and back, as the program has it: one machine over the bytes. -/
import Derived.Test.YtjijbncheikagaaDoorBa
import Derived.Test.YtjijbncheikagaaDoorQ
namespace Go.Proofs.YtjijbncheikagaaDoor.P
open Go.RowKit Go.Lib Go.Proofs.YtjijbncheikagaaDoorX Go.Proofs.YtjijbncheikagaaDoorW.PrintWords Go.Proofs.YtjijbncheikagaaDoor.Q
set_option linter.unusedVariables false
set_option linter.unusedSimpArgs false
theorem bt_at_get (s : ByteArray) (i : Nat) (h : i < s.size) : ∃ (b : UInt8) (t : List UInt8), s.data.toList.drop i = b :: t ∧ bt s (i : Int) = (b.toNat : Int) ∧ s.data.toList.drop (i + 1) = t ∧ s.extract i (i + 1) = ba [b] := by
  have hl : i < s.data.toList.length := by rw [size_list]; exact h
  refine ⟨s.data.toList[i], s.data.toList.drop (i + 1), List.drop_eq_getElem_cons hl, ?_, rfl, ?_⟩
  · unfold bt
    rw [Int.toNat_natCast, dif_pos h]; rfl
  · have e := ba_extract s.data.toList i (i + 1)
    rw [ba_of] at e
    rw [e]
    congr 1
    rw [List.drop_take, show i + 1 - i = 1 by omega, List.take_one, List.head?_drop, List.getElem?_eq_getElem hl]; rfl
theorem byte_eq (b : UInt8) (n : Nat) (h : n < 256) : ((b.toNat : Int) = (n : Int)) ↔ b = UInt8.ofNat n := by
  constructor
  · intro e
    apply UInt8.toNat_inj.1
    rw [UInt8.toNat_ofNat']
    omega
  · rintro rfl
    rw [UInt8.toNat_ofNat']
    omega
def backM : Option (List UInt8) → List UInt8 → Option (List UInt8)
  | none, [] => some []
  | some _, [] => none
  | none, b :: t => if b = 60 then none else if b = 38 then backM (some []) t else (backM none t).map (fun x => b :: x)
  | some nm, b :: t => if b = 59 then (if sgnL nm = [] then none else (backM none t).map (fun x => sgnL nm ++ x)) else backM (some (nm ++ [b])) t
theorem sgnL_len (l : List UInt8) : (sgnL l).length ≤ 4 := by
  unfold sgnL
  repeat' split
  any_goals decide
  · exact numR_len _ _ _
  · exact numR_len _ _ _
theorem numR_lt (B : Nat) (hB : B ≤ 16) (most : Int) (l : List UInt8) (h : 60 ∈ l) : numR B most (ba l) = ⟨#[]⟩ := by
  have hg : ∀ (l : List UInt8) (v : Nat), 60 ∈ l → parseG B v l = none := by
    intro l
    induction l with
    | nil => intro v h; cases h
    | cons c t ih =>
      intro v h
      rw [parseG]
      rcases List.mem_cons.1 h with h1 | h1
      · subst h1
        have : digN (60 : UInt8).toNat = none := by decide
        rw [this]
      · cases digN c.toNat with
        | none => rfl
        | some d =>
          simp only
          by_cases h2 : B ≤ d
          · rw [if_pos h2]
          · rw [if_neg h2]
            by_cases h3 : 4294967295 < v * B + d
            · rw [if_pos h3]
            · rw [if_neg h3]; exact ih _ h1
  have hp : parseN B l = none := by
    unfold parseN
    by_cases h2 : l = []
    · rw [if_pos h2]
    · rw [if_neg h2, hg l 0 h]
  unfold numR
  rw [ba_list, hp]
theorem sgnL_lt (l : List UInt8) (h : 60 ∈ l) : sgnL l = [] := by
  unfold sgnL
  rw [if_neg (by rintro rfl; revert h; decide), if_neg (by rintro rfl; revert h; decide), if_neg (by rintro rfl; revert h; decide), if_neg (by rintro rfl; revert h; decide), if_neg (by rintro rfl; revert h; decide)]
  split
  · rename_i t
    have h1 : 60 ∈ t := by
      rcases List.mem_cons.1 h with h1 | h1
      · exact absurd h1 (by decide)
      · rcases List.mem_cons.1 h1 with h2 | h2
        · exact absurd h2 (by decide)
        · exact h2
    have := numR_lt 16 (by decide) 6 t h1
    rw [show (⟨t.toArray⟩ : ByteArray) = ba t from rfl, this]
  · rename_i t _
    have h1 : 60 ∈ t := by
      rcases List.mem_cons.1 h with h1 | h1
      · exact absurd h1 (by decide)
      · exact h1
    have := numR_lt 10 (by decide) 7 t h1
    rw [show (⟨t.toArray⟩ : ByteArray) = ba t from rfl, this]
  · rfl
def resM (acc : ByteArray) : Option (List UInt8) → ByteArray × Int
  | none => (⟨#[]⟩, 5)
  | some t => (acc ++ ba t, 0)
def backT (s : ByteArray) : ByteArray × Int := if validT s = true then resM ⟨#[]⟩ (backM none s.data.toList) else (⟨#[]⟩, 3)
theorem backM_lt : ∀ (l : List UInt8), (60 ∈ l → backM none l = none) ∧ (∀ nm : List UInt8, 60 ∈ nm ∨ 60 ∈ l → backM (some nm) l = none)
  | [] => ⟨(fun h => by cases h), fun nm _ => rfl⟩
  | b :: t => by
    obtain ⟨i0, i1⟩ := backM_lt t
    constructor
    · intro h
      rw [backM]
      by_cases c1 : b = 60
      · rw [if_pos c1]
      · have ht : 60 ∈ t := by
          rcases List.mem_cons.1 h with h1 | h1
          · exact absurd h1.symm c1
          · exact h1
        rw [if_neg c1, i0 ht]
        by_cases c2 : b = 38
        · rw [if_pos c2]; exact i1 [] (.inr ht)
        · rw [if_neg c2]; rfl
    · intro nm h
      rw [backM]
      by_cases c1 : b = 59
      · rw [if_pos c1]
        by_cases c2 : 60 ∈ nm
        · rw [if_pos (sgnL_lt nm c2)]
        · have ht : 60 ∈ t := by
            rcases h with h | h
            · exact absurd h c2
            · rcases List.mem_cons.1 h with h1 | h1
              · rw [c1] at h1; exact absurd h1 (by decide)
              · exact h1
          rw [i0 ht]
          split <;> rfl
      · rw [if_neg c1]
        refine i1 _ ?_
        rcases h with h | h
        · exact .inl (List.mem_append_left _ h)
        · rcases List.mem_cons.1 h with h1 | h1
          · left; rw [h1]; simp
          · exact .inr h1
theorem backM_plain : ∀ (p q : List UInt8), 38 ∉ p → 60 ∉ p → backM none (p ++ q) = (backM none q).map (fun x => p ++ x)
  | [], q, _, _ => by cases h : backM none q <;> simp [h]
  | b :: p, q, h1, h2 => by
    rw [List.cons_append, backM, if_neg (fun e => h2 (by rw [e]; exact .head _)), if_neg (fun e => h1 (by rw [e]; exact .head _)), backM_plain p q (fun e => h1 (.tail _ e)) (fun e => h2 (.tail _ e))]
    cases backM none q <;> rfl
theorem backM_name : ∀ (p q nm : List UInt8), 59 ∉ p → backM (some nm) (p ++ 59 :: q) = if sgnL (nm ++ p) = [] then none else (backM none q).map (fun x => sgnL (nm ++ p) ++ x)
  | [], q, nm, _ => by rw [List.nil_append, backM, if_pos rfl, List.append_nil]
  | b :: p, q, nm, h => by
    rw [List.cons_append, backM, if_neg (fun e => h (by rw [e]; exact .head _)), backM_name p q _ (fun e => h (.tail _ e)), List.append_assoc]; rfl
theorem backM_open : ∀ (p nm : List UInt8), 59 ∉ p → backM (some nm) p = none
  | [], nm, _ => rfl
  | b :: p, nm, h => by rw [backM, if_neg (fun e => h (by rw [e]; exact .head _)), backM_open p _ (fun e => h (.tail _ e))]
theorem first_of (c : UInt8) (l : List UInt8) : (c ∉ l) ∨ ∃ p q, l = p ++ c :: q ∧ c ∉ p := by
  by_cases h : c ∈ l
  · right
    obtain ⟨p, q, h1, h2⟩ := List.eq_append_cons_of_mem h
    exact ⟨p, q, h1, h2⟩
  · exact .inl h
theorem backG_M : ∀ (n : Nat) (l : List UInt8), l.length < n → 60 ∉ l → backG n l = backM none l
  | 0, l, h, _ => by omega
  | n + 1, l, h, h60 => by
    rw [backG]
    rcases first_of 38 l with h1 | ⟨p, q, rfl, hp⟩
    · rw [cut_none 38 l h1, if_pos rfl]
      have := backM_plain l [] h1 h60
      rw [List.append_nil] at this
      rw [this, backM]
      show some l = some (l ++ [])
      rw [List.append_nil]
    · rw [cut_some 38 p q hp, if_neg (fun e => by cases e)]
      simp only
      have hp60 : 60 ∉ p := fun e => h60 (List.mem_append_left _ e)
      have hq60 : 60 ∉ q := fun e => h60 (List.mem_append_right _ (.tail _ e))
      rw [List.length_append, List.length_cons] at h
      rw [backM_plain p _ hp hp60, show backM none (38 :: q) = backM (some []) q by rw [backM, if_neg (by decide), if_pos rfl]]
      rcases first_of 59 q with h2 | ⟨a, t, rfl, ha⟩
      · rw [cut_none 59 q h2, if_pos (.inl rfl), backM_open q _ h2]; rfl
      · rw [cut_some 59 a t ha]
        simp only
        rw [backM_name a t [] ha, List.nil_append]
        rw [List.length_append, List.length_cons] at h
        by_cases c : sgnL a = []
        · rw [if_pos (.inr c), if_pos c]; rfl
        · rw [if_neg (by rintro (g | g); · cases g
                         · exact c g), if_neg c, backG_M n t (by omega) (fun e => hq60 (List.mem_append_right _ (.tail _ e)))]
          cases backM none t with
          | none => rfl
          | some x =>
            show some (p ++ sgnL a ++ x) = some (p ++ (sgnL a ++ x))
            rw [List.append_assoc]
theorem backR_T (s : ByteArray) : backR s = backT s := by
  unfold backR backT
  cases validT s with
  | false => rw [if_pos rfl, if_neg (by decide)]
  | true =>
    rw [if_neg (by decide), if_pos rfl]
    by_cases c : 60 ∈ s.data.toList
    · rw [if_pos (by rw [List.contains_iff_mem]; exact c), (backM_lt _).1 c]; rfl
    · rw [if_neg (by rw [List.contains_iff_mem]; exact c), backG_M _ _ (by rw [size_list]; omega) c]
      cases backM none s.data.toList with
      | none => rfl
      | some t =>
        show (ba t, 0) = ((⟨#[]⟩ : ByteArray) ++ ba t, 0)
        rw [show (⟨#[]⟩ : ByteArray) = ba [] from rfl, ba_append, List.nil_append]
theorem back_f (s : ByteArray) (hs : s.size ≤ 1000000000) : escape_Back.f s = some (backT s) := by
  unfold escape_Back.f
  rw [if_pos (by omega), backR_T]
theorem backM_app : ∀ (l : List UInt8) (st : Option (List UInt8)) (x r : List UInt8), backM st l = some x → backM st (l ++ r) = (backM none r).map (fun t => x ++ t)
  | [], none, x, r, h => by
    rw [backM] at h
    cases h
    cases h2 : backM none r <;> simp [h2]
  | [], some nm, x, r, h => by rw [backM] at h; cases h
  | b :: t, none, x, r, h => by
    rw [List.cons_append, backM]
    rw [backM] at h
    by_cases c1 : b = 60
    · rw [if_pos c1] at h; cases h
    rw [if_neg c1] at h ⊢
    by_cases c2 : b = 38
    · rw [if_pos c2] at h ⊢
      exact backM_app t _ x r h
    rw [if_neg c2] at h ⊢
    cases h3 : backM none t with
    | none => rw [h3] at h; cases h
    | some y =>
      rw [h3] at h
      cases h
      rw [backM_app t none y r h3]
      cases backM none r <;> rfl
  | b :: t, some nm, x, r, h => by
    rw [List.cons_append, backM]
    rw [backM] at h
    by_cases c1 : b = 59
    · rw [if_pos c1] at h ⊢
      by_cases c2 : sgnL nm = []
      · rw [if_pos c2] at h; cases h
      rw [if_neg c2] at h ⊢
      cases h3 : backM none t with
      | none => rw [h3] at h; cases h
      | some y =>
        rw [h3] at h
        cases h
        rw [backM_app t none y r h3]
        cases backM none r with
        | none => rfl
        | some z => simp [List.append_assoc]
    rw [if_neg c1] at h ⊢
    exact backM_app t _ x r h
theorem validT_wrs (L : List Int) (hL : ∀ c ∈ L, scal c) : validT (ba (wrs L)) = L.all mayB := by
  have h1 := valid_wrs L hL
  have h2 := runes_wrs (ba (wrs L)).size L hL (by rw [ba_size]; exact Nat.le_refl _)
  unfold validT runesI
  rw [ba_list, h1, h2]; rfl
theorem wrs_of (s : ByteArray) (h : validT s = true) : ∃ L, (∀ c ∈ L, scal c) ∧ L.all mayB = true ∧ s = ba (wrs L) := by
  unfold validT at h
  rw [Bool.and_eq_true] at h
  refine ⟨runesI s, runes_scal _ _, h.2, ?_⟩
  unfold runesI
  rw [wrs_runes s.size s.data.toList (by rw [size_list]; exact Nat.le_refl _) h.1, ba_of]
theorem validT_app (a b : ByteArray) (ha : validT a = true) (hb : validT b = true) : validT (a ++ b) = true := by
  obtain ⟨A, h1, h2, rfl⟩ := wrs_of a ha
  obtain ⟨B, h3, h4, rfl⟩ := wrs_of b hb
  rw [ba_append, ← wrs_append, validT_wrs _ (fun c hc => (List.mem_append.1 hc).elim (h1 c) (h3 c)), List.all_append, h2, h4]; rfl
end Go.Proofs.YtjijbncheikagaaDoor.P
