/- Plain law of this session: a text escaped, as the document has it (beside a print that does not hold the program's own escape.Text): it is a text, has none of the signs that must not stand, and comes back. -/
import Derived.Test.YtjijbncheikagaaDoorEscP
import Derived.Test.YtjijbncheikagaaDoorRefV
namespace Go.Proofs.YtjijbncheikagaaDoor.P
open Go.RowKit Go.Lib Go.Proofs.YtjijbncheikagaaDoorX Go.Proofs.YtjijbncheikagaaDoorW.PrintWords Go.Proofs.YtjijbncheikagaaDoor.Q
set_option linter.unusedVariables false
set_option linter.unusedSimpArgs false
def signB (b : UInt8) : Option (List UInt8) :=
  if b = 38 then some [38, 97, 109, 112, 59] else if b = 60 then some [38, 108, 116, 59] else if b = 62 then some [38, 103, 116, 59] else if b = 34 then some [38, 113, 117, 111, 116, 59]
  else if b = 39 then some [38, 97, 112, 111, 115, 59] else if b = 9 then some [38, 35, 57, 59] else if b = 10 then some [38, 35, 49, 48, 59] else if b = 13 then some [38, 35, 49, 51, 59] else none
def escB (b : UInt8) : List UInt8 := (signB b).getD [b]
def escL (l : List UInt8) : List UInt8 := l.flatMap escB
theorem escB_len (b : UInt8) : (escB b).length ≤ 6 := by
  unfold escB signB
  repeat' split
  all_goals simp
theorem escL_len : ∀ l : List UInt8, (escL l).length ≤ 6 * l.length
  | [] => by simp [escL]
  | b :: t => by
    have h1 := escB_len b
    have h2 := escL_len t
    unfold escL at h2 ⊢
    rw [List.flatMap_cons, List.length_append, List.length_cons]
    omega
theorem esc_step (s acc : ByteArray) (i k : Nat) (b : UInt8) (hi : i < s.size) (hb : bt s (i : Int) = (b.toNat : Int)) (hx : s.extract i (i + 1) = ba [b]) (hs : s.size ≤ 1000000000) (ha : acc.size ≤ 6000000000) :
    cardexref01_Escape.l0 (k + 1) s acc (i : Int) = cardexref01_Escape.l0 k s (acc ++ ba (escB b)) ((i + 1 : Nat) : Int) := by
  have hw : wrap64 ((i : Int) + 1) = ((i + 1 : Nat) : Int) := by rw [wrap_small (by omega) (by omega)]; omega
  rw [cardexref01_Escape.l0, if_pos (by omega), if_pos (by omega), hb, hw]
  unfold escB signB
  by_cases h1 : b = 38
  · subst h1
    rw [if_pos (by decide), if_pos (by omega), if_pos rfl]; rfl
  rw [if_neg (by rw [show (38 : Int) = ((38 : Nat) : Int) from rfl, byte_eq b 38 (by decide)]; exact h1), if_neg h1]
  by_cases h2 : b = 60
  · subst h2
    rw [if_pos (by decide), if_pos (by omega), if_pos rfl]; rfl
  rw [if_neg (by rw [show (60 : Int) = ((60 : Nat) : Int) from rfl, byte_eq b 60 (by decide)]; exact h2), if_neg h2]
  by_cases h3 : b = 62
  · subst h3
    rw [if_pos (by decide), if_pos (by omega), if_pos rfl]; rfl
  rw [if_neg (by rw [show (62 : Int) = ((62 : Nat) : Int) from rfl, byte_eq b 62 (by decide)]; exact h3), if_neg h3]
  by_cases h4 : b = 34
  · subst h4
    rw [if_pos (by decide), if_pos (by omega), if_pos rfl]; rfl
  rw [if_neg (by rw [show (34 : Int) = ((34 : Nat) : Int) from rfl, byte_eq b 34 (by decide)]; exact h4), if_neg h4]
  by_cases h5 : b = 39
  · subst h5
    rw [if_pos (by decide), if_pos (by omega), if_pos rfl]; rfl
  rw [if_neg (by rw [show (39 : Int) = ((39 : Nat) : Int) from rfl, byte_eq b 39 (by decide)]; exact h5), if_neg h5]
  by_cases h6 : b = 9
  · subst h6
    rw [if_pos (by decide), if_pos (by omega), if_pos rfl]; rfl
  rw [if_neg (by rw [show (9 : Int) = ((9 : Nat) : Int) from rfl, byte_eq b 9 (by decide)]; exact h6), if_neg h6]
  by_cases h7 : b = 10
  · subst h7
    rw [if_pos (by decide), if_pos (by omega), if_pos rfl]; rfl
  rw [if_neg (by rw [show (10 : Int) = ((10 : Nat) : Int) from rfl, byte_eq b 10 (by decide)]; exact h7), if_neg h7]
  by_cases h8 : b = 13
  · subst h8
    rw [if_pos (by decide), if_pos (by omega), if_pos rfl]; rfl
  rw [if_neg (by rw [show (13 : Int) = ((13 : Nat) : Int) from rfl, byte_eq b 13 (by decide)]; exact h8), if_neg h8]
  rw [if_pos (by omega), if_pos (by omega)]
  simp only [Option.bind_some, Int.toNat_natCast]
  rw [hx, if_pos (by rw [ba_size]; simp only [List.length_cons, List.length_nil]; omega)]; rfl
theorem esc_loop (s : ByteArray) (hs : s.size ≤ 1000000000) : ∀ (d i k : Nat) (acc : ByteArray), i + d = s.size → d < k → acc.size ≤ 6 * i → cardexref01_Escape.l0 k s acc (i : Int) = some (acc ++ ba (escL (s.data.toList.drop i)))
  | 0, i, k, acc, hi, hk, ha => by
    obtain ⟨k, rfl⟩ : ∃ j, k = j + 1 := ⟨k - 1, by omega⟩
    rw [cardexref01_Escape.l0, if_neg (by omega), List.drop_eq_nil_of_le (by rw [size_list]; omega)]
    congr 1
    rw [← ba_of acc, ba_append]
    simp [escL]
  | d + 1, i, k, acc, hi, hk, ha => by
    obtain ⟨k, rfl⟩ : ∃ j, k = j + 1 := ⟨k - 1, by omega⟩
    obtain ⟨b, t, h1, h2, h3, h4⟩ := bt_at_get s i (by omega)
    rw [esc_step s acc i k b (by omega) h2 h4 hs (by omega)]
    have hl := escB_len b
    rw [esc_loop s hs d (i + 1) k _ (by omega) (by omega) (by rw [ByteArray.size_append, ba_size]; omega), h1, h3]
    congr 1
    rw [← ba_of acc, ba_append, ba_append, ba_append]
    unfold escL
    rw [List.flatMap_cons, List.append_assoc]
theorem ref_escape (s : ByteArray) (hs : s.size ≤ 1000000000) (k : Nat) (hk : s.size < k) : cardexref01_Escape.f k s = some (ba (escL s.data.toList)) := by
  unfold cardexref01_Escape.f
  have := esc_loop s hs s.size 0 k ⟨#[]⟩ (by omega) hk (by decide)
  rw [show ((0 : Nat) : Int) = 0 from rfl, List.drop_zero] at this
  rw [this]
  rw [show (⟨#[]⟩ : ByteArray) = ba [] from rfl, ba_append, List.nil_append]
def badB (b : UInt8) : Bool := b == 60 || b == 62 || b == 34 || b == 39 || decide (b.toNat < 32)
theorem escB_all : ∀ n : Fin 256, ((UInt8.ofNat n.val).toNat < 32 → (UInt8.ofNat n.val = 9 ∨ UInt8.ofNat n.val = 10 ∨ UInt8.ofNat n.val = 13)) → (escB (UInt8.ofNat n.val)).any badB = false := by decide +kernel
theorem escB_good (b : UInt8) (h : b.toNat < 32 → (b = 9 ∨ b = 10 ∨ b = 13)) : (escB b).any badB = false := by
  have := escB_all ⟨b.toNat, b.toNat_lt⟩
  simp only [UInt8.ofNat_toNat] at this
  exact this h
theorem escB_back : ∀ n : Fin 256, ∀ x : Fin 2, (UInt8.ofNat n.val).toNat < 128 ∨ True → backM none (escB (UInt8.ofNat n.val)) = some [UInt8.ofNat n.val] := by decide +kernel
theorem escB_come (b : UInt8) : backM none (escB b) = some [b] := by
  have := escB_back ⟨b.toNat, b.toNat_lt⟩ 0 (.inr trivial)
  simpa only [UInt8.ofNat_toNat] using this
theorem escB_plain (b : UInt8) (h : 128 ≤ b.toNat) : escB b = [b] := by
  have : ∀ n : Fin 256, 128 ≤ (UInt8.ofNat n.val).toNat → escB (UInt8.ofNat n.val) = [UInt8.ofNat n.val] := by decide +kernel
  have := this ⟨b.toNat, b.toNat_lt⟩
  simp only [UInt8.ofNat_toNat] at this
  exact this h
theorem escB_ascii (b : UInt8) (h : b.toNat < 128) : (escB b).all (fun x => decide (x.toNat < 128)) = true := by
  have : ∀ n : Fin 256, (UInt8.ofNat n.val).toNat < 128 → (escB (UInt8.ofNat n.val)).all (fun x => decide (x.toNat < 128)) = true := by decide +kernel
  have := this ⟨b.toNat, b.toNat_lt⟩
  simp only [UInt8.ofNat_toNat] at this
  exact this h
theorem escL_app (a b : List UInt8) : escL (a ++ b) = escL a ++ escL b := by unfold escL; rw [List.flatMap_append]
theorem escL_come : ∀ l : List UInt8, backM none (escL l) = some l
  | [] => rfl
  | b :: t => by
    rw [show b :: t = [b] ++ t from rfl, escL_app, show escL [b] = escB b by simp [escL], backM_app _ none _ _ (escB_come b), escL_come t]; rfl
theorem escL_high : ∀ l : List UInt8, (∀ b ∈ l, 128 ≤ b.toNat) → escL l = l
  | [], _ => rfl
  | b :: t, h => by
    rw [show b :: t = [b] ++ t from rfl, escL_app, show escL [b] = escB b by simp [escL], escB_plain b (h b (.head _)), escL_high t (fun x hx => h x (.tail _ hx))]
def escI (c : Int) : List Int := if c < 128 then (escB (UInt8.ofNat c.toNat)).map (fun b => (b.toNat : Int)) else [c]
theorem wrs_ascii : ∀ l : List UInt8, l.all (fun x => decide (x.toNat < 128)) = true → wrs (l.map (fun b => (b.toNat : Int))) = l
  | [], _ => rfl
  | b :: t, h => by
    rw [List.all_cons, Bool.and_eq_true, decide_eq_true_eq] at h
    rw [List.map_cons, wrs_cons, wrs_ascii t h.2, enc_ascii (by omega) (by omega), Int.toNat_natCast, UInt8.ofNat_toNat]; rfl
theorem escL_enc {c : Int} (h : scal c) : escL (enc c) = wrs (escI c) := by
  unfold escI
  by_cases hc : c < 128
  · rw [if_pos hc, enc_ascii h.1 hc, show escL [UInt8.ofNat c.toNat] = escB (UInt8.ofNat c.toNat) by simp [escL], wrs_ascii _ (escB_ascii _ (by rw [UInt8.toNat_ofNat']; have := h.1; omega))]
  · rw [if_neg hc, escL_high]
    · simp [wrs]
    · intro b hb
      rcases mem_enc h hb with ⟨h1, h2, _⟩ | h1
      · omega
      · exact h1
theorem escL_wrs : ∀ L : List Int, (∀ c ∈ L, scal c) → escL (wrs L) = wrs (L.flatMap escI)
  | [], _ => rfl
  | c :: L, h => by
    rw [wrs_cons, escL_app, escL_enc (h c (.head _)), escL_wrs L (fun x hx => h x (.tail _ hx)), List.flatMap_cons, wrs_append]
theorem escI_mem {c x : Int} (hc : scal c) (hm : mayB c = true) (hx : x ∈ escI c) : scal x ∧ mayB x = true := by
  unfold escI at hx
  by_cases h : c < 128
  · rw [if_pos h] at hx
    obtain ⟨b, hb, rfl⟩ := List.mem_map.1 hx
    have h0 := hc.1
    have hn : (UInt8.ofNat c.toNat).toNat = c.toNat := by rw [UInt8.toNat_ofNat']; omega
    have h1 := List.all_eq_true.1 (escB_ascii (UInt8.ofNat c.toNat) (by omega)) b hb
    rw [decide_eq_true_eq] at h1
    have h2 := escB_good (UInt8.ofNat c.toNat) (by
      intro h3
      rw [hn] at h3
      unfold mayB at hm
      simp only [Bool.or_eq_true, Bool.and_eq_true, decide_eq_true_eq, beq_iff_eq] at hm
      rcases (show c = 9 ∨ c = 10 ∨ c = 13 by omega) with rfl | rfl | rfl
      · exact .inl rfl
      · exact .inr (.inl rfl)
      · exact .inr (.inr rfl))
    have h3 : ¬ badB b = true := fun hbb => by
      rw [List.any_eq_false] at h2
      exact h2 b hb hbb
    unfold badB at h3
    simp only [Bool.or_eq_true, decide_eq_true_eq, beq_iff_eq, not_or] at h3
    refine ⟨⟨by omega, by omega, .inl (by omega)⟩, ?_⟩
    unfold mayB
    simp only [Bool.or_eq_true, Bool.and_eq_true, decide_eq_true_eq, beq_iff_eq]
    left; right; omega
  · rw [if_neg h] at hx
    rw [List.mem_singleton.1 hx]
    exact ⟨hc, hm⟩
theorem escL_valid (s : ByteArray) (h : validT s = true) : validT (ba (escL s.data.toList)) = true := by
  obtain ⟨L, h1, h2, rfl⟩ := wrs_of s h
  have hall : ∀ x ∈ L.flatMap escI, scal x ∧ mayB x = true := by
    intro x hx
    obtain ⟨c, hc, hx⟩ := List.mem_flatMap.1 hx
    exact escI_mem (h1 c hc) (List.all_eq_true.1 h2 c hc) hx
  rw [ba_list, escL_wrs L h1, validT_wrs _ (fun x hx => (hall x hx).1), List.all_eq_true]
  exact fun x hx => (hall x hx).2
theorem escL_good (s : ByteArray) (h : validT s = true) : (escL s.data.toList).any badB = false := by
  obtain ⟨L, h1, h2, rfl⟩ := wrs_of s h
  rw [ba_list]
  unfold escL
  rw [List.any_flatMap, List.any_eq_false]
  intro b hb
  rw [Bool.not_eq_true]
  refine escB_good b fun h3 => ?_
  have h4 := List.all_eq_true.1 h2 _ (mem_wrs h1 hb (by omega))
  unfold mayB at h4
  simp only [Bool.or_eq_true, Bool.and_eq_true, decide_eq_true_eq, beq_iff_eq] at h4
  rcases (show b.toNat = 9 ∨ b.toNat = 10 ∨ b.toNat = 13 by omega) with h5 | h5 | h5
  · exact .inl (UInt8.toNat_inj.1 h5)
  · exact .inr (.inl (UInt8.toNat_inj.1 h5))
  · exact .inr (.inr (UInt8.toNat_inj.1 h5))
end Go.Proofs.YtjijbncheikagaaDoor.P
