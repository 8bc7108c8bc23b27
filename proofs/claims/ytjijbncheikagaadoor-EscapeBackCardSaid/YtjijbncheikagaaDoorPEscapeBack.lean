/- EscapeBack, in plain words: what is escaped comes back, and has none of the signs that must not stand. -/
import Derived.Test.YtjijbncheikagaaDoorEsc2
namespace Go.Proofs.YtjijbncheikagaaDoor.P
open Go.RowKit Go.Lib Go.Proofs.YtjijbncheikagaaDoorX Go.Proofs.YtjijbncheikagaaDoorW.PrintWords Go.Proofs.YtjijbncheikagaaDoor.Q
set_option linter.unusedVariables false
set_option linter.unusedSimpArgs false
/-- The signs that must not stand. -/
def badB (b : UInt8) : Bool := b == 60 || b == 62 || b == 34 || b == 39 || decide (b.toNat < 32)
theorem escB_all : ∀ n : Fin 256, ((UInt8.ofNat n.val).toNat < 32 → (UInt8.ofNat n.val = 9 ∨ UInt8.ofNat n.val = 10 ∨ UInt8.ofNat n.val = 13)) → (escB (UInt8.ofNat n.val)).any badB = false := by decide +kernel
theorem escB_good (b : UInt8) (h : b.toNat < 32 → (b = 9 ∨ b = 10 ∨ b = 13)) : (escB b).any badB = false := by
  have := escB_all ⟨b.toNat, b.toNat_lt⟩
  simp only [UInt8.ofNat_toNat] at this
  exact this h
theorem escB_back : ∀ n : Fin 256, ∀ x : Fin 2, (UInt8.ofNat n.val).toNat < 128 ∨ True → backM none (escB (UInt8.ofNat n.val)) = some [UInt8.ofNat n.val] := by decide +kernel
theorem escB_come (b : UInt8) : backM none (escB b) = some [b] := by
  have := escB_back ⟨b.toNat, b.toNat_lt⟩ 0 (.inr trivial)
  simpa only [UInt8.ofNat_toNat] using this
theorem escB_plain (b : UInt8) (h : 128 ≤ b.toNat) : escB b = [b] := by
  have : ∀ n : Fin 256, 128 ≤ (UInt8.ofNat n.val).toNat → escB (UInt8.ofNat n.val) = [UInt8.ofNat n.val] := by decide +kernel
  have := this ⟨b.toNat, b.toNat_lt⟩
  simp only [UInt8.ofNat_toNat] at this
  exact this h
theorem escB_ascii (b : UInt8) (h : b.toNat < 128) : (escB b).all (fun x => decide (x.toNat < 128)) = true := by
  have : ∀ n : Fin 256, (UInt8.ofNat n.val).toNat < 128 → (escB (UInt8.ofNat n.val)).all (fun x => decide (x.toNat < 128)) = true := by decide +kernel
  have := this ⟨b.toNat, b.toNat_lt⟩
  simp only [UInt8.ofNat_toNat] at this
  exact this h
theorem escL_app (a b : List UInt8) : escL (a ++ b) = escL a ++ escL b := by unfold escL; rw [List.flatMap_append]
theorem escL_come : ∀ l : List UInt8, backM none (escL l) = some l
  | [] => rfl
  | b :: t => by
    rw [show b :: t = [b] ++ t from rfl, escL_app, show escL [b] = escB b by simp [escL], backM_app _ none _ _ (escB_come b), escL_come t]; rfl
theorem escL_high : ∀ l : List UInt8, (∀ b ∈ l, 128 ≤ b.toNat) → escL l = l
  | [], _ => rfl
  | b :: t, h => by
    rw [show b :: t = [b] ++ t from rfl, escL_app, show escL [b] = escB b by simp [escL], escB_plain b (h b (.head _)), escL_high t (fun x hx => h x (.tail _ hx))]
def escI (c : Int) : List Int := if c < 128 then (escB (UInt8.ofNat c.toNat)).map (fun b => (b.toNat : Int)) else [c]
theorem wrs_ascii : ∀ l : List UInt8, l.all (fun x => decide (x.toNat < 128)) = true → wrs (l.map (fun b => (b.toNat : Int))) = l
  | [], _ => rfl
  | b :: t, h => by
    rw [List.all_cons, Bool.and_eq_true, decide_eq_true_eq] at h
    rw [List.map_cons, wrs_cons, wrs_ascii t h.2, enc_ascii (by omega) (by omega), Int.toNat_natCast, UInt8.ofNat_toNat]; rfl
theorem escL_enc {c : Int} (h : scal c) : escL (enc c) = wrs (escI c) := by
  unfold escI
  by_cases hc : c < 128
  · rw [if_pos hc, enc_ascii h.1 hc, show escL [UInt8.ofNat c.toNat] = escB (UInt8.ofNat c.toNat) by simp [escL], wrs_ascii _ (escB_ascii _ (by rw [UInt8.toNat_ofNat']; have := h.1; omega))]
  · rw [if_neg hc, escL_high]
    · simp [wrs]
    · intro b hb
      rcases mem_enc h hb with ⟨h1, h2, _⟩ | h1
      · omega
      · exact h1
theorem escL_wrs : ∀ L : List Int, (∀ c ∈ L, scal c) → escL (wrs L) = wrs (L.flatMap escI)
  | [], _ => rfl
  | c :: L, h => by
    rw [wrs_cons, escL_app, escL_enc (h c (.head _)), escL_wrs L (fun x hx => h x (.tail _ hx)), List.flatMap_cons, wrs_append]
theorem escI_mem {c x : Int} (hc : scal c) (hm : mayB c = true) (hx : x ∈ escI c) : scal x ∧ mayB x = true := by
  unfold escI at hx
  by_cases h : c < 128
  · rw [if_pos h] at hx
    obtain ⟨b, hb, rfl⟩ := List.mem_map.1 hx
    have h0 := hc.1
    have hn : (UInt8.ofNat c.toNat).toNat = c.toNat := by rw [UInt8.toNat_ofNat']; omega
    have h1 := List.all_eq_true.1 (escB_ascii (UInt8.ofNat c.toNat) (by omega)) b hb
    rw [decide_eq_true_eq] at h1
    have h2 := escB_good (UInt8.ofNat c.toNat) (by
      intro h3
      rw [hn] at h3
      unfold mayB at hm
      simp only [Bool.or_eq_true, Bool.and_eq_true, decide_eq_true_eq, beq_iff_eq] at hm
      rcases (show c = 9 ∨ c = 10 ∨ c = 13 by omega) with rfl | rfl | rfl
      · exact .inl rfl
      · exact .inr (.inl rfl)
      · exact .inr (.inr rfl))
    have h3 : ¬ badB b = true := fun hbb => by
      rw [List.any_eq_false] at h2
      exact h2 b hb hbb
    unfold badB at h3
    simp only [Bool.or_eq_true, decide_eq_true_eq, beq_iff_eq, not_or] at h3
    refine ⟨⟨by omega, by omega, .inl (by omega)⟩, ?_⟩
    unfold mayB
    simp only [Bool.or_eq_true, Bool.and_eq_true, decide_eq_true_eq, beq_iff_eq]
    left; right; omega
  · rw [if_neg h] at hx
    rw [List.mem_singleton.1 hx]
    exact ⟨hc, hm⟩
theorem escL_valid (s : ByteArray) (h : validT s = true) : validT (ba (escL s.data.toList)) = true := by
  obtain ⟨L, h1, h2, rfl⟩ := wrs_of s h
  have hall : ∀ x ∈ L.flatMap escI, scal x ∧ mayB x = true := by
    intro x hx
    obtain ⟨c, hc, hx⟩ := List.mem_flatMap.1 hx
    exact escI_mem (h1 c hc) (List.all_eq_true.1 h2 c hc) hx
  rw [ba_list, escL_wrs L h1, validT_wrs _ (fun x hx => (hall x hx).1), List.all_eq_true]
  exact fun x hx => (hall x hx).2
theorem escL_good (s : ByteArray) (h : validT s = true) : (escL s.data.toList).any badB = false := by
  obtain ⟨L, h1, h2, rfl⟩ := wrs_of s h
  rw [ba_list]
  unfold escL
  rw [List.any_flatMap, List.any_eq_false]
  intro b hb
  rw [Bool.not_eq_true]
  refine escB_good b fun h3 => ?_
  have h4 := List.all_eq_true.1 h2 _ (mem_wrs h1 hb (by omega))
  unfold mayB at h4
  simp only [Bool.or_eq_true, Bool.and_eq_true, decide_eq_true_eq, beq_iff_eq] at h4
  rcases (show b.toNat = 9 ∨ b.toNat = 10 ∨ b.toNat = 13 by omega) with h5 | h5 | h5
  · exact .inl (UInt8.toNat_inj.1 h5)
  · exact .inr (.inl (UInt8.toNat_inj.1 h5))
  · exact .inr (.inr (UInt8.toNat_inj.1 h5))
theorem good_loop (s x : ByteArray) (hx : x.size ≤ 1000000000) (hg : x.data.toList.any badB = false) : ∀ (d i k : Nat), i + d = x.size → d < k → cardexlaw02_EscapeBack.l0 k s x s 0 (i : Int) = some true
  | 0, i, k, hi, hk => by
    obtain ⟨k, rfl⟩ : ∃ j, k = j + 1 := ⟨k - 1, by omega⟩
    rw [cardexlaw02_EscapeBack.l0, if_neg (by omega), awake2]
    simp only [Option.bind_some, if_true]
  | d + 1, i, k, hi, hk => by
    obtain ⟨k, rfl⟩ : ∃ j, k = j + 1 := ⟨k - 1, by omega⟩
    obtain ⟨b, t, h1, h2, h3, h4⟩ := bt_at_get x i (by omega)
    have hb : b ∈ x.data.toList := List.mem_of_mem_drop (i := i) (by rw [h1]; exact List.Mem.head _)
    have h5 : ¬ badB b = true := fun e => by
      rw [List.any_eq_false] at hg
      exact hg b hb e
    unfold badB at h5
    simp only [Bool.or_eq_true, decide_eq_true_eq, beq_iff_eq, not_or] at h5
    rw [cardexlaw02_EscapeBack.l0, if_pos (by omega), if_pos (by omega), h2]
    rw [if_neg (by rw [show (60 : Int) = ((60 : Nat) : Int) from rfl, byte_eq b 60 (by decide)]; exact h5.1.1.1.1)]
    rw [if_neg (by rw [show (62 : Int) = ((62 : Nat) : Int) from rfl, byte_eq b 62 (by decide)]; exact h5.1.1.1.2)]
    rw [if_neg (by rw [show (34 : Int) = ((34 : Nat) : Int) from rfl, byte_eq b 34 (by decide)]; exact h5.1.1.2)]
    rw [if_neg (by rw [show (39 : Int) = ((39 : Nat) : Int) from rfl, byte_eq b 39 (by decide)]; exact h5.1.2)]
    rw [if_neg (by omega), wrap_small (by omega) (by omega), show (i : Int) + 1 = ((i + 1 : Nat) : Int) by omega]
    exact good_loop s x hx hg d (i + 1) k (by omega) (by omega)
theorem escapeBack (s : ByteArray) (hs : s.size ≤ 140737488351232) : ∃ k, cardexlaw02_EscapeBack.f k s = some true := by
  have far : ∀ k, cardexlaw02_EscapeBack.j0 (k + 1) s true = some true := by
    intro k
    rw [cardexlaw02_EscapeBack.j0, if_pos rfl, awake2]; rfl
  by_cases h1 : (s.size : Int) > 500
  · refine ⟨1, ?_⟩
    unfold cardexlaw02_EscapeBack.f
    rw [if_pos h1]; exact far 0
  refine ⟨6 * s.size + 20, ?_⟩
  unfold cardexlaw02_EscapeBack.f
  rw [if_neg h1, ref_valid s hs _ (by omega)]
  simp only [Option.bind_some]
  cases hv : validT s with
  | false => exact far _
  | true =>
    have hl := escL_len s.data.toList
    rw [size_list] at hl
    show cardexlaw02_EscapeBack.j0 (6 * s.size + 19 + 1) s false = some true
    rw [cardexlaw02_EscapeBack.j0, if_neg (by decide), text_f s (by omega)]
    simp only [Option.bind_some]
    rw [back_f _ (by rw [ba_size]; omega)]
    have hb : backT (ba (escL s.data.toList)) = (s, 0) := by
      unfold backT
      rw [if_pos (escL_valid s hv), ba_list, escL_come]
      show ((⟨#[]⟩ : ByteArray) ++ ba s.data.toList, (0 : Int)) = (s, 0)
      rw [show (⟨#[]⟩ : ByteArray) = ba [] from rfl, ba_append, List.nil_append, ba_of]
    rw [hb]
    simp only [Option.bind_some]
    exact good_loop s _ (by rw [ba_size]; omega) (by rw [ba_list]; exact escL_good s hv) (ba (escL s.data.toList)).size 0 _ (by omega) (by rw [ba_size]; omega)
end Go.Proofs.YtjijbncheikagaaDoor.P
