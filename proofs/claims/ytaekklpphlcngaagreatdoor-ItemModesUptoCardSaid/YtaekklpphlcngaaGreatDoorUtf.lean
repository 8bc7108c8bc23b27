/- Plain words of this session: characters written as bytes, and read again. No program in sight. -/
import Derived.Test.YtaekklpphlcngaaGreatDoorPl
import Derived.Lib.DecodeN
import Derived.Lib.RuneBytes
import Derived.Lib.SplitLaws
import Derived.RowKit
namespace Go.Proofs.YtaekklpphlcngaaGreatDoorX
open Go.Lib
def scal (c : Int) : Prop := 0 ≤ c ∧ c ≤ 1114111 ∧ (c < 55296 ∨ 57344 ≤ c)
def enc (c : Int) : List UInt8 := (Utf8.encode c).data.toList
def wrs (l : List Int) : List UInt8 := l.flatMap enc
theorem scal_valid {c : Int} (h : scal c) : Utf8.valid c = true := by
  obtain ⟨h0, h1, h2⟩ := h
  unfold Utf8.valid
  simp only [Bool.or_eq_true, Bool.and_eq_true, decide_eq_true_eq]
  omega
theorem enc_cases {c : Int} (h : scal c) :
    (c < 128 ∧ enc c = [UInt8.ofNat c.toNat]) ∨
    (128 ≤ c ∧ c < 2048 ∧ enc c = [UInt8.ofNat (192 + c.toNat / 64), UInt8.ofNat (128 + c.toNat % 64)]) ∨
    (2048 ≤ c ∧ c < 65536 ∧ enc c = [UInt8.ofNat (224 + c.toNat / 4096), UInt8.ofNat (128 + c.toNat / 64 % 64), UInt8.ofNat (128 + c.toNat % 64)]) ∨
    (65536 ≤ c ∧ enc c = [UInt8.ofNat (240 + c.toNat / 262144), UInt8.ofNat (128 + c.toNat / 4096 % 64), UInt8.ofNat (128 + c.toNat / 64 % 64), UInt8.ofNat (128 + c.toNat % 64)]) := by
  have hv := scal_valid h
  obtain ⟨h0, h1, h2⟩ := h
  unfold enc Utf8.encode
  simp only [hv, if_true]
  by_cases a : c < 128
  · left
    rw [if_pos (by omega)]
    exact ⟨a, rfl⟩
  · right
    rw [if_neg (by omega)]
    by_cases b : c < 2048
    · left
      rw [if_pos (by omega)]
      exact ⟨by omega, b, rfl⟩
    · right
      rw [if_neg (by omega)]
      by_cases d : c < 65536
      · left
        rw [if_pos (by omega)]
        exact ⟨by omega, d, rfl⟩
      · right
        rw [if_neg (by omega)]
        exact ⟨by omega, rfl⟩
theorem byte_nat {n : Nat} (h : n < 256) : (UInt8.ofNat n).toNat = n := by
  rw [UInt8.toNat_ofNat']
  exact Nat.mod_eq_of_lt h
theorem enc_len {c : Int} (h : scal c) : 1 ≤ (enc c).length ∧ (enc c).length ≤ 4 := by
  rcases enc_cases h with ⟨_, e⟩ | ⟨_, _, e⟩ | ⟨_, _, e⟩ | ⟨_, e⟩ <;> rw [e] <;> simp
theorem enc_ne {c : Int} (h : scal c) : enc c ≠ [] := by
  have := (enc_len h).1
  intro e
  rw [e] at this
  simp at this
theorem decode_enc {c : Int} (h : scal c) (rest : List UInt8) : decodeL (enc c ++ rest) = (c.toNat, (enc c).length) := by
  rw [decodeL_N]
  have hh := h
  obtain ⟨h0, h1, h2⟩ := h
  rcases enc_cases hh with ⟨a, e⟩ | ⟨a, b, e⟩ | ⟨a, b, e⟩ | ⟨a, e⟩ <;> rw [e] <;> simp only [List.cons_append, List.nil_append, List.getD_cons_zero, List.getD_cons_succ, List.length_cons, List.length_nil]
  · rw [byte_nat (by omega), decodeN_ascii _ _ _ _ _ (by omega)]
  · rw [byte_nat (by omega), byte_nat (by omega)]
    unfold decodeN
    rw [if_neg (by omega), if_pos (by omega), if_pos (by omega)]
    simp only [Prod.mk.injEq, and_true]
    omega
  · rw [byte_nat (by omega), byte_nat (by omega), byte_nat (by omega)]
    unfold decodeN
    have hc : (224 + c.toNat / 4096) % 16 * 4096 + (128 + c.toNat / 64 % 64) % 64 * 64 + (128 + c.toNat % 64) % 64 = c.toNat := by omega
    rw [if_neg (by omega), if_neg (by omega), if_pos (by omega), hc, if_pos (by omega)]
  · rw [byte_nat (by omega), byte_nat (by omega), byte_nat (by omega), byte_nat (by omega)]
    unfold decodeN
    have hc : (240 + c.toNat / 262144) % 8 * 262144 + (128 + c.toNat / 4096 % 64) % 64 * 4096 + (128 + c.toNat / 64 % 64) % 64 * 64 + (128 + c.toNat % 64) % 64 = c.toNat := by omega
    rw [if_neg (by omega), if_neg (by omega), if_neg (by omega), if_pos (by omega), hc, if_pos (by omega)]
theorem wrs_cons (c : Int) (l : List Int) : wrs (c :: l) = enc c ++ wrs l := rfl
theorem wrs_append (a b : List Int) : wrs (a ++ b) = wrs a ++ wrs b := List.flatMap_append
theorem runes_wrs : ∀ (n : Nat) (l : List Int), (∀ c ∈ l, scal c) → (wrs l).length ≤ n → runesN n (wrs l) = l
  | n, [], _, _ => runesN_nil n
  | n, c :: l, h, hn => by
    have hc := h c (.head _)
    have hne : wrs (c :: l) ≠ [] := by
      rw [wrs_cons]
      intro e
      exact enc_ne hc (List.append_eq_nil_iff.1 e).1
    have h1 := (enc_len hc).1
    rw [runesN_step hne hn]
    rw [wrs_cons, decode_enc hc, List.drop_left]
    rw [wrs_cons, List.length_append] at hn
    rw [runes_wrs n l (fun x hx => h x (.tail _ hx)) (by omega)]
    rw [Int.toNat_of_nonneg hc.1]
theorem valid_wrs : ∀ (l : List Int), (∀ c ∈ l, scal c) → validD (wrs l) = true
  | [], _ => rfl
  | c :: l, h => by
    have hc := h c (.head _)
    have hne : enc c ++ wrs l ≠ [] := by
      intro e
      exact enc_ne hc (List.append_eq_nil_iff.1 e).1
    rw [wrs_cons, validD_step _ hne, decode_enc hc, if_neg ?_]
    · rw [List.drop_left]
      exact valid_wrs l (fun x hx => h x (.tail _ hx))
    · rintro ⟨h1, h2⟩
      rcases enc_cases hc with ⟨a, e⟩ | ⟨a, b, e⟩ | ⟨a, b, e⟩ | ⟨a, e⟩
      · simp only at h1; omega
      · simp [e] at h2
      · simp [e] at h2
      · simp [e] at h2
theorem decode_scal (l : List UInt8) : scal ((decodeL l).1 : Int) := by
  rw [decodeL_N]
  unfold decodeN scal
  have b0 := (l.getD 0 0).toNat_lt
  have b1 := (l.getD 1 0).toNat_lt
  have b2 := (l.getD 2 0).toNat_lt
  have b3 := (l.getD 3 0).toNat_lt
  repeat' split
  all_goals (simp only; omega)
theorem runes_scal : ∀ (n : Nat) (l : List UInt8), ∀ c ∈ runesN n l, scal c
  | 0, _, c, h => by simp [runesN] at h
  | n + 1, l, c, h => by
    unfold runesN at h
    split at h
    · cases h
    · rcases List.mem_cons.1 h with rfl | h
      · exact decode_scal l
      · exact runes_scal n _ c h
theorem mem_enc {c : Int} (h : scal c) {b : UInt8} (hb : b ∈ enc c) : (b.toNat < 128 ∧ c = b.toNat ∧ enc c = [b]) ∨ 128 ≤ b.toNat := by
  have hh := h
  obtain ⟨h0, h1, h2⟩ := h
  rcases enc_cases hh with ⟨a, e⟩ | ⟨a, a', e⟩ | ⟨a, a', e⟩ | ⟨a, e⟩ <;> rw [e] at hb ⊢ <;> simp only [List.mem_cons, List.mem_nil_iff, or_false] at hb
  · subst hb
    rw [byte_nat (by omega)]
    exact .inl ⟨by omega, by omega, rfl⟩
  · right
    rcases hb with rfl | rfl <;> rw [byte_nat (by omega)] <;> omega
  · right
    rcases hb with rfl | rfl | rfl <;> rw [byte_nat (by omega)] <;> omega
  · right
    rcases hb with rfl | rfl | rfl | rfl <;> rw [byte_nat (by omega)] <;> omega
theorem mem_wrs {l : List Int} (h : ∀ c ∈ l, scal c) {b : UInt8} (hb : b ∈ wrs l) (hlt : b.toNat < 128) : (b.toNat : Int) ∈ l := by
  obtain ⟨c, hc, hbc⟩ := List.mem_flatMap.1 hb
  rcases mem_enc (h c hc) hbc with ⟨_, e, _⟩ | h1
  · exact e ▸ hc
  · omega
theorem enc_ascii {c : Int} (h0 : 0 ≤ c) (h : c < 128) : enc c = [UInt8.ofNat c.toNat] := by
  rcases enc_cases ⟨h0, by omega, by omega⟩ with ⟨_, e⟩ | ⟨_, _, e⟩ | ⟨_, _, e⟩ | ⟨_, e⟩
  · exact e
  all_goals omega
def pieces (c : UInt8) : List UInt8 → List (List UInt8)
  | [] => [[]]
  | b :: l => if b = c then [] :: pieces c l else match pieces c l with
    | p :: ps => (b :: p) :: ps
    | [] => [[b]]
theorem pieces_ne (c : UInt8) : ∀ l, pieces c l ≠ []
  | [] => by simp [pieces]
  | b :: l => by
    unfold pieces
    split
    · simp
    · split <;> simp
theorem splitK_pieces (c : UInt8) : ∀ l : List UInt8, Lib.splitK [c] 0 (Lib.count l [c]) l = pieces c l
  | [] => rfl
  | b :: l => by
    have ih := splitK_pieces c l
    unfold pieces
    by_cases h : b = c
    · subst h
      rw [if_pos rfl, Lib.count_cons_eq, Nat.add_comm]
      unfold Lib.splitK
      have hix : Lib.index (b :: l) [b] = 0 := by rw [Lib.index]; simp [List.isPrefixOf]
      rw [hix]
      simp only [List.length_cons, List.length_nil]
      rw [← ih]
      rfl
    · rw [if_neg h, Lib.count_cons_ne b c l h]
      have hp : ([c] : List UInt8).isPrefixOf (b :: l) = false := by simp [List.isPrefixOf, Ne.symm h]
      have hix : Lib.index (b :: l) [c] = if Lib.index l [c] == -1 then -1 else Lib.index l [c] + 1 := by rw [Lib.index, hp]; simp
      rcases hk : Lib.count l [c] with _ | k
      · rw [hk] at ih
        rw [← ih]
        rfl
      · rw [hk] at ih
        have hne : Lib.index l [c] ≠ -1 := by
          intro e
          rw [Lib.count_miss e] at hk
          cases hk
        have hge := Lib.index_ge l [c]
        obtain ⟨j, hj⟩ : ∃ j : Nat, Lib.index l [c] = j := ⟨(Lib.index l [c]).toNat, by omega⟩
        have h1 : (Lib.index l [c] == -1) = false := by rw [beq_eq_false_iff_ne]; exact hne
        rw [h1] at hix
        unfold Lib.splitK at ih ⊢
        rw [h1] at ih
        rw [hix]
        have h2 : ((if false = true then (-1 : Int) else Lib.index l [c] + 1) == -1) = false := by
          rw [beq_eq_false_iff_ne]
          simp only [Bool.false_eq_true, if_false]
          omega
        rw [h2, ← ih]
        simp only [Bool.false_eq_true, if_false, hj]
        have e1 : ((j : Int) + 1).toNat = j + 1 := by omega
        have e2 : ((j : Int)).toNat = j := by omega
        rw [e1, e2]
        simp
def pOk (x : List UInt8) : Bool := !(x == []) && !(x.head? == some 45) && !(x.getLast? == some 45)
theorem pieces_last (c : UInt8) : ∀ l : List UInt8, l.getLast? = some c → 2 ≤ (pieces c l).length ∧ (pieces c l).getLast? = some []
  | [], h => by cases h
  | [b], h => by
    have : b = c := by simpa using h
    subst this
    simp [pieces]
  | b :: d :: l, h => by
    have ih := pieces_last c (d :: l) (by rw [← h]; rfl)
    rw [pieces]
    split
    · refine ⟨by rw [List.length_cons]; omega, ?_⟩
      rw [List.getLast?_cons, ih.2]; rfl
    · rcases hp : pieces c (d :: l) with _ | ⟨p, _ | ⟨q, ps⟩⟩
      · exact absurd hp (pieces_ne _ _)
      · rw [hp] at ih; simp at ih
      · rw [hp] at ih
        exact ⟨by simp, by simpa using ih.2⟩
def trimDot (l : List UInt8) : List UInt8 := if l.getLast? = some 46 then l.dropLast else l
theorem trimDot_len (l : List UInt8) : (trimDot l).length ≤ l.length := by
  unfold trimDot
  split
  · rw [List.length_dropLast]; omega
  · exact Nat.le_refl _
theorem w64 {x : Int} (h0 : -9223372036854775808 ≤ x) (h1 : x ≤ 9223372036854775807) : Go.RowKit.wrap64 x = x := by
  unfold Go.RowKit.wrap64
  omega
end Go.Proofs.YtaekklpphlcngaaGreatDoorX
