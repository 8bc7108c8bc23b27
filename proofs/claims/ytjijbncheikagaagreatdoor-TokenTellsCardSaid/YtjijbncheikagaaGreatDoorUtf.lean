/- Plain words of this session: characters written as bytes, and read again. No program in sight. -/
import Derived.Test.YtjijbncheikagaaGreatDoorPl
import Derived.Lib.DecodeN
import Derived.Lib.RuneBytes
import Derived.Lib.SplitLaws
import Derived.RowKit
namespace Go.Proofs.YtjijbncheikagaaGreatDoorX
open Go.Lib
def scal (c : Int) : Prop := 0 ≤ c ∧ c ≤ 1114111 ∧ (c < 55296 ∨ 57344 ≤ c)
def enc (c : Int) : List UInt8 := (Utf8.encode c).data.toList
def wrs (l : List Int) : List UInt8 := l.flatMap enc
theorem scal_valid {c : Int} (h : scal c) : Utf8.valid c = true := by
  obtain ⟨h0, h1, h2⟩ := h
  unfold Utf8.valid
  simp only [Bool.or_eq_true, Bool.and_eq_true, decide_eq_true_eq]
  omega
theorem enc_cases {c : Int} (h : scal c) :
    (c < 128 ∧ enc c = [UInt8.ofNat c.toNat]) ∨
    (128 ≤ c ∧ c < 2048 ∧ enc c = [UInt8.ofNat (192 + c.toNat / 64), UInt8.ofNat (128 + c.toNat % 64)]) ∨
    (2048 ≤ c ∧ c < 65536 ∧ enc c = [UInt8.ofNat (224 + c.toNat / 4096), UInt8.ofNat (128 + c.toNat / 64 % 64), UInt8.ofNat (128 + c.toNat % 64)]) ∨
    (65536 ≤ c ∧ enc c = [UInt8.ofNat (240 + c.toNat / 262144), UInt8.ofNat (128 + c.toNat / 4096 % 64), UInt8.ofNat (128 + c.toNat / 64 % 64), UInt8.ofNat (128 + c.toNat % 64)]) := by
  have hv := scal_valid h
  obtain ⟨h0, h1, h2⟩ := h
  unfold enc Utf8.encode
  simp only [hv, if_true]
  by_cases a : c < 128
  · left
    rw [if_pos (by omega)]
    exact ⟨a, rfl⟩
  · right
    rw [if_neg (by omega)]
    by_cases b : c < 2048
    · left
      rw [if_pos (by omega)]
      exact ⟨by omega, b, rfl⟩
    · right
      rw [if_neg (by omega)]
      by_cases d : c < 65536
      · left
        rw [if_pos (by omega)]
        exact ⟨by omega, d, rfl⟩
      · right
        rw [if_neg (by omega)]
        exact ⟨by omega, rfl⟩
theorem byte_nat {n : Nat} (h : n < 256) : (UInt8.ofNat n).toNat = n := by
  rw [UInt8.toNat_ofNat']
  exact Nat.mod_eq_of_lt h
theorem enc_len {c : Int} (h : scal c) : 1 ≤ (enc c).length ∧ (enc c).length ≤ 4 := by
  rcases enc_cases h with ⟨_, e⟩ | ⟨_, _, e⟩ | ⟨_, _, e⟩ | ⟨_, e⟩ <;> rw [e] <;> simp
theorem enc_ne {c : Int} (h : scal c) : enc c ≠ [] := by
  have := (enc_len h).1
  intro e
  rw [e] at this
  simp at this
theorem decode_enc {c : Int} (h : scal c) (rest : List UInt8) : decodeL (enc c ++ rest) = (c.toNat, (enc c).length) := by
  rw [decodeL_N]
  have hh := h
  obtain ⟨h0, h1, h2⟩ := h
  rcases enc_cases hh with ⟨a, e⟩ | ⟨a, b, e⟩ | ⟨a, b, e⟩ | ⟨a, e⟩ <;> rw [e] <;> simp only [List.cons_append, List.nil_append, List.getD_cons_zero, List.getD_cons_succ, List.length_cons, List.length_nil]
  · rw [byte_nat (by omega), decodeN_ascii _ _ _ _ _ (by omega)]
  · rw [byte_nat (by omega), byte_nat (by omega)]
    unfold decodeN
    rw [if_neg (by omega), if_pos (by omega), if_pos (by omega)]
    simp only [Prod.mk.injEq, and_true]
    omega
  · rw [byte_nat (by omega), byte_nat (by omega), byte_nat (by omega)]
    unfold decodeN
    have hc : (224 + c.toNat / 4096) % 16 * 4096 + (128 + c.toNat / 64 % 64) % 64 * 64 + (128 + c.toNat % 64) % 64 = c.toNat := by omega
    rw [if_neg (by omega), if_neg (by omega), if_pos (by omega), hc, if_pos (by omega)]
  · rw [byte_nat (by omega), byte_nat (by omega), byte_nat (by omega), byte_nat (by omega)]
    unfold decodeN
    have hc : (240 + c.toNat / 262144) % 8 * 262144 + (128 + c.toNat / 4096 % 64) % 64 * 4096 + (128 + c.toNat / 64 % 64) % 64 * 64 + (128 + c.toNat % 64) % 64 = c.toNat := by omega
    rw [if_neg (by omega), if_neg (by omega), if_neg (by omega), if_pos (by omega), hc, if_pos (by omega)]
theorem wrs_cons (c : Int) (l : List Int) : wrs (c :: l) = enc c ++ wrs l := rfl
theorem runes_wrs : ∀ (n : Nat) (l : List Int), (∀ c ∈ l, scal c) → (wrs l).length ≤ n → runesN n (wrs l) = l
  | n, [], _, _ => runesN_nil n
  | n, c :: l, h, hn => by
    have hc := h c (.head _)
    have hne : wrs (c :: l) ≠ [] := by
      rw [wrs_cons]
      intro e
      exact enc_ne hc (List.append_eq_nil_iff.1 e).1
    have h1 := (enc_len hc).1
    rw [runesN_step hne hn]
    rw [wrs_cons, decode_enc hc, List.drop_left]
    rw [wrs_cons, List.length_append] at hn
    rw [runes_wrs n l (fun x hx => h x (.tail _ hx)) (by omega)]
    rw [Int.toNat_of_nonneg hc.1]
theorem valid_wrs : ∀ (l : List Int), (∀ c ∈ l, scal c) → validD (wrs l) = true
  | [], _ => rfl
  | c :: l, h => by
    have hc := h c (.head _)
    have hne : enc c ++ wrs l ≠ [] := by
      intro e
      exact enc_ne hc (List.append_eq_nil_iff.1 e).1
    rw [wrs_cons, validD_step _ hne, decode_enc hc, if_neg ?_]
    · rw [List.drop_left]
      exact valid_wrs l (fun x hx => h x (.tail _ hx))
    · rintro ⟨h1, h2⟩
      rcases enc_cases hc with ⟨a, e⟩ | ⟨a, b, e⟩ | ⟨a, b, e⟩ | ⟨a, e⟩
      · simp only at h1; omega
      · simp [e] at h2
      · simp [e] at h2
      · simp [e] at h2
theorem decode_scal (l : List UInt8) : scal ((decodeL l).1 : Int) := by
  rw [decodeL_N]
  unfold decodeN scal
  have b0 := (l.getD 0 0).toNat_lt
  have b1 := (l.getD 1 0).toNat_lt
  have b2 := (l.getD 2 0).toNat_lt
  have b3 := (l.getD 3 0).toNat_lt
  repeat' split
  all_goals (simp only; omega)
def pieces (c : UInt8) : List UInt8 → List (List UInt8)
  | [] => [[]]
  | b :: l => if b = c then [] :: pieces c l else match pieces c l with
    | p :: ps => (b :: p) :: ps
    | [] => [[b]]
theorem w64 {x : Int} (h0 : -9223372036854775808 ≤ x) (h1 : x ≤ 9223372036854775807) : Go.RowKit.wrap64 x = x := by
  unfold Go.RowKit.wrap64
  omega
end Go.Proofs.YtjijbncheikagaaGreatDoorX
