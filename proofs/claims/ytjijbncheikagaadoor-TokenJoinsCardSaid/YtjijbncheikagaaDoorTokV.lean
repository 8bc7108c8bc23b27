/- Plain law of this session: where pieces end: behind a '>' or ahead of a '<'; what is left is a text, too. -/
import Derived.Test.YtjijbncheikagaaDoorTok3
namespace Go.Proofs.YtjijbncheikagaaDoor.P
open Go Go.RowKit Go.Lib Go.Proofs.YtjijbncheikagaaDoorX Go.Proofs.YtjijbncheikagaaDoorW.PrintWords Go.Proofs.YtjijbncheikagaaDoor.Q
set_option linter.unusedVariables false
set_option linter.unusedSimpArgs false
theorem wrs_split : ∀ (L : List Int), (∀ c ∈ L, scal c) → ∀ (p r : Text) (b : UInt8), b.toNat < 128 → wrs L = p ++ b :: r → ∃ L1 L2, L = L1 ++ (b.toNat : Int) :: L2 ∧ wrs L1 = p ∧ wrs L2 = r
  | [], _, p, r, b, _, h => by
    have := congrArg List.length h
    rw [List.length_append, List.length_cons] at this
    simp [wrs] at this
  | x :: L, hL, p, r, b, hb, h => by
    rw [wrs_cons] at h
    have hx := hL x (.head _)
    by_cases hp : p.length < (enc x).length
    · have hm : b ∈ enc x := by
        have h1 : (enc x ++ wrs L)[p.length]? = some b := by rw [h, List.getElem?_append_right (Nat.le_refl _), Nat.sub_self]; rfl
        rw [List.getElem?_append_left hp] at h1
        exact List.mem_of_getElem? h1
      rcases mem_enc hx hm with ⟨_, h2, h3⟩ | h2
      · rw [h3] at h hp
        have hp0 : p = [] := List.length_eq_zero_iff.1 (by simp only [List.length_singleton] at hp; omega)
        subst hp0
        rw [List.nil_append] at h
        injection h with _ h
        exact ⟨[], L, by rw [h2]; rfl, rfl, h⟩
      · omega
    · obtain ⟨p', rfl⟩ : ∃ p', p = enc x ++ p' := by
        refine ⟨p.drop (enc x).length, ?_⟩
        have h1 := congrArg (List.take (enc x).length) h
        rw [List.take_append_of_le_length (Nat.le_refl _), List.take_length, List.take_append_of_le_length (by omega)] at h1
        conv => rhs; lhs; rw [h1]
        rw [List.take_append_drop]
      rw [List.append_assoc] at h
      obtain ⟨L1, L2, h1, h2, h3⟩ := wrs_split L (fun c hc => hL c (.tail _ hc)) p' r b hb (List.append_cancel_left h)
      exact ⟨x :: L1, L2, by rw [h1]; rfl, by rw [wrs_cons, h2], h3⟩
theorem valid_cut (p r : Text) (b : UInt8) (hb : b.toNat < 128) (h : validT (ba (p ++ b :: r)) = true) : validT (ba p) = true ∧ validT (ba r) = true ∧ validT (ba (b :: r)) = true := by
  obtain ⟨L, h1, h2, h3⟩ := wrs_of _ h
  obtain ⟨L1, L2, rfl, e1, e2⟩ := wrs_split L h1 p r b hb (ba_inj h3).symm
  rw [List.all_append, List.all_cons, Bool.and_eq_true, Bool.and_eq_true] at h2
  have s1 : ∀ c ∈ L1, scal c := fun c hc => h1 c (List.mem_append_left _ hc)
  have s2 : ∀ c ∈ L2, scal c := fun c hc => h1 c (List.mem_append_right _ (.tail _ hc))
  have s3 : ∀ c ∈ (b.toNat : Int) :: L2, scal c := fun c hc => h1 c (List.mem_append_right _ hc)
  have e3 : wrs ((b.toNat : Int) :: L2) = b :: r := by
    rw [wrs_cons, enc_ascii (by omega) (by omega), Int.toNat_natCast, UInt8.ofNat_toNat, e2]; rfl
  refine ⟨?_, ?_, ?_⟩
  · rw [← e1, validT_wrs L1 s1]; exact h2.1
  · rw [← e2, validT_wrs L2 s2]; exact h2.2.2
  · rw [← e3, validT_wrs _ s3, List.all_cons, Bool.and_eq_true]; exact h2.2
end Go.Proofs.YtjijbncheikagaaDoor.P
