/- EscapeRefuses, in plain words: what is near to an escape is none. -/
import Derived.Test.YtjijbncheikagaaDoorEsc2
namespace Go.Proofs.YtjijbncheikagaaDoor.P
open Go Go.RowKit Go.Lib Go.Proofs.YtjijbncheikagaaDoorX Go.Proofs.YtjijbncheikagaaDoorW.PrintWords Go.Proofs.YtjijbncheikagaaDoor.Q
def near : List ByteArray := [(⟨#[38]⟩ : ByteArray), (⟨#[38, 59]⟩ : ByteArray), (⟨#[38, 120, 59]⟩ : ByteArray), (⟨#[38, 97, 109, 112]⟩ : ByteArray), (⟨#[38, 35, 59]⟩ : ByteArray), (⟨#[38, 35, 120, 59]⟩ : ByteArray), (⟨#[38, 35, 49, 50, 51, 52, 53, 54, 55, 56, 59]⟩ : ByteArray), (⟨#[38, 35, 120, 49, 50, 51, 52, 53, 54, 55, 59]⟩ : ByteArray), (⟨#[38, 35, 120, 103, 59]⟩ : ByteArray), (⟨#[38, 65, 77, 80, 59]⟩ : ByteArray), (⟨#[60]⟩ : ByteArray), (⟨#[38, 35, 48, 59]⟩ : ByteArray), (⟨#[38, 35, 32, 57, 59]⟩ : ByteArray), (⟨#[97, 38]⟩ : ByteArray)]
theorem near_none : ∀ i : Fin 14, escape_Back.f (rdOf ByteArray.empty near (i.val : Int)) = some (⟨#[]⟩, 5) := by decide +kernel
theorem signs_back : escape_Back.f (⟨#[62, 34, 39, 38, 103, 116, 59, 38, 113, 117, 111, 116, 59, 38, 97, 112, 111, 115, 59, 59]⟩ : ByteArray) = some (⟨#[62, 34, 39, 62, 34, 39, 59]⟩, 0) := by decide +kernel
theorem escapeRefuses (n : Int) (hn : (Lit.int .i64 n).wf = true) : cardexlaw02_EscapeRefuses.f n = some true := by
  obtain ⟨i, hi, h14⟩ : ∃ i : Nat, wrap64 (Int.tmod (IntKind.u64.wrap n) 14) = (i : Int) ∧ i < 14 := by
    have h0 : 0 ≤ IntKind.u64.wrap n := by rw [IntKind.wrap_u64]; omega
    have h1 : Int.tmod (IntKind.u64.wrap n) 14 = IntKind.u64.wrap n % 14 := Int.tmod_eq_emod_of_nonneg h0
    rw [h1, wrap_small (by omega) (by omega)]
    exact ⟨(IntKind.u64.wrap n % 14).toNat, by omega, by omega⟩
  unfold cardexlaw02_EscapeRefuses.f
  rw [hi]
  simp only [Option.bind_some]
  have := near_none ⟨i, h14⟩
  unfold near at this
  rw [if_pos (by omega), if_pos (by simp only [List.length_cons, List.length_nil]; omega), this, signs_back, awake2]
  simp only [Option.bind_some, if_true]
  rw [if_pos (by rw [ByteArray.toList_eq])]
end Go.Proofs.YtjijbncheikagaaDoor.P
