-- Written by hookprint.py (wip/) of this session: the kit's print with hand-proved functions beside it. Not trusted: Lean checks it.
import Derived.Test.YtgacmniagmfckaaDoorQ0
import Derived.Test.YtgacmniagmfckaaDoorQ4
import Derived.Test.YtgacmniagmfckaaDoorQ5
import Derived.Test.YtgacmniagmfckaaDoorQ6
namespace Go.Proofs.YtgacmniagmfckaaDoor.Q
open List (setIfInBounds_toArray set_cons_zero set_cons_succ)
open Go.RowKit Go.Lib Go.Proofs.YtgacmniagmfckaaDoorX Go.Proofs.YtgacmniagmfckaaDoorW.PrintWords Go.Proofs.YtgacmniagmfckaaDoorW.PrintLast Go.Proofs.YtgacmniagmfckaaDoorW.PrintMore
set_option linter.unusedVariables false
set_option linter.unusedSimpArgs false
mutual
def cardexlaw10_CanonForms.j0 : Nat → List Int → ByteArray → Bool → Option (Bool)
 | 0, _, _, _ => none
 | k + 1, x0, x1, x19 => if x19 = true then ((cardexlaw10_awake.f k).bind fun t165 => (if t165 = true then (some true) else (some false))) else (cardexlaw10_CanonForms.l0 k x0 x1 (([(⟨(-1), 0, (⟨#[114]⟩ : ByteArray), (⟨#[]⟩ : ByteArray), ([] : List (S29)), (⟨#[]⟩ : ByteArray)⟩ : S32)] : List (S32))) (⟨#[60, 63, 120, 109, 108, 32, 118, 101, 114, 115, 105, 111, 110, 61, 39, 49, 46, 48, 39, 32, 101, 110, 99, 111, 100, 105, 110, 103, 61, 39, 85, 84, 70, 45, 56, 39, 63, 62, 10, 60, 114, 62]⟩ : ByteArray) 0)
def cardexlaw10_CanonForms.l0 : Nat → List Int → ByteArray → List (S32) → ByteArray → Int → Option (Bool)
 | 0, _, _, _, _, _ => none
 | k + 1, x0, x1, x5, x6, x7 => if x7 < (x0.length : Int) then (cardexlaw10_CanonForms.j2 k x0 x1 x5 x6 x7 (decide (x7 < 20))) else (cardexlaw10_CanonForms.j2 k x0 x1 x5 x6 x7 false)
def cardexlaw10_CanonForms.j2 : Nat → List Int → ByteArray → List (S32) → ByteArray → Int → Bool → Option (Bool)
 | 0, _, _, _, _, _, _ => none
 | k + 1, x0, x1, x5, x6, x7, x30 => if x30 = true then ((some (([(⟨#[]⟩ : ByteArray), (⟨#[117]⟩ : ByteArray), (⟨#[118]⟩ : ByteArray)] : List ByteArray) : List ByteArray)).bind fun y169 => (if 0 ≤ x7 then (if x7 < (x0.length : Int) then (if 0 ≤ (wrap64 (Int.tmod (IntKind.u64.wrap (rd x0 x7)) 3)) then (if (wrap64 (Int.tmod (IntKind.u64.wrap (rd x0 x7)) 3)) < (y169.length : Int) then (if x6.size + 2 ≤ 9223372036854775807 then (if (rdOf ByteArray.empty y169 (wrap64 (Int.tmod (IntKind.u64.wrap (rd x0 x7)) 3))).toList = ([] : List UInt8) then (cardexlaw10_CanonForms.j3 k x0 x1 x5 (x6 ++ (⟨#[60, 107]⟩ : ByteArray)) x7 0 0 (⟨#[107]⟩ : ByteArray) (rdOf ByteArray.empty y169 (wrap64 (Int.tmod (IntKind.u64.wrap (rd x0 x7)) 3))) (⟨#[]⟩ : ByteArray)) else (if (x6 ++ (⟨#[60, 107]⟩ : ByteArray)).size + 8 ≤ 9223372036854775807 then (if ((x6 ++ (⟨#[60, 107]⟩ : ByteArray)) ++ (⟨#[32, 120, 109, 108, 110, 115, 61, 39]⟩ : ByteArray)).size + (rdOf ByteArray.empty y169 (wrap64 (Int.tmod (IntKind.u64.wrap (rd x0 x7)) 3))).size ≤ 9223372036854775807 then (if (((x6 ++ (⟨#[60, 107]⟩ : ByteArray)) ++ (⟨#[32, 120, 109, 108, 110, 115, 61, 39]⟩ : ByteArray)) ++ (rdOf ByteArray.empty y169 (wrap64 (Int.tmod (IntKind.u64.wrap (rd x0 x7)) 3)))).size + 1 ≤ 9223372036854775807 then (cardexlaw10_CanonForms.j3 k x0 x1 x5 ((((x6 ++ (⟨#[60, 107]⟩ : ByteArray)) ++ (⟨#[32, 120, 109, 108, 110, 115, 61, 39]⟩ : ByteArray)) ++ (rdOf ByteArray.empty y169 (wrap64 (Int.tmod (IntKind.u64.wrap (rd x0 x7)) 3)))) ++ (⟨#[39]⟩ : ByteArray)) x7 0 0 (⟨#[107]⟩ : ByteArray) (rdOf ByteArray.empty y169 (wrap64 (Int.tmod (IntKind.u64.wrap (rd x0 x7)) 3))) (⟨#[]⟩ : ByteArray)) else (none)) else (none)) else (none))) else (none)) else (none)) else (none)) else (none)) else (none))) else (if x6.size + 4 ≤ 9223372036854775807 then (if (x5.length : Int) = 1 then (cardexlaw10_CanonForms.j6 k x5 (⟨#[60, 63, 120, 109, 108, 32, 118, 101, 114, 115, 105, 111, 110, 61, 39, 49, 46, 48, 39, 32, 101, 110, 99, 111, 100, 105, 110, 103, 61, 39, 85, 84, 70, 45, 56, 39, 63, 62, 10, 60, 114, 47, 62]⟩ : ByteArray)) else (cardexlaw10_CanonForms.j6 k x5 (x6 ++ (⟨#[60, 47, 114, 62]⟩ : ByteArray)))) else (none))
def cardexlaw10_CanonForms.j5 : Nat → List Int → ByteArray → List (S32) → ByteArray → Int → Option (Bool)
 | 0, _, _, _, _, _ => none
 | k + 1, x0, x1, x5, x6, x7 => cardexlaw10_CanonForms.l0 k x0 x1 x5 x6 (wrap64 (x7 + 1))
def cardexlaw10_CanonForms.j3 : Nat → List Int → ByteArray → List (S32) → ByteArray → Int → Int → Int → ByteArray → ByteArray → ByteArray → Option (Bool)
 | 0, _, _, _, _, _, _, _, _, _, _ => none
 | k + 1, x0, x1, x5, x6, x7, x175000, x175001, x175002, x175003, x175005 => if (Int.tmod x7 2) = 0 then (if x1.toList = ([] : List UInt8) then (if x6.size + 2 ≤ 9223372036854775807 then (cardexlaw10_CanonForms.j4 k x0 x1 x5 (x6 ++ (⟨#[47, 62]⟩ : ByteArray)) x7 x175000 x175001 x175002 x175003 x175005) else (none)) else (if x6.size + 1 ≤ 9223372036854775807 then ((cardexref01_Escape.f k x1).bind fun t175 => (if (x6 ++ (⟨#[62]⟩ : ByteArray)).size + t175.size ≤ 9223372036854775807 then (if ((x6 ++ (⟨#[62]⟩ : ByteArray)) ++ t175).size + 4 ≤ 9223372036854775807 then (cardexlaw10_CanonForms.j4 k x0 x1 x5 (((x6 ++ (⟨#[62]⟩ : ByteArray)) ++ t175) ++ (⟨#[60, 47, 107, 62]⟩ : ByteArray)) x7 x175000 x175001 x175002 x175003 x1) else (none)) else (none))) else (none))) else (if x6.size + 2 ≤ 9223372036854775807 then (if x5.length < 1599289640401 then (cardexlaw10_CanonForms.j5 k x0 x1 (x5 ++ [(⟨x175000, x175001, x175002, x175003, ([] : List (S29)), x175005⟩ : S32)]) (x6 ++ (⟨#[47, 62]⟩ : ByteArray)) x7) else (none)) else (none))
def cardexlaw10_CanonForms.j4 : Nat → List Int → ByteArray → List (S32) → ByteArray → Int → Int → Int → ByteArray → ByteArray → ByteArray → Option (Bool)
 | 0, _, _, _, _, _, _, _, _, _, _ => none
 | k + 1, x0, x1, x5, x6, x7, x175000, x175001, x175002, x175003, x175005 => if x5.length < 1599289640401 then (cardexlaw10_CanonForms.j5 k x0 x1 (x5 ++ [(⟨x175000, x175001, x175002, x175003, ([] : List (S29)), x175005⟩ : S32)]) x6 x7) else (none)
def cardexlaw10_CanonForms.j6 : Nat → List (S32) → ByteArray → Option (Bool)
 | 0, _, _ => none
 | k + 1, x5, x6 => (canon_Write.f k x5).bind fun bt182 => ((cardexlaw10_awake.f k).bind fun t184 => (if t184 = true then (if bt182.2 = 0 then (cardexlaw10_CanonForms.j7 k (bt182.1.toList == x6.toList)) else (cardexlaw10_CanonForms.j7 k false)) else (cardexlaw10_CanonForms.j7 k false)))
def cardexlaw10_CanonForms.j7 : Nat → Bool → Option (Bool)
 | 0, _ => none
 | k + 1, x4 => if x4 = true then (some true) else (some false)
end
def cardexlaw10_CanonForms.f (k : Nat) (l0 : List Int) (a1 : ByteArray) : Option (Bool) := if (a1.size : Int) > 100 then (cardexlaw10_CanonForms.j0 k l0 a1 true) else ((cardexref01_Valid.f k a1).bind fun t164 => (cardexlaw10_CanonForms.j0 k l0 a1 (!t164)))
theorem cardexlaw10_CanonForms.mono_l : ∀ k, (∀ y0 y1 y2, LeO (cardexlaw10_CanonForms.j0 k y0 y1 y2) (cardexlaw10_CanonForms.j0 (k + 1) y0 y1 y2)) ∧ (∀ y0 y1 y2 y3 y4, LeO (cardexlaw10_CanonForms.l0 k y0 y1 y2 y3 y4) (cardexlaw10_CanonForms.l0 (k + 1) y0 y1 y2 y3 y4)) ∧ (∀ y0 y1 y2 y3 y4 y5, LeO (cardexlaw10_CanonForms.j2 k y0 y1 y2 y3 y4 y5) (cardexlaw10_CanonForms.j2 (k + 1) y0 y1 y2 y3 y4 y5)) ∧ (∀ y0 y1 y2 y3 y4, LeO (cardexlaw10_CanonForms.j5 k y0 y1 y2 y3 y4) (cardexlaw10_CanonForms.j5 (k + 1) y0 y1 y2 y3 y4)) ∧ (∀ y0 y1 y2 y3 y4 y5 y6 y7 y8 y9, LeO (cardexlaw10_CanonForms.j3 k y0 y1 y2 y3 y4 y5 y6 y7 y8 y9) (cardexlaw10_CanonForms.j3 (k + 1) y0 y1 y2 y3 y4 y5 y6 y7 y8 y9)) ∧ (∀ y0 y1 y2 y3 y4 y5 y6 y7 y8 y9, LeO (cardexlaw10_CanonForms.j4 k y0 y1 y2 y3 y4 y5 y6 y7 y8 y9) (cardexlaw10_CanonForms.j4 (k + 1) y0 y1 y2 y3 y4 y5 y6 y7 y8 y9)) ∧ (∀ y0 y1, LeO (cardexlaw10_CanonForms.j6 k y0 y1) (cardexlaw10_CanonForms.j6 (k + 1) y0 y1)) ∧ (∀ y0, LeO (cardexlaw10_CanonForms.j7 k y0) (cardexlaw10_CanonForms.j7 (k + 1) y0))
 | 0 => ⟨fun _ _ _ r h => by simp [cardexlaw10_CanonForms.j0] at h, fun _ _ _ _ _ r h => by simp [cardexlaw10_CanonForms.l0] at h, fun _ _ _ _ _ _ r h => by simp [cardexlaw10_CanonForms.j2] at h, fun _ _ _ _ _ r h => by simp [cardexlaw10_CanonForms.j5] at h, fun _ _ _ _ _ _ _ _ _ _ r h => by simp [cardexlaw10_CanonForms.j3] at h, fun _ _ _ _ _ _ _ _ _ _ r h => by simp [cardexlaw10_CanonForms.j4] at h, fun _ _ r h => by simp [cardexlaw10_CanonForms.j6] at h, fun _ r h => by simp [cardexlaw10_CanonForms.j7] at h⟩
 | k + 1 => by
  obtain ⟨ih0, ih1, ih2, ih3, ih4, ih5, ih6, ih7⟩ := cardexlaw10_CanonForms.mono_l k
  refine ⟨?_, ?_, ?_, ?_, ?_, ?_, ?_, ?_⟩
  ·intro y0 y1 y2
   unfold cardexlaw10_CanonForms.j0
   repeat' first
   | (with_reducible exact ih0 _ _ _)
   | (with_reducible exact ih1 _ _ _ _ _)
   | (with_reducible exact ih2 _ _ _ _ _ _)
   | (with_reducible exact ih3 _ _ _ _ _)
   | (with_reducible exact ih4 _ _ _ _ _ _ _ _ _ _)
   | (with_reducible exact ih5 _ _ _ _ _ _ _ _ _ _)
   | (with_reducible exact ih6 _ _)
   | (with_reducible exact ih7 _)
   | (with_reducible exact canon_Write.mono _ _)
   | (with_reducible exact cardexlaw10_awake.mono _)
   | (with_reducible exact cardexref01_Escape.mono _ _)
   | (with_reducible exact cardexref01_Valid.mono _ _)
   | (with_reducible exact LeO.refl _)
   | (with_reducible exact LeO.none _)
   | (with_reducible refine LeO.ite ?_ ?_)
   | (with_reducible refine LeO.bind ?_ (fun _ => ?_))
   | exact ih0 _ _ _
   | exact ih1 _ _ _ _ _
   | exact ih2 _ _ _ _ _ _
   | exact ih3 _ _ _ _ _
   | exact ih4 _ _ _ _ _ _ _ _ _ _
   | exact ih5 _ _ _ _ _ _ _ _ _ _
   | exact ih6 _ _
   | exact ih7 _
   | exact canon_Write.mono _ _
   | exact cardexlaw10_awake.mono _
   | exact cardexref01_Escape.mono _ _
   | exact cardexref01_Valid.mono _ _
   | exact LeO.none _
   | refine LeO.ite ?_ ?_
   | refine LeO.bind ?_ (fun _ => ?_)
  ·intro y0 y1 y2 y3 y4
   unfold cardexlaw10_CanonForms.l0
   repeat' first
   | (with_reducible exact ih0 _ _ _)
   | (with_reducible exact ih1 _ _ _ _ _)
   | (with_reducible exact ih2 _ _ _ _ _ _)
   | (with_reducible exact ih3 _ _ _ _ _)
   | (with_reducible exact ih4 _ _ _ _ _ _ _ _ _ _)
   | (with_reducible exact ih5 _ _ _ _ _ _ _ _ _ _)
   | (with_reducible exact ih6 _ _)
   | (with_reducible exact ih7 _)
   | (with_reducible exact canon_Write.mono _ _)
   | (with_reducible exact cardexlaw10_awake.mono _)
   | (with_reducible exact cardexref01_Escape.mono _ _)
   | (with_reducible exact cardexref01_Valid.mono _ _)
   | (with_reducible exact LeO.refl _)
   | (with_reducible exact LeO.none _)
   | (with_reducible refine LeO.ite ?_ ?_)
   | (with_reducible refine LeO.bind ?_ (fun _ => ?_))
   | exact ih0 _ _ _
   | exact ih1 _ _ _ _ _
   | exact ih2 _ _ _ _ _ _
   | exact ih3 _ _ _ _ _
   | exact ih4 _ _ _ _ _ _ _ _ _ _
   | exact ih5 _ _ _ _ _ _ _ _ _ _
   | exact ih6 _ _
   | exact ih7 _
   | exact canon_Write.mono _ _
   | exact cardexlaw10_awake.mono _
   | exact cardexref01_Escape.mono _ _
   | exact cardexref01_Valid.mono _ _
   | exact LeO.none _
   | refine LeO.ite ?_ ?_
   | refine LeO.bind ?_ (fun _ => ?_)
  ·intro y0 y1 y2 y3 y4 y5
   unfold cardexlaw10_CanonForms.j2
   repeat' first
   | (with_reducible exact ih0 _ _ _)
   | (with_reducible exact ih1 _ _ _ _ _)
   | (with_reducible exact ih2 _ _ _ _ _ _)
   | (with_reducible exact ih3 _ _ _ _ _)
   | (with_reducible exact ih4 _ _ _ _ _ _ _ _ _ _)
   | (with_reducible exact ih5 _ _ _ _ _ _ _ _ _ _)
   | (with_reducible exact ih6 _ _)
   | (with_reducible exact ih7 _)
   | (with_reducible exact canon_Write.mono _ _)
   | (with_reducible exact cardexlaw10_awake.mono _)
   | (with_reducible exact cardexref01_Escape.mono _ _)
   | (with_reducible exact cardexref01_Valid.mono _ _)
   | (with_reducible exact LeO.refl _)
   | (with_reducible exact LeO.none _)
   | (with_reducible refine LeO.ite ?_ ?_)
   | (with_reducible refine LeO.bind ?_ (fun _ => ?_))
   | exact ih0 _ _ _
   | exact ih1 _ _ _ _ _
   | exact ih2 _ _ _ _ _ _
   | exact ih3 _ _ _ _ _
   | exact ih4 _ _ _ _ _ _ _ _ _ _
   | exact ih5 _ _ _ _ _ _ _ _ _ _
   | exact ih6 _ _
   | exact ih7 _
   | exact canon_Write.mono _ _
   | exact cardexlaw10_awake.mono _
   | exact cardexref01_Escape.mono _ _
   | exact cardexref01_Valid.mono _ _
   | exact LeO.none _
   | refine LeO.ite ?_ ?_
   | refine LeO.bind ?_ (fun _ => ?_)
  ·intro y0 y1 y2 y3 y4
   unfold cardexlaw10_CanonForms.j5
   repeat' first
   | (with_reducible exact ih0 _ _ _)
   | (with_reducible exact ih1 _ _ _ _ _)
   | (with_reducible exact ih2 _ _ _ _ _ _)
   | (with_reducible exact ih3 _ _ _ _ _)
   | (with_reducible exact ih4 _ _ _ _ _ _ _ _ _ _)
   | (with_reducible exact ih5 _ _ _ _ _ _ _ _ _ _)
   | (with_reducible exact ih6 _ _)
   | (with_reducible exact ih7 _)
   | (with_reducible exact canon_Write.mono _ _)
   | (with_reducible exact cardexlaw10_awake.mono _)
   | (with_reducible exact cardexref01_Escape.mono _ _)
   | (with_reducible exact cardexref01_Valid.mono _ _)
   | (with_reducible exact LeO.refl _)
   | (with_reducible exact LeO.none _)
   | (with_reducible refine LeO.ite ?_ ?_)
   | (with_reducible refine LeO.bind ?_ (fun _ => ?_))
   | exact ih0 _ _ _
   | exact ih1 _ _ _ _ _
   | exact ih2 _ _ _ _ _ _
   | exact ih3 _ _ _ _ _
   | exact ih4 _ _ _ _ _ _ _ _ _ _
   | exact ih5 _ _ _ _ _ _ _ _ _ _
   | exact ih6 _ _
   | exact ih7 _
   | exact canon_Write.mono _ _
   | exact cardexlaw10_awake.mono _
   | exact cardexref01_Escape.mono _ _
   | exact cardexref01_Valid.mono _ _
   | exact LeO.none _
   | refine LeO.ite ?_ ?_
   | refine LeO.bind ?_ (fun _ => ?_)
  ·intro y0 y1 y2 y3 y4 y5 y6 y7 y8 y9
   unfold cardexlaw10_CanonForms.j3
   repeat' first
   | (with_reducible exact ih0 _ _ _)
   | (with_reducible exact ih1 _ _ _ _ _)
   | (with_reducible exact ih2 _ _ _ _ _ _)
   | (with_reducible exact ih3 _ _ _ _ _)
   | (with_reducible exact ih4 _ _ _ _ _ _ _ _ _ _)
   | (with_reducible exact ih5 _ _ _ _ _ _ _ _ _ _)
   | (with_reducible exact ih6 _ _)
   | (with_reducible exact ih7 _)
   | (with_reducible exact canon_Write.mono _ _)
   | (with_reducible exact cardexlaw10_awake.mono _)
   | (with_reducible exact cardexref01_Escape.mono _ _)
   | (with_reducible exact cardexref01_Valid.mono _ _)
   | (with_reducible exact LeO.refl _)
   | (with_reducible exact LeO.none _)
   | (with_reducible refine LeO.ite ?_ ?_)
   | (with_reducible refine LeO.bind ?_ (fun _ => ?_))
   | exact ih0 _ _ _
   | exact ih1 _ _ _ _ _
   | exact ih2 _ _ _ _ _ _
   | exact ih3 _ _ _ _ _
   | exact ih4 _ _ _ _ _ _ _ _ _ _
   | exact ih5 _ _ _ _ _ _ _ _ _ _
   | exact ih6 _ _
   | exact ih7 _
   | exact canon_Write.mono _ _
   | exact cardexlaw10_awake.mono _
   | exact cardexref01_Escape.mono _ _
   | exact cardexref01_Valid.mono _ _
   | exact LeO.none _
   | refine LeO.ite ?_ ?_
   | refine LeO.bind ?_ (fun _ => ?_)
  ·intro y0 y1 y2 y3 y4 y5 y6 y7 y8 y9
   unfold cardexlaw10_CanonForms.j4
   repeat' first
   | (with_reducible exact ih0 _ _ _)
   | (with_reducible exact ih1 _ _ _ _ _)
   | (with_reducible exact ih2 _ _ _ _ _ _)
   | (with_reducible exact ih3 _ _ _ _ _)
   | (with_reducible exact ih4 _ _ _ _ _ _ _ _ _ _)
   | (with_reducible exact ih5 _ _ _ _ _ _ _ _ _ _)
   | (with_reducible exact ih6 _ _)
   | (with_reducible exact ih7 _)
   | (with_reducible exact canon_Write.mono _ _)
   | (with_reducible exact cardexlaw10_awake.mono _)
   | (with_reducible exact cardexref01_Escape.mono _ _)
   | (with_reducible exact cardexref01_Valid.mono _ _)
   | (with_reducible exact LeO.refl _)
   | (with_reducible exact LeO.none _)
   | (with_reducible refine LeO.ite ?_ ?_)
   | (with_reducible refine LeO.bind ?_ (fun _ => ?_))
   | exact ih0 _ _ _
   | exact ih1 _ _ _ _ _
   | exact ih2 _ _ _ _ _ _
   | exact ih3 _ _ _ _ _
   | exact ih4 _ _ _ _ _ _ _ _ _ _
   | exact ih5 _ _ _ _ _ _ _ _ _ _
   | exact ih6 _ _
   | exact ih7 _
   | exact canon_Write.mono _ _
   | exact cardexlaw10_awake.mono _
   | exact cardexref01_Escape.mono _ _
   | exact cardexref01_Valid.mono _ _
   | exact LeO.none _
   | refine LeO.ite ?_ ?_
   | refine LeO.bind ?_ (fun _ => ?_)
  ·intro y0 y1
   unfold cardexlaw10_CanonForms.j6
   repeat' first
   | (with_reducible exact ih0 _ _ _)
   | (with_reducible exact ih1 _ _ _ _ _)
   | (with_reducible exact ih2 _ _ _ _ _ _)
   | (with_reducible exact ih3 _ _ _ _ _)
   | (with_reducible exact ih4 _ _ _ _ _ _ _ _ _ _)
   | (with_reducible exact ih5 _ _ _ _ _ _ _ _ _ _)
   | (with_reducible exact ih6 _ _)
   | (with_reducible exact ih7 _)
   | (with_reducible exact canon_Write.mono _ _)
   | (with_reducible exact cardexlaw10_awake.mono _)
   | (with_reducible exact cardexref01_Escape.mono _ _)
   | (with_reducible exact cardexref01_Valid.mono _ _)
   | (with_reducible exact LeO.refl _)
   | (with_reducible exact LeO.none _)
   | (with_reducible refine LeO.ite ?_ ?_)
   | (with_reducible refine LeO.bind ?_ (fun _ => ?_))
   | exact ih0 _ _ _
   | exact ih1 _ _ _ _ _
   | exact ih2 _ _ _ _ _ _
   | exact ih3 _ _ _ _ _
   | exact ih4 _ _ _ _ _ _ _ _ _ _
   | exact ih5 _ _ _ _ _ _ _ _ _ _
   | exact ih6 _ _
   | exact ih7 _
   | exact canon_Write.mono _ _
   | exact cardexlaw10_awake.mono _
   | exact cardexref01_Escape.mono _ _
   | exact cardexref01_Valid.mono _ _
   | exact LeO.none _
   | refine LeO.ite ?_ ?_
   | refine LeO.bind ?_ (fun _ => ?_)
  intro y0
  unfold cardexlaw10_CanonForms.j7
  repeat' first
  | (with_reducible exact ih0 _ _ _)
  | (with_reducible exact ih1 _ _ _ _ _)
  | (with_reducible exact ih2 _ _ _ _ _ _)
  | (with_reducible exact ih3 _ _ _ _ _)
  | (with_reducible exact ih4 _ _ _ _ _ _ _ _ _ _)
  | (with_reducible exact ih5 _ _ _ _ _ _ _ _ _ _)
  | (with_reducible exact ih6 _ _)
  | (with_reducible exact ih7 _)
  | (with_reducible exact canon_Write.mono _ _)
  | (with_reducible exact cardexlaw10_awake.mono _)
  | (with_reducible exact cardexref01_Escape.mono _ _)
  | (with_reducible exact cardexref01_Valid.mono _ _)
  | (with_reducible exact LeO.refl _)
  | (with_reducible exact LeO.none _)
  | (with_reducible refine LeO.ite ?_ ?_)
  | (with_reducible refine LeO.bind ?_ (fun _ => ?_))
  | exact ih0 _ _ _
  | exact ih1 _ _ _ _ _
  | exact ih2 _ _ _ _ _ _
  | exact ih3 _ _ _ _ _
  | exact ih4 _ _ _ _ _ _ _ _ _ _
  | exact ih5 _ _ _ _ _ _ _ _ _ _
  | exact ih6 _ _
  | exact ih7 _
  | exact canon_Write.mono _ _
  | exact cardexlaw10_awake.mono _
  | exact cardexref01_Escape.mono _ _
  | exact cardexref01_Valid.mono _ _
  | exact LeO.none _
  | refine LeO.ite ?_ ?_
  | refine LeO.bind ?_ (fun _ => ?_)
set_option maxHeartbeats 8000000 in
set_option maxRecDepth 100000 in
theorem cardexlaw10_CanonForms.calls (k : Nat) (A0 : Option Addr) (c0 : Nat) (l0 : List Int) (a1 : ByteArray) (r : Bool) (w : World) (hr0 : Kd.C (Kd.int .i64) w A0 l0.length l0) (hc0 : l0.length ≤ c0) (h : cardexlaw10_CanonForms.f k l0 a1 = some r) (hT : Tabs w) (hlaw : r = true) :
  Calls Tryd.prog 5 #[.slice A0 l0.length c0, .string a1] w fun e w' => e = .returned (.bool r) ∧ Below w.heap.size w w' := by
 have hu32 := Tryd.underlying32
 have HT := Aside0.mk hT
 clear hT
 have HLAW := Aside0.mk hlaw
 clear hlaw
 have HR0 := Aside0.mk hr0
 have HC0 := Aside0.mk hc0
 clear hr0 hc0
 have HB := Aside0.mk (Below.refl w.heap.size w)
 have H : (if (a1.size : Int) > 100 then (cardexlaw10_CanonForms.j0 k l0 a1 true) else ((cardexref01_Valid.f k a1).bind fun t164 => (cardexlaw10_CanonForms.j0 k l0 a1 (!t164)))) = some r := h
 clear h
 have HC3 := Aside0.mk H
 clear H
 go_enter Tryd.func5, Tryd.ntmps5
 go_upto_region 1 with (fail)
 go_cut [19] (fun v19 wc => ∃ (kq : Nat) (x19_2 : Bool), v19 = .bool x19_2 ∧ Aside0 (cardexlaw10_CanonForms.j0 kq l0 a1 x19_2 = some r) ∧ Aside0 (kq ≤ k) ∧ Aside0 (Below w.heap.size w wc))
 case first =>
  have H := HC3.out
  clear HC3
  by_cases c4 : (a1.size : Int) > 100
  ·rw [if_pos c4] at H
   have c4b0 : decide (100 < (a1.size : Int)) = true := decide_eq_true c4
   have c4b1 : decide (100 < a1.size) = true := decide_eq_true (by omega)
   clear c4
   (first | rw [c4b0] | (simp only [i64_w, i32_w]; rw [c4b0]) | (have h_ := c4b0; rw [List.beq_nil_eq] at h_; rw [h_]) | skip)
   have H' := Aside0.mk H
   clear H
   go_wp2
   go_meet
   case rel => exact ⟨_, (true), (by first | rfl | (simp; done) | exact congrArg Value.bool (nemp _) | exact congrArg Value.bool (emp _) | (simp [*]; done)), H', ⟨by first | omega | exact Nat.le_refl _⟩, ⟨by repeat (first | (with_reducible first | exact HB.out | apply below_alloc | apply pw_below_drewN | apply below_drew1) | exact HB.out)⟩⟩
  rw [if_neg c4] at H
  have c4b0 : decide (100 < (a1.size : Int)) = false := decide_eq_false c4
  have c4b1 : decide (100 < a1.size) = false := decide_eq_false (by omega)
  clear c4
  (first | rw [c4b0] | (simp only [i64_w, i32_w]; rw [c4b0]) | (have h_ := c4b0; rw [List.beq_nil_eq] at h_; rw [h_]) | skip)
  replace H := Option.bind_eq_some_iff.mp H
  obtain ⟨t164, A50, H⟩ := H
  replace H : (cardexlaw10_CanonForms.j0 k l0 a1 (!t164)) = some r := H
  have A5 := Aside0.mk A50
  clear A50
  have H' := Aside0.mk H
  clear H
  go_wp2_with (first | (go_at_call 11; (with_reducible refine (cardexref01_Valid.calls k a1 t164 _ A5.out).mono ?_); rintro e w' ⟨rfl, ⟨nd, rfl⟩⟩))
  go_meet
  case rel => exact ⟨_, (!t164), (by first | rfl | (simp; done) | exact congrArg Value.bool (nemp _) | exact congrArg Value.bool (emp _) | (simp [*]; done)), H', ⟨by first | omega | exact Nat.le_refl _⟩, ⟨by repeat (first | (with_reducible first | exact HB.out | apply below_alloc | apply pw_below_drewN | apply below_drew1) | exact HB.out)⟩⟩
 case rest =>
  clear HC3
  try clear p2
  try clear c4
  try clear c4b0
  try clear c4b1
  try clear c5
  obtain ⟨kq, x19_2, rfl, HA, HJ2, HB⟩ := hcut
  cases kq with
  | zero => exact absurd HA.out (by simp [cardexlaw10_CanonForms.j0])
  | succ kj2 =>
   have H := HA.out
   clear HA
   simp only [cardexlaw10_CanonForms.j0] at H
   by_cases c6 : x19_2 = true
   ·subst c6
    have H1 : ((cardexlaw10_awake.f kj2).bind fun t165 => (if t165 = true then (some true) else (some false))) = some r := by rw [if_pos rfl] at H; exact H
    clear H
    have H := H1
    clear H1
    replace H := Option.bind_eq_some_iff.mp H
    obtain ⟨t165, A70, H⟩ := H
    replace H : (if t165 = true then (some true) else (some false)) = some r := H
    have A7 := Aside0.mk A70
    clear A70
    by_cases c8 : t165 = true
    ·subst c8
     have H1 : (some true) = some r := by rw [if_pos rfl] at H; exact H
     clear H
     have H := H1
     clear H1
     obtain rfl := Option.some.inj H
     go_wp2_with (first | ((with_reducible refine gate_callee (f := 6) rfl ?_); refine goesL_ (some 20) rfl rfl Tryd.func6 (by kernel_rfl) rfl #[] rfl (by (try simp only [List.map_toArray, List.map_cons, List.map_nil]); first | done | rfl | (simp only [List.length_drop, List.length_take]; rfl)) ?_; (with_reducible refine (cardexlaw10_awake.calls kj2  true _ A7.out (tabs_b HT.out (by repeat (first | (with_reducible first | exact HB.out | apply below_alloc | apply pw_below_drewN | apply below_drew1) | exact HB.out)))).mono ?_); rintro e w9 ⟨rfl, hb⟩; refine ⟨_, rfl, ?_⟩; have n0_ := Aside0.mk (below_step (by repeat (first | (with_reducible first | exact HB.out | apply below_alloc | apply pw_below_drewN | apply below_drew1) | exact HB.out)) hb); clear HB; have HB := n0_; clear n0_; (try clear hb); (try clear hb2); (try clear hk); (try clear hi)))
     go_ret
     exact ⟨by first | rfl | (simp only [nemp]; rfl) | (simp [errW_none, errW_some] <;> rfl) | (simp [*, errW_none, errW_some] <;> rfl), by repeat (first | (with_reducible first | exact HB.out | apply below_alloc | apply pw_below_drewN | apply below_drew1) | exact HB.out)⟩
    replace c8 := Bool.eq_false_iff.mpr c8
    subst c8
    have H1 : (some false) = some r := by rw [if_neg (show ¬ (false = true) by decide)] at H; exact H
    clear H
    have H := H1
    clear H1
    exact absurd ((Option.some.inj H).trans HLAW.out) (by decide)
   replace c6 := Bool.eq_false_iff.mpr c6
   subst c6
   have H1 : (cardexlaw10_CanonForms.l0 kj2 l0 a1 (([(⟨(-1), 0, (⟨#[114]⟩ : ByteArray), (⟨#[]⟩ : ByteArray), ([] : List (S29)), (⟨#[]⟩ : ByteArray)⟩ : S32)] : List (S32))) (⟨#[60, 63, 120, 109, 108, 32, 118, 101, 114, 115, 105, 111, 110, 61, 39, 49, 46, 48, 39, 32, 101, 110, 99, 111, 100, 105, 110, 103, 61, 39, 85, 84, 70, 45, 56, 39, 63, 62, 10, 60, 114, 62]⟩ : ByteArray) 0) = some r := by rw [if_neg (show ¬ (false = true) by decide)] at H; exact H
   clear H
   have H := H1
   clear H1
   obtain ⟨y166, hy166⟩ : ∃ y_ : List (S32), y_ = (([(⟨(-1), 0, (⟨#[114]⟩ : ByteArray), (⟨#[]⟩ : ByteArray), ([] : List (S29)), (⟨#[]⟩ : ByteArray)⟩ : S32)] : List (S32))) := ⟨_, rfl⟩
   replace H : (cardexlaw10_CanonForms.l0 kj2 l0 a1 y166 (⟨#[60, 63, 120, 109, 108, 32, 118, 101, 114, 115, 105, 111, 110, 61, 39, 49, 46, 48, 39, 32, 101, 110, 99, 111, 100, 105, 110, 103, 61, 39, 85, 84, 70, 45, 56, 39, 63, 62, 10, 60, 114, 62]⟩ : ByteArray) 0) = some r := by first | (rw [hy166]; with_reducible exact H) | (have H2_ := (Option.bind_some _ _).symm.trans H; rw [hy166]; with_reducible exact H2_) | (have H2_ := (Option.bind_some _ _).symm.trans H; with_reducible exact H2_) | with_reducible exact H | (rw [hy166]; exact H) | exact H
   have Ny166 := Aside0.mk hy166
   clear hy166
   have H' := Aside0.mk H
   clear H
   go_wp2_with (first | ((with_reducible refine gate_dst (N := 22) rfl ?_); refine Kd.S_lit k32 _ 32 ?hg (N := 22) ?hd (xs := ([(⟨(-1), 0, (⟨#[114]⟩ : ByteArray), (⟨#[]⟩ : ByteArray), ([] : List (S29)), (⟨#[]⟩ : ByteArray)⟩ : S32)] : List (S32))) (inner := [.int .i64 (-1), .int .i64 0, .string (⟨#[114]⟩ : ByteArray), .string (⟨#[]⟩ : ByteArray), .slice none 0 0, .string (⟨#[]⟩ : ByteArray)]) (ok := fun _ => True) (okp := fun _ => True) ?hr ?hp (fun _ hk => hk) trivial (Below.refl _ _) (Nat.le_refl _) (by simp) ?_; (case hd => rfl); (case hg => rfl); (case hr => first | (go_simp; done) | (go_simp; rfl)); (case hp => exact (Reps.c6 (show Kd.M k32 _ _ _ (⟨(-1), 0, (⟨#[114]⟩ : ByteArray), (⟨#[]⟩ : ByteArray), ([] : List (S29)), (⟨#[]⟩ : ByteArray)⟩ : S32) [.int .i64 (-1), .int .i64 0, .string (⟨#[114]⟩ : ByteArray), .string (⟨#[]⟩ : ByteArray), .slice none 0 0, .string (⟨#[]⟩ : ByteArray)] from (k32_mkM _ _ _ (⟨(-1), 0, (⟨#[114]⟩ : ByteArray), (⟨#[]⟩ : ByteArray), ([] : List (S29)), (⟨#[]⟩ : ByteArray)⟩ : S32) (Kd.R_nil _ _ _ _ _))) (Reps.none _ _))); intro v167 w10 ho11 hb hg_ hnew_; clear hg_ hnew_; (first | rw [← Ny166.out] at ho11 | (simp only [Int.reduceToNat] at ho11; rw [← Ny166.out] at ho11)); have n0_ := Aside0.mk (Kd.S_lower ho11 (below_size (by repeat (first | (with_reducible first | exact HB.out | apply below_alloc | apply pw_below_drewN | apply below_drew1) | exact HB.out)))); have n1_ := Aside0.mk (below_step (by repeat (first | (with_reducible first | exact HB.out | apply below_alloc | apply pw_below_drewN | apply below_drew1) | exact HB.out)) hb); clear HB; have HO168 := n0_; have HB := n1_; clear n0_ n1_; clear hb ho11))
   go_loopg [5, 6, 7] kj2 (fun kq v5 v6 v7 w' => ∃ (x5_2 : List (S32)) (x6_2 : ByteArray) (x7_2 : Int), v6 = .string x6_2 ∧ v7 = .int .i64 x7_2 ∧ Aside0 (cardexlaw10_CanonForms.l0 kq l0 a1 x5_2 x6_2 x7_2 = some r) ∧ Aside0 (kq ≤ kj2) ∧ Aside0 (Kd.S k32 32 w' w.heap.size (fun _ => True) v5 x5_2) ∧ Aside0 (Below w.heap.size w w'))
   case atStart => exact ⟨(y166), ((⟨#[60, 63, 120, 109, 108, 32, 118, 101, 114, 115, 105, 111, 110, 61, 39, 49, 46, 48, 39, 32, 101, 110, 99, 111, 100, 105, 110, 103, 61, 39, 85, 84, 70, 45, 56, 39, 63, 62, 10, 60, 114, 62]⟩ : ByteArray)), (0), (by first | rfl | (simp; done) | exact congrArg Value.bool (nemp _) | exact congrArg Value.bool (emp _) | (simp [*]; done)), (by first | rfl | (simp; done) | exact congrArg Value.bool (nemp _) | exact congrArg Value.bool (emp _) | (simp [*]; done)), H', ⟨Nat.le_refl _⟩, ⟨by (with_reducible repeat (first | apply Kd.S_alloc | apply Kd.S_drewN | apply Kd.S_drew)); exact HO168.out⟩, ⟨by repeat (first | (with_reducible first | exact HB.out | apply below_alloc | apply pw_below_drewN | apply below_drew1) | exact HB.out)⟩⟩
   case round =>
    clear H'
    try clear p2
    try clear c4
    try clear c4b0
    try clear c4b1
    try clear c5
    try clear c6
    try clear c8
    try clear p2
    obtain ⟨x5_2, x6_2, x7_2, rfl, rfl, HA, HK2, HO_5, HB⟩ := hrel
    cases gk with
    | zero => exact absurd HA.out (by simp [cardexlaw10_CanonForms.l0])
    | succ k2 =>
     have H := HA.out
     clear HA
     simp only [cardexlaw10_CanonForms.l0] at H
     have HC12 := Aside0.mk H
     clear H
     go_upto_region 6 with (fail)
     go_cut [30] (fun v30 wc => ∃ (kq : Nat) (x30_11 : Bool), v30 = .bool x30_11 ∧ Aside0 (cardexlaw10_CanonForms.j2 kq l0 a1 x5_2 x6_2 x7_2 x30_11 = some r) ∧ Aside0 (kq ≤ k2) ∧ Aside0 (Kd.S k32 32 wc w.heap.size (fun _ => True) u5 x5_2) ∧ Aside0 (Below w.heap.size w wc))
     case first =>
      have H := HC12.out
      clear HC12
      by_cases c13 : x7_2 < (l0.length : Int)
      ·rw [if_pos c13] at H
       have c13b0 : decide (x7_2 < (l0.length : Int)) = true := decide_eq_true c13
       clear c13
       (first | rw [c13b0] | (simp only [i64_w, i32_w]; rw [c13b0]) | (have h_ := c13b0; rw [List.beq_nil_eq] at h_; rw [h_]) | skip)
       have H' := Aside0.mk H
       clear H
       go_wp2
       go_meet
       case rel => exact ⟨_, (decide (x7_2 < 20)), (by first | rfl | (simp; done) | exact congrArg Value.bool (nemp _) | exact congrArg Value.bool (emp _) | (simp [*]; done)), H', ⟨by have := HJ2.out; have := HK2.out; first | omega | exact Nat.le_refl _⟩, ⟨by (with_reducible repeat (first | apply Kd.S_alloc | apply Kd.S_drewN | apply Kd.S_drew)); exact HO_5.out⟩, ⟨by repeat (first | (with_reducible first | exact HB.out | apply below_alloc | apply pw_below_drewN | apply below_drew1) | exact HB.out)⟩⟩
      rw [if_neg c13] at H
      have c13b0 : decide (x7_2 < (l0.length : Int)) = false := decide_eq_false c13
      clear c13
      (first | rw [c13b0] | (simp only [i64_w, i32_w]; rw [c13b0]) | (have h_ := c13b0; rw [List.beq_nil_eq] at h_; rw [h_]) | skip)
      have H' := Aside0.mk H
      clear H
      go_wp2
      go_meet
      case rel => exact ⟨_, (false), (by first | rfl | (simp; done) | exact congrArg Value.bool (nemp _) | exact congrArg Value.bool (emp _) | (simp [*]; done)), H', ⟨by have := HJ2.out; have := HK2.out; first | omega | exact Nat.le_refl _⟩, ⟨by (with_reducible repeat (first | apply Kd.S_alloc | apply Kd.S_drewN | apply Kd.S_drew)); exact HO_5.out⟩, ⟨by repeat (first | (with_reducible first | exact HB.out | apply below_alloc | apply pw_below_drewN | apply below_drew1) | exact HB.out)⟩⟩
     case rest =>
      clear HC12
      try clear c1
      try clear p2
      try clear c4
      try clear c4b0
      try clear c4b1
      try clear c5
      try clear c6
      try clear c8
      try clear c13
      try clear c13b0
      try clear p2
      obtain ⟨kq, x30_11, rfl, HA, HJ11, HO_5, HB⟩ := hcut
      cases kq with
      | zero => exact absurd HA.out (by simp [cardexlaw10_CanonForms.j2])
      | succ kj11 =>
       have H := HA.out
       clear HA
       simp only [cardexlaw10_CanonForms.j2] at H
       by_cases c14 : x30_11 = true
       ·subst c14
        have H1 : ((some (([(⟨#[]⟩ : ByteArray), (⟨#[117]⟩ : ByteArray), (⟨#[118]⟩ : ByteArray)] : List ByteArray) : List ByteArray)).bind fun y169 => (if 0 ≤ x7_2 then (if x7_2 < (l0.length : Int) then (if 0 ≤ (wrap64 (Int.tmod (IntKind.u64.wrap (rd l0 x7_2)) 3)) then (if (wrap64 (Int.tmod (IntKind.u64.wrap (rd l0 x7_2)) 3)) < (y169.length : Int) then (if x6_2.size + 2 ≤ 9223372036854775807 then (if (rdOf ByteArray.empty y169 (wrap64 (Int.tmod (IntKind.u64.wrap (rd l0 x7_2)) 3))).toList = ([] : List UInt8) then (cardexlaw10_CanonForms.j3 kj11 l0 a1 x5_2 (x6_2 ++ (⟨#[60, 107]⟩ : ByteArray)) x7_2 0 0 (⟨#[107]⟩ : ByteArray) (rdOf ByteArray.empty y169 (wrap64 (Int.tmod (IntKind.u64.wrap (rd l0 x7_2)) 3))) (⟨#[]⟩ : ByteArray)) else (if (x6_2 ++ (⟨#[60, 107]⟩ : ByteArray)).size + 8 ≤ 9223372036854775807 then (if ((x6_2 ++ (⟨#[60, 107]⟩ : ByteArray)) ++ (⟨#[32, 120, 109, 108, 110, 115, 61, 39]⟩ : ByteArray)).size + (rdOf ByteArray.empty y169 (wrap64 (Int.tmod (IntKind.u64.wrap (rd l0 x7_2)) 3))).size ≤ 9223372036854775807 then (if (((x6_2 ++ (⟨#[60, 107]⟩ : ByteArray)) ++ (⟨#[32, 120, 109, 108, 110, 115, 61, 39]⟩ : ByteArray)) ++ (rdOf ByteArray.empty y169 (wrap64 (Int.tmod (IntKind.u64.wrap (rd l0 x7_2)) 3)))).size + 1 ≤ 9223372036854775807 then (cardexlaw10_CanonForms.j3 kj11 l0 a1 x5_2 ((((x6_2 ++ (⟨#[60, 107]⟩ : ByteArray)) ++ (⟨#[32, 120, 109, 108, 110, 115, 61, 39]⟩ : ByteArray)) ++ (rdOf ByteArray.empty y169 (wrap64 (Int.tmod (IntKind.u64.wrap (rd l0 x7_2)) 3)))) ++ (⟨#[39]⟩ : ByteArray)) x7_2 0 0 (⟨#[107]⟩ : ByteArray) (rdOf ByteArray.empty y169 (wrap64 (Int.tmod (IntKind.u64.wrap (rd l0 x7_2)) 3))) (⟨#[]⟩ : ByteArray)) else (none)) else (none)) else (none))) else (none)) else (none)) else (none)) else (none)) else (none))) = some r := by rw [if_pos rfl] at H; exact H
        clear H
        have H := H1
        clear H1
        have HC15 := Aside0.mk H
        clear H
        go_upto_block 1 with (fail)
        go_cut [5, 6] (fun v5 v6 wc => ∃ (kq : Nat) (x5_14 : List (S32)) (x6_14 : ByteArray), v6 = .string x6_14 ∧ Aside0 (cardexlaw10_CanonForms.j5 kq l0 a1 x5_14 x6_14 x7_2 = some r) ∧ Aside0 (kq ≤ kj11) ∧ Aside0 (Kd.S k32 32 wc w.heap.size (fun _ => True) v5 x5_14) ∧ Aside0 (Below w.heap.size w wc))
        case first =>
         have H := HC15.out
         clear HC15
         obtain ⟨y169, hy169⟩ : ∃ y_ : List ByteArray, y_ = (([(⟨#[]⟩ : ByteArray), (⟨#[117]⟩ : ByteArray), (⟨#[118]⟩ : ByteArray)] : List ByteArray)) := ⟨_, rfl⟩
         replace H : (if 0 ≤ x7_2 then (if x7_2 < (l0.length : Int) then (if 0 ≤ (wrap64 (Int.tmod (IntKind.u64.wrap (rd l0 x7_2)) 3)) then (if (wrap64 (Int.tmod (IntKind.u64.wrap (rd l0 x7_2)) 3)) < (y169.length : Int) then (if x6_2.size + 2 ≤ 9223372036854775807 then (if (rdOf ByteArray.empty y169 (wrap64 (Int.tmod (IntKind.u64.wrap (rd l0 x7_2)) 3))).toList = ([] : List UInt8) then (cardexlaw10_CanonForms.j3 kj11 l0 a1 x5_2 (x6_2 ++ (⟨#[60, 107]⟩ : ByteArray)) x7_2 0 0 (⟨#[107]⟩ : ByteArray) (rdOf ByteArray.empty y169 (wrap64 (Int.tmod (IntKind.u64.wrap (rd l0 x7_2)) 3))) (⟨#[]⟩ : ByteArray)) else (if (x6_2 ++ (⟨#[60, 107]⟩ : ByteArray)).size + 8 ≤ 9223372036854775807 then (if ((x6_2 ++ (⟨#[60, 107]⟩ : ByteArray)) ++ (⟨#[32, 120, 109, 108, 110, 115, 61, 39]⟩ : ByteArray)).size + (rdOf ByteArray.empty y169 (wrap64 (Int.tmod (IntKind.u64.wrap (rd l0 x7_2)) 3))).size ≤ 9223372036854775807 then (if (((x6_2 ++ (⟨#[60, 107]⟩ : ByteArray)) ++ (⟨#[32, 120, 109, 108, 110, 115, 61, 39]⟩ : ByteArray)) ++ (rdOf ByteArray.empty y169 (wrap64 (Int.tmod (IntKind.u64.wrap (rd l0 x7_2)) 3)))).size + 1 ≤ 9223372036854775807 then (cardexlaw10_CanonForms.j3 kj11 l0 a1 x5_2 ((((x6_2 ++ (⟨#[60, 107]⟩ : ByteArray)) ++ (⟨#[32, 120, 109, 108, 110, 115, 61, 39]⟩ : ByteArray)) ++ (rdOf ByteArray.empty y169 (wrap64 (Int.tmod (IntKind.u64.wrap (rd l0 x7_2)) 3)))) ++ (⟨#[39]⟩ : ByteArray)) x7_2 0 0 (⟨#[107]⟩ : ByteArray) (rdOf ByteArray.empty y169 (wrap64 (Int.tmod (IntKind.u64.wrap (rd l0 x7_2)) 3))) (⟨#[]⟩ : ByteArray)) else (none)) else (none)) else (none))) else (none)) else (none)) else (none)) else (none)) else (none)) = some r := by first | (rw [hy169]; with_reducible exact H) | (have H2_ := (Option.bind_some _ _).symm.trans H; rw [hy169]; with_reducible exact H2_) | (have H2_ := (Option.bind_some _ _).symm.trans H; with_reducible exact H2_) | with_reducible exact H | (rw [hy169]; exact H) | exact H
         have Ny169 := Aside0.mk hy169
         clear hy169
         by_cases c16 : 0 ≤ x7_2
         ·rw [if_pos c16] at H
          have c16b0 : decide (0 ≤ x7_2) = true := decide_eq_true c16
          clear c16
          (first | rw [c16b0] | (simp only [i64_w, i32_w]; rw [c16b0]) | (have h_ := c16b0; rw [List.beq_nil_eq] at h_; rw [h_]) | skip)
          by_cases c17 : x7_2 < (l0.length : Int)
          ·rw [if_pos c17] at H
           have c17b0 : decide (x7_2 < (l0.length : Int)) = true := decide_eq_true c17
           clear c17
           obtain ⟨ji18, hji18⟩ : ∃ j_ : Int, (wrap64 (Int.tmod (IntKind.u64.wrap (rd l0 x7_2)) 3)) = j_ := ⟨_, rfl⟩
           replace H : (if 0 ≤ (ji18) then (if (ji18) < (y169.length : Int) then (if x6_2.size + 2 ≤ 9223372036854775807 then (if (rdOf ByteArray.empty y169 (ji18)).toList = ([] : List UInt8) then (cardexlaw10_CanonForms.j3 kj11 l0 a1 x5_2 (x6_2 ++ (⟨#[60, 107]⟩ : ByteArray)) x7_2 0 0 (⟨#[107]⟩ : ByteArray) (rdOf ByteArray.empty y169 (ji18)) (⟨#[]⟩ : ByteArray)) else (if (x6_2 ++ (⟨#[60, 107]⟩ : ByteArray)).size + 8 ≤ 9223372036854775807 then (if ((x6_2 ++ (⟨#[60, 107]⟩ : ByteArray)) ++ (⟨#[32, 120, 109, 108, 110, 115, 61, 39]⟩ : ByteArray)).size + (rdOf ByteArray.empty y169 (ji18)).size ≤ 9223372036854775807 then (if (((x6_2 ++ (⟨#[60, 107]⟩ : ByteArray)) ++ (⟨#[32, 120, 109, 108, 110, 115, 61, 39]⟩ : ByteArray)) ++ (rdOf ByteArray.empty y169 (ji18))).size + 1 ≤ 9223372036854775807 then (cardexlaw10_CanonForms.j3 kj11 l0 a1 x5_2 ((((x6_2 ++ (⟨#[60, 107]⟩ : ByteArray)) ++ (⟨#[32, 120, 109, 108, 110, 115, 61, 39]⟩ : ByteArray)) ++ (rdOf ByteArray.empty y169 (ji18))) ++ (⟨#[39]⟩ : ByteArray)) x7_2 0 0 (⟨#[107]⟩ : ByteArray) (rdOf ByteArray.empty y169 (ji18)) (⟨#[]⟩ : ByteArray)) else (none)) else (none)) else (none))) else (none)) else (none)) else (none)) = some r := by first | (rw [hji18] at H; exact H) | (simp only [hji18] at H ⊢; exact H)
           have hji18w : (IntKind.i64.wrap (Int.tmod (IntKind.u64.wrap (rd l0 x7_2)) 3)) = ji18 := (i64_w _).trans hji18
           by_cases c19 : 0 ≤ (ji18)
           ·rw [if_pos c19] at H
            have c19b0 : decide (0 ≤ (ji18)) = true := decide_eq_true c19
            clear c19
            by_cases c20 : (ji18) < (y169.length : Int)
            ·rw [if_pos c20] at H
             have c20b0 : decide ((ji18) < (y169.length : Int)) = true := decide_eq_true c20
             clear c20
             by_cases c21 : x6_2.size + 2 ≤ 9223372036854775807
             ·rw [if_pos c21] at H
              have c21b0 := eq_true c21
              have c21b1 : decide (x6_2.size + 2 ≤ 9223372036854775807) = true := decide_eq_true c21
              try have c21b2 : (9223372036854775807 < x6_2.size + 2) = False := eq_false (Nat.not_lt.2 c21)
              have HC22 := Aside0.mk H
              clear H
              go_upto_if 48 with (first | ((with_reducible refine gate_dst (N := 33) rfl ?_); refine Kd.R_lit Kd.string _ 9 ?hg (N := 33) ?hd (xs := ([(⟨#[]⟩ : ByteArray), (⟨#[117]⟩ : ByteArray), (⟨#[118]⟩ : ByteArray)] : List ByteArray)) (inner := [.string (⟨#[]⟩ : ByteArray), .string (⟨#[117]⟩ : ByteArray), .string (⟨#[118]⟩ : ByteArray)]) (ok := fun _ => True) (okp := fun _ => True) ?hr ?hp (fun _ hk => hk) trivial (Below.refl _ _) (Nat.le_refl _) (by simp) ?_; (case hd => rfl); (case hg => rfl); (case hr => first | (go_simp; done) | (go_simp; rfl)); (case hp => exact (Reps.one (show Kd.M Kd.string _ _ _ (⟨#[]⟩ : ByteArray) [.string (⟨#[]⟩ : ByteArray)] from rfl) (Reps.one (show Kd.M Kd.string _ _ _ (⟨#[117]⟩ : ByteArray) [.string (⟨#[117]⟩ : ByteArray)] from rfl) (Reps.one (show Kd.M Kd.string _ _ _ (⟨#[118]⟩ : ByteArray) [.string (⟨#[118]⟩ : ByteArray)] from rfl) (Reps.none _ _))))); intro v170 w23 ho24 hb hg_ hnew_; clear hg_ hnew_; (first | rw [← Ny169.out] at ho24 | (simp only [Int.reduceToNat] at ho24; rw [← Ny169.out] at ho24)); have n0_ := Aside0.mk (Kd.S_below (by (with_reducible repeat (first | apply Kd.S_alloc | apply Kd.S_drewN | apply Kd.S_drew)); exact HO_5.out) hb); have n1_ := Aside0.mk (Kd.R_lower ho24 (below_size (by repeat (first | (with_reducible first | exact HB.out | apply below_alloc | apply pw_below_drewN | apply below_drew1) | exact HB.out)))); have n2_ := Aside0.mk (below_step (by repeat (first | (with_reducible first | exact HB.out | apply below_alloc | apply pw_below_drewN | apply below_drew1) | exact HB.out)) hb); clear HO_5; clear HB; have HO_5 := n0_; have HO171 := n1_; have HB := n2_; clear n0_ n1_ n2_; clear hb ho24; have p172 : 0 ≤ (x7_2 : Int) := of_decide_eq_true (by first | (with_reducible assumption) | assumption); have q172 : x7_2 < (l0.length : Int) := of_decide_eq_true (by first | (with_reducible assumption) | assumption); obtain ⟨ad172, e172, hx172_0⟩ := Kd.at_int HR0.out x7_2 p172 q172; cases e172; replace hx172_0 := (HB.out.cell (World.block_lt_of_cell? w _ hx172_0)).trans hx172_0; replace p172 := eq_true p172; replace q172 := eq_true q172; obtain ⟨Ao25, co25, eo25⟩ := Kd.R_slice HO171.out; subst eo25; have p173 : 0 ≤ ((ji18) : Int) := of_decide_eq_true (by first | (with_reducible assumption) | assumption); have q173 : (ji18) < (y169.length : Int) := of_decide_eq_true (by first | (with_reducible assumption) | assumption); obtain ⟨ad173, e173, hx173_0⟩ := Kd.at_string (Kd.R_reads' HO171.out).2.2 (ji18) p173 q173; cases e173; replace p173 := eq_true p173; replace q173 := eq_true q173) | ((with_reducible refine gate_dst (N := 9) rfl ?_); refine box_event ?hg (N := 9) ?hd (cs := #[.int .i64 0, .int .i64 0, .string (⟨#[]⟩ : ByteArray), .string (⟨#[]⟩ : ByteArray), .slice none 0 0, .string (⟨#[]⟩ : ByteArray)]) (t := 32) ?hr ?_; (case hd => rfl); (case hg => rfl); (case hr => first | (go_simp; done) | (go_simp; rfl)); intro gb174 hg w26 hbox hb; have n0_ := Aside0.mk (Kd.S_below (Kd.S_elderB (by (with_reducible repeat (first | apply Kd.S_alloc | apply Kd.S_drewN | apply Kd.S_drew)); exact HO_5.out) gb174 (Nat.le_of_eq hg.symm)) hb); have n1_ := Aside0.mk (Kd.R_below (by (with_reducible repeat (first | apply Kd.R_alloc | apply Kd.R_drewN | apply Kd.R_drew)); exact HO171.out) hb); have n2_ := Aside0.mk (below_step (by repeat (first | (with_reducible first | exact HB.out | apply below_alloc | apply pw_below_drewN | apply below_drew1) | exact HB.out)) hb); have n3_ := Aside0.mk (hbox); have n4_ := Aside0.mk ((by rw [hg]; exact (below_size (by repeat (first | (with_reducible first | exact HB.out | apply below_alloc | apply pw_below_drewN | apply below_drew1) | exact HB.out))) : w.heap.size ≤ gb174)); have n5_ := Aside0.mk ((by rw [hg]; exact (below_size (by repeat (first | (with_reducible first | exact HB.out | apply below_alloc | apply pw_below_drewN | apply below_drew1) | exact HB.out))) : w.heap.size ≤ gb174)); clear HO_5; clear HO171; clear HB; have HO_5 := n0_; have HO171 := n1_; have HB := n2_; have BK174 := n3_; have GW174 := n4_; have GE174 := n5_; clear n0_ n1_ n2_ n3_ n4_ n5_; clear hb hbox hg; have hcz27_0 : w26.cell? ⟨gb174, 0, none⟩ = some (.int .i64 0) := (blk_cell BK174.out 0).trans rfl; have hcz27_1 : w26.cell? ⟨gb174, 1, none⟩ = some (.int .i64 0) := (blk_cell BK174.out 1).trans rfl; have hcz27_2 : w26.cell? ⟨gb174, 2, none⟩ = some (.string (⟨#[]⟩ : ByteArray)) := (blk_cell BK174.out 2).trans rfl; have hcz27_3 : w26.cell? ⟨gb174, 3, none⟩ = some (.string (⟨#[]⟩ : ByteArray)) := (blk_cell BK174.out 3).trans rfl; have hcz27_4 : w26.cell? ⟨gb174, 4, none⟩ = some (.slice none 0 0) := (blk_cell BK174.out 4).trans rfl; have hcz27_5 : w26.cell? ⟨gb174, 5, none⟩ = some (.string (⟨#[]⟩ : ByteArray)) := (blk_cell BK174.out 5).trans rfl; have hfz27_0 := blk_frozen BK174.out 0; have hfz27_1 := blk_frozen BK174.out 1; have hfz27_2 := blk_frozen BK174.out 2; have hfz27_3 := blk_frozen BK174.out 3; have hfz27_4 := blk_frozen BK174.out 4; have hfz27_5 := blk_frozen BK174.out 5))
              (try simp only [Act.put, setIfInBounds_toArray, set_cons_zero, set_cons_succ])
              go_cut [6] (fun v6 wc => ∃ (kq : Nat) (x6_21 : ByteArray), v6 = .string x6_21 ∧ Aside0 (cardexlaw10_CanonForms.j3 kq l0 a1 x5_2 x6_21 x7_2 0 0 (⟨#[107]⟩ : ByteArray) (rdOf ByteArray.empty y169 (ji18)) (⟨#[]⟩ : ByteArray) = some r) ∧ Aside0 (kq ≤ kj11) ∧ Aside0 (Kd.S k32 32 wc w.heap.size (fun k_ => k_ ≠ gb174) u5 x5_2) ∧ Aside0 (wc.heap[gb174]? = some (.cells #[.int .i64 0, .int .i64 0, .string (⟨#[107]⟩ : ByteArray), .string (rdOf ByteArray.empty y169 (ji18)), (.slice none 0 0), .string (⟨#[]⟩ : ByteArray)] 32 (0, 0))) ∧ Aside0 (Below w.heap.size w wc))
              case first =>
               have H := HC22.out
               clear HC22
               by_cases c28 : (rdOf ByteArray.empty y169 (ji18)).toList = ([] : List UInt8)
               ·rw [if_pos c28] at H
                have c28b0 : ((rdOf ByteArray.empty y169 (ji18)).toList == ([] : List UInt8)) = true := beq_iff_eq.mpr c28
                have c28b1 : ((rdOf ByteArray.empty y169 (ji18)).toList != ([] : List UInt8)) = false := bne_eq_false_iff_eq.mpr c28
                clear c28
                (first | rw [c28b0] | (simp only [i64_w, i32_w]; rw [c28b0]) | (have h_ := c28b0; rw [List.beq_nil_eq] at h_; rw [h_]) | skip)
                have H' := Aside0.mk H
                clear H
                go_wp2
                go_meet
                case rel => exact ⟨_, (x6_2 ++ (⟨#[60, 107]⟩ : ByteArray)), (by first | rfl | (simp; done) | exact congrArg Value.bool (nemp _) | exact congrArg Value.bool (emp _) | (simp [*]; done)), H', ⟨by have := HJ2.out; have := HK2.out; have := HJ11.out; first | omega | exact Nat.le_refl _⟩, ⟨by (with_reducible repeat (first | apply Kd.S_alloc | apply Kd.S_drewN | apply Kd.S_drew)); exact Kd.S_mono (Kd.S_far (p := ⟨gb174, 5, none⟩) (Kd.S_far (p := ⟨gb174, 4, none⟩) (Kd.S_far (p := ⟨gb174, 3, none⟩) (Kd.S_far (p := ⟨gb174, 2, none⟩) (Kd.S_far (p := ⟨gb174, 1, none⟩) (Kd.S_far (p := ⟨gb174, 0, none⟩) (Kd.S_mono HO_5.out (fun k_ hk => (⟨hk, hk.2⟩ : _ ∧ k_ ≠ gb174))) (fun _ hk => hk.2) (.int .i64 0)) (fun _ hk => hk.2) (.int .i64 0)) (fun _ hk => hk.2) (.string (⟨#[107]⟩ : ByteArray))) (fun _ hk => hk.2) (.string (rdOf ByteArray.empty y169 (ji18)))) (fun _ hk => hk.2) (.slice none 0 0)) (fun _ hk => hk.2) (.string (⟨#[]⟩ : ByteArray))) (fun _ hk => hk.1.2)⟩, ⟨by (with_reducible repeat (first | refine blk_drewN ?_ _ | refine blk_drew ?_ | refine blk_alloc ?_ _)); refine blk_put (cs := #[.int .i64 0, .int .i64 0, .string (⟨#[107]⟩ : ByteArray), .string (rdOf ByteArray.empty y169 (ji18)), .slice none 0 0, .string (⟨#[]⟩ : ByteArray)]) ?_ 5 _ rfl; (with_reducible repeat (first | refine blk_drewN ?_ _ | refine blk_drew ?_ | refine blk_alloc ?_ _)); refine blk_put (cs := #[.int .i64 0, .int .i64 0, .string (⟨#[107]⟩ : ByteArray), .string (rdOf ByteArray.empty y169 (ji18)), .slice none 0 0, .string (⟨#[]⟩ : ByteArray)]) ?_ 4 _ rfl; (with_reducible repeat (first | refine blk_drewN ?_ _ | refine blk_drew ?_ | refine blk_alloc ?_ _)); refine blk_put (cs := #[.int .i64 0, .int .i64 0, .string (⟨#[107]⟩ : ByteArray), .string (⟨#[]⟩ : ByteArray), .slice none 0 0, .string (⟨#[]⟩ : ByteArray)]) ?_ 3 _ rfl; (with_reducible repeat (first | refine blk_drewN ?_ _ | refine blk_drew ?_ | refine blk_alloc ?_ _)); refine blk_put (cs := #[.int .i64 0, .int .i64 0, .string (⟨#[]⟩ : ByteArray), .string (⟨#[]⟩ : ByteArray), .slice none 0 0, .string (⟨#[]⟩ : ByteArray)]) ?_ 2 _ rfl; (with_reducible repeat (first | refine blk_drewN ?_ _ | refine blk_drew ?_ | refine blk_alloc ?_ _)); refine blk_put (cs := #[.int .i64 0, .int .i64 0, .string (⟨#[]⟩ : ByteArray), .string (⟨#[]⟩ : ByteArray), .slice none 0 0, .string (⟨#[]⟩ : ByteArray)]) ?_ 1 _ rfl; (with_reducible repeat (first | refine blk_drewN ?_ _ | refine blk_drew ?_ | refine blk_alloc ?_ _)); refine blk_put (cs := #[.int .i64 0, .int .i64 0, .string (⟨#[]⟩ : ByteArray), .string (⟨#[]⟩ : ByteArray), .slice none 0 0, .string (⟨#[]⟩ : ByteArray)]) ?_ 0 _ rfl; (with_reducible repeat (first | refine blk_drewN ?_ _ | refine blk_drew ?_ | refine blk_alloc ?_ _)); exact BK174.out⟩, ⟨by repeat (first | (with_reducible first | exact HB.out | apply below_alloc | apply pw_below_drewN | apply below_drew1 | refine below_set ?_ GE174.out) | exact HB.out)⟩⟩
               rw [if_neg c28] at H
               have c28b0 : ((rdOf ByteArray.empty y169 (ji18)).toList == ([] : List UInt8)) = false := beq_eq_false_iff_ne.mpr c28
               have c28b1 : ((rdOf ByteArray.empty y169 (ji18)).toList != ([] : List UInt8)) = true := bne_iff_ne.mpr c28
               (first | rw [c28b0] | (simp only [i64_w, i32_w]; rw [c28b0]) | (have h_ := c28b0; rw [List.beq_nil_eq] at h_; rw [h_]) | skip)
               by_cases c29 : (x6_2 ++ (⟨#[60, 107]⟩ : ByteArray)).size + 8 ≤ 9223372036854775807
               ·rw [if_pos c29] at H
                have c29b0 := eq_true c29
                have c29b1 : decide ((x6_2 ++ (⟨#[60, 107]⟩ : ByteArray)).size + 8 ≤ 9223372036854775807) = true := decide_eq_true c29
                try have c29b2 : (9223372036854775807 < (x6_2 ++ (⟨#[60, 107]⟩ : ByteArray)).size + 8) = False := eq_false (Nat.not_lt.2 c29)
                try have c29b3 : (9223372036854775807 < x6_2.size + 2 + 8) = False := eq_false (Nat.not_lt.2 (by have h_ := c29; simp only [ByteArray.size_append] at h_; exact h_))
                by_cases c30 : ((x6_2 ++ (⟨#[60, 107]⟩ : ByteArray)) ++ (⟨#[32, 120, 109, 108, 110, 115, 61, 39]⟩ : ByteArray)).size + (rdOf ByteArray.empty y169 (ji18)).size ≤ 9223372036854775807
                ·rw [if_pos c30] at H
                 have c30b0 := eq_true c30
                 have c30b1 : decide (((x6_2 ++ (⟨#[60, 107]⟩ : ByteArray)) ++ (⟨#[32, 120, 109, 108, 110, 115, 61, 39]⟩ : ByteArray)).size + (rdOf ByteArray.empty y169 (ji18)).size ≤ 9223372036854775807) = true := decide_eq_true c30
                 try have c30b2 : (9223372036854775807 < ((x6_2 ++ (⟨#[60, 107]⟩ : ByteArray)) ++ (⟨#[32, 120, 109, 108, 110, 115, 61, 39]⟩ : ByteArray)).size + (rdOf ByteArray.empty y169 (ji18)).size) = False := eq_false (Nat.not_lt.2 c30)
                 try have c30b3 : (9223372036854775807 < x6_2.size + 2 + 8 + (rdOf ByteArray.empty y169 (ji18)).size) = False := eq_false (Nat.not_lt.2 (by have h_ := c30; simp only [ByteArray.size_append] at h_; exact h_))
                 by_cases c31 : (((x6_2 ++ (⟨#[60, 107]⟩ : ByteArray)) ++ (⟨#[32, 120, 109, 108, 110, 115, 61, 39]⟩ : ByteArray)) ++ (rdOf ByteArray.empty y169 (ji18))).size + 1 ≤ 9223372036854775807
                 ·rw [if_pos c31] at H
                  have c31b0 := eq_true c31
                  have c31b1 : decide ((((x6_2 ++ (⟨#[60, 107]⟩ : ByteArray)) ++ (⟨#[32, 120, 109, 108, 110, 115, 61, 39]⟩ : ByteArray)) ++ (rdOf ByteArray.empty y169 (ji18))).size + 1 ≤ 9223372036854775807) = true := decide_eq_true c31
                  try have c31b2 : (9223372036854775807 < (((x6_2 ++ (⟨#[60, 107]⟩ : ByteArray)) ++ (⟨#[32, 120, 109, 108, 110, 115, 61, 39]⟩ : ByteArray)) ++ (rdOf ByteArray.empty y169 (ji18))).size + 1) = False := eq_false (Nat.not_lt.2 c31)
                  try have c31b3 : (9223372036854775807 < x6_2.size + 2 + 8 + (rdOf ByteArray.empty y169 (ji18)).size + 1) = False := eq_false (Nat.not_lt.2 (by have h_ := c31; simp only [ByteArray.size_append] at h_; exact h_))
                  have H' := Aside0.mk H
                  clear H
                  go_wp2
                  go_meet
                  case rel => exact ⟨_, ((((x6_2 ++ (⟨#[60, 107]⟩ : ByteArray)) ++ (⟨#[32, 120, 109, 108, 110, 115, 61, 39]⟩ : ByteArray)) ++ (rdOf ByteArray.empty y169 (ji18))) ++ (⟨#[39]⟩ : ByteArray)), (by first | rfl | (simp; done) | (simp only [← hji18] <;> (first | rfl | simp)) | exact congrArg Value.bool (nemp _) | exact congrArg Value.bool (emp _) | (simp [*]; done)), H', ⟨by have := HJ2.out; have := HK2.out; have := HJ11.out; first | omega | exact Nat.le_refl _⟩, ⟨by (with_reducible repeat (first | apply Kd.S_alloc | apply Kd.S_drewN | apply Kd.S_drew)); exact Kd.S_mono (Kd.S_far (p := ⟨gb174, 5, none⟩) (Kd.S_far (p := ⟨gb174, 4, none⟩) (Kd.S_far (p := ⟨gb174, 3, none⟩) (Kd.S_far (p := ⟨gb174, 2, none⟩) (Kd.S_far (p := ⟨gb174, 1, none⟩) (Kd.S_far (p := ⟨gb174, 0, none⟩) (Kd.S_mono HO_5.out (fun k_ hk => (⟨hk, hk.2⟩ : _ ∧ k_ ≠ gb174))) (fun _ hk => hk.2) (.int .i64 0)) (fun _ hk => hk.2) (.int .i64 0)) (fun _ hk => hk.2) (.string (⟨#[107]⟩ : ByteArray))) (fun _ hk => hk.2) (.string (rdOf ByteArray.empty y169 (ji18)))) (fun _ hk => hk.2) (.slice none 0 0)) (fun _ hk => hk.2) (.string (⟨#[]⟩ : ByteArray))) (fun _ hk => hk.1.2)⟩, ⟨by (with_reducible repeat (first | refine blk_drewN ?_ _ | refine blk_drew ?_ | refine blk_alloc ?_ _)); refine blk_put (cs := #[.int .i64 0, .int .i64 0, .string (⟨#[107]⟩ : ByteArray), .string (rdOf ByteArray.empty y169 (ji18)), .slice none 0 0, .string (⟨#[]⟩ : ByteArray)]) ?_ 5 _ rfl; (with_reducible repeat (first | refine blk_drewN ?_ _ | refine blk_drew ?_ | refine blk_alloc ?_ _)); refine blk_put (cs := #[.int .i64 0, .int .i64 0, .string (⟨#[107]⟩ : ByteArray), .string (rdOf ByteArray.empty y169 (ji18)), .slice none 0 0, .string (⟨#[]⟩ : ByteArray)]) ?_ 4 _ rfl; (with_reducible repeat (first | refine blk_drewN ?_ _ | refine blk_drew ?_ | refine blk_alloc ?_ _)); refine blk_put (cs := #[.int .i64 0, .int .i64 0, .string (⟨#[107]⟩ : ByteArray), .string (⟨#[]⟩ : ByteArray), .slice none 0 0, .string (⟨#[]⟩ : ByteArray)]) ?_ 3 _ rfl; (with_reducible repeat (first | refine blk_drewN ?_ _ | refine blk_drew ?_ | refine blk_alloc ?_ _)); refine blk_put (cs := #[.int .i64 0, .int .i64 0, .string (⟨#[]⟩ : ByteArray), .string (⟨#[]⟩ : ByteArray), .slice none 0 0, .string (⟨#[]⟩ : ByteArray)]) ?_ 2 _ rfl; (with_reducible repeat (first | refine blk_drewN ?_ _ | refine blk_drew ?_ | refine blk_alloc ?_ _)); refine blk_put (cs := #[.int .i64 0, .int .i64 0, .string (⟨#[]⟩ : ByteArray), .string (⟨#[]⟩ : ByteArray), .slice none 0 0, .string (⟨#[]⟩ : ByteArray)]) ?_ 1 _ rfl; (with_reducible repeat (first | refine blk_drewN ?_ _ | refine blk_drew ?_ | refine blk_alloc ?_ _)); refine blk_put (cs := #[.int .i64 0, .int .i64 0, .string (⟨#[]⟩ : ByteArray), .string (⟨#[]⟩ : ByteArray), .slice none 0 0, .string (⟨#[]⟩ : ByteArray)]) ?_ 0 _ rfl; (with_reducible repeat (first | refine blk_drewN ?_ _ | refine blk_drew ?_ | refine blk_alloc ?_ _)); exact BK174.out⟩, ⟨by repeat (first | (with_reducible first | exact HB.out | apply below_alloc | apply pw_below_drewN | apply below_drew1 | refine below_set ?_ GE174.out) | exact HB.out)⟩⟩
                 rw [if_neg c31] at H
                 exact absurd H (by simp)
                rw [if_neg c30] at H
                exact absurd H (by simp)
               rw [if_neg c29] at H
               exact absurd H (by simp)
              case rest =>
               clear HC22
               try clear c1
               try clear p1
               try clear q1
               try clear hx1
               try clear c2
               try clear p2
               try clear c3
               try clear c4
               try clear c4b0
               try clear c4b1
               try clear c5
               try clear c6
               try clear p6
               try clear c8
               try clear c13
               try clear c13b0
               try clear c14
               try clear c16
               try clear c16b0
               try clear c17
               try clear c17b0
               try clear p17
               try clear q17
               try clear hx17
               try clear c19
               try clear c19b0
               try clear c20
               try clear c20b0
               try clear c21
               try clear c21b0
               try clear c21b1
               try clear c21b2
               try clear c28
               try clear c28b0
               try clear c28b1
               try clear c29
               try clear c29b0
               try clear c29b1
               try clear c29b2
               try clear c30
               try clear c30b0
               try clear c30b1
               try clear c30b2
               try clear c31
               try clear c31b0
               try clear c31b1
               try clear c31b2
               try clear hcz27_0
               try clear hcz27_1
               try clear hcz27_2
               try clear hcz27_3
               try clear hcz27_4
               try clear hcz27_5
               try clear hfz27_0
               try clear hfz27_1
               try clear hfz27_2
               try clear hfz27_3
               try clear hfz27_4
               try clear hfz27_5
               try clear hx172_0
               try clear hx173_0
               try clear p172
               try clear p173
               try clear p2
               try clear q172
               try clear q173
               obtain ⟨kq, x6_21, rfl, HA, HJ21, HO_5, BK174, HB⟩ := hcut
               cases kq with
               | zero => exact absurd HA.out (by simp [cardexlaw10_CanonForms.j3])
               | succ kj21 =>
                have H := HA.out
                clear HA
                simp only [cardexlaw10_CanonForms.j3] at H
                by_cases c32 : (Int.tmod x7_2 2) = 0
                ·rw [if_pos c32] at H
                 have c32b0 : ((Int.tmod x7_2 2) == 0) = true := beq_iff_eq.mpr c32
                 have c32b1 : ((Int.tmod x7_2 2) != 0) = false := bne_eq_false_iff_eq.mpr c32
                 clear c32
                 have HC33 := Aside0.mk H
                 clear H
                 go_upto_if 60 with (fail)
                 go_cut [6] (fun v6 wc => ∃ (kq : Nat) (x6_32 : ByteArray) (x175005_32 : ByteArray), v6 = .string x6_32 ∧ Aside0 (cardexlaw10_CanonForms.j4 kq l0 a1 x5_2 x6_32 x7_2 0 0 (⟨#[107]⟩ : ByteArray) (rdOf ByteArray.empty y169 (ji18)) x175005_32 = some r) ∧ Aside0 (kq ≤ kj21) ∧ Aside0 (Kd.S k32 32 wc w.heap.size (fun k_ => k_ ≠ gb174) u5 x5_2) ∧ Aside0 (wc.heap[gb174]? = some (.cells #[.int .i64 0, .int .i64 0, .string (⟨#[107]⟩ : ByteArray), .string (rdOf ByteArray.empty y169 (ji18)), (.slice none 0 0), .string x175005_32] 32 (0, 0))) ∧ Aside0 (Below w.heap.size w wc))
                 case first =>
                  have H := HC33.out
                  clear HC33
                  by_cases c34 : a1.toList = ([] : List UInt8)
                  ·rw [if_pos c34] at H
                   have c34b0 : (a1.toList == ([] : List UInt8)) = true := beq_iff_eq.mpr c34
                   have c34b1 : (a1.toList != ([] : List UInt8)) = false := bne_eq_false_iff_eq.mpr c34
                   clear c34
                   (first | rw [c34b0] | (simp only [i64_w, i32_w]; rw [c34b0]) | (have h_ := c34b0; rw [List.beq_nil_eq] at h_; rw [h_]) | skip)
                   by_cases c35 : x6_21.size + 2 ≤ 9223372036854775807
                   ·rw [if_pos c35] at H
                    have c35b0 := eq_true c35
                    have c35b1 : decide (x6_21.size + 2 ≤ 9223372036854775807) = true := decide_eq_true c35
                    try have c35b2 : (9223372036854775807 < x6_21.size + 2) = False := eq_false (Nat.not_lt.2 c35)
                    have H' := Aside0.mk H
                    clear H
                    go_wp2
                    go_meet
                    case rel => exact ⟨_, (x6_21 ++ (⟨#[47, 62]⟩ : ByteArray)), ((⟨#[]⟩ : ByteArray)), (by first | rfl | (simp; done) | exact congrArg Value.bool (nemp _) | exact congrArg Value.bool (emp _) | (simp [*]; done)), H', ⟨by have := HJ2.out; have := HK2.out; have := HJ11.out; have := HJ21.out; first | omega | exact Nat.le_refl _⟩, ⟨by (with_reducible repeat (first | apply Kd.S_alloc | apply Kd.S_drewN | apply Kd.S_drew)); exact HO_5.out⟩, ⟨by (with_reducible repeat (first | refine blk_drewN ?_ _ | refine blk_drew ?_ | refine blk_alloc ?_ _)); exact BK174.out⟩, ⟨by repeat (first | (with_reducible first | exact HB.out | apply below_alloc | apply pw_below_drewN | apply below_drew1 | refine below_set ?_ GE174.out) | exact HB.out)⟩⟩
                   rw [if_neg c35] at H
                   exact absurd H (by simp)
                  rw [if_neg c34] at H
                  have c34b0 : (a1.toList == ([] : List UInt8)) = false := beq_eq_false_iff_ne.mpr c34
                  have c34b1 : (a1.toList != ([] : List UInt8)) = true := bne_iff_ne.mpr c34
                  (first | rw [c34b0] | (simp only [i64_w, i32_w]; rw [c34b0]) | (have h_ := c34b0; rw [List.beq_nil_eq] at h_; rw [h_]) | skip)
                  by_cases c36 : x6_21.size + 1 ≤ 9223372036854775807
                  ·rw [if_pos c36] at H
                   have c36b0 := eq_true c36
                   have c36b1 : decide (x6_21.size + 1 ≤ 9223372036854775807) = true := decide_eq_true c36
                   try have c36b2 : (9223372036854775807 < x6_21.size + 1) = False := eq_false (Nat.not_lt.2 c36)
                   replace H := Option.bind_eq_some_iff.mp H
                   obtain ⟨t175, A370, H⟩ := H
                   replace H : (if (x6_21 ++ (⟨#[62]⟩ : ByteArray)).size + t175.size ≤ 9223372036854775807 then (if ((x6_21 ++ (⟨#[62]⟩ : ByteArray)) ++ t175).size + 4 ≤ 9223372036854775807 then (cardexlaw10_CanonForms.j4 kj21 l0 a1 x5_2 (((x6_21 ++ (⟨#[62]⟩ : ByteArray)) ++ t175) ++ (⟨#[60, 47, 107, 62]⟩ : ByteArray)) x7_2 0 0 (⟨#[107]⟩ : ByteArray) (rdOf ByteArray.empty y169 (ji18)) a1) else (none)) else (none)) = some r := H
                   have A37 := Aside0.mk A370
                   clear A370
                   by_cases c38 : (x6_21 ++ (⟨#[62]⟩ : ByteArray)).size + t175.size ≤ 9223372036854775807
                   ·rw [if_pos c38] at H
                    have c38b0 := eq_true c38
                    have c38b1 : decide ((x6_21 ++ (⟨#[62]⟩ : ByteArray)).size + t175.size ≤ 9223372036854775807) = true := decide_eq_true c38
                    try have c38b2 : (9223372036854775807 < (x6_21 ++ (⟨#[62]⟩ : ByteArray)).size + t175.size) = False := eq_false (Nat.not_lt.2 c38)
                    try have c38b3 : (9223372036854775807 < x6_21.size + 1 + t175.size) = False := eq_false (Nat.not_lt.2 (by have h_ := c38; simp only [ByteArray.size_append] at h_; exact h_))
                    by_cases c39 : ((x6_21 ++ (⟨#[62]⟩ : ByteArray)) ++ t175).size + 4 ≤ 9223372036854775807
                    ·rw [if_pos c39] at H
                     have c39b0 := eq_true c39
                     have c39b1 : decide (((x6_21 ++ (⟨#[62]⟩ : ByteArray)) ++ t175).size + 4 ≤ 9223372036854775807) = true := decide_eq_true c39
                     try have c39b2 : (9223372036854775807 < ((x6_21 ++ (⟨#[62]⟩ : ByteArray)) ++ t175).size + 4) = False := eq_false (Nat.not_lt.2 c39)
                     try have c39b3 : (9223372036854775807 < x6_21.size + 1 + t175.size + 4) = False := eq_false (Nat.not_lt.2 (by have h_ := c39; simp only [ByteArray.size_append] at h_; exact h_))
                     have H' := Aside0.mk H
                     clear H
                     have hcz40_0 : wc.cell? ⟨gb174, 0, none⟩ = some (.int .i64 0) := (blk_cell BK174.out 0).trans rfl
                     have hcz40_1 : wc.cell? ⟨gb174, 1, none⟩ = some (.int .i64 0) := (blk_cell BK174.out 1).trans rfl
                     have hcz40_2 : wc.cell? ⟨gb174, 2, none⟩ = some (.string (⟨#[107]⟩ : ByteArray)) := (blk_cell BK174.out 2).trans rfl
                     have hcz40_3 : wc.cell? ⟨gb174, 3, none⟩ = some (.string (rdOf ByteArray.empty y169 (ji18))) := (blk_cell BK174.out 3).trans rfl
                     have hcz40_4 : wc.cell? ⟨gb174, 4, none⟩ = some (.slice none 0 0) := (blk_cell BK174.out 4).trans rfl
                     have hcz40_5 : wc.cell? ⟨gb174, 5, none⟩ = some (.string (⟨#[]⟩ : ByteArray)) := (blk_cell BK174.out 5).trans rfl
                     have hfz40_0 := blk_frozen BK174.out 0
                     have hfz40_1 := blk_frozen BK174.out 1
                     have hfz40_2 := blk_frozen BK174.out 2
                     have hfz40_3 := blk_frozen BK174.out 3
                     have hfz40_4 := blk_frozen BK174.out 4
                     have hfz40_5 := blk_frozen BK174.out 5
                     go_wp2_with (first | ((with_reducible refine gate_callee (f := 12) rfl ?_); refine goesL_ (some 66) rfl rfl Tryd.func12 (by kernel_rfl) rfl #[.string a1] rfl (by (try simp only [List.map_toArray, List.map_cons, List.map_nil]); first | done | rfl | (simp only [List.length_drop, List.length_take]; rfl)) ?_; (with_reducible refine (cardexref01_Escape.calls kj21 a1 t175 _ A37.out).mono ?_); rintro e w' ⟨rfl, ⟨nd, rfl⟩⟩; refine ⟨_, rfl, ?_⟩))
                     go_meet
                     case rel => exact ⟨_, (((x6_21 ++ (⟨#[62]⟩ : ByteArray)) ++ t175) ++ (⟨#[60, 47, 107, 62]⟩ : ByteArray)), (a1), (by first | rfl | (simp; done) | exact congrArg Value.bool (nemp _) | exact congrArg Value.bool (emp _) | (simp [*]; done)), H', ⟨by have := HJ2.out; have := HK2.out; have := HJ11.out; have := HJ21.out; first | omega | exact Nat.le_refl _⟩, ⟨by (with_reducible repeat (first | apply Kd.S_alloc | apply Kd.S_drewN | apply Kd.S_drew)); exact Kd.S_mono (Kd.S_far (p := ⟨gb174, 5, none⟩) (Kd.S_mono HO_5.out (fun k_ hk => (⟨hk, hk⟩ : _ ∧ k_ ≠ gb174))) (fun _ hk => hk.2) (.string a1)) (fun _ hk => hk.1)⟩, ⟨by (with_reducible repeat (first | refine blk_drewN ?_ _ | refine blk_drew ?_ | refine blk_alloc ?_ _)); refine blk_put (cs := #[.int .i64 0, .int .i64 0, .string (⟨#[107]⟩ : ByteArray), .string (rdOf ByteArray.empty y169 (ji18)), .slice none 0 0, .string (⟨#[]⟩ : ByteArray)]) ?_ 5 _ rfl; (with_reducible repeat (first | refine blk_drewN ?_ _ | refine blk_drew ?_ | refine blk_alloc ?_ _)); exact BK174.out⟩, ⟨by repeat (first | (with_reducible first | exact HB.out | apply below_alloc | apply pw_below_drewN | apply below_drew1 | refine below_set ?_ GE174.out) | exact HB.out)⟩⟩
                    rw [if_neg c39] at H
                    exact absurd H (by simp)
                   rw [if_neg c38] at H
                   exact absurd H (by simp)
                  rw [if_neg c36] at H
                  exact absurd H (by simp)
                 case rest =>
                  clear HC33
                  try clear c1
                  try clear p1
                  try clear q1
                  try clear hx1
                  try clear c2
                  try clear p2
                  try clear c3
                  try clear c4
                  try clear c4b0
                  try clear c4b1
                  try clear c5
                  try clear c6
                  try clear p6
                  try clear c8
                  try clear c12
                  try clear c13
                  try clear c13b0
                  try clear c14
                  try clear c16
                  try clear c16b0
                  try clear c17
                  try clear c17b0
                  try clear p17
                  try clear q17
                  try clear hx17
                  try clear c19
                  try clear c19b0
                  try clear c20
                  try clear c20b0
                  try clear c21
                  try clear c21b0
                  try clear c21b1
                  try clear c21b2
                  try clear c28
                  try clear c28b0
                  try clear c28b1
                  try clear c29
                  try clear c29b0
                  try clear c29b1
                  try clear c29b2
                  try clear c30
                  try clear c30b0
                  try clear c30b1
                  try clear c30b2
                  try clear c31
                  try clear c31b0
                  try clear c31b1
                  try clear c31b2
                  try clear c32
                  try clear c32b0
                  try clear c32b1
                  try clear c34
                  try clear c34b0
                  try clear c34b1
                  try clear c35
                  try clear c35b0
                  try clear c35b1
                  try clear c35b2
                  try clear c36
                  try clear c36b0
                  try clear c36b1
                  try clear c36b2
                  try clear c38
                  try clear c38b0
                  try clear c38b1
                  try clear c38b2
                  try clear c39
                  try clear c39b0
                  try clear c39b1
                  try clear c39b2
                  try clear hcz27_0
                  try clear hcz27_1
                  try clear hcz27_2
                  try clear hcz27_3
                  try clear hcz27_4
                  try clear hcz27_5
                  try clear hcz40_0
                  try clear hcz40_1
                  try clear hcz40_2
                  try clear hcz40_3
                  try clear hcz40_4
                  try clear hcz40_5
                  try clear hfz27_0
                  try clear hfz27_1
                  try clear hfz27_2
                  try clear hfz27_3
                  try clear hfz27_4
                  try clear hfz27_5
                  try clear hfz40_0
                  try clear hfz40_1
                  try clear hfz40_2
                  try clear hfz40_3
                  try clear hfz40_4
                  try clear hfz40_5
                  try clear hx172_0
                  try clear hx173_0
                  try clear p1
                  try clear p17
                  try clear p172
                  try clear p173
                  try clear p2
                  try clear p6
                  try clear q1
                  try clear q17
                  try clear q172
                  try clear q173
                  obtain ⟨kq, x6_32, x175005_32, rfl, HA, HJ32, HO_5, BK174, HB⟩ := hcut
                  cases kq with
                  | zero => exact absurd HA.out (by simp [cardexlaw10_CanonForms.j4])
                  | succ kj32 =>
                   have H := HA.out
                   clear HA
                   simp only [cardexlaw10_CanonForms.j4] at H
                   by_cases c41 : x5_2.length < 1599289640401
                   ·rw [if_pos c41] at H
                    have LMc41 := Aside0.mk c41
                    clear c41
                    obtain ⟨y176, hy176⟩ : ∃ y_ : List (S32), y_ = (x5_2 ++ [(⟨0, 0, (⟨#[107]⟩ : ByteArray), (rdOf ByteArray.empty y169 (ji18)), ([] : List (S29)), x175005_32⟩ : S32)]) := ⟨_, rfl⟩
                    replace H : (cardexlaw10_CanonForms.j5 kj32 l0 a1 y176 x6_32 x7_2) = some r := by first | (rw [hy176]; with_reducible exact H) | (have H2_ := (Option.bind_some _ _).symm.trans H; rw [hy176]; with_reducible exact H2_) | (have H2_ := (Option.bind_some _ _).symm.trans H; with_reducible exact H2_) | with_reducible exact H | (rw [hy176]; exact H) | exact H
                    have Ny176 := Aside0.mk hy176
                    clear hy176
                    have H' := Aside0.mk H
                    clear H
                    have hcz42_0 : wc.cell? ⟨gb174, 0, none⟩ = some (.int .i64 0) := (blk_cell BK174.out 0).trans rfl
                    have hcz42_1 : wc.cell? ⟨gb174, 1, none⟩ = some (.int .i64 0) := (blk_cell BK174.out 1).trans rfl
                    have hcz42_2 : wc.cell? ⟨gb174, 2, none⟩ = some (.string (⟨#[107]⟩ : ByteArray)) := (blk_cell BK174.out 2).trans rfl
                    have hcz42_3 : wc.cell? ⟨gb174, 3, none⟩ = some (.string (rdOf ByteArray.empty y169 (ji18))) := (blk_cell BK174.out 3).trans rfl
                    have hcz42_4 : wc.cell? ⟨gb174, 4, none⟩ = some (.slice none 0 0) := (blk_cell BK174.out 4).trans rfl
                    have hcz42_5 : wc.cell? ⟨gb174, 5, none⟩ = some (.string x175005_32) := (blk_cell BK174.out 5).trans rfl
                    have hfz42_0 := blk_frozen BK174.out 0
                    have hfz42_1 := blk_frozen BK174.out 1
                    have hfz42_2 := blk_frozen BK174.out 2
                    have hfz42_3 := blk_frozen BK174.out 3
                    have hfz42_4 := blk_frozen BK174.out 4
                    have hfz42_5 := blk_frozen BK174.out 5
                    go_wp2_with (first | ((with_reducible refine gate_builtin (b := .append) (xs := #[.tmp 71, .tmp 73]) rfl ?_); at_builtin; refine Kd.S_append k32 (w0 := w) w.heap.size rfl (.tmp 71) (.tmp 73) 22 32 (.agg #[(.int .i64 0), (.int .i64 0), (.string ⟨#[]⟩), (.string ⟨#[]⟩), (.slice none 0 0), (.string ⟨#[]⟩)]) 88 rfl Tryd.underlying22 info32 rfl (by decide) (by omega) u5 x5_2 (⟨0, 0, (⟨#[107]⟩ : ByteArray), (rdOf ByteArray.empty y169 (ji18)), ([] : List (S29)), x175005_32⟩ : S32) [.int .i64 0, .int .i64 0, .string (⟨#[107]⟩ : ByteArray), .string (rdOf ByteArray.empty y169 (ji18)), .slice none 0 0, .string x175005_32] (fun k_ => k_ ≠ gb174) (fun _ => False) rfl rfl ?aP (fun k_ hk_ => hk_.elim) ?aF ?aO ?aB ?aS ?aL ?_; (case aP => exact k32_mkM _ _ _ (⟨0, 0, (⟨#[107]⟩ : ByteArray), (rdOf ByteArray.empty y169 (ji18)), ([] : List (S29)), x175005_32⟩ : S32) (Kd.R_nil _ _ _ _ _)); (case aB => exact (by repeat (first | (with_reducible first | exact HB.out | apply below_alloc | apply pw_below_drewN | apply below_drew1 | refine below_set ?_ GE174.out) | exact HB.out))); (case aF => exact (fun k_ hk => Kd.freshB (g := gb174) (o := .cells #[.int .i64 0, .int .i64 0, .string (⟨#[107]⟩ : ByteArray), .string (rdOf ByteArray.empty y169 (ji18)), .slice none 0 0, .string x175005_32] 32 (0, 0)) (by (with_reducible repeat (first | refine blk_drewN ?_ _ | refine blk_drew ?_ | refine blk_alloc ?_ _)); exact BK174.out) k_ hk)); (case aO => exact (by (with_reducible repeat (first | apply Kd.S_alloc | apply Kd.S_drewN | apply Kd.S_drew)); exact Kd.S_mono HO_5.out (fun k_ hk => ⟨hk, fun e_ => e_⟩))); (case aS => exact (below_size (by repeat (first | (with_reducible first | exact HB.out | apply below_alloc | apply pw_below_drewN | apply below_drew1 | refine below_set ?_ GE174.out) | exact HB.out)))); (case aL => have := LMc41.out; omega); intro v177 w43 ho hb hg hat; rw [← Ny176.out] at ho; have n0_ := Aside0.mk (blk_grown (g := gb174) (o := .cells #[.int .i64 0, .int .i64 0, .string (⟨#[107]⟩ : ByteArray), .string (rdOf ByteArray.empty y169 (ji18)), .slice none 0 0, .string x175005_32] 32 (0, 0)) (by (with_reducible repeat (first | refine blk_drewN ?_ _ | refine blk_drew ?_ | refine blk_alloc ?_ _)); exact BK174.out) hg (Kd.S_away HO_5.out (fun _ hk => hk))); have n1_ := Aside0.mk (hb); have n2_ := Aside0.mk (ho); clear BK174; clear HB; clear HO_5; have BK174 := n0_; have HB := n1_; have HO178 := n2_; clear n0_ n1_ n2_; clear ho hb hg hat))
                    go_meet
                    case rel => exact ⟨_, (y176), (x6_32), (by first | rfl | (simp; done) | exact congrArg Value.bool (nemp _) | exact congrArg Value.bool (emp _) | (simp [*]; done)), H', ⟨by have := HJ2.out; have := HK2.out; have := HJ11.out; have := HJ21.out; have := HJ32.out; first | omega | exact Nat.le_refl _⟩, ⟨by (with_reducible repeat (first | apply Kd.S_alloc | apply Kd.S_drewN | apply Kd.S_drew)); exact Kd.S_mono HO178.out (fun _ hk => trivial)⟩, ⟨by repeat (first | (with_reducible first | exact HB.out | apply below_alloc | apply pw_below_drewN | apply below_drew1 | refine below_set ?_ GE174.out) | exact HB.out)⟩⟩
                   rw [if_neg c41] at H
                   exact absurd H (by simp)
                rw [if_neg c32] at H
                have c32b0 : ((Int.tmod x7_2 2) == 0) = false := beq_eq_false_iff_ne.mpr c32
                have c32b1 : ((Int.tmod x7_2 2) != 0) = true := bne_iff_ne.mpr c32
                by_cases c44 : x6_21.size + 2 ≤ 9223372036854775807
                ·rw [if_pos c44] at H
                 have c44b0 := eq_true c44
                 have c44b1 : decide (x6_21.size + 2 ≤ 9223372036854775807) = true := decide_eq_true c44
                 try have c44b2 : (9223372036854775807 < x6_21.size + 2) = False := eq_false (Nat.not_lt.2 c44)
                 by_cases c45 : x5_2.length < 1599289640401
                 ·rw [if_pos c45] at H
                  have LMc45 := Aside0.mk c45
                  clear c45
                  obtain ⟨y179, hy179⟩ : ∃ y_ : List (S32), y_ = (x5_2 ++ [(⟨0, 0, (⟨#[107]⟩ : ByteArray), (rdOf ByteArray.empty y169 (ji18)), ([] : List (S29)), (⟨#[]⟩ : ByteArray)⟩ : S32)]) := ⟨_, rfl⟩
                  replace H : (cardexlaw10_CanonForms.j5 kj21 l0 a1 y179 (x6_21 ++ (⟨#[47, 62]⟩ : ByteArray)) x7_2) = some r := by first | (rw [hy179]; with_reducible exact H) | (have H2_ := (Option.bind_some _ _).symm.trans H; rw [hy179]; with_reducible exact H2_) | (have H2_ := (Option.bind_some _ _).symm.trans H; with_reducible exact H2_) | with_reducible exact H | (rw [hy179]; exact H) | exact H
                  have Ny179 := Aside0.mk hy179
                  clear hy179
                  have H' := Aside0.mk H
                  clear H
                  have hcz46_0 : wc.cell? ⟨gb174, 0, none⟩ = some (.int .i64 0) := (blk_cell BK174.out 0).trans rfl
                  have hcz46_1 : wc.cell? ⟨gb174, 1, none⟩ = some (.int .i64 0) := (blk_cell BK174.out 1).trans rfl
                  have hcz46_2 : wc.cell? ⟨gb174, 2, none⟩ = some (.string (⟨#[107]⟩ : ByteArray)) := (blk_cell BK174.out 2).trans rfl
                  have hcz46_3 : wc.cell? ⟨gb174, 3, none⟩ = some (.string (rdOf ByteArray.empty y169 (ji18))) := (blk_cell BK174.out 3).trans rfl
                  have hcz46_4 : wc.cell? ⟨gb174, 4, none⟩ = some (.slice none 0 0) := (blk_cell BK174.out 4).trans rfl
                  have hcz46_5 : wc.cell? ⟨gb174, 5, none⟩ = some (.string (⟨#[]⟩ : ByteArray)) := (blk_cell BK174.out 5).trans rfl
                  have hfz46_0 := blk_frozen BK174.out 0
                  have hfz46_1 := blk_frozen BK174.out 1
                  have hfz46_2 := blk_frozen BK174.out 2
                  have hfz46_3 := blk_frozen BK174.out 3
                  have hfz46_4 := blk_frozen BK174.out 4
                  have hfz46_5 := blk_frozen BK174.out 5
                  go_wp2_with (first | ((with_reducible refine gate_builtin (b := .append) (xs := #[.tmp 71, .tmp 73]) rfl ?_); at_builtin; refine Kd.S_append k32 (w0 := w) w.heap.size rfl (.tmp 71) (.tmp 73) 22 32 (.agg #[(.int .i64 0), (.int .i64 0), (.string ⟨#[]⟩), (.string ⟨#[]⟩), (.slice none 0 0), (.string ⟨#[]⟩)]) 88 rfl Tryd.underlying22 info32 rfl (by decide) (by omega) u5 x5_2 (⟨0, 0, (⟨#[107]⟩ : ByteArray), (rdOf ByteArray.empty y169 (ji18)), ([] : List (S29)), (⟨#[]⟩ : ByteArray)⟩ : S32) [.int .i64 0, .int .i64 0, .string (⟨#[107]⟩ : ByteArray), .string (rdOf ByteArray.empty y169 (ji18)), .slice none 0 0, .string (⟨#[]⟩ : ByteArray)] (fun k_ => k_ ≠ gb174) (fun _ => False) rfl rfl ?aP (fun k_ hk_ => hk_.elim) ?aF ?aO ?aB ?aS ?aL ?_; (case aP => exact k32_mkM _ _ _ (⟨0, 0, (⟨#[107]⟩ : ByteArray), (rdOf ByteArray.empty y169 (ji18)), ([] : List (S29)), (⟨#[]⟩ : ByteArray)⟩ : S32) (Kd.R_nil _ _ _ _ _)); (case aB => exact (by repeat (first | (with_reducible first | exact HB.out | apply below_alloc | apply pw_below_drewN | apply below_drew1 | refine below_set ?_ GE174.out) | exact HB.out))); (case aF => exact (fun k_ hk => Kd.freshB (g := gb174) (o := .cells #[.int .i64 0, .int .i64 0, .string (⟨#[107]⟩ : ByteArray), .string (rdOf ByteArray.empty y169 (ji18)), .slice none 0 0, .string (⟨#[]⟩ : ByteArray)] 32 (0, 0)) (by (with_reducible repeat (first | refine blk_drewN ?_ _ | refine blk_drew ?_ | refine blk_alloc ?_ _)); exact BK174.out) k_ hk)); (case aO => exact (by (with_reducible repeat (first | apply Kd.S_alloc | apply Kd.S_drewN | apply Kd.S_drew)); exact Kd.S_mono HO_5.out (fun k_ hk => ⟨hk, fun e_ => e_⟩))); (case aS => exact (below_size (by repeat (first | (with_reducible first | exact HB.out | apply below_alloc | apply pw_below_drewN | apply below_drew1 | refine below_set ?_ GE174.out) | exact HB.out)))); (case aL => have := LMc45.out; omega); intro v180 w47 ho hb hg hat; rw [← Ny179.out] at ho; have n0_ := Aside0.mk (blk_grown (g := gb174) (o := .cells #[.int .i64 0, .int .i64 0, .string (⟨#[107]⟩ : ByteArray), .string (rdOf ByteArray.empty y169 (ji18)), .slice none 0 0, .string (⟨#[]⟩ : ByteArray)] 32 (0, 0)) (by (with_reducible repeat (first | refine blk_drewN ?_ _ | refine blk_drew ?_ | refine blk_alloc ?_ _)); exact BK174.out) hg (Kd.S_away HO_5.out (fun _ hk => hk))); have n1_ := Aside0.mk (hb); have n2_ := Aside0.mk (ho); clear BK174; clear HB; clear HO_5; have BK174 := n0_; have HB := n1_; have HO181 := n2_; clear n0_ n1_ n2_; clear ho hb hg hat))
                  go_meet
                  case rel => exact ⟨_, (y179), (x6_21 ++ (⟨#[47, 62]⟩ : ByteArray)), (by first | rfl | (simp; done) | exact congrArg Value.bool (nemp _) | exact congrArg Value.bool (emp _) | (simp [*]; done)), H', ⟨by have := HJ2.out; have := HK2.out; have := HJ11.out; have := HJ21.out; first | omega | exact Nat.le_refl _⟩, ⟨by (with_reducible repeat (first | apply Kd.S_alloc | apply Kd.S_drewN | apply Kd.S_drew)); exact Kd.S_mono HO181.out (fun _ hk => trivial)⟩, ⟨by repeat (first | (with_reducible first | exact HB.out | apply below_alloc | apply pw_below_drewN | apply below_drew1 | refine below_set ?_ GE174.out) | exact HB.out)⟩⟩
                 rw [if_neg c45] at H
                 exact absurd H (by simp)
                rw [if_neg c44] at H
                exact absurd H (by simp)
             rw [if_neg c21] at H
             exact absurd H (by simp)
            rw [if_neg c20] at H
            exact absurd H (by simp)
           rw [if_neg c19] at H
           exact absurd H (by simp)
          rw [if_neg c17] at H
          exact absurd H (by simp)
         rw [if_neg c16] at H
         exact absurd H (by simp)
        case rest =>
         clear HC15
         try clear c1
         try clear p1
         try clear q1
         try clear hx1
         try clear c2
         try clear p2
         try clear c3
         try clear c4
         try clear c4b0
         try clear c4b1
         try clear c5
         try clear c6
         try clear p6
         try clear c8
         try clear c12
         try clear c13
         try clear c13b0
         try clear c14
         try clear c16
         try clear c16b0
         try clear c17
         try clear c17b0
         try clear p17
         try clear q17
         try clear hx17
         try clear c19
         try clear c19b0
         try clear c20
         try clear c20b0
         try clear c21
         try clear c21b0
         try clear c21b1
         try clear c21b2
         try clear c28
         try clear c28b0
         try clear c28b1
         try clear c29
         try clear c29b0
         try clear c29b1
         try clear c29b2
         try clear c30
         try clear c30b0
         try clear c30b1
         try clear c30b2
         try clear c31
         try clear c31b0
         try clear c31b1
         try clear c31b2
         try clear c32
         try clear c32b0
         try clear c32b1
         try clear c34
         try clear c34b0
         try clear c34b1
         try clear c35
         try clear c35b0
         try clear c35b1
         try clear c35b2
         try clear c36
         try clear c36b0
         try clear c36b1
         try clear c36b2
         try clear c38
         try clear c38b0
         try clear c38b1
         try clear c38b2
         try clear c39
         try clear c39b0
         try clear c39b1
         try clear c39b2
         try clear c41
         try clear c44
         try clear c44b0
         try clear c44b1
         try clear c44b2
         try clear c45
         try clear hcz27_0
         try clear hcz27_1
         try clear hcz27_2
         try clear hcz27_3
         try clear hcz27_4
         try clear hcz27_5
         try clear hcz40_0
         try clear hcz40_1
         try clear hcz40_2
         try clear hcz40_3
         try clear hcz40_4
         try clear hcz40_5
         try clear hcz42_0
         try clear hcz42_1
         try clear hcz42_2
         try clear hcz42_3
         try clear hcz42_4
         try clear hcz42_5
         try clear hcz46_0
         try clear hcz46_1
         try clear hcz46_2
         try clear hcz46_3
         try clear hcz46_4
         try clear hcz46_5
         try clear hfz27_0
         try clear hfz27_1
         try clear hfz27_2
         try clear hfz27_3
         try clear hfz27_4
         try clear hfz27_5
         try clear hfz40_0
         try clear hfz40_1
         try clear hfz40_2
         try clear hfz40_3
         try clear hfz40_4
         try clear hfz40_5
         try clear hfz42_0
         try clear hfz42_1
         try clear hfz42_2
         try clear hfz42_3
         try clear hfz42_4
         try clear hfz42_5
         try clear hfz46_0
         try clear hfz46_1
         try clear hfz46_2
         try clear hfz46_3
         try clear hfz46_4
         try clear hfz46_5
         try clear hx172_0
         try clear hx173_0
         try clear p1
         try clear p17
         try clear p172
         try clear p173
         try clear p2
         try clear p6
         try clear q1
         try clear q17
         try clear q172
         try clear q173
         obtain ⟨kq, x5_14, x6_14, rfl, HA, HJ14, HO_5, HB⟩ := hcut
         cases kq with
         | zero => exact absurd HA.out (by simp [cardexlaw10_CanonForms.j5])
         | succ kj14 =>
          have H := HA.out
          clear HA
          simp only [cardexlaw10_CanonForms.j5] at H
          have H' := Aside0.mk H
          clear H
          go_wp2
          go_roundg kj14
          case measure => have := HJ2.out; have := HK2.out; have := HJ11.out; have := HJ14.out; omega
          case rel => exact ⟨(x5_14), (x6_14), (wrap64 (x7_2 + 1)), (by first | rfl | (simp; done) | exact congrArg Value.bool (nemp _) | exact congrArg Value.bool (emp _) | (simp [*]; done)), (by first | rfl | (simp; done) | exact congrArg Value.bool (nemp _) | exact congrArg Value.bool (emp _) | (simp [*]; done)), H', ⟨by have := HJ2.out; have := HK2.out; have := HJ11.out; have := HJ14.out; omega⟩, ⟨by (with_reducible repeat (first | apply Kd.S_alloc | apply Kd.S_drewN | apply Kd.S_drew)); exact HO_5.out⟩, ⟨by repeat (first | (with_reducible first | exact HB.out | apply below_alloc | apply pw_below_drewN | apply below_drew1) | exact HB.out)⟩⟩
       replace c14 := Bool.eq_false_iff.mpr c14
       subst c14
       have H1 : (if x6_2.size + 4 ≤ 9223372036854775807 then (if (x5_2.length : Int) = 1 then (cardexlaw10_CanonForms.j6 kj11 x5_2 (⟨#[60, 63, 120, 109, 108, 32, 118, 101, 114, 115, 105, 111, 110, 61, 39, 49, 46, 48, 39, 32, 101, 110, 99, 111, 100, 105, 110, 103, 61, 39, 85, 84, 70, 45, 56, 39, 63, 62, 10, 60, 114, 47, 62]⟩ : ByteArray)) else (cardexlaw10_CanonForms.j6 kj11 x5_2 (x6_2 ++ (⟨#[60, 47, 114, 62]⟩ : ByteArray)))) else (none)) = some r := by rw [if_neg (show ¬ (false = true) by decide)] at H; exact H
       clear H
       have H := H1
       clear H1
       by_cases c48 : x6_2.size + 4 ≤ 9223372036854775807
       ·rw [if_pos c48] at H
        have c48b0 := eq_true c48
        have c48b1 : decide (x6_2.size + 4 ≤ 9223372036854775807) = true := decide_eq_true c48
        try have c48b2 : (9223372036854775807 < x6_2.size + 4) = False := eq_false (Nat.not_lt.2 c48)
        have HC49 := Aside0.mk H
        clear H
        obtain ⟨Ao50, co50, eo50⟩ := Kd.S_slice HO_5.out
        subst eo50
        go_upto_if 79 with (fail)
        go_cut [6] (fun v6 wc => ∃ (kq : Nat) (x6_48 : ByteArray), v6 = .string x6_48 ∧ Aside0 (cardexlaw10_CanonForms.j6 kq x5_2 x6_48 = some r) ∧ Aside0 (kq ≤ kj11) ∧ Aside0 (Kd.S k32 32 wc w.heap.size (fun _ => True) (.slice Ao50 x5_2.length co50) x5_2) ∧ Aside0 (Below w.heap.size w wc))
        case first =>
         have H := HC49.out
         clear HC49
         by_cases c51 : (x5_2.length : Int) = 1
         ·rw [if_pos c51] at H
          have c51b0 : ((x5_2.length : Int) == 1) = true := beq_iff_eq.mpr c51
          have c51b1 : ((x5_2.length : Int) != 1) = false := bne_eq_false_iff_eq.mpr c51
          clear c51
          (first | rw [c51b0] | (simp only [i64_w, i32_w]; rw [c51b0]) | (have h_ := c51b0; rw [List.beq_nil_eq] at h_; rw [h_]) | skip)
          have H' := Aside0.mk H
          clear H
          go_wp2
          go_meet
          case rel => exact ⟨_, ((⟨#[60, 63, 120, 109, 108, 32, 118, 101, 114, 115, 105, 111, 110, 61, 39, 49, 46, 48, 39, 32, 101, 110, 99, 111, 100, 105, 110, 103, 61, 39, 85, 84, 70, 45, 56, 39, 63, 62, 10, 60, 114, 47, 62]⟩ : ByteArray)), (by first | rfl | (simp; done) | exact congrArg Value.bool (nemp _) | exact congrArg Value.bool (emp _) | (simp [*]; done)), H', ⟨by have := HJ2.out; have := HK2.out; have := HJ11.out; first | omega | exact Nat.le_refl _⟩, ⟨by (with_reducible repeat (first | apply Kd.S_alloc | apply Kd.S_drewN | apply Kd.S_drew)); exact HO_5.out⟩, ⟨by repeat (first | (with_reducible first | exact HB.out | apply below_alloc | apply pw_below_drewN | apply below_drew1) | exact HB.out)⟩⟩
         rw [if_neg c51] at H
         have c51b0 : ((x5_2.length : Int) == 1) = false := beq_eq_false_iff_ne.mpr c51
         have c51b1 : ((x5_2.length : Int) != 1) = true := bne_iff_ne.mpr c51
         (first | rw [c51b0] | (simp only [i64_w, i32_w]; rw [c51b0]) | (have h_ := c51b0; rw [List.beq_nil_eq] at h_; rw [h_]) | skip)
         have H' := Aside0.mk H
         clear H
         go_wp2
         go_meet
         case rel => exact ⟨_, (x6_2 ++ (⟨#[60, 47, 114, 62]⟩ : ByteArray)), (by first | rfl | (simp; done) | exact congrArg Value.bool (nemp _) | exact congrArg Value.bool (emp _) | (simp [*]; done)), H', ⟨by have := HJ2.out; have := HK2.out; have := HJ11.out; first | omega | exact Nat.le_refl _⟩, ⟨by (with_reducible repeat (first | apply Kd.S_alloc | apply Kd.S_drewN | apply Kd.S_drew)); exact HO_5.out⟩, ⟨by repeat (first | (with_reducible first | exact HB.out | apply below_alloc | apply pw_below_drewN | apply below_drew1) | exact HB.out)⟩⟩
        case rest =>
         clear HC49
         try clear c1
         try clear p1
         try clear q1
         try clear hx1
         try clear c2
         try clear p2
         try clear c3
         try clear c4
         try clear c4b0
         try clear c4b1
         try clear c5
         try clear c6
         try clear p6
         try clear c8
         try clear c12
         try clear c13
         try clear c13b0
         try clear c14
         try clear c16
         try clear c16b0
         try clear c17
         try clear c17b0
         try clear p17
         try clear q17
         try clear hx17
         try clear c19
         try clear c19b0
         try clear c20
         try clear c20b0
         try clear c21
         try clear c21b0
         try clear c21b1
         try clear c21b2
         try clear c28
         try clear c28b0
         try clear c28b1
         try clear c29
         try clear c29b0
         try clear c29b1
         try clear c29b2
         try clear c30
         try clear c30b0
         try clear c30b1
         try clear c30b2
         try clear c31
         try clear c31b0
         try clear c31b1
         try clear c31b2
         try clear c32
         try clear c32b0
         try clear c32b1
         try clear c34
         try clear c34b0
         try clear c34b1
         try clear c35
         try clear c35b0
         try clear c35b1
         try clear c35b2
         try clear c36
         try clear c36b0
         try clear c36b1
         try clear c36b2
         try clear c38
         try clear c38b0
         try clear c38b1
         try clear c38b2
         try clear c39
         try clear c39b0
         try clear c39b1
         try clear c39b2
         try clear c41
         try clear c44
         try clear c44b0
         try clear c44b1
         try clear c44b2
         try clear c45
         try clear c48
         try clear c48b0
         try clear c48b1
         try clear c48b2
         try clear c51
         try clear c51b0
         try clear c51b1
         try clear hcz27_0
         try clear hcz27_1
         try clear hcz27_2
         try clear hcz27_3
         try clear hcz27_4
         try clear hcz27_5
         try clear hcz40_0
         try clear hcz40_1
         try clear hcz40_2
         try clear hcz40_3
         try clear hcz40_4
         try clear hcz40_5
         try clear hcz42_0
         try clear hcz42_1
         try clear hcz42_2
         try clear hcz42_3
         try clear hcz42_4
         try clear hcz42_5
         try clear hcz46_0
         try clear hcz46_1
         try clear hcz46_2
         try clear hcz46_3
         try clear hcz46_4
         try clear hcz46_5
         try clear hfz27_0
         try clear hfz27_1
         try clear hfz27_2
         try clear hfz27_3
         try clear hfz27_4
         try clear hfz27_5
         try clear hfz40_0
         try clear hfz40_1
         try clear hfz40_2
         try clear hfz40_3
         try clear hfz40_4
         try clear hfz40_5
         try clear hfz42_0
         try clear hfz42_1
         try clear hfz42_2
         try clear hfz42_3
         try clear hfz42_4
         try clear hfz42_5
         try clear hfz46_0
         try clear hfz46_1
         try clear hfz46_2
         try clear hfz46_3
         try clear hfz46_4
         try clear hfz46_5
         try clear hx172_0
         try clear hx173_0
         try clear p1
         try clear p17
         try clear p172
         try clear p173
         try clear p2
         try clear p6
         try clear q1
         try clear q17
         try clear q172
         try clear q173
         obtain ⟨kq, x6_48, rfl, HA, HJ48, HO_5, HB⟩ := hcut
         cases kq with
         | zero => exact absurd HA.out (by simp [cardexlaw10_CanonForms.j6])
         | succ kj48 =>
          have H := HA.out
          clear HA
          simp only [cardexlaw10_CanonForms.j6] at H
          replace H := Option.bind_eq_some_iff.mp H
          obtain ⟨⟨t182, t183⟩, A520, H⟩ := H
          replace H : ((cardexlaw10_awake.f kj48).bind fun t184 => (if t184 = true then (if t183 = 0 then (cardexlaw10_CanonForms.j7 kj48 (t182.toList == x6_48.toList)) else (cardexlaw10_CanonForms.j7 kj48 false)) else (cardexlaw10_CanonForms.j7 kj48 false))) = some r := H
          have A52 := Aside0.mk A520
          clear A520
          have HC53 := Aside0.mk H
          clear H
          go_upto_region 22 with (first | ((with_reducible refine gate_callee (f := 7) rfl ?_); refine goesL_ (some 82) rfl rfl Tryd.func7 (by kernel_rfl) rfl #[.slice Ao50 x5_2.length co50] rfl (by (try simp only [List.map_toArray, List.map_cons, List.map_nil]); first | done | rfl | (simp only [List.length_drop, List.length_take]; rfl)) ?_; (with_reducible refine (canon_Write.calls kj48 _ _ x5_2 t182 t183 _ ?side1 ?side2 A52.out (tabs_b HT.out (by repeat (first | (with_reducible first | exact HB.out | apply below_alloc | apply pw_below_drewN | apply below_drew1) | exact HB.out)))).mono ?_); (case side1 => repeat (first | exact (Kd.S_reads' HO_5.out).2.2 | (with_reducible refine Kd.C_alloc ?_ _) | (with_reducible refine Kd.C_drewN ?_ _) | (with_reducible refine Kd.C_drew ?_))); (case side2 => exact (Kd.S_reads' HO_5.out).2.1); rintro e w54 ⟨rfl, hb⟩; refine ⟨_, rfl, ?_⟩; have n0_ := Aside0.mk (Kd.S_below (by (with_reducible repeat (first | apply Kd.S_alloc | apply Kd.S_drewN | apply Kd.S_drew)); exact HO_5.out) hb); have n1_ := Aside0.mk (below_step (by repeat (first | (with_reducible first | exact HB.out | apply below_alloc | apply pw_below_drewN | apply below_drew1) | exact HB.out)) hb); clear HO_5; clear HB; have HO_5 := n0_; have HB := n1_; clear n0_ n1_; (try clear hb); (try clear hb2); (try clear hk); (try clear hi)))
          (try simp only [Act.put, setIfInBounds_toArray, set_cons_zero, set_cons_succ])
          go_cut [4] (fun v4 wc => ∃ (kq : Nat) (x4_52 : Bool), v4 = .bool x4_52 ∧ Aside0 (cardexlaw10_CanonForms.j7 kq x4_52 = some r) ∧ Aside0 (kq ≤ kj48) ∧ Aside0 (Below w.heap.size w wc))
          case first =>
           have H := HC53.out
           clear HC53
           replace H := Option.bind_eq_some_iff.mp H
           obtain ⟨t184, A550, H⟩ := H
           replace H : (if t184 = true then (if t183 = 0 then (cardexlaw10_CanonForms.j7 kj48 (t182.toList == x6_48.toList)) else (cardexlaw10_CanonForms.j7 kj48 false)) else (cardexlaw10_CanonForms.j7 kj48 false)) = some r := H
           have A55 := Aside0.mk A550
           clear A550
           by_cases c56 : t184 = true
           ·subst c56
            have H1 : (if t183 = 0 then (cardexlaw10_CanonForms.j7 kj48 (t182.toList == x6_48.toList)) else (cardexlaw10_CanonForms.j7 kj48 false)) = some r := by rw [if_pos rfl] at H; exact H
            clear H
            have H := H1
            clear H1
            by_cases c57 : t183 = 0
            ·rw [if_pos c57] at H
             have c57b0 : (t183 == 0) = true := beq_iff_eq.mpr c57
             have c57b1 : (t183 != 0) = false := bne_eq_false_iff_eq.mpr c57
             clear c57
             (first | rw [c57b0] | (simp only [i64_w, i32_w]; rw [c57b0]) | (have h_ := c57b0; rw [List.beq_nil_eq] at h_; rw [h_]) | skip)
             have H' := Aside0.mk H
             clear H
             go_wp2_with (first | ((with_reducible refine gate_callee (f := 6) rfl ?_); refine goesL_ (some 85) rfl rfl Tryd.func6 (by kernel_rfl) rfl #[] rfl (by (try simp only [List.map_toArray, List.map_cons, List.map_nil]); first | done | rfl | (simp only [List.length_drop, List.length_take]; rfl)) ?_; (with_reducible refine (cardexlaw10_awake.calls kj48  true _ A55.out (tabs_b HT.out (by repeat (first | (with_reducible first | exact HB.out | apply below_alloc | apply pw_below_drewN | apply below_drew1) | exact HB.out)))).mono ?_); rintro e w58 ⟨rfl, hb⟩; refine ⟨_, rfl, ?_⟩; have n0_ := Aside0.mk (Kd.S_below (by (with_reducible repeat (first | apply Kd.S_alloc | apply Kd.S_drewN | apply Kd.S_drew)); exact HO_5.out) hb); have n1_ := Aside0.mk (below_step (by repeat (first | (with_reducible first | exact HB.out | apply below_alloc | apply pw_below_drewN | apply below_drew1) | exact HB.out)) hb); clear HO_5; clear HB; have HO_5 := n0_; have HB := n1_; clear n0_ n1_; (try clear hb); (try clear hb2); (try clear hk); (try clear hi)))
             go_meet
             case rel => exact ⟨_, ((t182.toList == x6_48.toList)), (by first | rfl | (simp; done) | exact congrArg Value.bool (nemp _) | exact congrArg Value.bool (emp _) | (simp [*]; done)), H', ⟨by have := HJ2.out; have := HK2.out; have := HJ11.out; have := HJ48.out; first | omega | exact Nat.le_refl _⟩, ⟨by repeat (first | (with_reducible first | exact HB.out | apply below_alloc | apply pw_below_drewN | apply below_drew1) | exact HB.out)⟩⟩
            rw [if_neg c57] at H
            have c57b0 : (t183 == 0) = false := beq_eq_false_iff_ne.mpr c57
            have c57b1 : (t183 != 0) = true := bne_iff_ne.mpr c57
            (first | rw [c57b0] | (simp only [i64_w, i32_w]; rw [c57b0]) | (have h_ := c57b0; rw [List.beq_nil_eq] at h_; rw [h_]) | skip)
            have H' := Aside0.mk H
            clear H
            go_wp2_with (first | ((with_reducible refine gate_callee (f := 6) rfl ?_); refine goesL_ (some 85) rfl rfl Tryd.func6 (by kernel_rfl) rfl #[] rfl (by (try simp only [List.map_toArray, List.map_cons, List.map_nil]); first | done | rfl | (simp only [List.length_drop, List.length_take]; rfl)) ?_; (with_reducible refine (cardexlaw10_awake.calls kj48  true _ A55.out (tabs_b HT.out (by repeat (first | (with_reducible first | exact HB.out | apply below_alloc | apply pw_below_drewN | apply below_drew1) | exact HB.out)))).mono ?_); rintro e w59 ⟨rfl, hb⟩; refine ⟨_, rfl, ?_⟩; have n0_ := Aside0.mk (Kd.S_below (by (with_reducible repeat (first | apply Kd.S_alloc | apply Kd.S_drewN | apply Kd.S_drew)); exact HO_5.out) hb); have n1_ := Aside0.mk (below_step (by repeat (first | (with_reducible first | exact HB.out | apply below_alloc | apply pw_below_drewN | apply below_drew1) | exact HB.out)) hb); clear HO_5; clear HB; have HO_5 := n0_; have HB := n1_; clear n0_ n1_; (try clear hb); (try clear hb2); (try clear hk); (try clear hi)))
            go_meet
            case rel => exact ⟨_, (false), (by first | rfl | (simp; done) | exact congrArg Value.bool (nemp _) | exact congrArg Value.bool (emp _) | (simp [*]; done)), H', ⟨by have := HJ2.out; have := HK2.out; have := HJ11.out; have := HJ48.out; first | omega | exact Nat.le_refl _⟩, ⟨by repeat (first | (with_reducible first | exact HB.out | apply below_alloc | apply pw_below_drewN | apply below_drew1) | exact HB.out)⟩⟩
           replace c56 := Bool.eq_false_iff.mpr c56
           subst c56
           have H1 : (cardexlaw10_CanonForms.j7 kj48 false) = some r := by rw [if_neg (show ¬ (false = true) by decide)] at H; exact H
           clear H
           have H := H1
           clear H1
           have H' := Aside0.mk H
           clear H
           go_wp2_with (first | ((with_reducible refine gate_callee (f := 6) rfl ?_); refine goesL_ (some 85) rfl rfl Tryd.func6 (by kernel_rfl) rfl #[] rfl (by (try simp only [List.map_toArray, List.map_cons, List.map_nil]); first | done | rfl | (simp only [List.length_drop, List.length_take]; rfl)) ?_; (with_reducible refine (cardexlaw10_awake.calls kj48  false _ A55.out (tabs_b HT.out (by repeat (first | (with_reducible first | exact HB.out | apply below_alloc | apply pw_below_drewN | apply below_drew1) | exact HB.out)))).mono ?_); rintro e w60 ⟨rfl, hb⟩; refine ⟨_, rfl, ?_⟩; have n0_ := Aside0.mk (Kd.S_below (by (with_reducible repeat (first | apply Kd.S_alloc | apply Kd.S_drewN | apply Kd.S_drew)); exact HO_5.out) hb); have n1_ := Aside0.mk (below_step (by repeat (first | (with_reducible first | exact HB.out | apply below_alloc | apply pw_below_drewN | apply below_drew1) | exact HB.out)) hb); clear HO_5; clear HB; have HO_5 := n0_; have HB := n1_; clear n0_ n1_; (try clear hb); (try clear hb2); (try clear hk); (try clear hi)))
           go_meet
           case rel => exact ⟨_, (false), (by first | rfl | (simp; done) | exact congrArg Value.bool (nemp _) | exact congrArg Value.bool (emp _) | (simp [*]; done)), H', ⟨by have := HJ2.out; have := HK2.out; have := HJ11.out; have := HJ48.out; first | omega | exact Nat.le_refl _⟩, ⟨by repeat (first | (with_reducible first | exact HB.out | apply below_alloc | apply pw_below_drewN | apply below_drew1) | exact HB.out)⟩⟩
          case rest =>
           clear HC53
           try clear c1
           try clear p1
           try clear q1
           try clear hx1
           try clear c2
           try clear p2
           try clear c3
           try clear c4
           try clear c4b0
           try clear c4b1
           try clear c5
           try clear c6
           try clear p6
           try clear c7
           try clear c8
           try clear c12
           try clear c13
           try clear c13b0
           try clear c14
           try clear c16
           try clear c16b0
           try clear c17
           try clear c17b0
           try clear p17
           try clear q17
           try clear hx17
           try clear c19
           try clear c19b0
           try clear c20
           try clear c20b0
           try clear c21
           try clear c21b0
           try clear c21b1
           try clear c21b2
           try clear c28
           try clear c28b0
           try clear c28b1
           try clear c29
           try clear c29b0
           try clear c29b1
           try clear c29b2
           try clear c30
           try clear c30b0
           try clear c30b1
           try clear c30b2
           try clear c31
           try clear c31b0
           try clear c31b1
           try clear c31b2
           try clear c32
           try clear c32b0
           try clear c32b1
           try clear c34
           try clear c34b0
           try clear c34b1
           try clear c35
           try clear c35b0
           try clear c35b1
           try clear c35b2
           try clear c36
           try clear c36b0
           try clear c36b1
           try clear c36b2
           try clear c38
           try clear c38b0
           try clear c38b1
           try clear c38b2
           try clear c39
           try clear c39b0
           try clear c39b1
           try clear c39b2
           try clear c41
           try clear c44
           try clear c44b0
           try clear c44b1
           try clear c44b2
           try clear c45
           try clear c48
           try clear c48b0
           try clear c48b1
           try clear c48b2
           try clear c51
           try clear c51b0
           try clear c51b1
           try clear c56
           try clear c57
           try clear c57b0
           try clear c57b1
           try clear hcz27_0
           try clear hcz27_1
           try clear hcz27_2
           try clear hcz27_3
           try clear hcz27_4
           try clear hcz27_5
           try clear hcz40_0
           try clear hcz40_1
           try clear hcz40_2
           try clear hcz40_3
           try clear hcz40_4
           try clear hcz40_5
           try clear hcz42_0
           try clear hcz42_1
           try clear hcz42_2
           try clear hcz42_3
           try clear hcz42_4
           try clear hcz42_5
           try clear hcz46_0
           try clear hcz46_1
           try clear hcz46_2
           try clear hcz46_3
           try clear hcz46_4
           try clear hcz46_5
           try clear hfz27_0
           try clear hfz27_1
           try clear hfz27_2
           try clear hfz27_3
           try clear hfz27_4
           try clear hfz27_5
           try clear hfz40_0
           try clear hfz40_1
           try clear hfz40_2
           try clear hfz40_3
           try clear hfz40_4
           try clear hfz40_5
           try clear hfz42_0
           try clear hfz42_1
           try clear hfz42_2
           try clear hfz42_3
           try clear hfz42_4
           try clear hfz42_5
           try clear hfz46_0
           try clear hfz46_1
           try clear hfz46_2
           try clear hfz46_3
           try clear hfz46_4
           try clear hfz46_5
           try clear hx172_0
           try clear hx173_0
           try clear p1
           try clear p17
           try clear p172
           try clear p173
           try clear p2
           try clear p6
           try clear q1
           try clear q17
           try clear q172
           try clear q173
           obtain ⟨kq, x4_52, rfl, HA, HJ52, HB⟩ := hcut
           cases kq with
           | zero => exact absurd HA.out (by simp [cardexlaw10_CanonForms.j7])
           | succ kj52 =>
            have H := HA.out
            clear HA
            simp only [cardexlaw10_CanonForms.j7] at H
            by_cases c61 : x4_52 = true
            ·subst c61
             have H1 : (some true) = some r := by rw [if_pos rfl] at H; exact H
             clear H
             have H := H1
             clear H1
             obtain rfl := Option.some.inj H
             go_wp2
             go_ret
             exact ⟨by first | rfl | (simp only [nemp]; rfl) | (simp [errW_none, errW_some] <;> rfl) | (simp [*, errW_none, errW_some] <;> rfl), by repeat (first | (with_reducible first | exact HB.out | apply below_alloc | apply pw_below_drewN | apply below_drew1) | exact HB.out)⟩
            replace c61 := Bool.eq_false_iff.mpr c61
            subst c61
            have H1 : (some false) = some r := by rw [if_neg (show ¬ (false = true) by decide)] at H; exact H
            clear H
            have H := H1
            clear H1
            exact absurd ((Option.some.inj H).trans HLAW.out) (by decide)
       rw [if_neg c48] at H
       exact absurd H (by simp)
end Go.Proofs.YtgacmniagmfckaaDoor.Q
