-- Written by hookprint.py (wip/) of this session: the kit's print with hand-proved functions beside it. Not trusted: Lean checks it.
import Derived.Test.YtgacmniagmfckaaDoorQ0
import Derived.Test.YtgacmniagmfckaaDoorQ6
import Derived.Test.YtgacmniagmfckaaDoorQ11
namespace Go.Proofs.YtgacmniagmfckaaDoor.Q
open List (setIfInBounds_toArray set_cons_zero set_cons_succ)
open Go.RowKit Go.Lib Go.Proofs.YtgacmniagmfckaaDoorX Go.Proofs.YtgacmniagmfckaaDoorW.PrintWords Go.Proofs.YtgacmniagmfckaaDoorW.PrintLast Go.Proofs.YtgacmniagmfckaaDoorW.PrintMore
set_option linter.unusedVariables false
set_option linter.unusedSimpArgs false
mutual
def cardexref08_write.j0 : Nat → List (S32) → Int → ByteArray → Int → Int → ByteArray → ByteArray → List (S29) → ByteArray → Option (ByteArray)
 | 0, _, _, _, _, _, _, _, _, _ => none
 | k + 1, x0, x1, x8, x213000, x213001, x213002, x213003, x213004, x213005 => cardexref08_write.l0 k x0 x1 x8 0 x213000 x213001 x213002 x213003 x213004 x213005
def cardexref08_write.l0 : Nat → List (S32) → Int → ByteArray → Int → Int → Int → ByteArray → ByteArray → List (S29) → ByteArray → Option (ByteArray)
 | 0, _, _, _, _, _, _, _, _, _, _ => none
 | k + 1, x0, x1, x8, x9, x213000, x213001, x213002, x213003, x213004, x213005 => if x9 < (x213004.length : Int) then (if x8.size + 1 ≤ 9223372036854775807 then (if 0 ≤ x9 then (if (x8 ++ (⟨#[32]⟩ : ByteArray)).size + ((rd_T29 x213004 x9).f0).size ≤ 9223372036854775807 then (if ((x8 ++ (⟨#[32]⟩ : ByteArray)) ++ ((rd_T29 x213004 x9).f0)).size + 2 ≤ 9223372036854775807 then ((cardexref01_Escape.f k ((rd_T29 x213004 x9).f1)).bind fun t216 => (if (((x8 ++ (⟨#[32]⟩ : ByteArray)) ++ ((rd_T29 x213004 x9).f0)) ++ (⟨#[61, 39]⟩ : ByteArray)).size + t216.size ≤ 9223372036854775807 then (if ((((x8 ++ (⟨#[32]⟩ : ByteArray)) ++ ((rd_T29 x213004 x9).f0)) ++ (⟨#[61, 39]⟩ : ByteArray)) ++ t216).size + 1 ≤ 9223372036854775807 then (cardexref08_write.l0 k x0 x1 (((((x8 ++ (⟨#[32]⟩ : ByteArray)) ++ ((rd_T29 x213004 x9).f0)) ++ (⟨#[61, 39]⟩ : ByteArray)) ++ t216) ++ (⟨#[39]⟩ : ByteArray)) (wrap64 (x9 + 1)) x213000 x213001 x213002 x213003 x213004 x213005) else (none)) else (none))) else (none)) else (none)) else (none)) else (none)) else ((cardexref08_Kids.f k x0 x1).bind fun t217 => (if x213005.toList = ([] : List UInt8) then (cardexref08_write.j2 k x0 x8 t217 ((t217.length : Int) == 0) x213000 x213001 x213002 x213003 x213004 x213005) else (cardexref08_write.j2 k x0 x8 t217 false x213000 x213001 x213002 x213003 x213004 x213005)))
def cardexref08_write.j2 : Nat → List (S32) → ByteArray → List Int → Bool → Int → Int → ByteArray → ByteArray → List (S29) → ByteArray → Option (ByteArray)
 | 0, _, _, _, _, _, _, _, _, _, _ => none
 | k + 1, x0, x8, x10, x66, x213000, x213001, x213002, x213003, x213004, x213005 => if x66 = true then (if x8.size + 2 ≤ 9223372036854775807 then (some (x8 ++ (⟨#[47, 62]⟩ : ByteArray))) else (none)) else (if x8.size + 1 ≤ 9223372036854775807 then ((cardexref01_Escape.f k x213005).bind fun t220 => (if (x8 ++ (⟨#[62]⟩ : ByteArray)).size + t220.size ≤ 9223372036854775807 then (cardexref08_write.l1 k x0 ((x8 ++ (⟨#[62]⟩ : ByteArray)) ++ t220) x10 0 x213000 x213001 x213002 x213003 x213004 x213005) else (none))) else (none))
def cardexref08_write.l1 : Nat → List (S32) → ByteArray → List Int → Int → Int → Int → ByteArray → ByteArray → List (S29) → ByteArray → Option (ByteArray)
 | 0, _, _, _, _, _, _, _, _, _, _ => none
 | k + 1, x0, x8, x10, x11, x213000, x213001, x213002, x213003, x213004, x213005 => if x11 < (x10.length : Int) then (if 0 ≤ x11 then ((cardexref08_write.f k x0 (rd x10 x11) x213003).bind fun t222 => (if x8.size + t222.size ≤ 9223372036854775807 then (cardexref08_write.l1 k x0 (x8 ++ t222) x10 (wrap64 (x11 + 1)) x213000 x213001 x213002 x213003 x213004 x213005) else (none))) else (none)) else (if x8.size + 2 ≤ 9223372036854775807 then (if (x8 ++ (⟨#[60, 47]⟩ : ByteArray)).size + x213002.size ≤ 9223372036854775807 then (if ((x8 ++ (⟨#[60, 47]⟩ : ByteArray)) ++ x213002).size + 1 ≤ 9223372036854775807 then (some (((x8 ++ (⟨#[60, 47]⟩ : ByteArray)) ++ x213002) ++ (⟨#[62]⟩ : ByteArray))) else (none)) else (none)) else (none))
def cardexref08_write.f : Nat → List (S32) → Int → ByteArray → Option (ByteArray)
 | 0, _, _, _ => none
 | k + 1, l0, a1, a2 => if 0 ≤ a1 then (if a1 < (l0.length : Int) then (if 1 + ((rd_T32 l0 a1).f2).size ≤ 9223372036854775807 then (if ((rd_T32 l0 a1).f3).toList = a2.toList then (cardexref08_write.j0 k l0 a1 ((⟨#[60]⟩ : ByteArray) ++ ((rd_T32 l0 a1).f2)) ((rd_T32 l0 a1).f0) ((rd_T32 l0 a1).f1) ((rd_T32 l0 a1).f2) ((rd_T32 l0 a1).f3) ((rd_T32 l0 a1).f4) ((rd_T32 l0 a1).f5)) else (if ((⟨#[60]⟩ : ByteArray) ++ ((rd_T32 l0 a1).f2)).size + 8 ≤ 9223372036854775807 then ((cardexref01_Escape.f k ((rd_T32 l0 a1).f3)).bind fun t213 => (if (((⟨#[60]⟩ : ByteArray) ++ ((rd_T32 l0 a1).f2)) ++ (⟨#[32, 120, 109, 108, 110, 115, 61, 39]⟩ : ByteArray)).size + t213.size ≤ 9223372036854775807 then (if ((((⟨#[60]⟩ : ByteArray) ++ ((rd_T32 l0 a1).f2)) ++ (⟨#[32, 120, 109, 108, 110, 115, 61, 39]⟩ : ByteArray)) ++ t213).size + 1 ≤ 9223372036854775807 then (cardexref08_write.j0 k l0 a1 (((((⟨#[60]⟩ : ByteArray) ++ ((rd_T32 l0 a1).f2)) ++ (⟨#[32, 120, 109, 108, 110, 115, 61, 39]⟩ : ByteArray)) ++ t213) ++ (⟨#[39]⟩ : ByteArray)) ((rd_T32 l0 a1).f0) ((rd_T32 l0 a1).f1) ((rd_T32 l0 a1).f2) ((rd_T32 l0 a1).f3) ((rd_T32 l0 a1).f4) ((rd_T32 l0 a1).f5)) else (none)) else (none))) else (none))) else (none)) else (none)) else (none)
end
theorem cardexref08_write.mono_l : ∀ k, (∀ y0 y1 y2, LeO (cardexref08_write.f k y0 y1 y2) (cardexref08_write.f (k + 1) y0 y1 y2)) ∧ (∀ y0 y1 y2 y3 y4 y5 y6 y7 y8, LeO (cardexref08_write.j0 k y0 y1 y2 y3 y4 y5 y6 y7 y8) (cardexref08_write.j0 (k + 1) y0 y1 y2 y3 y4 y5 y6 y7 y8)) ∧ (∀ y0 y1 y2 y3 y4 y5 y6 y7 y8 y9, LeO (cardexref08_write.l0 k y0 y1 y2 y3 y4 y5 y6 y7 y8 y9) (cardexref08_write.l0 (k + 1) y0 y1 y2 y3 y4 y5 y6 y7 y8 y9)) ∧ (∀ y0 y1 y2 y3 y4 y5 y6 y7 y8 y9, LeO (cardexref08_write.j2 k y0 y1 y2 y3 y4 y5 y6 y7 y8 y9) (cardexref08_write.j2 (k + 1) y0 y1 y2 y3 y4 y5 y6 y7 y8 y9)) ∧ (∀ y0 y1 y2 y3 y4 y5 y6 y7 y8 y9, LeO (cardexref08_write.l1 k y0 y1 y2 y3 y4 y5 y6 y7 y8 y9) (cardexref08_write.l1 (k + 1) y0 y1 y2 y3 y4 y5 y6 y7 y8 y9))
 | 0 => ⟨fun _ _ _ r h => by simp [cardexref08_write.f] at h, fun _ _ _ _ _ _ _ _ _ r h => by simp [cardexref08_write.j0] at h, fun _ _ _ _ _ _ _ _ _ _ r h => by simp [cardexref08_write.l0] at h, fun _ _ _ _ _ _ _ _ _ _ r h => by simp [cardexref08_write.j2] at h, fun _ _ _ _ _ _ _ _ _ _ r h => by simp [cardexref08_write.l1] at h⟩
 | k + 1 => by
  obtain ⟨ih0, ih1, ih2, ih3, ih4⟩ := cardexref08_write.mono_l k
  refine ⟨?_, ?_, ?_, ?_, ?_⟩
  ·intro y0 y1 y2
   unfold cardexref08_write.f
   repeat' first
   | (with_reducible exact ih0 _ _ _)
   | (with_reducible exact ih1 _ _ _ _ _ _ _ _ _)
   | (with_reducible exact ih2 _ _ _ _ _ _ _ _ _ _)
   | (with_reducible exact ih3 _ _ _ _ _ _ _ _ _ _)
   | (with_reducible exact ih4 _ _ _ _ _ _ _ _ _ _)
   | (with_reducible exact cardexref01_Escape.mono _ _)
   | (with_reducible exact cardexref08_Kids.mono _ _ _)
   | (with_reducible exact LeO.refl _)
   | (with_reducible exact LeO.none _)
   | (with_reducible refine LeO.ite ?_ ?_)
   | (with_reducible refine LeO.bind ?_ (fun _ => ?_))
   | exact ih0 _ _ _
   | exact ih1 _ _ _ _ _ _ _ _ _
   | exact ih2 _ _ _ _ _ _ _ _ _ _
   | exact ih3 _ _ _ _ _ _ _ _ _ _
   | exact ih4 _ _ _ _ _ _ _ _ _ _
   | exact cardexref01_Escape.mono _ _
   | exact cardexref08_Kids.mono _ _ _
   | exact LeO.none _
   | refine LeO.ite ?_ ?_
   | refine LeO.bind ?_ (fun _ => ?_)
  ·intro y0 y1 y2 y3 y4 y5 y6 y7 y8
   unfold cardexref08_write.j0
   repeat' first
   | (with_reducible exact ih0 _ _ _)
   | (with_reducible exact ih1 _ _ _ _ _ _ _ _ _)
   | (with_reducible exact ih2 _ _ _ _ _ _ _ _ _ _)
   | (with_reducible exact ih3 _ _ _ _ _ _ _ _ _ _)
   | (with_reducible exact ih4 _ _ _ _ _ _ _ _ _ _)
   | (with_reducible exact cardexref01_Escape.mono _ _)
   | (with_reducible exact cardexref08_Kids.mono _ _ _)
   | (with_reducible exact LeO.refl _)
   | (with_reducible exact LeO.none _)
   | (with_reducible refine LeO.ite ?_ ?_)
   | (with_reducible refine LeO.bind ?_ (fun _ => ?_))
   | exact ih0 _ _ _
   | exact ih1 _ _ _ _ _ _ _ _ _
   | exact ih2 _ _ _ _ _ _ _ _ _ _
   | exact ih3 _ _ _ _ _ _ _ _ _ _
   | exact ih4 _ _ _ _ _ _ _ _ _ _
   | exact cardexref01_Escape.mono _ _
   | exact cardexref08_Kids.mono _ _ _
   | exact LeO.none _
   | refine LeO.ite ?_ ?_
   | refine LeO.bind ?_ (fun _ => ?_)
  ·intro y0 y1 y2 y3 y4 y5 y6 y7 y8 y9
   unfold cardexref08_write.l0
   repeat' first
   | (with_reducible exact ih0 _ _ _)
   | (with_reducible exact ih1 _ _ _ _ _ _ _ _ _)
   | (with_reducible exact ih2 _ _ _ _ _ _ _ _ _ _)
   | (with_reducible exact ih3 _ _ _ _ _ _ _ _ _ _)
   | (with_reducible exact ih4 _ _ _ _ _ _ _ _ _ _)
   | (with_reducible exact cardexref01_Escape.mono _ _)
   | (with_reducible exact cardexref08_Kids.mono _ _ _)
   | (with_reducible exact LeO.refl _)
   | (with_reducible exact LeO.none _)
   | (with_reducible refine LeO.ite ?_ ?_)
   | (with_reducible refine LeO.bind ?_ (fun _ => ?_))
   | exact ih0 _ _ _
   | exact ih1 _ _ _ _ _ _ _ _ _
   | exact ih2 _ _ _ _ _ _ _ _ _ _
   | exact ih3 _ _ _ _ _ _ _ _ _ _
   | exact ih4 _ _ _ _ _ _ _ _ _ _
   | exact cardexref01_Escape.mono _ _
   | exact cardexref08_Kids.mono _ _ _
   | exact LeO.none _
   | refine LeO.ite ?_ ?_
   | refine LeO.bind ?_ (fun _ => ?_)
  ·intro y0 y1 y2 y3 y4 y5 y6 y7 y8 y9
   unfold cardexref08_write.j2
   repeat' first
   | (with_reducible exact ih0 _ _ _)
   | (with_reducible exact ih1 _ _ _ _ _ _ _ _ _)
   | (with_reducible exact ih2 _ _ _ _ _ _ _ _ _ _)
   | (with_reducible exact ih3 _ _ _ _ _ _ _ _ _ _)
   | (with_reducible exact ih4 _ _ _ _ _ _ _ _ _ _)
   | (with_reducible exact cardexref01_Escape.mono _ _)
   | (with_reducible exact cardexref08_Kids.mono _ _ _)
   | (with_reducible exact LeO.refl _)
   | (with_reducible exact LeO.none _)
   | (with_reducible refine LeO.ite ?_ ?_)
   | (with_reducible refine LeO.bind ?_ (fun _ => ?_))
   | exact ih0 _ _ _
   | exact ih1 _ _ _ _ _ _ _ _ _
   | exact ih2 _ _ _ _ _ _ _ _ _ _
   | exact ih3 _ _ _ _ _ _ _ _ _ _
   | exact ih4 _ _ _ _ _ _ _ _ _ _
   | exact cardexref01_Escape.mono _ _
   | exact cardexref08_Kids.mono _ _ _
   | exact LeO.none _
   | refine LeO.ite ?_ ?_
   | refine LeO.bind ?_ (fun _ => ?_)
  intro y0 y1 y2 y3 y4 y5 y6 y7 y8 y9
  unfold cardexref08_write.l1
  repeat' first
  | (with_reducible exact ih0 _ _ _)
  | (with_reducible exact ih1 _ _ _ _ _ _ _ _ _)
  | (with_reducible exact ih2 _ _ _ _ _ _ _ _ _ _)
  | (with_reducible exact ih3 _ _ _ _ _ _ _ _ _ _)
  | (with_reducible exact ih4 _ _ _ _ _ _ _ _ _ _)
  | (with_reducible exact cardexref01_Escape.mono _ _)
  | (with_reducible exact cardexref08_Kids.mono _ _ _)
  | (with_reducible exact LeO.refl _)
  | (with_reducible exact LeO.none _)
  | (with_reducible refine LeO.ite ?_ ?_)
  | (with_reducible refine LeO.bind ?_ (fun _ => ?_))
  | exact ih0 _ _ _
  | exact ih1 _ _ _ _ _ _ _ _ _
  | exact ih2 _ _ _ _ _ _ _ _ _ _
  | exact ih3 _ _ _ _ _ _ _ _ _ _
  | exact ih4 _ _ _ _ _ _ _ _ _ _
  | exact cardexref01_Escape.mono _ _
  | exact cardexref08_Kids.mono _ _ _
  | exact LeO.none _
  | refine LeO.ite ?_ ?_
  | refine LeO.bind ?_ (fun _ => ?_)
theorem cardexref08_write.mono : ∀ a0 a1 a2 k, LeO (cardexref08_write.f k a0 a1 a2) (cardexref08_write.f (k + 1) a0 a1 a2) := by
 intro a0 a1 a2 k
 obtain ⟨ih0, ih1, ih2, ih3, ih4⟩ := cardexref08_write.mono_l k
 exact ih0 a0 a1 a2
def cardexref08_write.T8 : Bool × List (List Nat × List Nat) := (true, [([], []), ([0], [0]), ([], []), ([2], [2]), ([], []), ([3, 4], [3, 4]), ([5], [5]), ([6], [6]), ([1, 7], [1, 7]), ([8], [8]), ([], []), ([10], [10]), ([], []), ([11, 12], [11, 12]), ([13], [13]), ([14], [14]), ([15], [15]), ([9, 16], [9, 16]), ([17], [17]), ([18, 16, 0, 1, 2, 3, 4, 5, 6, 7, 8, 9, 10, 11, 12, 13, 14, 15, 16, 17, 18], [0, 18])])
def cardexref08_write.B8 : List Nat := [0, 1, 0, 4, 0, 28, 60, 124, 255, 511, 0, 1024, 0, 7168, 15360, 31744, 64512, 131071, 262143, 524287]
theorem cardexref08_write.tab8 : rtab .any (opsOf Tryd.f16 8) = cardexref08_write.T8 := by kernel_rfl
theorem cardexref08_write.bits8 : waitsOk cardexref08_write.T8.2 cardexref08_write.B8 = true := by kernel_rfl
def cardexref08_write.T16 : Bool × List (List Nat × List Nat) := (true, [([], []), ([], []), ([], []), ([], []), ([2, 3], [2, 3]), ([4], [4]), ([], []), ([6], [6]), ([1, 5, 7], [1, 5, 7]), ([0, 8], [0, 8]), ([9, 8, 0, 1, 2, 3, 4, 5, 6, 7, 8, 9], [0, 9])])
def cardexref08_write.B16 : List Nat := [0, 0, 0, 0, 12, 28, 0, 64, 254, 511, 1023]
theorem cardexref08_write.tab16 : rtab .any (opsOf Tryd.f16 16) = cardexref08_write.T16 := by kernel_rfl
theorem cardexref08_write.bits16 : waitsOk cardexref08_write.T16.2 cardexref08_write.B16 = true := by kernel_rfl
set_option maxHeartbeats 8000000 in
set_option maxRecDepth 100000 in
theorem cardexref08_write.calls (k : Nat) : ∀ (A0 : Option Addr) (c0 : Nat) (l0 : List (S32)) (a1 : Int) (a2 : ByteArray) (r : ByteArray) (w : World) (hr0 : Kd.C k32 w A0 l0.length l0) (hc0 : l0.length ≤ c0) (h : cardexref08_write.f k l0 a1 a2 = some r),
  Calls Tryd.prog 16 #[.slice A0 l0.length c0, .int .i64 a1, .string a2] w fun e w' => e = .returned (.string r) ∧ Below w.heap.size w w' := by
 induction k using Nat.strongRecOn with
 | _ k ih =>
 intro A0 c0 l0 a1 a2 r w hr0 hc0 h
 cases k with
 | zero => exact absurd h (by simp [cardexref08_write.f])
 | succ k =>
 simp only [cardexref08_write.f] at h
 have hu32 := Tryd.underlying32
 have HR0 := Aside0.mk hr0
 have HC0 := Aside0.mk hc0
 clear hr0 hc0
 have HB := Aside0.mk (Below.refl w.heap.size w)
 have H : (if 0 ≤ a1 then (if a1 < (l0.length : Int) then (if 1 + ((rd_T32 l0 a1).f2).size ≤ 9223372036854775807 then (if ((rd_T32 l0 a1).f3).toList = a2.toList then (cardexref08_write.j0 k l0 a1 ((⟨#[60]⟩ : ByteArray) ++ ((rd_T32 l0 a1).f2)) ((rd_T32 l0 a1).f0) ((rd_T32 l0 a1).f1) ((rd_T32 l0 a1).f2) ((rd_T32 l0 a1).f3) ((rd_T32 l0 a1).f4) ((rd_T32 l0 a1).f5)) else (if ((⟨#[60]⟩ : ByteArray) ++ ((rd_T32 l0 a1).f2)).size + 8 ≤ 9223372036854775807 then ((cardexref01_Escape.f k ((rd_T32 l0 a1).f3)).bind fun t213 => (if (((⟨#[60]⟩ : ByteArray) ++ ((rd_T32 l0 a1).f2)) ++ (⟨#[32, 120, 109, 108, 110, 115, 61, 39]⟩ : ByteArray)).size + t213.size ≤ 9223372036854775807 then (if ((((⟨#[60]⟩ : ByteArray) ++ ((rd_T32 l0 a1).f2)) ++ (⟨#[32, 120, 109, 108, 110, 115, 61, 39]⟩ : ByteArray)) ++ t213).size + 1 ≤ 9223372036854775807 then (cardexref08_write.j0 k l0 a1 (((((⟨#[60]⟩ : ByteArray) ++ ((rd_T32 l0 a1).f2)) ++ (⟨#[32, 120, 109, 108, 110, 115, 61, 39]⟩ : ByteArray)) ++ t213) ++ (⟨#[39]⟩ : ByteArray)) ((rd_T32 l0 a1).f0) ((rd_T32 l0 a1).f1) ((rd_T32 l0 a1).f2) ((rd_T32 l0 a1).f3) ((rd_T32 l0 a1).f4) ((rd_T32 l0 a1).f5)) else (none)) else (none))) else (none))) else (none)) else (none)) else (none)) = some r := h
 clear h
 by_cases c4 : 0 ≤ a1
 ·rw [if_pos c4] at H
  have c4b0 : decide (0 ≤ a1) = true := decide_eq_true c4
  clear c4
  by_cases c5 : a1 < (l0.length : Int)
  ·rw [if_pos c5] at H
   have c5b0 : decide (a1 < (l0.length : Int)) = true := decide_eq_true c5
   clear c5
   by_cases c6 : 1 + ((rd_T32 l0 a1).f2).size ≤ 9223372036854775807
   ·rw [if_pos c6] at H
    have c6b0 := eq_true c6
    have c6b1 : decide (1 + ((rd_T32 l0 a1).f2).size ≤ 9223372036854775807) = true := decide_eq_true c6
    try have c6b2 : (9223372036854775807 < 1 + ((rd_T32 l0 a1).f2).size) = False := eq_false (Nat.not_lt.2 c6)
    have HC7 := Aside0.mk H
    clear H
    have p211 : 0 ≤ (a1 : Int) := of_decide_eq_true (by first | (with_reducible assumption) | assumption)
    have q211 : a1 < (l0.length : Int) := of_decide_eq_true (by first | (with_reducible assumption) | assumption)
    obtain ⟨ad211, A211_4, c211_4, e211, hx211_0, hx211_1, hx211_2, hx211_3, hx211_4, hx211_5, hl211_4, hi211_4⟩ := at_T32 HR0.out a1 p211 q211
    cases e211
    have HR211_4 := Aside0.mk hi211_4
    have HC211_4 := Aside0.mk hl211_4
    clear hi211_4 hl211_4
    replace p211 := eq_true p211
    replace q211 := eq_true q211
    go_enter Tryd.func16, Tryd.ntmps16
    go_upto_if 22 with (first | ((with_reducible refine gate_dst (N := 7) rfl ?_); (try (refine gate_guard (by rfl) ?_; dsimp only)); refine box_event ?hg (N := 7) ?hd (cs := #[.int .i64 0, .int .i64 0, .string (⟨#[]⟩ : ByteArray), .string (⟨#[]⟩ : ByteArray), .slice none 0 0, .string (⟨#[]⟩ : ByteArray)]) (t := 32) ?hr ?_; (case hd => rfl); (case hg => rfl); (case hr => first | (go_simp; done) | (go_simp; rfl)); intro gb212 hg w8 hbox hb; have n0_ := Aside0.mk (below_step (by repeat (first | (with_reducible first | exact HB.out | apply below_alloc | apply pw_below_drewN | apply below_drew1) | exact HB.out)) hb); have n1_ := Aside0.mk (hbox); have n2_ := Aside0.mk ((by rw [hg]; exact (below_size (by repeat (first | (with_reducible first | exact HB.out | apply below_alloc | apply pw_below_drewN | apply below_drew1) | exact HB.out))) : w.heap.size ≤ gb212)); have n3_ := Aside0.mk ((by rw [hg]; exact (below_size (by repeat (first | (with_reducible first | exact HB.out | apply below_alloc | apply pw_below_drewN | apply below_drew1) | exact HB.out))) : w.heap.size ≤ gb212)); clear HB; have HB := n0_; have BK212 := n1_; have GW212 := n2_; have GE212 := n3_; clear n0_ n1_ n2_ n3_; clear hb hbox hg; have hcz9_0 : w8.cell? ⟨gb212, 0, none⟩ = some (.int .i64 0) := (blk_cell BK212.out 0).trans rfl; have hcz9_1 : w8.cell? ⟨gb212, 1, none⟩ = some (.int .i64 0) := (blk_cell BK212.out 1).trans rfl; have hcz9_2 : w8.cell? ⟨gb212, 2, none⟩ = some (.string (⟨#[]⟩ : ByteArray)) := (blk_cell BK212.out 2).trans rfl; have hcz9_3 : w8.cell? ⟨gb212, 3, none⟩ = some (.string (⟨#[]⟩ : ByteArray)) := (blk_cell BK212.out 3).trans rfl; have hcz9_4 : w8.cell? ⟨gb212, 4, none⟩ = some (.slice none 0 0) := (blk_cell BK212.out 4).trans rfl; have hcz9_5 : w8.cell? ⟨gb212, 5, none⟩ = some (.string (⟨#[]⟩ : ByteArray)) := (blk_cell BK212.out 5).trans rfl; have hfz9_0 := blk_frozen BK212.out 0; have hfz9_1 := blk_frozen BK212.out 1; have hfz9_2 := blk_frozen BK212.out 2; have hfz9_3 := blk_frozen BK212.out 3; have hfz9_4 := blk_frozen BK212.out 4; have hfz9_5 := blk_frozen BK212.out 5))
    (try simp only [Act.put, setIfInBounds_toArray, set_cons_zero, set_cons_succ])
    go_cut [8] (fun v8 wc => ∃ (kq : Nat) (x8_6 : ByteArray), v8 = .string x8_6 ∧ Aside0 (cardexref08_write.j0 kq l0 a1 x8_6 ((rd_T32 l0 a1).f0) ((rd_T32 l0 a1).f1) ((rd_T32 l0 a1).f2) ((rd_T32 l0 a1).f3) ((rd_T32 l0 a1).f4) ((rd_T32 l0 a1).f5) = some r) ∧ Aside0 (kq ≤ k) ∧ Aside0 (wc.heap[gb212]? = some (.cells #[.int .i64 ((rd_T32 l0 a1).f0), .int .i64 ((rd_T32 l0 a1).f1), .string ((rd_T32 l0 a1).f2), .string ((rd_T32 l0 a1).f3), (.slice A211_4 ((rd_T32 l0 a1).f4).length c211_4), .string ((rd_T32 l0 a1).f5)] 32 (0, 0))) ∧ Aside0 (Below w.heap.size w wc))
    case first =>
     have H := HC7.out
     clear HC7
     by_cases c10 : ((rd_T32 l0 a1).f3).toList = a2.toList
     ·rw [if_pos c10] at H
      have c10b0 : (((rd_T32 l0 a1).f3).toList == a2.toList) = true := beq_iff_eq.mpr c10
      have c10b1 : (((rd_T32 l0 a1).f3).toList != a2.toList) = false := bne_eq_false_iff_eq.mpr c10
      clear c10
      (first | rw [c10b0] | (simp only [i64_w, i32_w]; rw [c10b0]) | (have h_ := c10b0; rw [List.beq_nil_eq] at h_; rw [h_]) | skip)
      have H' := Aside0.mk H
      clear H
      go_wp2
      go_meet
      case rel => exact ⟨_, ((⟨#[60]⟩ : ByteArray) ++ ((rd_T32 l0 a1).f2)), (by first | rfl | (simp; done) | exact congrArg Value.bool (nemp _) | exact congrArg Value.bool (emp _) | (simp [*]; done)), H', ⟨by first | omega | exact Nat.le_refl _⟩, ⟨by (with_reducible repeat (first | refine blk_drewN ?_ _ | refine blk_drew ?_ | refine blk_alloc ?_ _)); refine blk_put (cs := #[.int .i64 ((rd_T32 l0 a1).f0), .int .i64 ((rd_T32 l0 a1).f1), .string ((rd_T32 l0 a1).f2), .string ((rd_T32 l0 a1).f3), .slice A211_4 ((rd_T32 l0 a1).f4).length c211_4, .string (⟨#[]⟩ : ByteArray)]) ?_ 5 _ rfl; (with_reducible repeat (first | refine blk_drewN ?_ _ | refine blk_drew ?_ | refine blk_alloc ?_ _)); refine blk_put (cs := #[.int .i64 ((rd_T32 l0 a1).f0), .int .i64 ((rd_T32 l0 a1).f1), .string ((rd_T32 l0 a1).f2), .string ((rd_T32 l0 a1).f3), .slice none 0 0, .string (⟨#[]⟩ : ByteArray)]) ?_ 4 _ rfl; (with_reducible repeat (first | refine blk_drewN ?_ _ | refine blk_drew ?_ | refine blk_alloc ?_ _)); refine blk_put (cs := #[.int .i64 ((rd_T32 l0 a1).f0), .int .i64 ((rd_T32 l0 a1).f1), .string ((rd_T32 l0 a1).f2), .string (⟨#[]⟩ : ByteArray), .slice none 0 0, .string (⟨#[]⟩ : ByteArray)]) ?_ 3 _ rfl; (with_reducible repeat (first | refine blk_drewN ?_ _ | refine blk_drew ?_ | refine blk_alloc ?_ _)); refine blk_put (cs := #[.int .i64 ((rd_T32 l0 a1).f0), .int .i64 ((rd_T32 l0 a1).f1), .string (⟨#[]⟩ : ByteArray), .string (⟨#[]⟩ : ByteArray), .slice none 0 0, .string (⟨#[]⟩ : ByteArray)]) ?_ 2 _ rfl; (with_reducible repeat (first | refine blk_drewN ?_ _ | refine blk_drew ?_ | refine blk_alloc ?_ _)); refine blk_put (cs := #[.int .i64 ((rd_T32 l0 a1).f0), .int .i64 0, .string (⟨#[]⟩ : ByteArray), .string (⟨#[]⟩ : ByteArray), .slice none 0 0, .string (⟨#[]⟩ : ByteArray)]) ?_ 1 _ rfl; (with_reducible repeat (first | refine blk_drewN ?_ _ | refine blk_drew ?_ | refine blk_alloc ?_ _)); refine blk_put (cs := #[.int .i64 0, .int .i64 0, .string (⟨#[]⟩ : ByteArray), .string (⟨#[]⟩ : ByteArray), .slice none 0 0, .string (⟨#[]⟩ : ByteArray)]) ?_ 0 _ rfl; (with_reducible repeat (first | refine blk_drewN ?_ _ | refine blk_drew ?_ | refine blk_alloc ?_ _)); exact BK212.out⟩, ⟨by repeat (first | (with_reducible first | exact HB.out | apply below_alloc | apply pw_below_drewN | apply below_drew1 | refine below_set ?_ GE212.out) | exact HB.out)⟩⟩
     rw [if_neg c10] at H
     have c10b0 : (((rd_T32 l0 a1).f3).toList == a2.toList) = false := beq_eq_false_iff_ne.mpr c10
     have c10b1 : (((rd_T32 l0 a1).f3).toList != a2.toList) = true := bne_iff_ne.mpr c10
     (first | rw [c10b0] | (simp only [i64_w, i32_w]; rw [c10b0]) | (have h_ := c10b0; rw [List.beq_nil_eq] at h_; rw [h_]) | skip)
     by_cases c11 : ((⟨#[60]⟩ : ByteArray) ++ ((rd_T32 l0 a1).f2)).size + 8 ≤ 9223372036854775807
     ·rw [if_pos c11] at H
      have c11b0 := eq_true c11
      have c11b1 : decide (((⟨#[60]⟩ : ByteArray) ++ ((rd_T32 l0 a1).f2)).size + 8 ≤ 9223372036854775807) = true := decide_eq_true c11
      try have c11b2 : (9223372036854775807 < ((⟨#[60]⟩ : ByteArray) ++ ((rd_T32 l0 a1).f2)).size + 8) = False := eq_false (Nat.not_lt.2 c11)
      try have c11b3 : (9223372036854775807 < 1 + ((rd_T32 l0 a1).f2).size + 8) = False := eq_false (Nat.not_lt.2 (by have h_ := c11; simp only [ByteArray.size_append] at h_; exact h_))
      replace H := Option.bind_eq_some_iff.mp H
      obtain ⟨t213, A120, H⟩ := H
      replace H : (if (((⟨#[60]⟩ : ByteArray) ++ ((rd_T32 l0 a1).f2)) ++ (⟨#[32, 120, 109, 108, 110, 115, 61, 39]⟩ : ByteArray)).size + t213.size ≤ 9223372036854775807 then (if ((((⟨#[60]⟩ : ByteArray) ++ ((rd_T32 l0 a1).f2)) ++ (⟨#[32, 120, 109, 108, 110, 115, 61, 39]⟩ : ByteArray)) ++ t213).size + 1 ≤ 9223372036854775807 then (cardexref08_write.j0 k l0 a1 (((((⟨#[60]⟩ : ByteArray) ++ ((rd_T32 l0 a1).f2)) ++ (⟨#[32, 120, 109, 108, 110, 115, 61, 39]⟩ : ByteArray)) ++ t213) ++ (⟨#[39]⟩ : ByteArray)) ((rd_T32 l0 a1).f0) ((rd_T32 l0 a1).f1) ((rd_T32 l0 a1).f2) ((rd_T32 l0 a1).f3) ((rd_T32 l0 a1).f4) ((rd_T32 l0 a1).f5)) else (none)) else (none)) = some r := H
      have A12 := Aside0.mk A120
      clear A120
      by_cases c13 : (((⟨#[60]⟩ : ByteArray) ++ ((rd_T32 l0 a1).f2)) ++ (⟨#[32, 120, 109, 108, 110, 115, 61, 39]⟩ : ByteArray)).size + t213.size ≤ 9223372036854775807
      ·rw [if_pos c13] at H
       have c13b0 := eq_true c13
       have c13b1 : decide ((((⟨#[60]⟩ : ByteArray) ++ ((rd_T32 l0 a1).f2)) ++ (⟨#[32, 120, 109, 108, 110, 115, 61, 39]⟩ : ByteArray)).size + t213.size ≤ 9223372036854775807) = true := decide_eq_true c13
       try have c13b2 : (9223372036854775807 < (((⟨#[60]⟩ : ByteArray) ++ ((rd_T32 l0 a1).f2)) ++ (⟨#[32, 120, 109, 108, 110, 115, 61, 39]⟩ : ByteArray)).size + t213.size) = False := eq_false (Nat.not_lt.2 c13)
       try have c13b3 : (9223372036854775807 < 1 + ((rd_T32 l0 a1).f2).size + 8 + t213.size) = False := eq_false (Nat.not_lt.2 (by have h_ := c13; simp only [ByteArray.size_append] at h_; exact h_))
       by_cases c14 : ((((⟨#[60]⟩ : ByteArray) ++ ((rd_T32 l0 a1).f2)) ++ (⟨#[32, 120, 109, 108, 110, 115, 61, 39]⟩ : ByteArray)) ++ t213).size + 1 ≤ 9223372036854775807
       ·rw [if_pos c14] at H
        have c14b0 := eq_true c14
        have c14b1 : decide (((((⟨#[60]⟩ : ByteArray) ++ ((rd_T32 l0 a1).f2)) ++ (⟨#[32, 120, 109, 108, 110, 115, 61, 39]⟩ : ByteArray)) ++ t213).size + 1 ≤ 9223372036854775807) = true := decide_eq_true c14
        try have c14b2 : (9223372036854775807 < ((((⟨#[60]⟩ : ByteArray) ++ ((rd_T32 l0 a1).f2)) ++ (⟨#[32, 120, 109, 108, 110, 115, 61, 39]⟩ : ByteArray)) ++ t213).size + 1) = False := eq_false (Nat.not_lt.2 c14)
        try have c14b3 : (9223372036854775807 < 1 + ((rd_T32 l0 a1).f2).size + 8 + t213.size + 1) = False := eq_false (Nat.not_lt.2 (by have h_ := c14; simp only [ByteArray.size_append] at h_; exact h_))
        have H' := Aside0.mk H
        clear H
        have hcz15_0 : w8.cell? ⟨gb212, 0, none⟩ = some (.int .i64 0) := (blk_cell BK212.out 0).trans rfl
        have hcz15_1 : w8.cell? ⟨gb212, 1, none⟩ = some (.int .i64 0) := (blk_cell BK212.out 1).trans rfl
        have hcz15_2 : w8.cell? ⟨gb212, 2, none⟩ = some (.string (⟨#[]⟩ : ByteArray)) := (blk_cell BK212.out 2).trans rfl
        have hcz15_3 : w8.cell? ⟨gb212, 3, none⟩ = some (.string (⟨#[]⟩ : ByteArray)) := (blk_cell BK212.out 3).trans rfl
        have hcz15_4 : w8.cell? ⟨gb212, 4, none⟩ = some (.slice none 0 0) := (blk_cell BK212.out 4).trans rfl
        have hcz15_5 : w8.cell? ⟨gb212, 5, none⟩ = some (.string (⟨#[]⟩ : ByteArray)) := (blk_cell BK212.out 5).trans rfl
        have hfz15_0 := blk_frozen BK212.out 0
        have hfz15_1 := blk_frozen BK212.out 1
        have hfz15_2 := blk_frozen BK212.out 2
        have hfz15_3 := blk_frozen BK212.out 3
        have hfz15_4 := blk_frozen BK212.out 4
        have hfz15_5 := blk_frozen BK212.out 5
        go_wp2_with (first | ((with_reducible refine gate_callee (f := 12) rfl ?_); refine goesL_ (some 27) rfl rfl Tryd.func12 (by kernel_rfl) rfl #[.string ((rd_T32 l0 a1).f3)] rfl (by (try simp only [List.map_toArray, List.map_cons, List.map_nil]); first | done | rfl | (simp only [List.length_drop, List.length_take]; rfl)) ?_; (with_reducible refine (cardexref01_Escape.calls k ((rd_T32 l0 a1).f3) t213 _ A12.out).mono ?_); rintro e w' ⟨rfl, ⟨nd, rfl⟩⟩; refine ⟨_, rfl, ?_⟩))
        go_meet
        case rel => exact ⟨_, (((((⟨#[60]⟩ : ByteArray) ++ ((rd_T32 l0 a1).f2)) ++ (⟨#[32, 120, 109, 108, 110, 115, 61, 39]⟩ : ByteArray)) ++ t213) ++ (⟨#[39]⟩ : ByteArray)), (by first | rfl | (simp; done) | exact congrArg Value.bool (nemp _) | exact congrArg Value.bool (emp _) | (simp [*]; done)), H', ⟨by first | omega | exact Nat.le_refl _⟩, ⟨by (with_reducible repeat (first | refine blk_drewN ?_ _ | refine blk_drew ?_ | refine blk_alloc ?_ _)); refine blk_put (cs := #[.int .i64 ((rd_T32 l0 a1).f0), .int .i64 ((rd_T32 l0 a1).f1), .string ((rd_T32 l0 a1).f2), .string ((rd_T32 l0 a1).f3), .slice A211_4 ((rd_T32 l0 a1).f4).length c211_4, .string (⟨#[]⟩ : ByteArray)]) ?_ 5 _ rfl; (with_reducible repeat (first | refine blk_drewN ?_ _ | refine blk_drew ?_ | refine blk_alloc ?_ _)); refine blk_put (cs := #[.int .i64 ((rd_T32 l0 a1).f0), .int .i64 ((rd_T32 l0 a1).f1), .string ((rd_T32 l0 a1).f2), .string ((rd_T32 l0 a1).f3), .slice none 0 0, .string (⟨#[]⟩ : ByteArray)]) ?_ 4 _ rfl; (with_reducible repeat (first | refine blk_drewN ?_ _ | refine blk_drew ?_ | refine blk_alloc ?_ _)); refine blk_put (cs := #[.int .i64 ((rd_T32 l0 a1).f0), .int .i64 ((rd_T32 l0 a1).f1), .string ((rd_T32 l0 a1).f2), .string (⟨#[]⟩ : ByteArray), .slice none 0 0, .string (⟨#[]⟩ : ByteArray)]) ?_ 3 _ rfl; (with_reducible repeat (first | refine blk_drewN ?_ _ | refine blk_drew ?_ | refine blk_alloc ?_ _)); refine blk_put (cs := #[.int .i64 ((rd_T32 l0 a1).f0), .int .i64 ((rd_T32 l0 a1).f1), .string (⟨#[]⟩ : ByteArray), .string (⟨#[]⟩ : ByteArray), .slice none 0 0, .string (⟨#[]⟩ : ByteArray)]) ?_ 2 _ rfl; (with_reducible repeat (first | refine blk_drewN ?_ _ | refine blk_drew ?_ | refine blk_alloc ?_ _)); refine blk_put (cs := #[.int .i64 ((rd_T32 l0 a1).f0), .int .i64 0, .string (⟨#[]⟩ : ByteArray), .string (⟨#[]⟩ : ByteArray), .slice none 0 0, .string (⟨#[]⟩ : ByteArray)]) ?_ 1 _ rfl; (with_reducible repeat (first | refine blk_drewN ?_ _ | refine blk_drew ?_ | refine blk_alloc ?_ _)); refine blk_put (cs := #[.int .i64 0, .int .i64 0, .string (⟨#[]⟩ : ByteArray), .string (⟨#[]⟩ : ByteArray), .slice none 0 0, .string (⟨#[]⟩ : ByteArray)]) ?_ 0 _ rfl; (with_reducible repeat (first | refine blk_drewN ?_ _ | refine blk_drew ?_ | refine blk_alloc ?_ _)); exact BK212.out⟩, ⟨by repeat (first | (with_reducible first | exact HB.out | apply below_alloc | apply pw_below_drewN | apply below_drew1 | refine below_set ?_ GE212.out) | exact HB.out)⟩⟩
       rw [if_neg c14] at H
       exact absurd H (by simp)
      rw [if_neg c13] at H
      exact absurd H (by simp)
     rw [if_neg c11] at H
     exact absurd H (by simp)
    case rest =>
     clear HC7
     try clear c1
     try clear c2
     try clear p2
     try clear q2
     try clear hx2
     try clear c4
     try clear c4b0
     try clear c5
     try clear c5b0
     try clear c6
     try clear c6b0
     try clear c6b1
     try clear c6b2
     try clear c10
     try clear c10b0
     try clear c10b1
     try clear c11
     try clear c11b0
     try clear c11b1
     try clear c11b2
     try clear c12
     try clear c13
     try clear c13b0
     try clear c13b1
     try clear c13b2
     try clear c14
     try clear c14b0
     try clear c14b1
     try clear c14b2
     try clear hcz15_0
     try clear hcz15_1
     try clear hcz15_2
     try clear hcz15_3
     try clear hcz15_4
     try clear hcz15_5
     try clear hcz9_0
     try clear hcz9_1
     try clear hcz9_2
     try clear hcz9_3
     try clear hcz9_4
     try clear hcz9_5
     try clear hfz15_0
     try clear hfz15_1
     try clear hfz15_2
     try clear hfz15_3
     try clear hfz15_4
     try clear hfz15_5
     try clear hfz9_0
     try clear hfz9_1
     try clear hfz9_2
     try clear hfz9_3
     try clear hfz9_4
     try clear hfz9_5
     try clear hx211_0
     try clear hx211_1
     try clear hx211_2
     try clear hx211_3
     try clear hx211_4
     try clear hx211_5
     try clear p211
     try clear q211
     obtain ⟨kq, x8_6, rfl, HA, HJ6, BK212, HB⟩ := hcut
     cases kq with
     | zero => exact absurd HA.out (by simp [cardexref08_write.j0])
     | succ kj6 =>
      have H := HA.out
      clear HA
      simp only [cardexref08_write.j0] at H
      have H' := Aside0.mk H
      clear H
      go_wp2
      go_loopg [8, 9] kj6 (fun kq v8 v9 w' => ∃ (x8_2 : ByteArray) (x9_2 : Int), v8 = .string x8_2 ∧ v9 = .int .i64 x9_2 ∧ Aside0 (cardexref08_write.l0 kq l0 a1 x8_2 x9_2 ((rd_T32 l0 a1).f0) ((rd_T32 l0 a1).f1) ((rd_T32 l0 a1).f2) ((rd_T32 l0 a1).f3) ((rd_T32 l0 a1).f4) ((rd_T32 l0 a1).f5) = some r) ∧ Aside0 (kq ≤ kj6) ∧ Aside0 (w'.heap[gb212]? = some (.cells #[.int .i64 ((rd_T32 l0 a1).f0), .int .i64 ((rd_T32 l0 a1).f1), .string ((rd_T32 l0 a1).f2), .string ((rd_T32 l0 a1).f3), (.slice A211_4 ((rd_T32 l0 a1).f4).length c211_4), .string ((rd_T32 l0 a1).f5)] 32 (0, 0))) ∧ Aside0 (Below w.heap.size w w'))
      case atStart => exact ⟨(x8_6), (0), (by first | rfl | (simp; done) | exact congrArg Value.bool (nemp _) | exact congrArg Value.bool (emp _) | (simp [*]; done)), (by first | rfl | (simp; done) | exact congrArg Value.bool (nemp _) | exact congrArg Value.bool (emp _) | (simp [*]; done)), H', ⟨Nat.le_refl _⟩, ⟨by (with_reducible repeat (first | refine blk_drewN ?_ _ | refine blk_drew ?_ | refine blk_alloc ?_ _)); exact BK212.out⟩, ⟨by repeat (first | (with_reducible first | exact HB.out | apply below_alloc | apply pw_below_drewN | apply below_drew1 | refine below_set ?_ GE212.out) | exact HB.out)⟩⟩
      case round =>
       clear H'
       try clear c1
       try clear c2
       try clear p2
       try clear q2
       try clear hx2
       try clear c4
       try clear c4b0
       try clear c5
       try clear c5b0
       try clear c6
       try clear c6b0
       try clear c6b1
       try clear c6b2
       try clear c10
       try clear c10b0
       try clear c10b1
       try clear c11
       try clear c11b0
       try clear c11b1
       try clear c11b2
       try clear c12
       try clear c13
       try clear c13b0
       try clear c13b1
       try clear c13b2
       try clear c14
       try clear c14b0
       try clear c14b1
       try clear c14b2
       try clear hcz15_0
       try clear hcz15_1
       try clear hcz15_2
       try clear hcz15_3
       try clear hcz15_4
       try clear hcz15_5
       try clear hcz9_0
       try clear hcz9_1
       try clear hcz9_2
       try clear hcz9_3
       try clear hcz9_4
       try clear hcz9_5
       try clear hfz15_0
       try clear hfz15_1
       try clear hfz15_2
       try clear hfz15_3
       try clear hfz15_4
       try clear hfz15_5
       try clear hfz9_0
       try clear hfz9_1
       try clear hfz9_2
       try clear hfz9_3
       try clear hfz9_4
       try clear hfz9_5
       try clear hx211_0
       try clear hx211_1
       try clear hx211_2
       try clear hx211_3
       try clear hx211_4
       try clear hx211_5
       try clear p2
       try clear p211
       try clear q2
       try clear q211
       obtain ⟨x8_2, x9_2, rfl, rfl, HA, HK2, BK212, HB⟩ := hrel
       cases gk with
       | zero => exact absurd HA.out (by simp [cardexref08_write.l0])
       | succ k2 =>
        have H := HA.out
        clear HA
        simp only [cardexref08_write.l0] at H
        by_cases c16 : x9_2 < (((rd_T32 l0 a1).f4).length : Int)
        ·rw [if_pos c16] at H
         have c16b0 : decide (x9_2 < (((rd_T32 l0 a1).f4).length : Int)) = true := decide_eq_true c16
         clear c16
         by_cases c17 : x8_2.size + 1 ≤ 9223372036854775807
         ·rw [if_pos c17] at H
          have c17b0 := eq_true c17
          have c17b1 : decide (x8_2.size + 1 ≤ 9223372036854775807) = true := decide_eq_true c17
          try have c17b2 : (9223372036854775807 < x8_2.size + 1) = False := eq_false (Nat.not_lt.2 c17)
          by_cases c18 : 0 ≤ x9_2
          ·rw [if_pos c18] at H
           have c18b0 : decide (0 ≤ x9_2) = true := decide_eq_true c18
           clear c18
           by_cases c19 : (x8_2 ++ (⟨#[32]⟩ : ByteArray)).size + ((rd_T29 ((rd_T32 l0 a1).f4) x9_2).f0).size ≤ 9223372036854775807
           ·rw [if_pos c19] at H
            have c19b0 := eq_true c19
            have c19b1 : decide ((x8_2 ++ (⟨#[32]⟩ : ByteArray)).size + ((rd_T29 ((rd_T32 l0 a1).f4) x9_2).f0).size ≤ 9223372036854775807) = true := decide_eq_true c19
            try have c19b2 : (9223372036854775807 < (x8_2 ++ (⟨#[32]⟩ : ByteArray)).size + ((rd_T29 ((rd_T32 l0 a1).f4) x9_2).f0).size) = False := eq_false (Nat.not_lt.2 c19)
            try have c19b3 : (9223372036854775807 < x8_2.size + 1 + ((rd_T29 ((rd_T32 l0 a1).f4) x9_2).f0).size) = False := eq_false (Nat.not_lt.2 (by have h_ := c19; simp only [ByteArray.size_append] at h_; exact h_))
            by_cases c20 : ((x8_2 ++ (⟨#[32]⟩ : ByteArray)) ++ ((rd_T29 ((rd_T32 l0 a1).f4) x9_2).f0)).size + 2 ≤ 9223372036854775807
            ·rw [if_pos c20] at H
             have c20b0 := eq_true c20
             have c20b1 : decide (((x8_2 ++ (⟨#[32]⟩ : ByteArray)) ++ ((rd_T29 ((rd_T32 l0 a1).f4) x9_2).f0)).size + 2 ≤ 9223372036854775807) = true := decide_eq_true c20
             try have c20b2 : (9223372036854775807 < ((x8_2 ++ (⟨#[32]⟩ : ByteArray)) ++ ((rd_T29 ((rd_T32 l0 a1).f4) x9_2).f0)).size + 2) = False := eq_false (Nat.not_lt.2 c20)
             try have c20b3 : (9223372036854775807 < x8_2.size + 1 + ((rd_T29 ((rd_T32 l0 a1).f4) x9_2).f0).size + 2) = False := eq_false (Nat.not_lt.2 (by have h_ := c20; simp only [ByteArray.size_append] at h_; exact h_))
             replace H := Option.bind_eq_some_iff.mp H
             obtain ⟨t216, A210, H⟩ := H
             replace H : (if (((x8_2 ++ (⟨#[32]⟩ : ByteArray)) ++ ((rd_T29 ((rd_T32 l0 a1).f4) x9_2).f0)) ++ (⟨#[61, 39]⟩ : ByteArray)).size + t216.size ≤ 9223372036854775807 then (if ((((x8_2 ++ (⟨#[32]⟩ : ByteArray)) ++ ((rd_T29 ((rd_T32 l0 a1).f4) x9_2).f0)) ++ (⟨#[61, 39]⟩ : ByteArray)) ++ t216).size + 1 ≤ 9223372036854775807 then (cardexref08_write.l0 k2 l0 a1 (((((x8_2 ++ (⟨#[32]⟩ : ByteArray)) ++ ((rd_T29 ((rd_T32 l0 a1).f4) x9_2).f0)) ++ (⟨#[61, 39]⟩ : ByteArray)) ++ t216) ++ (⟨#[39]⟩ : ByteArray)) (wrap64 (x9_2 + 1)) ((rd_T32 l0 a1).f0) ((rd_T32 l0 a1).f1) ((rd_T32 l0 a1).f2) ((rd_T32 l0 a1).f3) ((rd_T32 l0 a1).f4) ((rd_T32 l0 a1).f5)) else (none)) else (none)) = some r := H
             have A21 := Aside0.mk A210
             clear A210
             by_cases c22 : (((x8_2 ++ (⟨#[32]⟩ : ByteArray)) ++ ((rd_T29 ((rd_T32 l0 a1).f4) x9_2).f0)) ++ (⟨#[61, 39]⟩ : ByteArray)).size + t216.size ≤ 9223372036854775807
             ·rw [if_pos c22] at H
              have c22b0 := eq_true c22
              have c22b1 : decide ((((x8_2 ++ (⟨#[32]⟩ : ByteArray)) ++ ((rd_T29 ((rd_T32 l0 a1).f4) x9_2).f0)) ++ (⟨#[61, 39]⟩ : ByteArray)).size + t216.size ≤ 9223372036854775807) = true := decide_eq_true c22
              try have c22b2 : (9223372036854775807 < (((x8_2 ++ (⟨#[32]⟩ : ByteArray)) ++ ((rd_T29 ((rd_T32 l0 a1).f4) x9_2).f0)) ++ (⟨#[61, 39]⟩ : ByteArray)).size + t216.size) = False := eq_false (Nat.not_lt.2 c22)
              try have c22b3 : (9223372036854775807 < x8_2.size + 1 + ((rd_T29 ((rd_T32 l0 a1).f4) x9_2).f0).size + 2 + t216.size) = False := eq_false (Nat.not_lt.2 (by have h_ := c22; simp only [ByteArray.size_append] at h_; exact h_))
              by_cases c23 : ((((x8_2 ++ (⟨#[32]⟩ : ByteArray)) ++ ((rd_T29 ((rd_T32 l0 a1).f4) x9_2).f0)) ++ (⟨#[61, 39]⟩ : ByteArray)) ++ t216).size + 1 ≤ 9223372036854775807
              ·rw [if_pos c23] at H
               have c23b0 := eq_true c23
               have c23b1 : decide (((((x8_2 ++ (⟨#[32]⟩ : ByteArray)) ++ ((rd_T29 ((rd_T32 l0 a1).f4) x9_2).f0)) ++ (⟨#[61, 39]⟩ : ByteArray)) ++ t216).size + 1 ≤ 9223372036854775807) = true := decide_eq_true c23
               try have c23b2 : (9223372036854775807 < ((((x8_2 ++ (⟨#[32]⟩ : ByteArray)) ++ ((rd_T29 ((rd_T32 l0 a1).f4) x9_2).f0)) ++ (⟨#[61, 39]⟩ : ByteArray)) ++ t216).size + 1) = False := eq_false (Nat.not_lt.2 c23)
               try have c23b3 : (9223372036854775807 < x8_2.size + 1 + ((rd_T29 ((rd_T32 l0 a1).f4) x9_2).f0).size + 2 + t216.size + 1) = False := eq_false (Nat.not_lt.2 (by have h_ := c23; simp only [ByteArray.size_append] at h_; exact h_))
               have H' := Aside0.mk H
               clear H
               have hcz24_0 : wr.cell? ⟨gb212, 0, none⟩ = some (.int .i64 ((rd_T32 l0 a1).f0)) := (blk_cell BK212.out 0).trans rfl
               have hcz24_1 : wr.cell? ⟨gb212, 1, none⟩ = some (.int .i64 ((rd_T32 l0 a1).f1)) := (blk_cell BK212.out 1).trans rfl
               have hcz24_2 : wr.cell? ⟨gb212, 2, none⟩ = some (.string ((rd_T32 l0 a1).f2)) := (blk_cell BK212.out 2).trans rfl
               have hcz24_3 : wr.cell? ⟨gb212, 3, none⟩ = some (.string ((rd_T32 l0 a1).f3)) := (blk_cell BK212.out 3).trans rfl
               have hcz24_4 : wr.cell? ⟨gb212, 4, none⟩ = some (.slice A211_4 ((rd_T32 l0 a1).f4).length c211_4) := (blk_cell BK212.out 4).trans rfl
               have hcz24_5 : wr.cell? ⟨gb212, 5, none⟩ = some (.string ((rd_T32 l0 a1).f5)) := (blk_cell BK212.out 5).trans rfl
               have hfz24_0 := blk_frozen BK212.out 0
               have hfz24_1 := blk_frozen BK212.out 1
               have hfz24_2 := blk_frozen BK212.out 2
               have hfz24_3 := blk_frozen BK212.out 3
               have hfz24_4 := blk_frozen BK212.out 4
               have hfz24_5 := blk_frozen BK212.out 5
               try go_wp2
               have n0_ := Aside0.mk (blk_drew BK212.out)
               have n1_ := Aside0.mk (below_drew1 HB.out)
               clear BK212
               clear HB
               have BK212 := n0_
               have HB := n1_
               clear n0_ n1_
               have p214 : 0 ≤ (x9_2 : Int) := of_decide_eq_true (by first | (with_reducible assumption) | assumption)
               have q214 : x9_2 < (((rd_T32 l0 a1).f4).length : Int) := of_decide_eq_true (by first | (with_reducible assumption) | assumption)
               obtain ⟨ad214, e214, hx214_0, hx214_1⟩ := at_T29 HR211_4.out x9_2 p214 q214
               have hw214_1 := hx214_1
               have hw214_0 := hx214_0
               cases e214
               replace hx214_0 := (HB.out.cell (World.block_lt_of_cell? w _ hx214_0)).trans hx214_0
               replace hx214_1 := (HB.out.cell (World.block_lt_of_cell? w _ hx214_1)).trans hx214_1
               replace p214 := eq_true p214
               replace q214 := eq_true q214
               have p215 : 0 ≤ (x9_2 : Int) := of_decide_eq_true (by first | (with_reducible assumption) | assumption)
               have q215 : x9_2 < (((rd_T32 l0 a1).f4).length : Int) := of_decide_eq_true (by first | (with_reducible assumption) | assumption)
               obtain ⟨ad215, e215, hx215_0, hx215_1⟩ := at_T29 HR211_4.out x9_2 p215 q215
               have hw215_1 := hx215_1
               have hw215_0 := hx215_0
               obtain rfl : ad214 = ad215 := (by injection e215)
               replace hx215_0 := (HB.out.cell (World.block_lt_of_cell? w _ hx215_0)).trans hx215_0
               replace hx215_1 := (HB.out.cell (World.block_lt_of_cell? w _ hx215_1)).trans hx215_1
               replace p215 := eq_true p215
               replace q215 := eq_true q215
               refine start_ (n := 20) (S := fun w' => w'.cell? ⟨gb212, 0, none⟩ = some (.int .i64 ((rd_T32 l0 a1).f0)) ∧ w'.cell? ⟨gb212, 1, none⟩ = some (.int .i64 ((rd_T32 l0 a1).f1)) ∧ w'.cell? ⟨gb212, 2, none⟩ = some (.string ((rd_T32 l0 a1).f2)) ∧ w'.cell? ⟨gb212, 3, none⟩ = some (.string ((rd_T32 l0 a1).f3)) ∧ w'.cell? ⟨gb212, 4, none⟩ = some (.slice (some ad214) ((rd_T32 l0 a1).f4).length c211_4) ∧ w'.cell? ⟨gb212, 5, none⟩ = some (.string ((rd_T32 l0 a1).f5)) ∧ w'.cell? (ad214.add ((x9_2).toNat * 2)) = some (.string ((rd_T29 ((rd_T32 l0 a1).f4) x9_2).f0)) ∧ w'.cell? ⟨(ad214.add ((x9_2).toNat * 2)).block, (ad214.add ((x9_2).toNat * 2)).off + 1, none⟩ = some (.string ((rd_T29 ((rd_T32 l0 a1).f4) x9_2).f1)) ∧ w'.cell? (ad214.add ((x9_2).toNat * 2)) = some (.string ((rd_T29 ((rd_T32 l0 a1).f4) x9_2).f0)) ∧ w'.cell? ⟨(ad214.add ((x9_2).toNat * 2)).block, (ad214.add ((x9_2).toNat * 2)).off + 1, none⟩ = some (.string ((rd_T29 ((rd_T32 l0 a1).f4) x9_2).f1))) (ds := []) #[false, false, false, false, false, false, false, false, false, false, false, false, false, false, false, false, false, false, false, false] (by kernel_rfl) rfl rfl ⟨(blk_cell BK212.out 0).trans rfl, (blk_cell BK212.out 1).trans rfl, (blk_cell BK212.out 2).trans rfl, (blk_cell BK212.out 3).trans rfl, (blk_cell BK212.out 4).trans rfl, (blk_cell BK212.out 5).trans rfl, ((HB.out.cell (World.block_lt_of_cell? w _ hw214_0)).trans hw214_0), ((HB.out.cell (World.block_lt_of_cell? w _ hw214_1)).trans hw214_1), ((HB.out.cell (World.block_lt_of_cell? w _ hw215_0)).trans hw215_0), ((HB.out.cell (World.block_lt_of_cell? w _ hw215_1)).trans hw215_1)⟩ (fun hHeld => ?_); refine with_tabW cardexref08_write.tab8 cardexref08_write.bits8 (fun HT_ HW_ => ?_)
               generalize wr.drew = w25 at BK212 HB hx214_0 hx214_1 hx215_0 hx215_1 hHeld ⊢
               refine pure_ (i := 0) (N := some 37) (v := ?_) (a' := ?_) #[true, false, false, false, false, false, false, false, false, false, false, false, false, false, false, false, false, false, false, false] rfl rfl (any_of HT_.out (by kernel_rfl)) (fun _ _ _ h => h) (Or.inl ⟨by rfl, ?_⟩) ?_ ?_
               rotate_left
               ·intro w'
                go_simp
                with_reducible rfl
               rotate_left
               ·simp only [Act.put, setIfInBounds_toArray, set_cons_zero, set_cons_succ, i64_w, i32_w]
                rfl
               refine pure_ (i := 1) (N := some 38) (v := ?_) (a' := ?_) #[true, true, false, false, false, false, false, false, false, false, false, false, false, false, false, false, false, false, false, false] rfl rfl (any_of HT_.out (by kernel_rfl)) (fun _ _ _ h => h) (Or.inl ⟨by rfl, ?_⟩) ?_ ?_
               rotate_left
               ·intro w'
                go_simp
                with_reducible rfl
               rotate_left
               ·simp only [Act.put, setIfInBounds_toArray, set_cons_zero, set_cons_succ, i64_w, i32_w]
                rfl
               refine pure_ (i := 2) (N := some 39) (v := ?_) (a' := ?_) #[true, true, true, false, false, false, false, false, false, false, false, false, false, false, false, false, false, false, false, false] rfl rfl (any_of HT_.out (by kernel_rfl)) (fun _ _ _ h => h) (Or.inl ⟨by rfl, ?_⟩) ?_ ?_
               rotate_left
               ·intro w'
                go_simp
                with_reducible rfl
               rotate_left
               ·simp only [Act.put, setIfInBounds_toArray, set_cons_zero, set_cons_succ, i64_w, i32_w]
                rfl
               refine pure_ (i := 4) (N := some 41) (v := ?_) (a' := ?_) #[true, true, true, false, true, false, false, false, false, false, false, false, false, false, false, false, false, false, false, false] rfl rfl (any_of HT_.out (by kernel_rfl)) (fun _ _ _ h => h) (Or.inl ⟨by rfl, ?_⟩) ?_ ?_
               rotate_left
               ·intro w'
                go_simp
                with_reducible rfl
               rotate_left
               ·simp only [Act.put, setIfInBounds_toArray, set_cons_zero, set_cons_succ, i64_w, i32_w]
                rfl
               refine pure_ (i := 10) (N := some 47) (v := ?_) (a' := ?_) #[true, true, true, false, true, false, false, false, false, false, true, false, false, false, false, false, false, false, false, false] rfl rfl (any_of HT_.out (by kernel_rfl)) (fun _ _ _ h => h) (Or.inl ⟨by rfl, ?_⟩) ?_ ?_
               rotate_left
               ·intro w'
                go_simp
                with_reducible rfl
               rotate_left
               ·simp only [Act.put, setIfInBounds_toArray, set_cons_zero, set_cons_succ, i64_w, i32_w]
                rfl
               refine pure_ (i := 12) (N := some 49) (v := ?_) (a' := ?_) #[true, true, true, false, true, false, false, false, false, false, true, false, true, false, false, false, false, false, false, false] rfl rfl (any_of HT_.out (by kernel_rfl)) (fun _ _ _ h => h) (Or.inl ⟨by rfl, ?_⟩) ?_ ?_
               rotate_left
               ·intro w'
                go_simp
                with_reducible rfl
               rotate_left
               ·simp only [Act.put, setIfInBounds_toArray, set_cons_zero, set_cons_succ, i64_w, i32_w]
                rfl
               refine take_ (i := 3) (N := some 40) (v := ?_) (a' := ?_) #[true, true, true, true, true, false, false, false, false, false, true, false, true, false, false, false, false, false, false, false] rfl rfl (take_ofW HT_.out HW_.out (by kernel_rfl)) (fun _ _ _ h => h) (Or.inl ⟨by rfl, ?_⟩) hHeld ?_ ?_
               rotate_left
               ·rintro w' ⟨s0, s1, s2, s3, s4, s5, s6, s7, s8, s9⟩
                go_simp
                with_reducible rfl
               rotate_left
               ·simp only [Act.put, setIfInBounds_toArray, set_cons_zero, set_cons_succ, i64_w, i32_w]
                rfl
               refine pure_ (i := 5) (N := some 42) (v := ?_) (a' := ?_) #[true, true, true, true, true, true, false, false, false, false, true, false, true, false, false, false, false, false, false, false] rfl rfl (any_of HT_.out (by kernel_rfl)) (fun _ _ _ h => h) (Or.inl ⟨by rfl, ?_⟩) ?_ ?_
               rotate_left
               ·intro w'
                go_simp
                with_reducible rfl
               rotate_left
               ·simp only [Act.put, setIfInBounds_toArray, set_cons_zero, set_cons_succ, i64_w, i32_w]
                rfl
               refine pure_ (i := 6) (N := some 43) (v := ?_) (a' := ?_) #[true, true, true, true, true, true, true, false, false, false, true, false, true, false, false, false, false, false, false, false] rfl rfl (any_of HT_.out (by kernel_rfl)) (fun _ _ _ h => h) (Or.inl ⟨by rfl, ?_⟩) ?_ ?_
               rotate_left
               ·intro w'
                go_simp
                with_reducible rfl
               rotate_left
               ·simp only [Act.put, setIfInBounds_toArray, set_cons_zero, set_cons_succ, i64_w, i32_w]
                rfl
               refine take_ (i := 7) (N := some 44) (v := ?_) (a' := ?_) #[true, true, true, true, true, true, true, true, false, false, true, false, true, false, false, false, false, false, false, false] rfl rfl (take_ofW HT_.out HW_.out (by kernel_rfl)) (fun _ _ _ h => h) (Or.inl ⟨by rfl, ?_⟩) hHeld ?_ ?_
               rotate_left
               ·rintro w' ⟨s0, s1, s2, s3, s4, s5, s6, s7, s8, s9⟩
                go_simp
                with_reducible rfl
               rotate_left
               ·simp only [Act.put, setIfInBounds_toArray, set_cons_zero, set_cons_succ, i64_w, i32_w]
                rfl
               refine pure_ (i := 8) (N := some 45) (v := ?_) (a' := ?_) #[true, true, true, true, true, true, true, true, true, false, true, false, true, false, false, false, false, false, false, false] rfl rfl (any_of HT_.out (by kernel_rfl)) (fun _ _ _ h => h) (Or.inl ⟨by rfl, ?_⟩) ?_ ?_
               rotate_left
               ·intro w'
                go_simp
                with_reducible rfl
               rotate_left
               ·simp only [Act.put, setIfInBounds_toArray, set_cons_zero, set_cons_succ, i64_w, i32_w]
                rfl
               refine pure_ (i := 9) (N := some 46) (v := ?_) (a' := ?_) #[true, true, true, true, true, true, true, true, true, true, true, false, true, false, false, false, false, false, false, false] rfl rfl (any_of HT_.out (by kernel_rfl)) (fun _ _ _ h => h) (Or.inl ⟨by rfl, ?_⟩) ?_ ?_
               rotate_left
               ·intro w'
                go_simp
                with_reducible rfl
               rotate_left
               ·simp only [Act.put, setIfInBounds_toArray, set_cons_zero, set_cons_succ, i64_w, i32_w]
                rfl
               refine take_ (i := 11) (N := some 48) (v := ?_) (a' := ?_) #[true, true, true, true, true, true, true, true, true, true, true, true, true, false, false, false, false, false, false, false] rfl rfl (take_ofW HT_.out HW_.out (by kernel_rfl)) (fun _ _ _ h => h) (Or.inl ⟨by rfl, ?_⟩) hHeld ?_ ?_
               rotate_left
               ·rintro w' ⟨s0, s1, s2, s3, s4, s5, s6, s7, s8, s9⟩
                go_simp
                with_reducible rfl
               rotate_left
               ·simp only [Act.put, setIfInBounds_toArray, set_cons_zero, set_cons_succ, i64_w, i32_w]
                rfl
               refine pure_ (i := 13) (N := some 50) (v := ?_) (a' := ?_) #[true, true, true, true, true, true, true, true, true, true, true, true, true, true, false, false, false, false, false, false] rfl rfl (any_of HT_.out (by kernel_rfl)) (fun _ _ _ h => h) (Or.inl ⟨by rfl, ?_⟩) ?_ ?_
               rotate_left
               ·intro w'
                go_simp
                with_reducible rfl
               rotate_left
               ·simp only [Act.put, setIfInBounds_toArray, set_cons_zero, set_cons_succ, i64_w, i32_w]
                rfl
               refine pure_ (i := 14) (N := some 51) (v := ?_) (a' := ?_) #[true, true, true, true, true, true, true, true, true, true, true, true, true, true, true, false, false, false, false, false] rfl rfl (any_of HT_.out (by kernel_rfl)) (fun _ _ _ h => h) (Or.inl ⟨by rfl, ?_⟩) ?_ ?_
               rotate_left
               ·intro w'
                go_simp
                with_reducible rfl
               rotate_left
               ·simp only [Act.put, setIfInBounds_toArray, set_cons_zero, set_cons_succ, i64_w, i32_w]
                rfl
               refine take_ (i := 15) (N := some 52) (v := ?_) (a' := ?_) #[true, true, true, true, true, true, true, true, true, true, true, true, true, true, true, true, false, false, false, false] rfl rfl (take_ofW HT_.out HW_.out (by kernel_rfl)) (fun _ _ _ h => h) (Or.inl ⟨by rfl, ?_⟩) hHeld ?_ ?_
               rotate_left
               ·rintro w' ⟨s0, s1, s2, s3, s4, s5, s6, s7, s8, s9⟩
                go_simp
                with_reducible rfl
               rotate_left
               ·simp only [Act.put, setIfInBounds_toArray, set_cons_zero, set_cons_succ, i64_w, i32_w]
                rfl
               refine one_ (i := 16) (N := some 53) #[true, true, true, true, true, true, true, true, true, true, true, true, true, true, true, true, true, false, false, false] rfl rfl (one_of HT_.out (by kernel_rfl)) (by decide) (fun K hK => ?_)
               refine goes_ Tryd.func12 (by kernel_rfl) rfl #[.string ((rd_T29 ((rd_T32 l0 a1).f4) x9_2).f1)] (by rfl) rfl rfl (by (try simp only [List.map_toArray, List.map_cons, List.map_nil]); first | done | rfl | (simp only [List.length_drop, List.length_take]; rfl)) ?_
               with_reducible refine (cardexref01_Escape.calls k2 ((rd_T29 ((rd_T32 l0 a1).f4) x9_2).f1) t216 _ A21.out).mono ?_
               rintro e w' ⟨rfl, ⟨nd, rfl⟩⟩
               refine ⟨_, rfl, ?_⟩
               refine hK.out _ _ ⟨(blk_cell BK212.out 0).trans rfl, (blk_cell BK212.out 1).trans rfl, (blk_cell BK212.out 2).trans rfl, (blk_cell BK212.out 3).trans rfl, (blk_cell BK212.out 4).trans rfl, (blk_cell BK212.out 5).trans rfl, ((HB.out.cell (World.block_lt_of_cell? w _ hw214_0)).trans hw214_0), ((HB.out.cell (World.block_lt_of_cell? w _ hw214_1)).trans hw214_1), ((HB.out.cell (World.block_lt_of_cell? w _ hw215_0)).trans hw215_0), ((HB.out.cell (World.block_lt_of_cell? w _ hw215_1)).trans hw215_1)⟩ (fun hHeld => ?_)
               clear hK K
               refine norm_ (a' := ?_) ?_ ?_
               rotate_left
               ·show Act.put _ (some 53) _ = _
                simp only [Act.put, setIfInBounds_toArray, set_cons_zero, set_cons_succ, i64_w, i32_w]
                rfl
               refine pure_ (i := 17) (N := some 54) (v := ?_) (a' := ?_) #[true, true, true, true, true, true, true, true, true, true, true, true, true, true, true, true, true, true, false, false] rfl rfl (any_of HT_.out (by kernel_rfl)) (fun _ _ _ h => h) (Or.inl ⟨by rfl, ?_⟩) ?_ ?_
               rotate_left
               ·intro w'
                go_simp
                with_reducible rfl
               rotate_left
               ·simp only [Act.put, setIfInBounds_toArray, set_cons_zero, set_cons_succ, i64_w, i32_w]
                rfl
               refine pure_ (i := 18) (N := some 55) (v := ?_) (a' := ?_) #[true, true, true, true, true, true, true, true, true, true, true, true, true, true, true, true, true, true, true, false] rfl rfl (any_of HT_.out (by kernel_rfl)) (fun _ _ _ h => h) (Or.inl ⟨by rfl, ?_⟩) ?_ ?_
               rotate_left
               ·intro w'
                go_simp
                with_reducible rfl
               rotate_left
               ·simp only [Act.put, setIfInBounds_toArray, set_cons_zero, set_cons_succ, i64_w, i32_w]
                rfl
               refine pure_ (i := 19) (N := some 8) (v := ?_) (a' := ?_) #[true, true, true, true, true, true, true, true, true, true, true, true, true, true, true, true, true, true, true, true] rfl rfl (any_of HT_.out (by kernel_rfl)) (fun _ _ _ h => h) (Or.inl ⟨by rfl, ?_⟩) ?_ ?_
               rotate_left
               ·intro w'
                go_simp
                with_reducible rfl
               rotate_left
               ·simp only [Act.put, setIfInBounds_toArray, set_cons_zero, set_cons_succ, i64_w, i32_w]
                rfl
               refine done_ (done_of HT_.out (by kernel_rfl)) ?_
               try go_wp2
               go_roundg k2
               case measure => have := HJ6.out; have := HK2.out; omega
               case rel => exact ⟨(((((x8_2 ++ (⟨#[32]⟩ : ByteArray)) ++ ((rd_T29 ((rd_T32 l0 a1).f4) x9_2).f0)) ++ (⟨#[61, 39]⟩ : ByteArray)) ++ t216) ++ (⟨#[39]⟩ : ByteArray)), (wrap64 (x9_2 + 1)), (by first | rfl | (simp; done) | exact congrArg Value.bool (nemp _) | exact congrArg Value.bool (emp _) | (simp [*]; done)), (by first | rfl | (simp; done) | exact congrArg Value.bool (nemp _) | exact congrArg Value.bool (emp _) | (simp [*]; done)), H', ⟨by have := HJ6.out; have := HK2.out; omega⟩, ⟨by (with_reducible repeat (first | refine blk_drewN ?_ _ | refine blk_drew ?_ | refine blk_alloc ?_ _)); exact BK212.out⟩, ⟨by repeat (first | (with_reducible first | exact HB.out | apply below_alloc | apply pw_below_drewN | apply below_drew1 | refine below_set ?_ GE212.out) | exact HB.out)⟩⟩
              rw [if_neg c23] at H
              exact absurd H (by simp)
             rw [if_neg c22] at H
             exact absurd H (by simp)
            rw [if_neg c20] at H
            exact absurd H (by simp)
           rw [if_neg c19] at H
           exact absurd H (by simp)
          rw [if_neg c18] at H
          exact absurd H (by simp)
         rw [if_neg c17] at H
         exact absurd H (by simp)
        rw [if_neg c16] at H
        have c16b0 : decide (x9_2 < (((rd_T32 l0 a1).f4).length : Int)) = false := decide_eq_false c16
        clear c16
        replace H := Option.bind_eq_some_iff.mp H
        obtain ⟨t217, A260, H⟩ := H
        replace H : (if ((rd_T32 l0 a1).f5).toList = ([] : List UInt8) then (cardexref08_write.j2 k2 l0 x8_2 t217 ((t217.length : Int) == 0) ((rd_T32 l0 a1).f0) ((rd_T32 l0 a1).f1) ((rd_T32 l0 a1).f2) ((rd_T32 l0 a1).f3) ((rd_T32 l0 a1).f4) ((rd_T32 l0 a1).f5)) else (cardexref08_write.j2 k2 l0 x8_2 t217 false ((rd_T32 l0 a1).f0) ((rd_T32 l0 a1).f1) ((rd_T32 l0 a1).f2) ((rd_T32 l0 a1).f3) ((rd_T32 l0 a1).f4) ((rd_T32 l0 a1).f5))) = some r := H
        have A26 := Aside0.mk A260
        clear A260
        have HC27 := Aside0.mk H
        clear H
        have hcz28_0 : wr.cell? ⟨gb212, 0, none⟩ = some (.int .i64 ((rd_T32 l0 a1).f0)) := (blk_cell BK212.out 0).trans rfl
        have hcz28_1 : wr.cell? ⟨gb212, 1, none⟩ = some (.int .i64 ((rd_T32 l0 a1).f1)) := (blk_cell BK212.out 1).trans rfl
        have hcz28_2 : wr.cell? ⟨gb212, 2, none⟩ = some (.string ((rd_T32 l0 a1).f2)) := (blk_cell BK212.out 2).trans rfl
        have hcz28_3 : wr.cell? ⟨gb212, 3, none⟩ = some (.string ((rd_T32 l0 a1).f3)) := (blk_cell BK212.out 3).trans rfl
        have hcz28_4 : wr.cell? ⟨gb212, 4, none⟩ = some (.slice A211_4 ((rd_T32 l0 a1).f4).length c211_4) := (blk_cell BK212.out 4).trans rfl
        have hcz28_5 : wr.cell? ⟨gb212, 5, none⟩ = some (.string ((rd_T32 l0 a1).f5)) := (blk_cell BK212.out 5).trans rfl
        have hfz28_0 := blk_frozen BK212.out 0
        have hfz28_1 := blk_frozen BK212.out 1
        have hfz28_2 := blk_frozen BK212.out 2
        have hfz28_3 := blk_frozen BK212.out 3
        have hfz28_4 := blk_frozen BK212.out 4
        have hfz28_5 := blk_frozen BK212.out 5
        go_upto_region 10 with (first | ((with_reducible refine gate_callee (f := 28) rfl ?_); refine goesL_ (some 58) rfl rfl Tryd.func28 (by kernel_rfl) rfl #[.slice (some ad211) l0.length c0, .int .i64 a1] rfl (by (try simp only [List.map_toArray, List.map_cons, List.map_nil]); first | done | rfl | (simp only [List.length_drop, List.length_take]; rfl)) ?_; (with_reducible refine (cardexref08_Kids.calls k2 _ _ l0 a1 t217 _ ?side1 ?side2 A26.out).mono ?_); (case side1 => repeat (first | exact (Kd.C_below HR0.out HB.out) | (with_reducible refine Kd.C_alloc ?_ _) | (with_reducible refine Kd.C_drewN ?_ _) | (with_reducible refine Kd.C_drew ?_))); (case side2 => exact HC0.out); rintro e w29 ⟨v218, rfl, ho0, hb⟩; refine ⟨_, rfl, ?_⟩; have n0_ := Aside0.mk (Kd.R_lower ho0 (below_size (by repeat (first | (with_reducible first | exact HB.out | apply below_alloc | apply pw_below_drewN | apply below_drew1 | refine below_set ?_ GE212.out) | exact HB.out)))); have n1_ := Aside0.mk (blk_below (g := gb212) (o := .cells #[.int .i64 ((rd_T32 l0 a1).f0), .int .i64 ((rd_T32 l0 a1).f1), .string ((rd_T32 l0 a1).f2), .string ((rd_T32 l0 a1).f3), .slice A211_4 ((rd_T32 l0 a1).f4).length c211_4, .string ((rd_T32 l0 a1).f5)] 32 (0, 0)) (by (with_reducible repeat (first | refine blk_drewN ?_ _ | refine blk_drew ?_ | refine blk_alloc ?_ _)); exact BK212.out) hb); have n2_ := Aside0.mk (below_step (by repeat (first | (with_reducible first | exact HB.out | apply below_alloc | apply pw_below_drewN | apply below_drew1 | refine below_set ?_ GE212.out) | exact HB.out)) hb); clear BK212; clear HB; have HO219 := n0_; have BK212 := n1_; have HB := n2_; clear n0_ n1_ n2_; (try clear hb); (try clear hb2); (try clear hk); (try clear hi); (try clear ho0)))
        (try simp only [Act.put, setIfInBounds_toArray, set_cons_zero, set_cons_succ])
        go_cut [66] (fun v66 wc => ∃ (kq : Nat) (x66_26 : Bool), v66 = .bool x66_26 ∧ Aside0 (cardexref08_write.j2 kq l0 x8_2 t217 x66_26 ((rd_T32 l0 a1).f0) ((rd_T32 l0 a1).f1) ((rd_T32 l0 a1).f2) ((rd_T32 l0 a1).f3) ((rd_T32 l0 a1).f4) ((rd_T32 l0 a1).f5) = some r) ∧ Aside0 (kq ≤ k2) ∧ Aside0 (Kd.R (Kd.int .i64) 3 wc w.heap.size (fun _ => True) v218 t217) ∧ Aside0 (wc.heap[gb212]? = some (.cells #[.int .i64 ((rd_T32 l0 a1).f0), .int .i64 ((rd_T32 l0 a1).f1), .string ((rd_T32 l0 a1).f2), .string ((rd_T32 l0 a1).f3), (.slice A211_4 ((rd_T32 l0 a1).f4).length c211_4), .string ((rd_T32 l0 a1).f5)] 32 (0, 0))) ∧ Aside0 (Below w.heap.size w wc))
        case first =>
         have H := HC27.out
         clear HC27
         by_cases c30 : ((rd_T32 l0 a1).f5).toList = ([] : List UInt8)
         ·rw [if_pos c30] at H
          have c30b0 : (((rd_T32 l0 a1).f5).toList == ([] : List UInt8)) = true := beq_iff_eq.mpr c30
          have c30b1 : (((rd_T32 l0 a1).f5).toList != ([] : List UInt8)) = false := bne_eq_false_iff_eq.mpr c30
          clear c30
          (first | rw [c30b0] | (simp only [i64_w, i32_w]; rw [c30b0]) | (have h_ := c30b0; rw [List.beq_nil_eq] at h_; rw [h_]) | skip)
          have H' := Aside0.mk H
          clear H
          have hcz31_0 : w29.cell? ⟨gb212, 0, none⟩ = some (.int .i64 ((rd_T32 l0 a1).f0)) := (blk_cell BK212.out 0).trans rfl
          have hcz31_1 : w29.cell? ⟨gb212, 1, none⟩ = some (.int .i64 ((rd_T32 l0 a1).f1)) := (blk_cell BK212.out 1).trans rfl
          have hcz31_2 : w29.cell? ⟨gb212, 2, none⟩ = some (.string ((rd_T32 l0 a1).f2)) := (blk_cell BK212.out 2).trans rfl
          have hcz31_3 : w29.cell? ⟨gb212, 3, none⟩ = some (.string ((rd_T32 l0 a1).f3)) := (blk_cell BK212.out 3).trans rfl
          have hcz31_4 : w29.cell? ⟨gb212, 4, none⟩ = some (.slice A211_4 ((rd_T32 l0 a1).f4).length c211_4) := (blk_cell BK212.out 4).trans rfl
          have hcz31_5 : w29.cell? ⟨gb212, 5, none⟩ = some (.string ((rd_T32 l0 a1).f5)) := (blk_cell BK212.out 5).trans rfl
          have hfz31_0 := blk_frozen BK212.out 0
          have hfz31_1 := blk_frozen BK212.out 1
          have hfz31_2 := blk_frozen BK212.out 2
          have hfz31_3 := blk_frozen BK212.out 3
          have hfz31_4 := blk_frozen BK212.out 4
          have hfz31_5 := blk_frozen BK212.out 5
          obtain ⟨Ao32, co32, eo32⟩ := Kd.R_slice HO219.out
          subst eo32
          go_wp2
          go_meet
          case rel => exact ⟨_, (((t217.length : Int) == 0)), (by first | rfl | (simp; done) | exact congrArg Value.bool (nemp _) | exact congrArg Value.bool (emp _) | (simp [*]; done)), H', ⟨by have := HJ6.out; have := HK2.out; first | omega | exact Nat.le_refl _⟩, ⟨by (with_reducible repeat (first | apply Kd.R_alloc | apply Kd.R_drewN | apply Kd.R_drew)); exact HO219.out⟩, ⟨by (with_reducible repeat (first | refine blk_drewN ?_ _ | refine blk_drew ?_ | refine blk_alloc ?_ _)); exact BK212.out⟩, ⟨by repeat (first | (with_reducible first | exact HB.out | apply below_alloc | apply pw_below_drewN | apply below_drew1 | refine below_set ?_ GE212.out) | exact HB.out)⟩⟩
         rw [if_neg c30] at H
         have c30b0 : (((rd_T32 l0 a1).f5).toList == ([] : List UInt8)) = false := beq_eq_false_iff_ne.mpr c30
         have c30b1 : (((rd_T32 l0 a1).f5).toList != ([] : List UInt8)) = true := bne_iff_ne.mpr c30
         (first | rw [c30b0] | (simp only [i64_w, i32_w]; rw [c30b0]) | (have h_ := c30b0; rw [List.beq_nil_eq] at h_; rw [h_]) | skip)
         have H' := Aside0.mk H
         clear H
         have hcz33_0 : w29.cell? ⟨gb212, 0, none⟩ = some (.int .i64 ((rd_T32 l0 a1).f0)) := (blk_cell BK212.out 0).trans rfl
         have hcz33_1 : w29.cell? ⟨gb212, 1, none⟩ = some (.int .i64 ((rd_T32 l0 a1).f1)) := (blk_cell BK212.out 1).trans rfl
         have hcz33_2 : w29.cell? ⟨gb212, 2, none⟩ = some (.string ((rd_T32 l0 a1).f2)) := (blk_cell BK212.out 2).trans rfl
         have hcz33_3 : w29.cell? ⟨gb212, 3, none⟩ = some (.string ((rd_T32 l0 a1).f3)) := (blk_cell BK212.out 3).trans rfl
         have hcz33_4 : w29.cell? ⟨gb212, 4, none⟩ = some (.slice A211_4 ((rd_T32 l0 a1).f4).length c211_4) := (blk_cell BK212.out 4).trans rfl
         have hcz33_5 : w29.cell? ⟨gb212, 5, none⟩ = some (.string ((rd_T32 l0 a1).f5)) := (blk_cell BK212.out 5).trans rfl
         have hfz33_0 := blk_frozen BK212.out 0
         have hfz33_1 := blk_frozen BK212.out 1
         have hfz33_2 := blk_frozen BK212.out 2
         have hfz33_3 := blk_frozen BK212.out 3
         have hfz33_4 := blk_frozen BK212.out 4
         have hfz33_5 := blk_frozen BK212.out 5
         go_wp2
         go_meet
         case rel => exact ⟨_, (false), (by first | rfl | (simp; done) | exact congrArg Value.bool (nemp _) | exact congrArg Value.bool (emp _) | (simp [*]; done)), H', ⟨by have := HJ6.out; have := HK2.out; first | omega | exact Nat.le_refl _⟩, ⟨by (with_reducible repeat (first | apply Kd.R_alloc | apply Kd.R_drewN | apply Kd.R_drew)); exact HO219.out⟩, ⟨by (with_reducible repeat (first | refine blk_drewN ?_ _ | refine blk_drew ?_ | refine blk_alloc ?_ _)); exact BK212.out⟩, ⟨by repeat (first | (with_reducible first | exact HB.out | apply below_alloc | apply pw_below_drewN | apply below_drew1 | refine below_set ?_ GE212.out) | exact HB.out)⟩⟩
        case rest =>
         clear HC27
         try clear c1
         try clear c2
         try clear p2
         try clear q2
         try clear hx2
         try clear c3
         try clear c4
         try clear c4b0
         try clear c5
         try clear c5b0
         try clear c6
         try clear c6b0
         try clear c6b1
         try clear c6b2
         try clear p6
         try clear c10
         try clear c10b0
         try clear c10b1
         try clear c11
         try clear c11b0
         try clear c11b1
         try clear c11b2
         try clear c12
         try clear c13
         try clear c13b0
         try clear c13b1
         try clear c13b2
         try clear c14
         try clear c14b0
         try clear c14b1
         try clear c14b2
         try clear c16
         try clear c16b0
         try clear c17
         try clear c17b0
         try clear c17b1
         try clear c17b2
         try clear c18
         try clear c18b0
         try clear c19
         try clear c19b0
         try clear c19b1
         try clear c19b2
         try clear c20
         try clear c20b0
         try clear c20b1
         try clear c20b2
         try clear c21
         try clear p21
         try clear q21
         try clear hx21
         try clear c22
         try clear c22b0
         try clear c22b1
         try clear c22b2
         try clear c23
         try clear c23b0
         try clear c23b1
         try clear c23b2
         try clear c28
         try clear c30
         try clear c30b0
         try clear c30b1
         try clear hcz15_0
         try clear hcz15_1
         try clear hcz15_2
         try clear hcz15_3
         try clear hcz15_4
         try clear hcz15_5
         try clear hcz24_0
         try clear hcz24_1
         try clear hcz24_2
         try clear hcz24_3
         try clear hcz24_4
         try clear hcz24_5
         try clear hcz28_0
         try clear hcz28_1
         try clear hcz28_2
         try clear hcz28_3
         try clear hcz28_4
         try clear hcz28_5
         try clear hcz31_0
         try clear hcz31_1
         try clear hcz31_2
         try clear hcz31_3
         try clear hcz31_4
         try clear hcz31_5
         try clear hcz33_0
         try clear hcz33_1
         try clear hcz33_2
         try clear hcz33_3
         try clear hcz33_4
         try clear hcz33_5
         try clear hcz9_0
         try clear hcz9_1
         try clear hcz9_2
         try clear hcz9_3
         try clear hcz9_4
         try clear hcz9_5
         try clear hfz15_0
         try clear hfz15_1
         try clear hfz15_2
         try clear hfz15_3
         try clear hfz15_4
         try clear hfz15_5
         try clear hfz24_0
         try clear hfz24_1
         try clear hfz24_2
         try clear hfz24_3
         try clear hfz24_4
         try clear hfz24_5
         try clear hfz28_0
         try clear hfz28_1
         try clear hfz28_2
         try clear hfz28_3
         try clear hfz28_4
         try clear hfz28_5
         try clear hfz31_0
         try clear hfz31_1
         try clear hfz31_2
         try clear hfz31_3
         try clear hfz31_4
         try clear hfz31_5
         try clear hfz33_0
         try clear hfz33_1
         try clear hfz33_2
         try clear hfz33_3
         try clear hfz33_4
         try clear hfz33_5
         try clear hfz9_0
         try clear hfz9_1
         try clear hfz9_2
         try clear hfz9_3
         try clear hfz9_4
         try clear hfz9_5
         try clear hx211_0
         try clear hx211_1
         try clear hx211_2
         try clear hx211_3
         try clear hx211_4
         try clear hx211_5
         try clear hx214_0
         try clear hx214_1
         try clear hx215_0
         try clear hx215_1
         try clear p2
         try clear p211
         try clear p214
         try clear p215
         try clear q2
         try clear q211
         try clear q214
         try clear q215
         obtain ⟨kq, x66_26, rfl, HA, HJ26, HO_10, BK212, HB⟩ := hcut
         cases kq with
         | zero => exact absurd HA.out (by simp [cardexref08_write.j2])
         | succ kj26 =>
          have H := HA.out
          clear HA
          simp only [cardexref08_write.j2] at H
          by_cases c34 : x66_26 = true
          ·subst c34
           have H1 : (if x8_2.size + 2 ≤ 9223372036854775807 then (some (x8_2 ++ (⟨#[47, 62]⟩ : ByteArray))) else (none)) = some r := by rw [if_pos rfl] at H; exact H
           clear H
           have H := H1
           clear H1
           by_cases c35 : x8_2.size + 2 ≤ 9223372036854775807
           ·rw [if_pos c35] at H
            have c35b0 := eq_true c35
            have c35b1 : decide (x8_2.size + 2 ≤ 9223372036854775807) = true := decide_eq_true c35
            try have c35b2 : (9223372036854775807 < x8_2.size + 2) = False := eq_false (Nat.not_lt.2 c35)
            obtain rfl := Option.some.inj H
            go_wp2
            go_ret
            exact ⟨by first | rfl | (simp only [nemp]; rfl) | (simp [errW_none, errW_some] <;> rfl) | (simp [*, errW_none, errW_some] <;> rfl), by repeat (first | (with_reducible first | exact HB.out | apply below_alloc | apply pw_below_drewN | apply below_drew1 | refine below_set ?_ GE212.out) | exact HB.out)⟩
           rw [if_neg c35] at H
           exact absurd H (by simp)
          replace c34 := Bool.eq_false_iff.mpr c34
          subst c34
          have H1 : (if x8_2.size + 1 ≤ 9223372036854775807 then ((cardexref01_Escape.f kj26 ((rd_T32 l0 a1).f5)).bind fun t220 => (if (x8_2 ++ (⟨#[62]⟩ : ByteArray)).size + t220.size ≤ 9223372036854775807 then (cardexref08_write.l1 kj26 l0 ((x8_2 ++ (⟨#[62]⟩ : ByteArray)) ++ t220) t217 0 ((rd_T32 l0 a1).f0) ((rd_T32 l0 a1).f1) ((rd_T32 l0 a1).f2) ((rd_T32 l0 a1).f3) ((rd_T32 l0 a1).f4) ((rd_T32 l0 a1).f5)) else (none))) else (none)) = some r := by rw [if_neg (show ¬ (false = true) by decide)] at H; exact H
          clear H
          have H := H1
          clear H1
          by_cases c36 : x8_2.size + 1 ≤ 9223372036854775807
          ·rw [if_pos c36] at H
           have c36b0 := eq_true c36
           have c36b1 : decide (x8_2.size + 1 ≤ 9223372036854775807) = true := decide_eq_true c36
           try have c36b2 : (9223372036854775807 < x8_2.size + 1) = False := eq_false (Nat.not_lt.2 c36)
           replace H := Option.bind_eq_some_iff.mp H
           obtain ⟨t220, A370, H⟩ := H
           replace H : (if (x8_2 ++ (⟨#[62]⟩ : ByteArray)).size + t220.size ≤ 9223372036854775807 then (cardexref08_write.l1 kj26 l0 ((x8_2 ++ (⟨#[62]⟩ : ByteArray)) ++ t220) t217 0 ((rd_T32 l0 a1).f0) ((rd_T32 l0 a1).f1) ((rd_T32 l0 a1).f2) ((rd_T32 l0 a1).f3) ((rd_T32 l0 a1).f4) ((rd_T32 l0 a1).f5)) else (none)) = some r := H
           have A37 := Aside0.mk A370
           clear A370
           by_cases c38 : (x8_2 ++ (⟨#[62]⟩ : ByteArray)).size + t220.size ≤ 9223372036854775807
           ·rw [if_pos c38] at H
            have c38b0 := eq_true c38
            have c38b1 : decide ((x8_2 ++ (⟨#[62]⟩ : ByteArray)).size + t220.size ≤ 9223372036854775807) = true := decide_eq_true c38
            try have c38b2 : (9223372036854775807 < (x8_2 ++ (⟨#[62]⟩ : ByteArray)).size + t220.size) = False := eq_false (Nat.not_lt.2 c38)
            try have c38b3 : (9223372036854775807 < x8_2.size + 1 + t220.size) = False := eq_false (Nat.not_lt.2 (by have h_ := c38; simp only [ByteArray.size_append] at h_; exact h_))
            have H' := Aside0.mk H
            clear H
            have hcz39_0 : wc.cell? ⟨gb212, 0, none⟩ = some (.int .i64 ((rd_T32 l0 a1).f0)) := (blk_cell BK212.out 0).trans rfl
            have hcz39_1 : wc.cell? ⟨gb212, 1, none⟩ = some (.int .i64 ((rd_T32 l0 a1).f1)) := (blk_cell BK212.out 1).trans rfl
            have hcz39_2 : wc.cell? ⟨gb212, 2, none⟩ = some (.string ((rd_T32 l0 a1).f2)) := (blk_cell BK212.out 2).trans rfl
            have hcz39_3 : wc.cell? ⟨gb212, 3, none⟩ = some (.string ((rd_T32 l0 a1).f3)) := (blk_cell BK212.out 3).trans rfl
            have hcz39_4 : wc.cell? ⟨gb212, 4, none⟩ = some (.slice A211_4 ((rd_T32 l0 a1).f4).length c211_4) := (blk_cell BK212.out 4).trans rfl
            have hcz39_5 : wc.cell? ⟨gb212, 5, none⟩ = some (.string ((rd_T32 l0 a1).f5)) := (blk_cell BK212.out 5).trans rfl
            have hfz39_0 := blk_frozen BK212.out 0
            have hfz39_1 := blk_frozen BK212.out 1
            have hfz39_2 := blk_frozen BK212.out 2
            have hfz39_3 := blk_frozen BK212.out 3
            have hfz39_4 := blk_frozen BK212.out 4
            have hfz39_5 := blk_frozen BK212.out 5
            go_wp2_with (first | ((with_reducible refine gate_callee (f := 12) rfl ?_); refine goesL_ (some 73) rfl rfl Tryd.func12 (by kernel_rfl) rfl #[.string ((rd_T32 l0 a1).f5)] rfl (by (try simp only [List.map_toArray, List.map_cons, List.map_nil]); first | done | rfl | (simp only [List.length_drop, List.length_take]; rfl)) ?_; (with_reducible refine (cardexref01_Escape.calls kj26 ((rd_T32 l0 a1).f5) t220 _ A37.out).mono ?_); rintro e w' ⟨rfl, ⟨nd, rfl⟩⟩; refine ⟨_, rfl, ?_⟩))
            go_loopg [8, 11] kj26 (fun kq v8 v11 w' => ∃ (x8_4 : ByteArray) (x11_4 : Int), v8 = .string x8_4 ∧ v11 = .int .i64 x11_4 ∧ Aside0 (cardexref08_write.l1 kq l0 x8_4 t217 x11_4 ((rd_T32 l0 a1).f0) ((rd_T32 l0 a1).f1) ((rd_T32 l0 a1).f2) ((rd_T32 l0 a1).f3) ((rd_T32 l0 a1).f4) ((rd_T32 l0 a1).f5) = some r) ∧ Aside0 (kq ≤ kj26) ∧ Aside0 (Kd.R (Kd.int .i64) 3 w' w.heap.size (fun _ => True) v218 t217) ∧ Aside0 (w'.heap[gb212]? = some (.cells #[.int .i64 ((rd_T32 l0 a1).f0), .int .i64 ((rd_T32 l0 a1).f1), .string ((rd_T32 l0 a1).f2), .string ((rd_T32 l0 a1).f3), (.slice A211_4 ((rd_T32 l0 a1).f4).length c211_4), .string ((rd_T32 l0 a1).f5)] 32 (0, 0))) ∧ Aside0 (Below w.heap.size w w'))
            case atStart => exact ⟨((x8_2 ++ (⟨#[62]⟩ : ByteArray)) ++ t220), (0), (by first | rfl | (simp; done) | exact congrArg Value.bool (nemp _) | exact congrArg Value.bool (emp _) | (simp [*]; done)), (by first | rfl | (simp; done) | exact congrArg Value.bool (nemp _) | exact congrArg Value.bool (emp _) | (simp [*]; done)), H', ⟨Nat.le_refl _⟩, ⟨by (with_reducible repeat (first | apply Kd.R_alloc | apply Kd.R_drewN | apply Kd.R_drew)); exact HO_10.out⟩, ⟨by (with_reducible repeat (first | refine blk_drewN ?_ _ | refine blk_drew ?_ | refine blk_alloc ?_ _)); exact BK212.out⟩, ⟨by repeat (first | (with_reducible first | exact HB.out | apply below_alloc | apply pw_below_drewN | apply below_drew1 | refine below_set ?_ GE212.out) | exact HB.out)⟩⟩
            case round =>
             clear H'
             try clear c1
             try clear c2
             try clear p2
             try clear q2
             try clear hx2
             try clear c3
             try clear c4
             try clear c4b0
             try clear c5
             try clear c5b0
             try clear c6
             try clear c6b0
             try clear c6b1
             try clear c6b2
             try clear p6
             try clear c10
             try clear c10b0
             try clear c10b1
             try clear c11
             try clear c11b0
             try clear c11b1
             try clear c11b2
             try clear c12
             try clear c13
             try clear c13b0
             try clear c13b1
             try clear c13b2
             try clear c14
             try clear c14b0
             try clear c14b1
             try clear c14b2
             try clear c16
             try clear c16b0
             try clear c17
             try clear c17b0
             try clear c17b1
             try clear c17b2
             try clear c18
             try clear c18b0
             try clear c19
             try clear c19b0
             try clear c19b1
             try clear c19b2
             try clear c20
             try clear c20b0
             try clear c20b1
             try clear c20b2
             try clear c21
             try clear p21
             try clear q21
             try clear hx21
             try clear c22
             try clear c22b0
             try clear c22b1
             try clear c22b2
             try clear c23
             try clear c23b0
             try clear c23b1
             try clear c23b2
             try clear c28
             try clear c30
             try clear c30b0
             try clear c30b1
             try clear c34
             try clear c35
             try clear c35b0
             try clear c35b1
             try clear c35b2
             try clear c36
             try clear c36b0
             try clear c36b1
             try clear c36b2
             try clear c38
             try clear c38b0
             try clear c38b1
             try clear c38b2
             try clear hcz15_0
             try clear hcz15_1
             try clear hcz15_2
             try clear hcz15_3
             try clear hcz15_4
             try clear hcz15_5
             try clear hcz24_0
             try clear hcz24_1
             try clear hcz24_2
             try clear hcz24_3
             try clear hcz24_4
             try clear hcz24_5
             try clear hcz28_0
             try clear hcz28_1
             try clear hcz28_2
             try clear hcz28_3
             try clear hcz28_4
             try clear hcz28_5
             try clear hcz31_0
             try clear hcz31_1
             try clear hcz31_2
             try clear hcz31_3
             try clear hcz31_4
             try clear hcz31_5
             try clear hcz33_0
             try clear hcz33_1
             try clear hcz33_2
             try clear hcz33_3
             try clear hcz33_4
             try clear hcz33_5
             try clear hcz39_0
             try clear hcz39_1
             try clear hcz39_2
             try clear hcz39_3
             try clear hcz39_4
             try clear hcz39_5
             try clear hcz9_0
             try clear hcz9_1
             try clear hcz9_2
             try clear hcz9_3
             try clear hcz9_4
             try clear hcz9_5
             try clear hfz15_0
             try clear hfz15_1
             try clear hfz15_2
             try clear hfz15_3
             try clear hfz15_4
             try clear hfz15_5
             try clear hfz24_0
             try clear hfz24_1
             try clear hfz24_2
             try clear hfz24_3
             try clear hfz24_4
             try clear hfz24_5
             try clear hfz28_0
             try clear hfz28_1
             try clear hfz28_2
             try clear hfz28_3
             try clear hfz28_4
             try clear hfz28_5
             try clear hfz31_0
             try clear hfz31_1
             try clear hfz31_2
             try clear hfz31_3
             try clear hfz31_4
             try clear hfz31_5
             try clear hfz33_0
             try clear hfz33_1
             try clear hfz33_2
             try clear hfz33_3
             try clear hfz33_4
             try clear hfz33_5
             try clear hfz39_0
             try clear hfz39_1
             try clear hfz39_2
             try clear hfz39_3
             try clear hfz39_4
             try clear hfz39_5
             try clear hfz9_0
             try clear hfz9_1
             try clear hfz9_2
             try clear hfz9_3
             try clear hfz9_4
             try clear hfz9_5
             try clear hx211_0
             try clear hx211_1
             try clear hx211_2
             try clear hx211_3
             try clear hx211_4
             try clear hx211_5
             try clear hx214_0
             try clear hx214_1
             try clear hx215_0
             try clear hx215_1
             try clear p2
             try clear p21
             try clear p211
             try clear p214
             try clear p215
             try clear p6
             try clear q2
             try clear q21
             try clear q211
             try clear q214
             try clear q215
             obtain ⟨x8_4, x11_4, rfl, rfl, HA, HK4, HO_10, BK212, HB⟩ := hrel
             cases gk with
             | zero => exact absurd HA.out (by simp [cardexref08_write.l1])
             | succ k4 =>
              have H := HA.out
              clear HA
              simp only [cardexref08_write.l1] at H
              by_cases c40 : x11_4 < (t217.length : Int)
              ·rw [if_pos c40] at H
               have c40b0 : decide (x11_4 < (t217.length : Int)) = true := decide_eq_true c40
               clear c40
               by_cases c41 : 0 ≤ x11_4
               ·rw [if_pos c41] at H
                have c41b0 : decide (0 ≤ x11_4) = true := decide_eq_true c41
                clear c41
                replace H := Option.bind_eq_some_iff.mp H
                obtain ⟨t222, A420, H⟩ := H
                replace H : (if x8_4.size + t222.size ≤ 9223372036854775807 then (cardexref08_write.l1 k4 l0 (x8_4 ++ t222) t217 (wrap64 (x11_4 + 1)) ((rd_T32 l0 a1).f0) ((rd_T32 l0 a1).f1) ((rd_T32 l0 a1).f2) ((rd_T32 l0 a1).f3) ((rd_T32 l0 a1).f4) ((rd_T32 l0 a1).f5)) else (none)) = some r := H
                have A42 := Aside0.mk A420
                clear A420
                by_cases c43 : x8_4.size + t222.size ≤ 9223372036854775807
                ·rw [if_pos c43] at H
                 have c43b0 := eq_true c43
                 have c43b1 : decide (x8_4.size + t222.size ≤ 9223372036854775807) = true := decide_eq_true c43
                 try have c43b2 : (9223372036854775807 < x8_4.size + t222.size) = False := eq_false (Nat.not_lt.2 c43)
                 have H' := Aside0.mk H
                 clear H
                 obtain ⟨Ao44, co44, eo44⟩ := Kd.R_slice HO_10.out
                 subst eo44
                 try go_wp2
                 have n0_ := Aside0.mk (Kd.R_drew HO_10.out)
                 have n1_ := Aside0.mk (blk_drew BK212.out)
                 have n2_ := Aside0.mk (below_drew1 HB.out)
                 clear HO_10
                 clear BK212
                 clear HB
                 have HO_10 := n0_
                 have BK212 := n1_
                 have HB := n2_
                 clear n0_ n1_ n2_
                 have p221 : 0 ≤ (x11_4 : Int) := of_decide_eq_true (by first | (with_reducible assumption) | assumption)
                 have q221 : x11_4 < (t217.length : Int) := of_decide_eq_true (by first | (with_reducible assumption) | assumption)
                 obtain ⟨ad221, e221, hx221_0⟩ := Kd.at_int (Kd.R_reads' HO_10.out).2.2 x11_4 p221 q221
                 cases e221
                 replace p221 := eq_true p221
                 replace q221 := eq_true q221
                 refine start_ (n := 11) (S := fun w' => w'.cell? ⟨gb212, 0, none⟩ = some (.int .i64 ((rd_T32 l0 a1).f0)) ∧ w'.cell? ⟨gb212, 1, none⟩ = some (.int .i64 ((rd_T32 l0 a1).f1)) ∧ w'.cell? ⟨gb212, 2, none⟩ = some (.string ((rd_T32 l0 a1).f2)) ∧ w'.cell? ⟨gb212, 3, none⟩ = some (.string ((rd_T32 l0 a1).f3)) ∧ w'.cell? ⟨gb212, 4, none⟩ = some (.slice A211_4 ((rd_T32 l0 a1).f4).length c211_4) ∧ w'.cell? ⟨gb212, 5, none⟩ = some (.string ((rd_T32 l0 a1).f5)) ∧ w'.cell? (ad221.add (x11_4).toNat) = some (.int .i64 (rd t217 x11_4))) (ds := []) #[false, false, false, false, false, false, false, false, false, false, false] (by kernel_rfl) rfl rfl ⟨(blk_cell BK212.out 0).trans rfl, (blk_cell BK212.out 1).trans rfl, (blk_cell BK212.out 2).trans rfl, (blk_cell BK212.out 3).trans rfl, (blk_cell BK212.out 4).trans rfl, (blk_cell BK212.out 5).trans rfl, hx221_0⟩ (fun hHeld => ?_); refine with_tabW cardexref08_write.tab16 cardexref08_write.bits16 (fun HT_ HW_ => ?_)
                 generalize wr.drew = w45 at HO_10 BK212 HB hx221_0 hHeld ⊢
                 refine pure_ (i := 0) (N := some 81) (v := ?_) (a' := ?_) #[true, false, false, false, false, false, false, false, false, false, false] rfl rfl (any_of HT_.out (by kernel_rfl)) (fun _ _ _ h => h) (Or.inl ⟨by rfl, ?_⟩) ?_ ?_
                 rotate_left
                 ·intro w'
                  go_simp
                  with_reducible rfl
                 rotate_left
                 ·simp only [Act.put, setIfInBounds_toArray, set_cons_zero, set_cons_succ, i64_w, i32_w]
                  rfl
                 refine pure_ (i := 1) (N := some 82) (v := ?_) (a' := ?_) #[true, true, false, false, false, false, false, false, false, false, false] rfl rfl (any_of HT_.out (by kernel_rfl)) (fun _ _ _ h => h) (Or.inl ⟨by rfl, ?_⟩) ?_ ?_
                 rotate_left
                 ·intro w'
                  go_simp
                  with_reducible rfl
                 rotate_left
                 ·simp only [Act.put, setIfInBounds_toArray, set_cons_zero, set_cons_succ, i64_w, i32_w]
                  rfl
                 refine pure_ (i := 2) (N := some 83) (v := ?_) (a' := ?_) #[true, true, true, false, false, false, false, false, false, false, false] rfl rfl (any_of HT_.out (by kernel_rfl)) (fun _ _ _ h => h) (Or.inl ⟨by rfl, ?_⟩) ?_ ?_
                 rotate_left
                 ·intro w'
                  go_simp
                  with_reducible rfl
                 rotate_left
                 ·simp only [Act.put, setIfInBounds_toArray, set_cons_zero, set_cons_succ, i64_w, i32_w]
                  rfl
                 refine pure_ (i := 3) (N := some 84) (v := ?_) (a' := ?_) #[true, true, true, true, false, false, false, false, false, false, false] rfl rfl (any_of HT_.out (by kernel_rfl)) (fun _ _ _ h => h) (Or.inl ⟨by rfl, ?_⟩) ?_ ?_
                 rotate_left
                 ·intro w'
                  go_simp
                  with_reducible rfl
                 rotate_left
                 ·simp only [Act.put, setIfInBounds_toArray, set_cons_zero, set_cons_succ, i64_w, i32_w]
                  rfl
                 refine pure_ (i := 4) (N := some 85) (v := ?_) (a' := ?_) #[true, true, true, true, true, false, false, false, false, false, false] rfl rfl (any_of HT_.out (by kernel_rfl)) (fun _ _ _ h => h) (Or.inl ⟨by rfl, ?_⟩) ?_ ?_
                 rotate_left
                 ·intro w'
                  go_simp
                  with_reducible rfl
                 rotate_left
                 ·simp only [Act.put, setIfInBounds_toArray, set_cons_zero, set_cons_succ, i64_w, i32_w]
                  rfl
                 refine pure_ (i := 6) (N := some 87) (v := ?_) (a' := ?_) #[true, true, true, true, true, false, true, false, false, false, false] rfl rfl (any_of HT_.out (by kernel_rfl)) (fun _ _ _ h => h) (Or.inl ⟨by rfl, ?_⟩) ?_ ?_
                 rotate_left
                 ·intro w'
                  go_simp
                  with_reducible rfl
                 rotate_left
                 ·simp only [Act.put, setIfInBounds_toArray, set_cons_zero, set_cons_succ, i64_w, i32_w]
                  rfl
                 refine take_ (i := 5) (N := some 86) (v := ?_) (a' := ?_) #[true, true, true, true, true, true, true, false, false, false, false] rfl rfl (take_ofW HT_.out HW_.out (by kernel_rfl)) (fun _ _ _ h => h) (Or.inl ⟨by rfl, ?_⟩) hHeld ?_ ?_
                 rotate_left
                 ·rintro w' ⟨s0, s1, s2, s3, s4, s5, s6⟩
                  go_simp
                  with_reducible rfl
                 rotate_left
                 ·simp only [Act.put, setIfInBounds_toArray, set_cons_zero, set_cons_succ, i64_w, i32_w]
                  rfl
                 refine take_ (i := 7) (N := some 88) (v := ?_) (a' := ?_) #[true, true, true, true, true, true, true, true, false, false, false] rfl rfl (take_ofW HT_.out HW_.out (by kernel_rfl)) (fun _ _ _ h => h) (Or.inl ⟨by rfl, ?_⟩) hHeld ?_ ?_
                 rotate_left
                 ·rintro w' ⟨s0, s1, s2, s3, s4, s5, s6⟩
                  go_simp
                  with_reducible rfl
                 rotate_left
                 ·simp only [Act.put, setIfInBounds_toArray, set_cons_zero, set_cons_succ, i64_w, i32_w]
                  rfl
                 refine one_ (i := 8) (N := some 89) #[true, true, true, true, true, true, true, true, true, false, false] rfl rfl (one_of HT_.out (by kernel_rfl)) (by decide) (fun K hK => ?_)
                 refine goes_ Tryd.func16 (by kernel_rfl) rfl #[.slice (some ad211) l0.length c0, .int .i64 (rd t217 x11_4), .string ((rd_T32 l0 a1).f3)] (by rfl) rfl rfl (by (try simp only [List.map_toArray, List.map_cons, List.map_nil]); first | done | rfl | (simp only [List.length_drop, List.length_take]; rfl)) ?_
                 with_reducible refine (ih k4 (by have := HJ6.out; have := HK2.out; have := HJ26.out; have := HK4.out; omega) _ _ l0 (rd t217 x11_4) ((rd_T32 l0 a1).f3) t222 _ ?side1 ?side2 A42.out).mono ?_
                 (case side1 => repeat (first | exact (Kd.C_below HR0.out HB.out) | (with_reducible refine Kd.C_alloc ?_ _) | (with_reducible refine Kd.C_drewN ?_ _) | (with_reducible refine Kd.C_drew ?_)))
                 (case side2 => exact HC0.out)
                 rintro e w46 ⟨rfl, hb⟩
                 have HS6_ := (hb.cell (World.block_lt_of_cell? _ _ (hHeld.2.2.2.2.2.2))).trans (hHeld.2.2.2.2.2.2)
                 refine ⟨_, rfl, ?_⟩
                 have n0_ := Aside0.mk (Kd.R_below (by (with_reducible repeat (first | apply Kd.R_alloc | apply Kd.R_drewN | apply Kd.R_drew)); exact HO_10.out) hb)
                 have n1_ := Aside0.mk (blk_below (g := gb212) (o := .cells #[.int .i64 ((rd_T32 l0 a1).f0), .int .i64 ((rd_T32 l0 a1).f1), .string ((rd_T32 l0 a1).f2), .string ((rd_T32 l0 a1).f3), .slice A211_4 ((rd_T32 l0 a1).f4).length c211_4, .string ((rd_T32 l0 a1).f5)] 32 (0, 0)) (by (with_reducible repeat (first | refine blk_drewN ?_ _ | refine blk_drew ?_ | refine blk_alloc ?_ _)); exact BK212.out) hb)
                 have n2_ := Aside0.mk (below_step (by repeat (first | (with_reducible first | exact HB.out | apply below_alloc | apply pw_below_drewN | apply below_drew1 | refine below_set ?_ GE212.out) | exact HB.out)) hb)
                 clear HO_10
                 clear BK212
                 clear HB
                 have HO_10 := n0_
                 have BK212 := n1_
                 have HB := n2_
                 clear n0_ n1_ n2_
                 (try clear hb)
                 (try clear hb2)
                 (try clear hk)
                 (try clear hi)
                 refine hK.out _ _ ⟨(blk_cell BK212.out 0).trans rfl, (blk_cell BK212.out 1).trans rfl, (blk_cell BK212.out 2).trans rfl, (blk_cell BK212.out 3).trans rfl, (blk_cell BK212.out 4).trans rfl, (blk_cell BK212.out 5).trans rfl, HS6_⟩ (fun hHeld => ?_)
                 clear hK K
                 refine norm_ (a' := ?_) ?_ ?_
                 rotate_left
                 ·show Act.put _ (some 89) _ = _
                  simp only [Act.put, setIfInBounds_toArray, set_cons_zero, set_cons_succ, i64_w, i32_w]
                  rfl
                 refine pure_ (i := 9) (N := some 90) (v := ?_) (a' := ?_) #[true, true, true, true, true, true, true, true, true, true, false] rfl rfl (any_of HT_.out (by kernel_rfl)) (fun _ _ _ h => h) (Or.inl ⟨by rfl, ?_⟩) ?_ ?_
                 rotate_left
                 ·intro w'
                  go_simp
                  with_reducible rfl
                 rotate_left
                 ·simp only [Act.put, setIfInBounds_toArray, set_cons_zero, set_cons_succ, i64_w, i32_w]
                  rfl
                 refine pure_ (i := 10) (N := some 8) (v := ?_) (a' := ?_) #[true, true, true, true, true, true, true, true, true, true, true] rfl rfl (any_of HT_.out (by kernel_rfl)) (fun _ _ _ h => h) (Or.inl ⟨by rfl, ?_⟩) ?_ ?_
                 rotate_left
                 ·intro w'
                  go_simp
                  with_reducible rfl
                 rotate_left
                 ·simp only [Act.put, setIfInBounds_toArray, set_cons_zero, set_cons_succ, i64_w, i32_w]
                  rfl
                 refine done_ (done_of HT_.out (by kernel_rfl)) ?_
                 try go_wp2
                 go_roundg k4
                 case measure => have := HJ6.out; have := HK2.out; have := HJ26.out; have := HK4.out; omega
                 case rel => exact ⟨(x8_4 ++ t222), (wrap64 (x11_4 + 1)), (by first | rfl | (simp; done) | exact congrArg Value.bool (nemp _) | exact congrArg Value.bool (emp _) | (simp [*]; done)), (by first | rfl | (simp; done) | exact congrArg Value.bool (nemp _) | exact congrArg Value.bool (emp _) | (simp [*]; done)), H', ⟨by have := HJ6.out; have := HK2.out; have := HJ26.out; have := HK4.out; omega⟩, ⟨by (with_reducible repeat (first | apply Kd.R_alloc | apply Kd.R_drewN | apply Kd.R_drew)); exact HO_10.out⟩, ⟨by (with_reducible repeat (first | refine blk_drewN ?_ _ | refine blk_drew ?_ | refine blk_alloc ?_ _)); exact BK212.out⟩, ⟨by repeat (first | (with_reducible first | exact HB.out | apply below_alloc | apply pw_below_drewN | apply below_drew1 | refine below_set ?_ GE212.out) | exact HB.out)⟩⟩
                rw [if_neg c43] at H
                exact absurd H (by simp)
               rw [if_neg c41] at H
               exact absurd H (by simp)
              rw [if_neg c40] at H
              have c40b0 : decide (x11_4 < (t217.length : Int)) = false := decide_eq_false c40
              clear c40
              by_cases c47 : x8_4.size + 2 ≤ 9223372036854775807
              ·rw [if_pos c47] at H
               have c47b0 := eq_true c47
               have c47b1 : decide (x8_4.size + 2 ≤ 9223372036854775807) = true := decide_eq_true c47
               try have c47b2 : (9223372036854775807 < x8_4.size + 2) = False := eq_false (Nat.not_lt.2 c47)
               by_cases c48 : (x8_4 ++ (⟨#[60, 47]⟩ : ByteArray)).size + ((rd_T32 l0 a1).f2).size ≤ 9223372036854775807
               ·rw [if_pos c48] at H
                have c48b0 := eq_true c48
                have c48b1 : decide ((x8_4 ++ (⟨#[60, 47]⟩ : ByteArray)).size + ((rd_T32 l0 a1).f2).size ≤ 9223372036854775807) = true := decide_eq_true c48
                try have c48b2 : (9223372036854775807 < (x8_4 ++ (⟨#[60, 47]⟩ : ByteArray)).size + ((rd_T32 l0 a1).f2).size) = False := eq_false (Nat.not_lt.2 c48)
                try have c48b3 : (9223372036854775807 < x8_4.size + 2 + ((rd_T32 l0 a1).f2).size) = False := eq_false (Nat.not_lt.2 (by have h_ := c48; simp only [ByteArray.size_append] at h_; exact h_))
                by_cases c49 : ((x8_4 ++ (⟨#[60, 47]⟩ : ByteArray)) ++ ((rd_T32 l0 a1).f2)).size + 1 ≤ 9223372036854775807
                ·rw [if_pos c49] at H
                 have c49b0 := eq_true c49
                 have c49b1 : decide (((x8_4 ++ (⟨#[60, 47]⟩ : ByteArray)) ++ ((rd_T32 l0 a1).f2)).size + 1 ≤ 9223372036854775807) = true := decide_eq_true c49
                 try have c49b2 : (9223372036854775807 < ((x8_4 ++ (⟨#[60, 47]⟩ : ByteArray)) ++ ((rd_T32 l0 a1).f2)).size + 1) = False := eq_false (Nat.not_lt.2 c49)
                 try have c49b3 : (9223372036854775807 < x8_4.size + 2 + ((rd_T32 l0 a1).f2).size + 1) = False := eq_false (Nat.not_lt.2 (by have h_ := c49; simp only [ByteArray.size_append] at h_; exact h_))
                 obtain rfl := Option.some.inj H
                 obtain ⟨Ao50, co50, eo50⟩ := Kd.R_slice HO_10.out
                 subst eo50
                 have hcz51_0 : wr.cell? ⟨gb212, 0, none⟩ = some (.int .i64 ((rd_T32 l0 a1).f0)) := (blk_cell BK212.out 0).trans rfl
                 have hcz51_1 : wr.cell? ⟨gb212, 1, none⟩ = some (.int .i64 ((rd_T32 l0 a1).f1)) := (blk_cell BK212.out 1).trans rfl
                 have hcz51_2 : wr.cell? ⟨gb212, 2, none⟩ = some (.string ((rd_T32 l0 a1).f2)) := (blk_cell BK212.out 2).trans rfl
                 have hcz51_3 : wr.cell? ⟨gb212, 3, none⟩ = some (.string ((rd_T32 l0 a1).f3)) := (blk_cell BK212.out 3).trans rfl
                 have hcz51_4 : wr.cell? ⟨gb212, 4, none⟩ = some (.slice A211_4 ((rd_T32 l0 a1).f4).length c211_4) := (blk_cell BK212.out 4).trans rfl
                 have hcz51_5 : wr.cell? ⟨gb212, 5, none⟩ = some (.string ((rd_T32 l0 a1).f5)) := (blk_cell BK212.out 5).trans rfl
                 have hfz51_0 := blk_frozen BK212.out 0
                 have hfz51_1 := blk_frozen BK212.out 1
                 have hfz51_2 := blk_frozen BK212.out 2
                 have hfz51_3 := blk_frozen BK212.out 3
                 have hfz51_4 := blk_frozen BK212.out 4
                 have hfz51_5 := blk_frozen BK212.out 5
                 go_wp2
                 go_ret
                 exact ⟨by first | rfl | (simp only [nemp]; rfl) | (simp [errW_none, errW_some] <;> rfl) | (simp [*, errW_none, errW_some] <;> rfl), by repeat (first | (with_reducible first | exact HB.out | apply below_alloc | apply pw_below_drewN | apply below_drew1 | refine below_set ?_ GE212.out) | exact HB.out)⟩
                rw [if_neg c49] at H
                exact absurd H (by simp)
               rw [if_neg c48] at H
               exact absurd H (by simp)
              rw [if_neg c47] at H
              exact absurd H (by simp)
           rw [if_neg c38] at H
           exact absurd H (by simp)
          rw [if_neg c36] at H
          exact absurd H (by simp)
   rw [if_neg c6] at H
   exact absurd H (by simp)
  rw [if_neg c5] at H
  exact absurd H (by simp)
 rw [if_neg c4] at H
 exact absurd H (by simp)
end Go.Proofs.YtgacmniagmfckaaDoor.Q
