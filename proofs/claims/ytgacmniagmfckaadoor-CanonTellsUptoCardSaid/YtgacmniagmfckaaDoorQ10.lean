-- Written by hookprint.py (wip/) of this session: the kit's print with hand-proved functions beside it. Not trusted: Lean checks it.
import Derived.Test.YtgacmniagmfckaaDoorQ0
import Derived.Test.YtgacmniagmfckaaDoorQ6
import Derived.Test.YtgacmniagmfckaaDoorQ8
import Derived.Test.YtgacmniagmfckaaDoorQ9
namespace Go.Proofs.YtgacmniagmfckaaDoor.Q
open List (setIfInBounds_toArray set_cons_zero set_cons_succ)
open Go.RowKit Go.Lib Go.Proofs.YtgacmniagmfckaaDoorX Go.Proofs.YtgacmniagmfckaaDoorW.PrintWords Go.Proofs.YtgacmniagmfckaaDoorW.PrintLast Go.Proofs.YtgacmniagmfckaaDoorW.PrintMore
set_option linter.unusedVariables false
set_option linter.unusedSimpArgs false
mutual
def cardexref08_CanonRight.j0 : Nat → List (S32) → Bool → Option (Bool)
 | 0, _, _ => none
 | k + 1, x0, x20 => if x20 = true then (some false) else (cardexref08_CanonRight.l0 k x0 0)
def cardexref08_CanonRight.l0 : Nat → List (S32) → Int → Option (Bool)
 | 0, _, _ => none
 | k + 1, x0, x3 => if x3 < (x0.length : Int) then (if 0 ≤ x3 then ((cardexref08_Name.f k ((rd_T32 x0 x3).f2)).bind fun t201 => (if t201 = true then ((cardexref01_Valid.f k ((rd_T32 x0 x3).f5)).bind fun t202 => (if t202 = true then ((cardexref01_Valid.f k ((rd_T32 x0 x3).f3)).bind fun t203 => (if t203 = true then ((cardexref08_rightAttrs.f k ((rd_T32 x0 x3).f4)).bind fun t204 => (cardexref08_CanonRight.j2 k x0 x3 (!t204) ((rd_T32 x0 x3).f0) ((rd_T32 x0 x3).f1) ((rd_T32 x0 x3).f2) ((rd_T32 x0 x3).f3) ((rd_T32 x0 x3).f4) ((rd_T32 x0 x3).f5))) else (cardexref08_CanonRight.j2 k x0 x3 true ((rd_T32 x0 x3).f0) ((rd_T32 x0 x3).f1) ((rd_T32 x0 x3).f2) ((rd_T32 x0 x3).f3) ((rd_T32 x0 x3).f4) ((rd_T32 x0 x3).f5)))) else (cardexref08_CanonRight.j2 k x0 x3 true ((rd_T32 x0 x3).f0) ((rd_T32 x0 x3).f1) ((rd_T32 x0 x3).f2) ((rd_T32 x0 x3).f3) ((rd_T32 x0 x3).f4) ((rd_T32 x0 x3).f5)))) else (cardexref08_CanonRight.j2 k x0 x3 true ((rd_T32 x0 x3).f0) ((rd_T32 x0 x3).f1) ((rd_T32 x0 x3).f2) ((rd_T32 x0 x3).f3) ((rd_T32 x0 x3).f4) ((rd_T32 x0 x3).f5)))) else (none)) else (some true)
def cardexref08_CanonRight.j2 : Nat → List (S32) → Int → Bool → Int → Int → ByteArray → ByteArray → List (S29) → ByteArray → Option (Bool)
 | 0, _, _, _, _, _, _, _, _, _ => none
 | k + 1, x0, x3, x52, x201000, x201001, x201002, x201003, x201004, x201005 => if x52 = true then (some false) else (if x3 > 0 then (if x201000 < 0 then (cardexref08_CanonRight.j3 k x0 x3 true) else (if x201000 ≥ x3 then (cardexref08_CanonRight.j3 k x0 x3 true) else (if 0 ≤ x201000 then (if x201000 < (x0.length : Int) then (cardexref08_CanonRight.j3 k x0 x3 (((rd_T32 x0 x201000).f5).toList != ([] : List UInt8))) else (none)) else (none)))) else (cardexref08_CanonRight.j3 k x0 x3 false))
def cardexref08_CanonRight.j3 : Nat → List (S32) → Int → Bool → Option (Bool)
 | 0, _, _, _ => none
 | k + 1, x0, x3, x74 => if x74 = true then (some false) else (if x3 > 0 then ((cardexref08_depth.f k x0 x3).bind fun t206 => (if t206 = 0 then (some false) else (if t206 > 12 then (some false) else (cardexref08_CanonRight.l0 k x0 (wrap64 (x3 + 1)))))) else (cardexref08_CanonRight.l0 k x0 (wrap64 (x3 + 1))))
end
def cardexref08_CanonRight.f (k : Nat) (l0 : List (S32)) : Option (Bool) := if (l0.length : Int) = 0 then (cardexref08_CanonRight.j0 k l0 true) else (if (l0.length : Int) > 1000 then (cardexref08_CanonRight.j0 k l0 true) else (if 0 < (l0.length : Int) then (cardexref08_CanonRight.j0 k l0 (((rd_T32 l0 0).f0) != (-1))) else (none)))
theorem cardexref08_CanonRight.mono_l : ∀ k, (∀ y0 y1, LeO (cardexref08_CanonRight.j0 k y0 y1) (cardexref08_CanonRight.j0 (k + 1) y0 y1)) ∧ (∀ y0 y1, LeO (cardexref08_CanonRight.l0 k y0 y1) (cardexref08_CanonRight.l0 (k + 1) y0 y1)) ∧ (∀ y0 y1 y2 y3 y4 y5 y6 y7 y8, LeO (cardexref08_CanonRight.j2 k y0 y1 y2 y3 y4 y5 y6 y7 y8) (cardexref08_CanonRight.j2 (k + 1) y0 y1 y2 y3 y4 y5 y6 y7 y8)) ∧ (∀ y0 y1 y2, LeO (cardexref08_CanonRight.j3 k y0 y1 y2) (cardexref08_CanonRight.j3 (k + 1) y0 y1 y2))
 | 0 => ⟨fun _ _ r h => by simp [cardexref08_CanonRight.j0] at h, fun _ _ r h => by simp [cardexref08_CanonRight.l0] at h, fun _ _ _ _ _ _ _ _ _ r h => by simp [cardexref08_CanonRight.j2] at h, fun _ _ _ r h => by simp [cardexref08_CanonRight.j3] at h⟩
 | k + 1 => by
  obtain ⟨ih0, ih1, ih2, ih3⟩ := cardexref08_CanonRight.mono_l k
  refine ⟨?_, ?_, ?_, ?_⟩
  ·intro y0 y1
   unfold cardexref08_CanonRight.j0
   repeat' first
   | (with_reducible exact ih0 _ _)
   | (with_reducible exact ih1 _ _)
   | (with_reducible exact ih2 _ _ _ _ _ _ _ _ _)
   | (with_reducible exact ih3 _ _ _)
   | (with_reducible exact cardexref01_Valid.mono _ _)
   | (with_reducible exact cardexref08_Name.mono _ _)
   | (with_reducible exact cardexref08_depth.mono _ _ _)
   | (with_reducible exact cardexref08_rightAttrs.mono _ _)
   | (with_reducible exact LeO.refl _)
   | (with_reducible exact LeO.none _)
   | (with_reducible refine LeO.ite ?_ ?_)
   | (with_reducible refine LeO.bind ?_ (fun _ => ?_))
   | exact ih0 _ _
   | exact ih1 _ _
   | exact ih2 _ _ _ _ _ _ _ _ _
   | exact ih3 _ _ _
   | exact cardexref01_Valid.mono _ _
   | exact cardexref08_Name.mono _ _
   | exact cardexref08_depth.mono _ _ _
   | exact cardexref08_rightAttrs.mono _ _
   | exact LeO.none _
   | refine LeO.ite ?_ ?_
   | refine LeO.bind ?_ (fun _ => ?_)
  ·intro y0 y1
   unfold cardexref08_CanonRight.l0
   repeat' first
   | (with_reducible exact ih0 _ _)
   | (with_reducible exact ih1 _ _)
   | (with_reducible exact ih2 _ _ _ _ _ _ _ _ _)
   | (with_reducible exact ih3 _ _ _)
   | (with_reducible exact cardexref01_Valid.mono _ _)
   | (with_reducible exact cardexref08_Name.mono _ _)
   | (with_reducible exact cardexref08_depth.mono _ _ _)
   | (with_reducible exact cardexref08_rightAttrs.mono _ _)
   | (with_reducible exact LeO.refl _)
   | (with_reducible exact LeO.none _)
   | (with_reducible refine LeO.ite ?_ ?_)
   | (with_reducible refine LeO.bind ?_ (fun _ => ?_))
   | exact ih0 _ _
   | exact ih1 _ _
   | exact ih2 _ _ _ _ _ _ _ _ _
   | exact ih3 _ _ _
   | exact cardexref01_Valid.mono _ _
   | exact cardexref08_Name.mono _ _
   | exact cardexref08_depth.mono _ _ _
   | exact cardexref08_rightAttrs.mono _ _
   | exact LeO.none _
   | refine LeO.ite ?_ ?_
   | refine LeO.bind ?_ (fun _ => ?_)
  ·intro y0 y1 y2 y3 y4 y5 y6 y7 y8
   unfold cardexref08_CanonRight.j2
   repeat' first
   | (with_reducible exact ih0 _ _)
   | (with_reducible exact ih1 _ _)
   | (with_reducible exact ih2 _ _ _ _ _ _ _ _ _)
   | (with_reducible exact ih3 _ _ _)
   | (with_reducible exact cardexref01_Valid.mono _ _)
   | (with_reducible exact cardexref08_Name.mono _ _)
   | (with_reducible exact cardexref08_depth.mono _ _ _)
   | (with_reducible exact cardexref08_rightAttrs.mono _ _)
   | (with_reducible exact LeO.refl _)
   | (with_reducible exact LeO.none _)
   | (with_reducible refine LeO.ite ?_ ?_)
   | (with_reducible refine LeO.bind ?_ (fun _ => ?_))
   | exact ih0 _ _
   | exact ih1 _ _
   | exact ih2 _ _ _ _ _ _ _ _ _
   | exact ih3 _ _ _
   | exact cardexref01_Valid.mono _ _
   | exact cardexref08_Name.mono _ _
   | exact cardexref08_depth.mono _ _ _
   | exact cardexref08_rightAttrs.mono _ _
   | exact LeO.none _
   | refine LeO.ite ?_ ?_
   | refine LeO.bind ?_ (fun _ => ?_)
  intro y0 y1 y2
  unfold cardexref08_CanonRight.j3
  repeat' first
  | (with_reducible exact ih0 _ _)
  | (with_reducible exact ih1 _ _)
  | (with_reducible exact ih2 _ _ _ _ _ _ _ _ _)
  | (with_reducible exact ih3 _ _ _)
  | (with_reducible exact cardexref01_Valid.mono _ _)
  | (with_reducible exact cardexref08_Name.mono _ _)
  | (with_reducible exact cardexref08_depth.mono _ _ _)
  | (with_reducible exact cardexref08_rightAttrs.mono _ _)
  | (with_reducible exact LeO.refl _)
  | (with_reducible exact LeO.none _)
  | (with_reducible refine LeO.ite ?_ ?_)
  | (with_reducible refine LeO.bind ?_ (fun _ => ?_))
  | exact ih0 _ _
  | exact ih1 _ _
  | exact ih2 _ _ _ _ _ _ _ _ _
  | exact ih3 _ _ _
  | exact cardexref01_Valid.mono _ _
  | exact cardexref08_Name.mono _ _
  | exact cardexref08_depth.mono _ _ _
  | exact cardexref08_rightAttrs.mono _ _
  | exact LeO.none _
  | refine LeO.ite ?_ ?_
  | refine LeO.bind ?_ (fun _ => ?_)
theorem cardexref08_CanonRight.mono : ∀ a0 k, LeO (cardexref08_CanonRight.f k a0) (cardexref08_CanonRight.f (k + 1) a0) := by
 intro a0 k
 obtain ⟨ih0, ih1, ih2, ih3⟩ := cardexref08_CanonRight.mono_l k
 unfold cardexref08_CanonRight.f
 repeat' first
   | (with_reducible exact ih0 _ _)
   | (with_reducible exact ih1 _ _)
   | (with_reducible exact ih2 _ _ _ _ _ _ _ _ _)
   | (with_reducible exact ih3 _ _ _)
   | (with_reducible exact cardexref01_Valid.mono _ _)
   | (with_reducible exact cardexref08_Name.mono _ _)
   | (with_reducible exact cardexref08_depth.mono _ _ _)
   | (with_reducible exact cardexref08_rightAttrs.mono _ _)
   | (with_reducible exact LeO.refl _)
   | (with_reducible exact LeO.none _)
   | (with_reducible refine LeO.ite ?_ ?_)
   | (with_reducible refine LeO.bind ?_ (fun _ => ?_))
   | exact ih0 _ _
   | exact ih1 _ _
   | exact ih2 _ _ _ _ _ _ _ _ _
   | exact ih3 _ _ _
   | exact cardexref01_Valid.mono _ _
   | exact cardexref08_Name.mono _ _
   | exact cardexref08_depth.mono _ _ _
   | exact cardexref08_rightAttrs.mono _ _
   | exact LeO.none _
   | refine LeO.ite ?_ ?_
   | refine LeO.bind ?_ (fun _ => ?_)
set_option maxHeartbeats 8000000 in
set_option maxRecDepth 100000 in
theorem cardexref08_CanonRight.calls (k : Nat) (A0 : Option Addr) (c0 : Nat) (l0 : List (S32)) (r : Bool) (w : World) (hr0 : Kd.C k32 w A0 l0.length l0) (hc0 : l0.length ≤ c0) (h : cardexref08_CanonRight.f k l0 = some r) :
  Calls Tryd.prog 10 #[.slice A0 l0.length c0] w fun e w' => e = .returned (.bool r) ∧ Below w.heap.size w w' := by
 have hu32 := Tryd.underlying32
 have HR0 := Aside0.mk hr0
 have HC0 := Aside0.mk hc0
 clear hr0 hc0
 have HB := Aside0.mk (Below.refl w.heap.size w)
 have H : (if (l0.length : Int) = 0 then (cardexref08_CanonRight.j0 k l0 true) else (if (l0.length : Int) > 1000 then (cardexref08_CanonRight.j0 k l0 true) else (if 0 < (l0.length : Int) then (cardexref08_CanonRight.j0 k l0 (((rd_T32 l0 0).f0) != (-1))) else (none)))) = some r := h
 clear h
 have HC2 := Aside0.mk H
 clear H
 go_enter Tryd.func10, Tryd.ntmps10
 go_upto_region 1 with (fail)
 go_cut [20] (fun v20 wc => ∃ (kq : Nat) (x20_1 : Bool), v20 = .bool x20_1 ∧ Aside0 (cardexref08_CanonRight.j0 kq l0 x20_1 = some r) ∧ Aside0 (kq ≤ k) ∧ Aside0 (Below w.heap.size w wc))
 case first =>
  have H := HC2.out
  clear HC2
  by_cases c3 : (l0.length : Int) = 0
  ·rw [if_pos c3] at H
   have c3b0 : ((l0.length : Int) == 0) = true := beq_iff_eq.mpr c3
   have c3b1 : ((l0.length : Int) != 0) = false := bne_eq_false_iff_eq.mpr c3
   clear c3
   (first | rw [c3b0] | (simp only [i64_w, i32_w]; rw [c3b0]) | (have h_ := c3b0; rw [List.beq_nil_eq] at h_; rw [h_]) | skip)
   have H' := Aside0.mk H
   clear H
   go_wp2
   go_meet
   case rel => exact ⟨_, (true), (by first | rfl | (simp; done) | exact congrArg Value.bool (nemp _) | exact congrArg Value.bool (emp _) | (simp [*]; done)), H', ⟨by first | omega | exact Nat.le_refl _⟩, ⟨by repeat (first | (with_reducible first | exact HB.out | apply below_alloc | apply pw_below_drewN | apply below_drew1) | exact HB.out)⟩⟩
  rw [if_neg c3] at H
  have c3b0 : ((l0.length : Int) == 0) = false := beq_eq_false_iff_ne.mpr c3
  have c3b1 : ((l0.length : Int) != 0) = true := bne_iff_ne.mpr c3
  have c3b2 : ¬ (l0 = []) := fun h_ => c3 (by rw [h_]; rfl)
  (first | rw [c3b0] | (simp only [i64_w, i32_w]; rw [c3b0]) | (have h_ := c3b0; rw [List.beq_nil_eq] at h_; rw [h_]) | skip)
  by_cases c4 : (l0.length : Int) > 1000
  ·rw [if_pos c4] at H
   have c4b0 : decide (1000 < (l0.length : Int)) = true := decide_eq_true c4
   have c4b1 : decide (1000 < l0.length) = true := decide_eq_true (by omega)
   clear c4
   have H' := Aside0.mk H
   clear H
   go_wp2
   go_meet
   case rel => exact ⟨_, (true), (by first | rfl | (simp; done) | exact congrArg Value.bool (nemp _) | exact congrArg Value.bool (emp _) | (simp [*]; done)), H', ⟨by first | omega | exact Nat.le_refl _⟩, ⟨by repeat (first | (with_reducible first | exact HB.out | apply below_alloc | apply pw_below_drewN | apply below_drew1) | exact HB.out)⟩⟩
  rw [if_neg c4] at H
  have c4b0 : decide (1000 < (l0.length : Int)) = false := decide_eq_false c4
  have c4b1 : decide (1000 < l0.length) = false := decide_eq_false (by omega)
  clear c4
  by_cases c5 : 0 < (l0.length : Int)
  ·rw [if_pos c5] at H
   have c5b0 : decide (0 < (l0.length : Int)) = true := decide_eq_true c5
   have c5b1 : decide (0 < l0.length) = true := decide_eq_true (by omega)
   clear c5
   have H' := Aside0.mk H
   clear H
   have p198 : 0 ≤ (0 : Int) := (by omega)
   have q198 : 0 < (l0.length : Int) := of_decide_eq_true (by first | (with_reducible assumption) | assumption)
   obtain ⟨ad198, A198_4, c198_4, e198, hx198_0, hx198_1, hx198_2, hx198_3, hx198_4, hx198_5, hl198_4, hi198_4⟩ := at_T32 HR0.out 0 p198 q198
   cases e198
   have qi198 : (0 < l0.length) = True := eq_true (by omega)
   (try rw [show ((0 : Int)).toNat = 0 from rfl] at hx198_0)
   (try rw [show 0 * 6 = 0 from rfl] at hx198_0)
   (try rw [Addr.add_zero'] at hx198_0)
   (try rw [show ((0 : Int)).toNat = 0 from rfl] at hx198_1)
   (try rw [show 0 * 6 = 0 from rfl] at hx198_1)
   (try rw [Addr.add_zero'] at hx198_1)
   (try rw [show ((0 : Int)).toNat = 0 from rfl] at hx198_2)
   (try rw [show 0 * 6 = 0 from rfl] at hx198_2)
   (try rw [Addr.add_zero'] at hx198_2)
   (try rw [show ((0 : Int)).toNat = 0 from rfl] at hx198_3)
   (try rw [show 0 * 6 = 0 from rfl] at hx198_3)
   (try rw [Addr.add_zero'] at hx198_3)
   (try rw [show ((0 : Int)).toNat = 0 from rfl] at hx198_4)
   (try rw [show 0 * 6 = 0 from rfl] at hx198_4)
   (try rw [Addr.add_zero'] at hx198_4)
   (try rw [show ((0 : Int)).toNat = 0 from rfl] at hx198_5)
   (try rw [show 0 * 6 = 0 from rfl] at hx198_5)
   (try rw [Addr.add_zero'] at hx198_5)
   replace hx198_0 := (HB.out.cell (World.block_lt_of_cell? w _ hx198_0)).trans hx198_0
   replace hx198_1 := (HB.out.cell (World.block_lt_of_cell? w _ hx198_1)).trans hx198_1
   replace hx198_2 := (HB.out.cell (World.block_lt_of_cell? w _ hx198_2)).trans hx198_2
   replace hx198_3 := (HB.out.cell (World.block_lt_of_cell? w _ hx198_3)).trans hx198_3
   replace hx198_4 := (HB.out.cell (World.block_lt_of_cell? w _ hx198_4)).trans hx198_4
   replace hx198_5 := (HB.out.cell (World.block_lt_of_cell? w _ hx198_5)).trans hx198_5
   have HR198_4 := Aside0.mk hi198_4
   have HC198_4 := Aside0.mk hl198_4
   clear hi198_4 hl198_4
   replace p198 := eq_true p198
   replace q198 := eq_true q198
   go_wp2
   go_meet
   case rel => exact ⟨_, ((((rd_T32 l0 0).f0) != (-1))), (by first | rfl | (simp; done) | exact congrArg Value.bool (nemp _) | exact congrArg Value.bool (emp _) | (simp [*]; done)), H', ⟨by first | omega | exact Nat.le_refl _⟩, ⟨by repeat (first | (with_reducible first | exact HB.out | apply below_alloc | apply pw_below_drewN | apply below_drew1) | exact HB.out)⟩⟩
  rw [if_neg c5] at H
  exact absurd H (by simp)
 case rest =>
  clear HC2
  try clear c1
  try clear p1
  try clear q1
  try clear hx1
  try clear qi1
  try clear p2
  try clear c3
  try clear c3b0
  try clear c3b1
  try clear c3b2
  try clear c4
  try clear c4b0
  try clear c4b1
  try clear c5
  try clear c5b0
  try clear c5b1
  try clear hx198_0
  try clear hx198_1
  try clear hx198_2
  try clear hx198_3
  try clear hx198_4
  try clear hx198_5
  try clear p198
  try clear q198
  obtain ⟨kq, x20_1, rfl, HA, HJ1, HB⟩ := hcut
  cases kq with
  | zero => exact absurd HA.out (by simp [cardexref08_CanonRight.j0])
  | succ kj1 =>
   have H := HA.out
   clear HA
   simp only [cardexref08_CanonRight.j0] at H
   by_cases c6 : x20_1 = true
   ·subst c6
    have H1 : (some false) = some r := by rw [if_pos rfl] at H; exact H
    clear H
    have H := H1
    clear H1
    obtain rfl := Option.some.inj H
    go_wp2
    go_ret
    exact ⟨by first | rfl | (simp only [nemp]; rfl) | (simp [errW_none, errW_some] <;> rfl) | (simp [*, errW_none, errW_some] <;> rfl), by repeat (first | (with_reducible first | exact HB.out | apply below_alloc | apply pw_below_drewN | apply below_drew1) | exact HB.out)⟩
   replace c6 := Bool.eq_false_iff.mpr c6
   subst c6
   have H1 : (cardexref08_CanonRight.l0 kj1 l0 0) = some r := by rw [if_neg (show ¬ (false = true) by decide)] at H; exact H
   clear H
   have H := H1
   clear H1
   have H' := Aside0.mk H
   clear H
   go_wp2
   go_loopg [3] kj1 (fun kq v3 w' => ∃ (x3_2 : Int), v3 = .int .i64 x3_2 ∧ Aside0 (cardexref08_CanonRight.l0 kq l0 x3_2 = some r) ∧ Aside0 (kq ≤ kj1) ∧ Aside0 (Below w.heap.size w w'))
   case atStart => exact ⟨(0), (by first | rfl | (simp; done) | exact congrArg Value.bool (nemp _) | exact congrArg Value.bool (emp _) | (simp [*]; done)), H', ⟨Nat.le_refl _⟩, ⟨by repeat (first | (with_reducible first | exact HB.out | apply below_alloc | apply pw_below_drewN | apply below_drew1) | exact HB.out)⟩⟩
   case round =>
    clear H'
    try clear c1
    try clear p1
    try clear q1
    try clear hx1
    try clear qi1
    try clear p2
    try clear c3
    try clear c3b0
    try clear c3b1
    try clear c3b2
    try clear c4
    try clear c4b0
    try clear c4b1
    try clear c5
    try clear c5b0
    try clear c5b1
    try clear c6
    try clear hx198_0
    try clear hx198_1
    try clear hx198_2
    try clear hx198_3
    try clear hx198_4
    try clear hx198_5
    try clear p1
    try clear p198
    try clear p2
    try clear q1
    try clear q198
    obtain ⟨x3_2, rfl, HA, HK2, HB⟩ := hrel
    cases gk with
    | zero => exact absurd HA.out (by simp [cardexref08_CanonRight.l0])
    | succ k2 =>
     have H := HA.out
     clear HA
     simp only [cardexref08_CanonRight.l0] at H
     by_cases c7 : x3_2 < (l0.length : Int)
     ·rw [if_pos c7] at H
      have c7b0 : decide (x3_2 < (l0.length : Int)) = true := decide_eq_true c7
      clear c7
      by_cases c8 : 0 ≤ x3_2
      ·rw [if_pos c8] at H
       have c8b0 : decide (0 ≤ x3_2) = true := decide_eq_true c8
       clear c8
       have HC9 := Aside0.mk H
       clear H
       have p199 : 0 ≤ (x3_2 : Int) := of_decide_eq_true (by first | (with_reducible assumption) | assumption)
       have q199 : x3_2 < (l0.length : Int) := of_decide_eq_true (by first | (with_reducible assumption) | assumption)
       obtain ⟨ad199, A199_4, c199_4, e199, hx199_0, hx199_1, hx199_2, hx199_3, hx199_4, hx199_5, hl199_4, hi199_4⟩ := at_T32 HR0.out x3_2 p199 q199
       cases e199
       replace hx199_0 := (HB.out.cell (World.block_lt_of_cell? w _ hx199_0)).trans hx199_0
       replace hx199_1 := (HB.out.cell (World.block_lt_of_cell? w _ hx199_1)).trans hx199_1
       replace hx199_2 := (HB.out.cell (World.block_lt_of_cell? w _ hx199_2)).trans hx199_2
       replace hx199_3 := (HB.out.cell (World.block_lt_of_cell? w _ hx199_3)).trans hx199_3
       replace hx199_4 := (HB.out.cell (World.block_lt_of_cell? w _ hx199_4)).trans hx199_4
       replace hx199_5 := (HB.out.cell (World.block_lt_of_cell? w _ hx199_5)).trans hx199_5
       have HR199_4 := Aside0.mk hi199_4
       have HC199_4 := Aside0.mk hl199_4
       clear hi199_4 hl199_4
       replace p199 := eq_true p199
       replace q199 := eq_true q199
       go_upto_region 7 with (first | ((with_reducible refine gate_dst (N := 4) rfl ?_); (try (refine gate_guard (by rfl) ?_; dsimp only)); refine box_event ?hg (N := 4) ?hd (cs := #[.int .i64 0, .int .i64 0, .string (⟨#[]⟩ : ByteArray), .string (⟨#[]⟩ : ByteArray), .slice none 0 0, .string (⟨#[]⟩ : ByteArray)]) (t := 32) ?hr ?_; (case hd => rfl); (case hg => rfl); (case hr => first | (go_simp; done) | (go_simp; rfl)); intro gb200 hg w10 hbox hb; have n0_ := Aside0.mk (below_step (by repeat (first | (with_reducible first | exact HB.out | apply below_alloc | apply pw_below_drewN | apply below_drew1) | exact HB.out)) hb); have n1_ := Aside0.mk (hbox); have n2_ := Aside0.mk ((by rw [hg]; exact (below_size (by repeat (first | (with_reducible first | exact HB.out | apply below_alloc | apply pw_below_drewN | apply below_drew1) | exact HB.out))) : w.heap.size ≤ gb200)); have n3_ := Aside0.mk ((by rw [hg]; exact (below_size (by repeat (first | (with_reducible first | exact HB.out | apply below_alloc | apply pw_below_drewN | apply below_drew1) | exact HB.out))) : w.heap.size ≤ gb200)); clear HB; have HB := n0_; have BK200 := n1_; have GW200 := n2_; have GE200 := n3_; clear n0_ n1_ n2_ n3_; clear hb hbox hg; have hcz11_0 : w10.cell? ⟨gb200, 0, none⟩ = some (.int .i64 0) := (blk_cell BK200.out 0).trans rfl; have hcz11_1 : w10.cell? ⟨gb200, 1, none⟩ = some (.int .i64 0) := (blk_cell BK200.out 1).trans rfl; have hcz11_2 : w10.cell? ⟨gb200, 2, none⟩ = some (.string (⟨#[]⟩ : ByteArray)) := (blk_cell BK200.out 2).trans rfl; have hcz11_3 : w10.cell? ⟨gb200, 3, none⟩ = some (.string (⟨#[]⟩ : ByteArray)) := (blk_cell BK200.out 3).trans rfl; have hcz11_4 : w10.cell? ⟨gb200, 4, none⟩ = some (.slice none 0 0) := (blk_cell BK200.out 4).trans rfl; have hcz11_5 : w10.cell? ⟨gb200, 5, none⟩ = some (.string (⟨#[]⟩ : ByteArray)) := (blk_cell BK200.out 5).trans rfl; have hfz11_0 := blk_frozen BK200.out 0; have hfz11_1 := blk_frozen BK200.out 1; have hfz11_2 := blk_frozen BK200.out 2; have hfz11_3 := blk_frozen BK200.out 3; have hfz11_4 := blk_frozen BK200.out 4; have hfz11_5 := blk_frozen BK200.out 5))
       (try simp only [Act.put, setIfInBounds_toArray, set_cons_zero, set_cons_succ])
       go_cut [52] (fun v52 wc => ∃ (kq : Nat) (x52_8 : Bool), v52 = .bool x52_8 ∧ Aside0 (cardexref08_CanonRight.j2 kq l0 x3_2 x52_8 ((rd_T32 l0 x3_2).f0) ((rd_T32 l0 x3_2).f1) ((rd_T32 l0 x3_2).f2) ((rd_T32 l0 x3_2).f3) ((rd_T32 l0 x3_2).f4) ((rd_T32 l0 x3_2).f5) = some r) ∧ Aside0 (kq ≤ k2) ∧ Aside0 (wc.heap[gb200]? = some (.cells #[.int .i64 ((rd_T32 l0 x3_2).f0), .int .i64 ((rd_T32 l0 x3_2).f1), .string ((rd_T32 l0 x3_2).f2), .string ((rd_T32 l0 x3_2).f3), (.slice A199_4 ((rd_T32 l0 x3_2).f4).length c199_4), .string ((rd_T32 l0 x3_2).f5)] 32 (0, 0))) ∧ Aside0 (Below w.heap.size w wc))
       case first =>
        have H := HC9.out
        clear HC9
        replace H := Option.bind_eq_some_iff.mp H
        obtain ⟨t201, A120, H⟩ := H
        replace H : (if t201 = true then ((cardexref01_Valid.f k2 ((rd_T32 l0 x3_2).f5)).bind fun t202 => (if t202 = true then ((cardexref01_Valid.f k2 ((rd_T32 l0 x3_2).f3)).bind fun t203 => (if t203 = true then ((cardexref08_rightAttrs.f k2 ((rd_T32 l0 x3_2).f4)).bind fun t204 => (cardexref08_CanonRight.j2 k2 l0 x3_2 (!t204) ((rd_T32 l0 x3_2).f0) ((rd_T32 l0 x3_2).f1) ((rd_T32 l0 x3_2).f2) ((rd_T32 l0 x3_2).f3) ((rd_T32 l0 x3_2).f4) ((rd_T32 l0 x3_2).f5))) else (cardexref08_CanonRight.j2 k2 l0 x3_2 true ((rd_T32 l0 x3_2).f0) ((rd_T32 l0 x3_2).f1) ((rd_T32 l0 x3_2).f2) ((rd_T32 l0 x3_2).f3) ((rd_T32 l0 x3_2).f4) ((rd_T32 l0 x3_2).f5)))) else (cardexref08_CanonRight.j2 k2 l0 x3_2 true ((rd_T32 l0 x3_2).f0) ((rd_T32 l0 x3_2).f1) ((rd_T32 l0 x3_2).f2) ((rd_T32 l0 x3_2).f3) ((rd_T32 l0 x3_2).f4) ((rd_T32 l0 x3_2).f5)))) else (cardexref08_CanonRight.j2 k2 l0 x3_2 true ((rd_T32 l0 x3_2).f0) ((rd_T32 l0 x3_2).f1) ((rd_T32 l0 x3_2).f2) ((rd_T32 l0 x3_2).f3) ((rd_T32 l0 x3_2).f4) ((rd_T32 l0 x3_2).f5))) = some r := H
        have A12 := Aside0.mk A120
        clear A120
        by_cases c13 : t201 = true
        ·subst c13
         have H1 : ((cardexref01_Valid.f k2 ((rd_T32 l0 x3_2).f5)).bind fun t202 => (if t202 = true then ((cardexref01_Valid.f k2 ((rd_T32 l0 x3_2).f3)).bind fun t203 => (if t203 = true then ((cardexref08_rightAttrs.f k2 ((rd_T32 l0 x3_2).f4)).bind fun t204 => (cardexref08_CanonRight.j2 k2 l0 x3_2 (!t204) ((rd_T32 l0 x3_2).f0) ((rd_T32 l0 x3_2).f1) ((rd_T32 l0 x3_2).f2) ((rd_T32 l0 x3_2).f3) ((rd_T32 l0 x3_2).f4) ((rd_T32 l0 x3_2).f5))) else (cardexref08_CanonRight.j2 k2 l0 x3_2 true ((rd_T32 l0 x3_2).f0) ((rd_T32 l0 x3_2).f1) ((rd_T32 l0 x3_2).f2) ((rd_T32 l0 x3_2).f3) ((rd_T32 l0 x3_2).f4) ((rd_T32 l0 x3_2).f5)))) else (cardexref08_CanonRight.j2 k2 l0 x3_2 true ((rd_T32 l0 x3_2).f0) ((rd_T32 l0 x3_2).f1) ((rd_T32 l0 x3_2).f2) ((rd_T32 l0 x3_2).f3) ((rd_T32 l0 x3_2).f4) ((rd_T32 l0 x3_2).f5)))) = some r := by rw [if_pos rfl] at H; exact H
         clear H
         have H := H1
         clear H1
         replace H := Option.bind_eq_some_iff.mp H
         obtain ⟨t202, A140, H⟩ := H
         replace H : (if t202 = true then ((cardexref01_Valid.f k2 ((rd_T32 l0 x3_2).f3)).bind fun t203 => (if t203 = true then ((cardexref08_rightAttrs.f k2 ((rd_T32 l0 x3_2).f4)).bind fun t204 => (cardexref08_CanonRight.j2 k2 l0 x3_2 (!t204) ((rd_T32 l0 x3_2).f0) ((rd_T32 l0 x3_2).f1) ((rd_T32 l0 x3_2).f2) ((rd_T32 l0 x3_2).f3) ((rd_T32 l0 x3_2).f4) ((rd_T32 l0 x3_2).f5))) else (cardexref08_CanonRight.j2 k2 l0 x3_2 true ((rd_T32 l0 x3_2).f0) ((rd_T32 l0 x3_2).f1) ((rd_T32 l0 x3_2).f2) ((rd_T32 l0 x3_2).f3) ((rd_T32 l0 x3_2).f4) ((rd_T32 l0 x3_2).f5)))) else (cardexref08_CanonRight.j2 k2 l0 x3_2 true ((rd_T32 l0 x3_2).f0) ((rd_T32 l0 x3_2).f1) ((rd_T32 l0 x3_2).f2) ((rd_T32 l0 x3_2).f3) ((rd_T32 l0 x3_2).f4) ((rd_T32 l0 x3_2).f5))) = some r := H
         have A14 := Aside0.mk A140
         clear A140
         by_cases c15 : t202 = true
         ·subst c15
          have H1 : ((cardexref01_Valid.f k2 ((rd_T32 l0 x3_2).f3)).bind fun t203 => (if t203 = true then ((cardexref08_rightAttrs.f k2 ((rd_T32 l0 x3_2).f4)).bind fun t204 => (cardexref08_CanonRight.j2 k2 l0 x3_2 (!t204) ((rd_T32 l0 x3_2).f0) ((rd_T32 l0 x3_2).f1) ((rd_T32 l0 x3_2).f2) ((rd_T32 l0 x3_2).f3) ((rd_T32 l0 x3_2).f4) ((rd_T32 l0 x3_2).f5))) else (cardexref08_CanonRight.j2 k2 l0 x3_2 true ((rd_T32 l0 x3_2).f0) ((rd_T32 l0 x3_2).f1) ((rd_T32 l0 x3_2).f2) ((rd_T32 l0 x3_2).f3) ((rd_T32 l0 x3_2).f4) ((rd_T32 l0 x3_2).f5)))) = some r := by rw [if_pos rfl] at H; exact H
          clear H
          have H := H1
          clear H1
          replace H := Option.bind_eq_some_iff.mp H
          obtain ⟨t203, A160, H⟩ := H
          replace H : (if t203 = true then ((cardexref08_rightAttrs.f k2 ((rd_T32 l0 x3_2).f4)).bind fun t204 => (cardexref08_CanonRight.j2 k2 l0 x3_2 (!t204) ((rd_T32 l0 x3_2).f0) ((rd_T32 l0 x3_2).f1) ((rd_T32 l0 x3_2).f2) ((rd_T32 l0 x3_2).f3) ((rd_T32 l0 x3_2).f4) ((rd_T32 l0 x3_2).f5))) else (cardexref08_CanonRight.j2 k2 l0 x3_2 true ((rd_T32 l0 x3_2).f0) ((rd_T32 l0 x3_2).f1) ((rd_T32 l0 x3_2).f2) ((rd_T32 l0 x3_2).f3) ((rd_T32 l0 x3_2).f4) ((rd_T32 l0 x3_2).f5))) = some r := H
          have A16 := Aside0.mk A160
          clear A160
          by_cases c17 : t203 = true
          ·subst c17
           have H1 : ((cardexref08_rightAttrs.f k2 ((rd_T32 l0 x3_2).f4)).bind fun t204 => (cardexref08_CanonRight.j2 k2 l0 x3_2 (!t204) ((rd_T32 l0 x3_2).f0) ((rd_T32 l0 x3_2).f1) ((rd_T32 l0 x3_2).f2) ((rd_T32 l0 x3_2).f3) ((rd_T32 l0 x3_2).f4) ((rd_T32 l0 x3_2).f5))) = some r := by rw [if_pos rfl] at H; exact H
           clear H
           have H := H1
           clear H1
           replace H := Option.bind_eq_some_iff.mp H
           obtain ⟨t204, A180, H⟩ := H
           replace H : (cardexref08_CanonRight.j2 k2 l0 x3_2 (!t204) ((rd_T32 l0 x3_2).f0) ((rd_T32 l0 x3_2).f1) ((rd_T32 l0 x3_2).f2) ((rd_T32 l0 x3_2).f3) ((rd_T32 l0 x3_2).f4) ((rd_T32 l0 x3_2).f5)) = some r := H
           have A18 := Aside0.mk A180
           clear A180
           have H' := Aside0.mk H
           clear H
           have hcz19_0 : w10.cell? ⟨gb200, 0, none⟩ = some (.int .i64 0) := (blk_cell BK200.out 0).trans rfl
           have hcz19_1 : w10.cell? ⟨gb200, 1, none⟩ = some (.int .i64 0) := (blk_cell BK200.out 1).trans rfl
           have hcz19_2 : w10.cell? ⟨gb200, 2, none⟩ = some (.string (⟨#[]⟩ : ByteArray)) := (blk_cell BK200.out 2).trans rfl
           have hcz19_3 : w10.cell? ⟨gb200, 3, none⟩ = some (.string (⟨#[]⟩ : ByteArray)) := (blk_cell BK200.out 3).trans rfl
           have hcz19_4 : w10.cell? ⟨gb200, 4, none⟩ = some (.slice none 0 0) := (blk_cell BK200.out 4).trans rfl
           have hcz19_5 : w10.cell? ⟨gb200, 5, none⟩ = some (.string (⟨#[]⟩ : ByteArray)) := (blk_cell BK200.out 5).trans rfl
           have hfz19_0 := blk_frozen BK200.out 0
           have hfz19_1 := blk_frozen BK200.out 1
           have hfz19_2 := blk_frozen BK200.out 2
           have hfz19_3 := blk_frozen BK200.out 3
           have hfz19_4 := blk_frozen BK200.out 4
           have hfz19_5 := blk_frozen BK200.out 5
           go_wp2_with (first | ((with_reducible refine gate_callee (f := 18) rfl ?_); refine goesL_ (some 33) rfl rfl Tryd.func18 (by kernel_rfl) rfl #[.string ((rd_T32 l0 x3_2).f2)] rfl (by (try simp only [List.map_toArray, List.map_cons, List.map_nil]); first | done | rfl | (simp only [List.length_drop, List.length_take]; rfl)) ?_; (with_reducible refine (cardexref08_Name.calls k2 ((rd_T32 l0 x3_2).f2) true _ A12.out).mono ?_); rintro e w' ⟨rfl, ⟨nd, rfl⟩⟩; refine ⟨_, rfl, ?_⟩) | (go_at_call 11; (with_reducible refine (cardexref01_Valid.calls k2 ((rd_T32 l0 x3_2).f5) true _ A14.out).mono ?_); rintro e w' ⟨rfl, ⟨nd, rfl⟩⟩) | (go_at_call 11; (with_reducible refine (cardexref01_Valid.calls k2 ((rd_T32 l0 x3_2).f3) true _ A16.out).mono ?_); rintro e w' ⟨rfl, ⟨nd, rfl⟩⟩) | (go_at_call 19; (with_reducible refine (cardexref08_rightAttrs.calls k2 _ _ ((rd_T32 l0 x3_2).f4) t204 _ ?side1 ?side2 A18.out).mono ?_); (case side1 => exact Kd.C_below HR199_4.out (by repeat (first | (with_reducible first | exact HB.out | apply below_alloc | apply pw_below_drewN | apply below_drew1 | refine below_set ?_ GE200.out) | exact HB.out))); (case side2 => exact HC199_4.out); rintro e w' ⟨rfl, ⟨nd, rfl⟩⟩))
           go_meet
           case rel => exact ⟨_, (!t204), (by first | rfl | (simp; done) | exact congrArg Value.bool (nemp _) | exact congrArg Value.bool (emp _) | (simp [*]; done)), H', ⟨by have := HJ1.out; have := HK2.out; first | omega | exact Nat.le_refl _⟩, ⟨by (with_reducible repeat (first | refine blk_drewN ?_ _ | refine blk_drew ?_ | refine blk_alloc ?_ _)); refine blk_put (cs := #[.int .i64 ((rd_T32 l0 x3_2).f0), .int .i64 ((rd_T32 l0 x3_2).f1), .string ((rd_T32 l0 x3_2).f2), .string ((rd_T32 l0 x3_2).f3), .slice A199_4 ((rd_T32 l0 x3_2).f4).length c199_4, .string (⟨#[]⟩ : ByteArray)]) ?_ 5 _ rfl; (with_reducible repeat (first | refine blk_drewN ?_ _ | refine blk_drew ?_ | refine blk_alloc ?_ _)); refine blk_put (cs := #[.int .i64 ((rd_T32 l0 x3_2).f0), .int .i64 ((rd_T32 l0 x3_2).f1), .string ((rd_T32 l0 x3_2).f2), .string ((rd_T32 l0 x3_2).f3), .slice none 0 0, .string (⟨#[]⟩ : ByteArray)]) ?_ 4 _ rfl; (with_reducible repeat (first | refine blk_drewN ?_ _ | refine blk_drew ?_ | refine blk_alloc ?_ _)); refine blk_put (cs := #[.int .i64 ((rd_T32 l0 x3_2).f0), .int .i64 ((rd_T32 l0 x3_2).f1), .string ((rd_T32 l0 x3_2).f2), .string (⟨#[]⟩ : ByteArray), .slice none 0 0, .string (⟨#[]⟩ : ByteArray)]) ?_ 3 _ rfl; (with_reducible repeat (first | refine blk_drewN ?_ _ | refine blk_drew ?_ | refine blk_alloc ?_ _)); refine blk_put (cs := #[.int .i64 ((rd_T32 l0 x3_2).f0), .int .i64 ((rd_T32 l0 x3_2).f1), .string (⟨#[]⟩ : ByteArray), .string (⟨#[]⟩ : ByteArray), .slice none 0 0, .string (⟨#[]⟩ : ByteArray)]) ?_ 2 _ rfl; (with_reducible repeat (first | refine blk_drewN ?_ _ | refine blk_drew ?_ | refine blk_alloc ?_ _)); refine blk_put (cs := #[.int .i64 ((rd_T32 l0 x3_2).f0), .int .i64 0, .string (⟨#[]⟩ : ByteArray), .string (⟨#[]⟩ : ByteArray), .slice none 0 0, .string (⟨#[]⟩ : ByteArray)]) ?_ 1 _ rfl; (with_reducible repeat (first | refine blk_drewN ?_ _ | refine blk_drew ?_ | refine blk_alloc ?_ _)); refine blk_put (cs := #[.int .i64 0, .int .i64 0, .string (⟨#[]⟩ : ByteArray), .string (⟨#[]⟩ : ByteArray), .slice none 0 0, .string (⟨#[]⟩ : ByteArray)]) ?_ 0 _ rfl; (with_reducible repeat (first | refine blk_drewN ?_ _ | refine blk_drew ?_ | refine blk_alloc ?_ _)); exact BK200.out⟩, ⟨by repeat (first | (with_reducible first | exact HB.out | apply below_alloc | apply pw_below_drewN | apply below_drew1 | refine below_set ?_ GE200.out) | exact HB.out)⟩⟩
          replace c17 := Bool.eq_false_iff.mpr c17
          subst c17
          have H1 : (cardexref08_CanonRight.j2 k2 l0 x3_2 true ((rd_T32 l0 x3_2).f0) ((rd_T32 l0 x3_2).f1) ((rd_T32 l0 x3_2).f2) ((rd_T32 l0 x3_2).f3) ((rd_T32 l0 x3_2).f4) ((rd_T32 l0 x3_2).f5)) = some r := by rw [if_neg (show ¬ (false = true) by decide)] at H; exact H
          clear H
          have H := H1
          clear H1
          have H' := Aside0.mk H
          clear H
          have hcz20_0 : w10.cell? ⟨gb200, 0, none⟩ = some (.int .i64 0) := (blk_cell BK200.out 0).trans rfl
          have hcz20_1 : w10.cell? ⟨gb200, 1, none⟩ = some (.int .i64 0) := (blk_cell BK200.out 1).trans rfl
          have hcz20_2 : w10.cell? ⟨gb200, 2, none⟩ = some (.string (⟨#[]⟩ : ByteArray)) := (blk_cell BK200.out 2).trans rfl
          have hcz20_3 : w10.cell? ⟨gb200, 3, none⟩ = some (.string (⟨#[]⟩ : ByteArray)) := (blk_cell BK200.out 3).trans rfl
          have hcz20_4 : w10.cell? ⟨gb200, 4, none⟩ = some (.slice none 0 0) := (blk_cell BK200.out 4).trans rfl
          have hcz20_5 : w10.cell? ⟨gb200, 5, none⟩ = some (.string (⟨#[]⟩ : ByteArray)) := (blk_cell BK200.out 5).trans rfl
          have hfz20_0 := blk_frozen BK200.out 0
          have hfz20_1 := blk_frozen BK200.out 1
          have hfz20_2 := blk_frozen BK200.out 2
          have hfz20_3 := blk_frozen BK200.out 3
          have hfz20_4 := blk_frozen BK200.out 4
          have hfz20_5 := blk_frozen BK200.out 5
          go_wp2_with (first | ((with_reducible refine gate_callee (f := 18) rfl ?_); refine goesL_ (some 33) rfl rfl Tryd.func18 (by kernel_rfl) rfl #[.string ((rd_T32 l0 x3_2).f2)] rfl (by (try simp only [List.map_toArray, List.map_cons, List.map_nil]); first | done | rfl | (simp only [List.length_drop, List.length_take]; rfl)) ?_; (with_reducible refine (cardexref08_Name.calls k2 ((rd_T32 l0 x3_2).f2) true _ A12.out).mono ?_); rintro e w' ⟨rfl, ⟨nd, rfl⟩⟩; refine ⟨_, rfl, ?_⟩) | (go_at_call 11; (with_reducible refine (cardexref01_Valid.calls k2 ((rd_T32 l0 x3_2).f5) true _ A14.out).mono ?_); rintro e w' ⟨rfl, ⟨nd, rfl⟩⟩) | (go_at_call 11; (with_reducible refine (cardexref01_Valid.calls k2 ((rd_T32 l0 x3_2).f3) false _ A16.out).mono ?_); rintro e w' ⟨rfl, ⟨nd, rfl⟩⟩))
          go_meet
          case rel => exact ⟨_, (true), (by first | rfl | (simp; done) | exact congrArg Value.bool (nemp _) | exact congrArg Value.bool (emp _) | (simp [*]; done)), H', ⟨by have := HJ1.out; have := HK2.out; first | omega | exact Nat.le_refl _⟩, ⟨by (with_reducible repeat (first | refine blk_drewN ?_ _ | refine blk_drew ?_ | refine blk_alloc ?_ _)); refine blk_put (cs := #[.int .i64 ((rd_T32 l0 x3_2).f0), .int .i64 ((rd_T32 l0 x3_2).f1), .string ((rd_T32 l0 x3_2).f2), .string ((rd_T32 l0 x3_2).f3), .slice A199_4 ((rd_T32 l0 x3_2).f4).length c199_4, .string (⟨#[]⟩ : ByteArray)]) ?_ 5 _ rfl; (with_reducible repeat (first | refine blk_drewN ?_ _ | refine blk_drew ?_ | refine blk_alloc ?_ _)); refine blk_put (cs := #[.int .i64 ((rd_T32 l0 x3_2).f0), .int .i64 ((rd_T32 l0 x3_2).f1), .string ((rd_T32 l0 x3_2).f2), .string ((rd_T32 l0 x3_2).f3), .slice none 0 0, .string (⟨#[]⟩ : ByteArray)]) ?_ 4 _ rfl; (with_reducible repeat (first | refine blk_drewN ?_ _ | refine blk_drew ?_ | refine blk_alloc ?_ _)); refine blk_put (cs := #[.int .i64 ((rd_T32 l0 x3_2).f0), .int .i64 ((rd_T32 l0 x3_2).f1), .string ((rd_T32 l0 x3_2).f2), .string (⟨#[]⟩ : ByteArray), .slice none 0 0, .string (⟨#[]⟩ : ByteArray)]) ?_ 3 _ rfl; (with_reducible repeat (first | refine blk_drewN ?_ _ | refine blk_drew ?_ | refine blk_alloc ?_ _)); refine blk_put (cs := #[.int .i64 ((rd_T32 l0 x3_2).f0), .int .i64 ((rd_T32 l0 x3_2).f1), .string (⟨#[]⟩ : ByteArray), .string (⟨#[]⟩ : ByteArray), .slice none 0 0, .string (⟨#[]⟩ : ByteArray)]) ?_ 2 _ rfl; (with_reducible repeat (first | refine blk_drewN ?_ _ | refine blk_drew ?_ | refine blk_alloc ?_ _)); refine blk_put (cs := #[.int .i64 ((rd_T32 l0 x3_2).f0), .int .i64 0, .string (⟨#[]⟩ : ByteArray), .string (⟨#[]⟩ : ByteArray), .slice none 0 0, .string (⟨#[]⟩ : ByteArray)]) ?_ 1 _ rfl; (with_reducible repeat (first | refine blk_drewN ?_ _ | refine blk_drew ?_ | refine blk_alloc ?_ _)); refine blk_put (cs := #[.int .i64 0, .int .i64 0, .string (⟨#[]⟩ : ByteArray), .string (⟨#[]⟩ : ByteArray), .slice none 0 0, .string (⟨#[]⟩ : ByteArray)]) ?_ 0 _ rfl; (with_reducible repeat (first | refine blk_drewN ?_ _ | refine blk_drew ?_ | refine blk_alloc ?_ _)); exact BK200.out⟩, ⟨by repeat (first | (with_reducible first | exact HB.out | apply below_alloc | apply pw_below_drewN | apply below_drew1 | refine below_set ?_ GE200.out) | exact HB.out)⟩⟩
         replace c15 := Bool.eq_false_iff.mpr c15
         subst c15
         have H1 : (cardexref08_CanonRight.j2 k2 l0 x3_2 true ((rd_T32 l0 x3_2).f0) ((rd_T32 l0 x3_2).f1) ((rd_T32 l0 x3_2).f2) ((rd_T32 l0 x3_2).f3) ((rd_T32 l0 x3_2).f4) ((rd_T32 l0 x3_2).f5)) = some r := by rw [if_neg (show ¬ (false = true) by decide)] at H; exact H
         clear H
         have H := H1
         clear H1
         have H' := Aside0.mk H
         clear H
         have hcz21_0 : w10.cell? ⟨gb200, 0, none⟩ = some (.int .i64 0) := (blk_cell BK200.out 0).trans rfl
         have hcz21_1 : w10.cell? ⟨gb200, 1, none⟩ = some (.int .i64 0) := (blk_cell BK200.out 1).trans rfl
         have hcz21_2 : w10.cell? ⟨gb200, 2, none⟩ = some (.string (⟨#[]⟩ : ByteArray)) := (blk_cell BK200.out 2).trans rfl
         have hcz21_3 : w10.cell? ⟨gb200, 3, none⟩ = some (.string (⟨#[]⟩ : ByteArray)) := (blk_cell BK200.out 3).trans rfl
         have hcz21_4 : w10.cell? ⟨gb200, 4, none⟩ = some (.slice none 0 0) := (blk_cell BK200.out 4).trans rfl
         have hcz21_5 : w10.cell? ⟨gb200, 5, none⟩ = some (.string (⟨#[]⟩ : ByteArray)) := (blk_cell BK200.out 5).trans rfl
         have hfz21_0 := blk_frozen BK200.out 0
         have hfz21_1 := blk_frozen BK200.out 1
         have hfz21_2 := blk_frozen BK200.out 2
         have hfz21_3 := blk_frozen BK200.out 3
         have hfz21_4 := blk_frozen BK200.out 4
         have hfz21_5 := blk_frozen BK200.out 5
         go_wp2_with (first | ((with_reducible refine gate_callee (f := 18) rfl ?_); refine goesL_ (some 33) rfl rfl Tryd.func18 (by kernel_rfl) rfl #[.string ((rd_T32 l0 x3_2).f2)] rfl (by (try simp only [List.map_toArray, List.map_cons, List.map_nil]); first | done | rfl | (simp only [List.length_drop, List.length_take]; rfl)) ?_; (with_reducible refine (cardexref08_Name.calls k2 ((rd_T32 l0 x3_2).f2) true _ A12.out).mono ?_); rintro e w' ⟨rfl, ⟨nd, rfl⟩⟩; refine ⟨_, rfl, ?_⟩) | (go_at_call 11; (with_reducible refine (cardexref01_Valid.calls k2 ((rd_T32 l0 x3_2).f5) false _ A14.out).mono ?_); rintro e w' ⟨rfl, ⟨nd, rfl⟩⟩))
         go_meet
         case rel => exact ⟨_, (true), (by first | rfl | (simp; done) | exact congrArg Value.bool (nemp _) | exact congrArg Value.bool (emp _) | (simp [*]; done)), H', ⟨by have := HJ1.out; have := HK2.out; first | omega | exact Nat.le_refl _⟩, ⟨by (with_reducible repeat (first | refine blk_drewN ?_ _ | refine blk_drew ?_ | refine blk_alloc ?_ _)); refine blk_put (cs := #[.int .i64 ((rd_T32 l0 x3_2).f0), .int .i64 ((rd_T32 l0 x3_2).f1), .string ((rd_T32 l0 x3_2).f2), .string ((rd_T32 l0 x3_2).f3), .slice A199_4 ((rd_T32 l0 x3_2).f4).length c199_4, .string (⟨#[]⟩ : ByteArray)]) ?_ 5 _ rfl; (with_reducible repeat (first | refine blk_drewN ?_ _ | refine blk_drew ?_ | refine blk_alloc ?_ _)); refine blk_put (cs := #[.int .i64 ((rd_T32 l0 x3_2).f0), .int .i64 ((rd_T32 l0 x3_2).f1), .string ((rd_T32 l0 x3_2).f2), .string ((rd_T32 l0 x3_2).f3), .slice none 0 0, .string (⟨#[]⟩ : ByteArray)]) ?_ 4 _ rfl; (with_reducible repeat (first | refine blk_drewN ?_ _ | refine blk_drew ?_ | refine blk_alloc ?_ _)); refine blk_put (cs := #[.int .i64 ((rd_T32 l0 x3_2).f0), .int .i64 ((rd_T32 l0 x3_2).f1), .string ((rd_T32 l0 x3_2).f2), .string (⟨#[]⟩ : ByteArray), .slice none 0 0, .string (⟨#[]⟩ : ByteArray)]) ?_ 3 _ rfl; (with_reducible repeat (first | refine blk_drewN ?_ _ | refine blk_drew ?_ | refine blk_alloc ?_ _)); refine blk_put (cs := #[.int .i64 ((rd_T32 l0 x3_2).f0), .int .i64 ((rd_T32 l0 x3_2).f1), .string (⟨#[]⟩ : ByteArray), .string (⟨#[]⟩ : ByteArray), .slice none 0 0, .string (⟨#[]⟩ : ByteArray)]) ?_ 2 _ rfl; (with_reducible repeat (first | refine blk_drewN ?_ _ | refine blk_drew ?_ | refine blk_alloc ?_ _)); refine blk_put (cs := #[.int .i64 ((rd_T32 l0 x3_2).f0), .int .i64 0, .string (⟨#[]⟩ : ByteArray), .string (⟨#[]⟩ : ByteArray), .slice none 0 0, .string (⟨#[]⟩ : ByteArray)]) ?_ 1 _ rfl; (with_reducible repeat (first | refine blk_drewN ?_ _ | refine blk_drew ?_ | refine blk_alloc ?_ _)); refine blk_put (cs := #[.int .i64 0, .int .i64 0, .string (⟨#[]⟩ : ByteArray), .string (⟨#[]⟩ : ByteArray), .slice none 0 0, .string (⟨#[]⟩ : ByteArray)]) ?_ 0 _ rfl; (with_reducible repeat (first | refine blk_drewN ?_ _ | refine blk_drew ?_ | refine blk_alloc ?_ _)); exact BK200.out⟩, ⟨by repeat (first | (with_reducible first | exact HB.out | apply below_alloc | apply pw_below_drewN | apply below_drew1 | refine below_set ?_ GE200.out) | exact HB.out)⟩⟩
        replace c13 := Bool.eq_false_iff.mpr c13
        subst c13
        have H1 : (cardexref08_CanonRight.j2 k2 l0 x3_2 true ((rd_T32 l0 x3_2).f0) ((rd_T32 l0 x3_2).f1) ((rd_T32 l0 x3_2).f2) ((rd_T32 l0 x3_2).f3) ((rd_T32 l0 x3_2).f4) ((rd_T32 l0 x3_2).f5)) = some r := by rw [if_neg (show ¬ (false = true) by decide)] at H; exact H
        clear H
        have H := H1
        clear H1
        have H' := Aside0.mk H
        clear H
        have hcz22_0 : w10.cell? ⟨gb200, 0, none⟩ = some (.int .i64 0) := (blk_cell BK200.out 0).trans rfl
        have hcz22_1 : w10.cell? ⟨gb200, 1, none⟩ = some (.int .i64 0) := (blk_cell BK200.out 1).trans rfl
        have hcz22_2 : w10.cell? ⟨gb200, 2, none⟩ = some (.string (⟨#[]⟩ : ByteArray)) := (blk_cell BK200.out 2).trans rfl
        have hcz22_3 : w10.cell? ⟨gb200, 3, none⟩ = some (.string (⟨#[]⟩ : ByteArray)) := (blk_cell BK200.out 3).trans rfl
        have hcz22_4 : w10.cell? ⟨gb200, 4, none⟩ = some (.slice none 0 0) := (blk_cell BK200.out 4).trans rfl
        have hcz22_5 : w10.cell? ⟨gb200, 5, none⟩ = some (.string (⟨#[]⟩ : ByteArray)) := (blk_cell BK200.out 5).trans rfl
        have hfz22_0 := blk_frozen BK200.out 0
        have hfz22_1 := blk_frozen BK200.out 1
        have hfz22_2 := blk_frozen BK200.out 2
        have hfz22_3 := blk_frozen BK200.out 3
        have hfz22_4 := blk_frozen BK200.out 4
        have hfz22_5 := blk_frozen BK200.out 5
        go_wp2_with (first | ((with_reducible refine gate_callee (f := 18) rfl ?_); refine goesL_ (some 33) rfl rfl Tryd.func18 (by kernel_rfl) rfl #[.string ((rd_T32 l0 x3_2).f2)] rfl (by (try simp only [List.map_toArray, List.map_cons, List.map_nil]); first | done | rfl | (simp only [List.length_drop, List.length_take]; rfl)) ?_; (with_reducible refine (cardexref08_Name.calls k2 ((rd_T32 l0 x3_2).f2) false _ A12.out).mono ?_); rintro e w' ⟨rfl, ⟨nd, rfl⟩⟩; refine ⟨_, rfl, ?_⟩))
        go_meet
        case rel => exact ⟨_, (true), (by first | rfl | (simp; done) | exact congrArg Value.bool (nemp _) | exact congrArg Value.bool (emp _) | (simp [*]; done)), H', ⟨by have := HJ1.out; have := HK2.out; first | omega | exact Nat.le_refl _⟩, ⟨by (with_reducible repeat (first | refine blk_drewN ?_ _ | refine blk_drew ?_ | refine blk_alloc ?_ _)); refine blk_put (cs := #[.int .i64 ((rd_T32 l0 x3_2).f0), .int .i64 ((rd_T32 l0 x3_2).f1), .string ((rd_T32 l0 x3_2).f2), .string ((rd_T32 l0 x3_2).f3), .slice A199_4 ((rd_T32 l0 x3_2).f4).length c199_4, .string (⟨#[]⟩ : ByteArray)]) ?_ 5 _ rfl; (with_reducible repeat (first | refine blk_drewN ?_ _ | refine blk_drew ?_ | refine blk_alloc ?_ _)); refine blk_put (cs := #[.int .i64 ((rd_T32 l0 x3_2).f0), .int .i64 ((rd_T32 l0 x3_2).f1), .string ((rd_T32 l0 x3_2).f2), .string ((rd_T32 l0 x3_2).f3), .slice none 0 0, .string (⟨#[]⟩ : ByteArray)]) ?_ 4 _ rfl; (with_reducible repeat (first | refine blk_drewN ?_ _ | refine blk_drew ?_ | refine blk_alloc ?_ _)); refine blk_put (cs := #[.int .i64 ((rd_T32 l0 x3_2).f0), .int .i64 ((rd_T32 l0 x3_2).f1), .string ((rd_T32 l0 x3_2).f2), .string (⟨#[]⟩ : ByteArray), .slice none 0 0, .string (⟨#[]⟩ : ByteArray)]) ?_ 3 _ rfl; (with_reducible repeat (first | refine blk_drewN ?_ _ | refine blk_drew ?_ | refine blk_alloc ?_ _)); refine blk_put (cs := #[.int .i64 ((rd_T32 l0 x3_2).f0), .int .i64 ((rd_T32 l0 x3_2).f1), .string (⟨#[]⟩ : ByteArray), .string (⟨#[]⟩ : ByteArray), .slice none 0 0, .string (⟨#[]⟩ : ByteArray)]) ?_ 2 _ rfl; (with_reducible repeat (first | refine blk_drewN ?_ _ | refine blk_drew ?_ | refine blk_alloc ?_ _)); refine blk_put (cs := #[.int .i64 ((rd_T32 l0 x3_2).f0), .int .i64 0, .string (⟨#[]⟩ : ByteArray), .string (⟨#[]⟩ : ByteArray), .slice none 0 0, .string (⟨#[]⟩ : ByteArray)]) ?_ 1 _ rfl; (with_reducible repeat (first | refine blk_drewN ?_ _ | refine blk_drew ?_ | refine blk_alloc ?_ _)); refine blk_put (cs := #[.int .i64 0, .int .i64 0, .string (⟨#[]⟩ : ByteArray), .string (⟨#[]⟩ : ByteArray), .slice none 0 0, .string (⟨#[]⟩ : ByteArray)]) ?_ 0 _ rfl; (with_reducible repeat (first | refine blk_drewN ?_ _ | refine blk_drew ?_ | refine blk_alloc ?_ _)); exact BK200.out⟩, ⟨by repeat (first | (with_reducible first | exact HB.out | apply below_alloc | apply pw_below_drewN | apply below_drew1 | refine below_set ?_ GE200.out) | exact HB.out)⟩⟩
       case rest =>
        clear HC9
        try clear c1
        try clear p1
        try clear q1
        try clear hx1
        try clear qi1
        try clear p2
        try clear c3
        try clear c3b0
        try clear c3b1
        try clear c3b2
        try clear c4
        try clear c4b0
        try clear c4b1
        try clear c5
        try clear c5b0
        try clear c5b1
        try clear c6
        try clear c7
        try clear c7b0
        try clear c8
        try clear c8b0
        try clear c10
        try clear c13
        try clear c15
        try clear c17
        try clear c18
        try clear c19
        try clear p19
        try clear q19
        try clear hx19
        try clear qi19
        try clear hcz11_0
        try clear hcz11_1
        try clear hcz11_2
        try clear hcz11_3
        try clear hcz11_4
        try clear hcz11_5
        try clear hcz19_0
        try clear hcz19_1
        try clear hcz19_2
        try clear hcz19_3
        try clear hcz19_4
        try clear hcz19_5
        try clear hcz20_0
        try clear hcz20_1
        try clear hcz20_2
        try clear hcz20_3
        try clear hcz20_4
        try clear hcz20_5
        try clear hcz21_0
        try clear hcz21_1
        try clear hcz21_2
        try clear hcz21_3
        try clear hcz21_4
        try clear hcz21_5
        try clear hcz22_0
        try clear hcz22_1
        try clear hcz22_2
        try clear hcz22_3
        try clear hcz22_4
        try clear hcz22_5
        try clear hfz11_0
        try clear hfz11_1
        try clear hfz11_2
        try clear hfz11_3
        try clear hfz11_4
        try clear hfz11_5
        try clear hfz19_0
        try clear hfz19_1
        try clear hfz19_2
        try clear hfz19_3
        try clear hfz19_4
        try clear hfz19_5
        try clear hfz20_0
        try clear hfz20_1
        try clear hfz20_2
        try clear hfz20_3
        try clear hfz20_4
        try clear hfz20_5
        try clear hfz21_0
        try clear hfz21_1
        try clear hfz21_2
        try clear hfz21_3
        try clear hfz21_4
        try clear hfz21_5
        try clear hfz22_0
        try clear hfz22_1
        try clear hfz22_2
        try clear hfz22_3
        try clear hfz22_4
        try clear hfz22_5
        try clear hx198_0
        try clear hx198_1
        try clear hx198_2
        try clear hx198_3
        try clear hx198_4
        try clear hx198_5
        try clear hx199_0
        try clear hx199_1
        try clear hx199_2
        try clear hx199_3
        try clear hx199_4
        try clear hx199_5
        try clear p1
        try clear p198
        try clear p199
        try clear p2
        try clear q1
        try clear q198
        try clear q199
        obtain ⟨kq, x52_8, rfl, HA, HJ8, BK200, HB⟩ := hcut
        cases kq with
        | zero => exact absurd HA.out (by simp [cardexref08_CanonRight.j2])
        | succ kj8 =>
         have H := HA.out
         clear HA
         simp only [cardexref08_CanonRight.j2] at H
         by_cases c23 : x52_8 = true
         ·subst c23
          have H1 : (some false) = some r := by rw [if_pos rfl] at H; exact H
          clear H
          have H := H1
          clear H1
          obtain rfl := Option.some.inj H
          go_wp2
          go_ret
          exact ⟨by first | rfl | (simp only [nemp]; rfl) | (simp [errW_none, errW_some] <;> rfl) | (simp [*, errW_none, errW_some] <;> rfl), by repeat (first | (with_reducible first | exact HB.out | apply below_alloc | apply pw_below_drewN | apply below_drew1 | refine below_set ?_ GE200.out) | exact HB.out)⟩
         replace c23 := Bool.eq_false_iff.mpr c23
         subst c23
         have H1 : (if x3_2 > 0 then (if ((rd_T32 l0 x3_2).f0) < 0 then (cardexref08_CanonRight.j3 kj8 l0 x3_2 true) else (if ((rd_T32 l0 x3_2).f0) ≥ x3_2 then (cardexref08_CanonRight.j3 kj8 l0 x3_2 true) else (if 0 ≤ ((rd_T32 l0 x3_2).f0) then (if ((rd_T32 l0 x3_2).f0) < (l0.length : Int) then (cardexref08_CanonRight.j3 kj8 l0 x3_2 (((rd_T32 l0 ((rd_T32 l0 x3_2).f0)).f5).toList != ([] : List UInt8))) else (none)) else (none)))) else (cardexref08_CanonRight.j3 kj8 l0 x3_2 false)) = some r := by rw [if_neg (show ¬ (false = true) by decide)] at H; exact H
         clear H
         have H := H1
         clear H1
         have HC24 := Aside0.mk H
         clear H
         go_upto_region 9 with (fail)
         go_cut [74] (fun v74 wc => ∃ (kq : Nat) (x74_23 : Bool), v74 = .bool x74_23 ∧ Aside0 (cardexref08_CanonRight.j3 kq l0 x3_2 x74_23 = some r) ∧ Aside0 (kq ≤ kj8) ∧ Aside0 (wc.heap[gb200]? = some (.cells #[.int .i64 ((rd_T32 l0 x3_2).f0), .int .i64 ((rd_T32 l0 x3_2).f1), .string ((rd_T32 l0 x3_2).f2), .string ((rd_T32 l0 x3_2).f3), (.slice A199_4 ((rd_T32 l0 x3_2).f4).length c199_4), .string ((rd_T32 l0 x3_2).f5)] 32 (0, 0))) ∧ Aside0 (Below w.heap.size w wc))
         case first =>
          have H := HC24.out
          clear HC24
          by_cases c25 : x3_2 > 0
          ·rw [if_pos c25] at H
           have c25b0 : decide (0 < x3_2) = true := decide_eq_true c25
           clear c25
           (first | rw [c25b0] | (simp only [i64_w, i32_w]; rw [c25b0]) | (have h_ := c25b0; rw [List.beq_nil_eq] at h_; rw [h_]) | skip)
           by_cases c26 : ((rd_T32 l0 x3_2).f0) < 0
           ·rw [if_pos c26] at H
            have c26b0 : decide (((rd_T32 l0 x3_2).f0) < 0) = true := decide_eq_true c26
            clear c26
            have H' := Aside0.mk H
            clear H
            have hcz27_0 : wc.cell? ⟨gb200, 0, none⟩ = some (.int .i64 ((rd_T32 l0 x3_2).f0)) := (blk_cell BK200.out 0).trans rfl
            have hcz27_1 : wc.cell? ⟨gb200, 1, none⟩ = some (.int .i64 ((rd_T32 l0 x3_2).f1)) := (blk_cell BK200.out 1).trans rfl
            have hcz27_2 : wc.cell? ⟨gb200, 2, none⟩ = some (.string ((rd_T32 l0 x3_2).f2)) := (blk_cell BK200.out 2).trans rfl
            have hcz27_3 : wc.cell? ⟨gb200, 3, none⟩ = some (.string ((rd_T32 l0 x3_2).f3)) := (blk_cell BK200.out 3).trans rfl
            have hcz27_4 : wc.cell? ⟨gb200, 4, none⟩ = some (.slice A199_4 ((rd_T32 l0 x3_2).f4).length c199_4) := (blk_cell BK200.out 4).trans rfl
            have hcz27_5 : wc.cell? ⟨gb200, 5, none⟩ = some (.string ((rd_T32 l0 x3_2).f5)) := (blk_cell BK200.out 5).trans rfl
            have hfz27_0 := blk_frozen BK200.out 0
            have hfz27_1 := blk_frozen BK200.out 1
            have hfz27_2 := blk_frozen BK200.out 2
            have hfz27_3 := blk_frozen BK200.out 3
            have hfz27_4 := blk_frozen BK200.out 4
            have hfz27_5 := blk_frozen BK200.out 5
            go_wp2
            go_meet
            case rel => exact ⟨_, (true), (by first | rfl | (simp; done) | exact congrArg Value.bool (nemp _) | exact congrArg Value.bool (emp _) | (simp [*]; done)), H', ⟨by have := HJ1.out; have := HK2.out; have := HJ8.out; first | omega | exact Nat.le_refl _⟩, ⟨by (with_reducible repeat (first | refine blk_drewN ?_ _ | refine blk_drew ?_ | refine blk_alloc ?_ _)); exact BK200.out⟩, ⟨by repeat (first | (with_reducible first | exact HB.out | apply below_alloc | apply pw_below_drewN | apply below_drew1 | refine below_set ?_ GE200.out) | exact HB.out)⟩⟩
           rw [if_neg c26] at H
           have c26b0 : decide (((rd_T32 l0 x3_2).f0) < 0) = false := decide_eq_false c26
           clear c26
           by_cases c28 : ((rd_T32 l0 x3_2).f0) ≥ x3_2
           ·rw [if_pos c28] at H
            have c28b0 : decide (x3_2 ≤ ((rd_T32 l0 x3_2).f0)) = true := decide_eq_true c28
            clear c28
            have H' := Aside0.mk H
            clear H
            have hcz29_0 : wc.cell? ⟨gb200, 0, none⟩ = some (.int .i64 ((rd_T32 l0 x3_2).f0)) := (blk_cell BK200.out 0).trans rfl
            have hcz29_1 : wc.cell? ⟨gb200, 1, none⟩ = some (.int .i64 ((rd_T32 l0 x3_2).f1)) := (blk_cell BK200.out 1).trans rfl
            have hcz29_2 : wc.cell? ⟨gb200, 2, none⟩ = some (.string ((rd_T32 l0 x3_2).f2)) := (blk_cell BK200.out 2).trans rfl
            have hcz29_3 : wc.cell? ⟨gb200, 3, none⟩ = some (.string ((rd_T32 l0 x3_2).f3)) := (blk_cell BK200.out 3).trans rfl
            have hcz29_4 : wc.cell? ⟨gb200, 4, none⟩ = some (.slice A199_4 ((rd_T32 l0 x3_2).f4).length c199_4) := (blk_cell BK200.out 4).trans rfl
            have hcz29_5 : wc.cell? ⟨gb200, 5, none⟩ = some (.string ((rd_T32 l0 x3_2).f5)) := (blk_cell BK200.out 5).trans rfl
            have hfz29_0 := blk_frozen BK200.out 0
            have hfz29_1 := blk_frozen BK200.out 1
            have hfz29_2 := blk_frozen BK200.out 2
            have hfz29_3 := blk_frozen BK200.out 3
            have hfz29_4 := blk_frozen BK200.out 4
            have hfz29_5 := blk_frozen BK200.out 5
            go_wp2
            go_meet
            case rel => exact ⟨_, (true), (by first | rfl | (simp; done) | exact congrArg Value.bool (nemp _) | exact congrArg Value.bool (emp _) | (simp [*]; done)), H', ⟨by have := HJ1.out; have := HK2.out; have := HJ8.out; first | omega | exact Nat.le_refl _⟩, ⟨by (with_reducible repeat (first | refine blk_drewN ?_ _ | refine blk_drew ?_ | refine blk_alloc ?_ _)); exact BK200.out⟩, ⟨by repeat (first | (with_reducible first | exact HB.out | apply below_alloc | apply pw_below_drewN | apply below_drew1 | refine below_set ?_ GE200.out) | exact HB.out)⟩⟩
           rw [if_neg c28] at H
           have c28b0 : decide (x3_2 ≤ ((rd_T32 l0 x3_2).f0)) = false := decide_eq_false c28
           clear c28
           by_cases c30 : 0 ≤ ((rd_T32 l0 x3_2).f0)
           ·rw [if_pos c30] at H
            have c30b0 : decide (0 ≤ ((rd_T32 l0 x3_2).f0)) = true := decide_eq_true c30
            clear c30
            by_cases c31 : ((rd_T32 l0 x3_2).f0) < (l0.length : Int)
            ·rw [if_pos c31] at H
             have c31b0 : decide (((rd_T32 l0 x3_2).f0) < (l0.length : Int)) = true := decide_eq_true c31
             clear c31
             have H' := Aside0.mk H
             clear H
             have hcz32_0 : wc.cell? ⟨gb200, 0, none⟩ = some (.int .i64 ((rd_T32 l0 x3_2).f0)) := (blk_cell BK200.out 0).trans rfl
             have hcz32_1 : wc.cell? ⟨gb200, 1, none⟩ = some (.int .i64 ((rd_T32 l0 x3_2).f1)) := (blk_cell BK200.out 1).trans rfl
             have hcz32_2 : wc.cell? ⟨gb200, 2, none⟩ = some (.string ((rd_T32 l0 x3_2).f2)) := (blk_cell BK200.out 2).trans rfl
             have hcz32_3 : wc.cell? ⟨gb200, 3, none⟩ = some (.string ((rd_T32 l0 x3_2).f3)) := (blk_cell BK200.out 3).trans rfl
             have hcz32_4 : wc.cell? ⟨gb200, 4, none⟩ = some (.slice A199_4 ((rd_T32 l0 x3_2).f4).length c199_4) := (blk_cell BK200.out 4).trans rfl
             have hcz32_5 : wc.cell? ⟨gb200, 5, none⟩ = some (.string ((rd_T32 l0 x3_2).f5)) := (blk_cell BK200.out 5).trans rfl
             have hfz32_0 := blk_frozen BK200.out 0
             have hfz32_1 := blk_frozen BK200.out 1
             have hfz32_2 := blk_frozen BK200.out 2
             have hfz32_3 := blk_frozen BK200.out 3
             have hfz32_4 := blk_frozen BK200.out 4
             have hfz32_5 := blk_frozen BK200.out 5
             have p205 : 0 ≤ (((rd_T32 l0 x3_2).f0) : Int) := of_decide_eq_true (by first | (with_reducible assumption) | assumption)
             have q205 : ((rd_T32 l0 x3_2).f0) < (l0.length : Int) := of_decide_eq_true (by first | (with_reducible assumption) | assumption)
             obtain ⟨ad205, A205_4, c205_4, e205, hx205_0, hx205_1, hx205_2, hx205_3, hx205_4, hx205_5, hl205_4, hi205_4⟩ := at_T32 HR0.out ((rd_T32 l0 x3_2).f0) p205 q205
             obtain rfl : ad199 = ad205 := (by injection e205)
             replace hx205_0 := (HB.out.cell (World.block_lt_of_cell? w _ hx205_0)).trans hx205_0
             replace hx205_1 := (HB.out.cell (World.block_lt_of_cell? w _ hx205_1)).trans hx205_1
             replace hx205_2 := (HB.out.cell (World.block_lt_of_cell? w _ hx205_2)).trans hx205_2
             replace hx205_3 := (HB.out.cell (World.block_lt_of_cell? w _ hx205_3)).trans hx205_3
             replace hx205_4 := (HB.out.cell (World.block_lt_of_cell? w _ hx205_4)).trans hx205_4
             replace hx205_5 := (HB.out.cell (World.block_lt_of_cell? w _ hx205_5)).trans hx205_5
             have HR205_4 := Aside0.mk hi205_4
             have HC205_4 := Aside0.mk hl205_4
             clear hi205_4 hl205_4
             replace p205 := eq_true p205
             replace q205 := eq_true q205
             go_wp2
             go_meet
             case rel => exact ⟨_, ((((rd_T32 l0 ((rd_T32 l0 x3_2).f0)).f5).toList != ([] : List UInt8))), (by first | rfl | (simp; done) | exact congrArg Value.bool (nemp _) | exact congrArg Value.bool (emp _) | (simp [*]; done)), H', ⟨by have := HJ1.out; have := HK2.out; have := HJ8.out; first | omega | exact Nat.le_refl _⟩, ⟨by (with_reducible repeat (first | refine blk_drewN ?_ _ | refine blk_drew ?_ | refine blk_alloc ?_ _)); exact BK200.out⟩, ⟨by repeat (first | (with_reducible first | exact HB.out | apply below_alloc | apply pw_below_drewN | apply below_drew1 | refine below_set ?_ GE200.out) | exact HB.out)⟩⟩
            rw [if_neg c31] at H
            exact absurd H (by simp)
           rw [if_neg c30] at H
           exact absurd H (by simp)
          rw [if_neg c25] at H
          have c25b0 : decide (0 < x3_2) = false := decide_eq_false c25
          clear c25
          (first | rw [c25b0] | (simp only [i64_w, i32_w]; rw [c25b0]) | (have h_ := c25b0; rw [List.beq_nil_eq] at h_; rw [h_]) | skip)
          have H' := Aside0.mk H
          clear H
          go_wp2
          go_meet
          case rel => exact ⟨_, (false), (by first | rfl | (simp; done) | exact congrArg Value.bool (nemp _) | exact congrArg Value.bool (emp _) | (simp [*]; done)), H', ⟨by have := HJ1.out; have := HK2.out; have := HJ8.out; first | omega | exact Nat.le_refl _⟩, ⟨by (with_reducible repeat (first | refine blk_drewN ?_ _ | refine blk_drew ?_ | refine blk_alloc ?_ _)); exact BK200.out⟩, ⟨by repeat (first | (with_reducible first | exact HB.out | apply below_alloc | apply pw_below_drewN | apply below_drew1 | refine below_set ?_ GE200.out) | exact HB.out)⟩⟩
         case rest =>
          clear HC24
          try clear c1
          try clear p1
          try clear q1
          try clear hx1
          try clear qi1
          try clear c2
          try clear p2
          try clear q2
          try clear hx2
          try clear c3
          try clear c3b0
          try clear c3b1
          try clear c3b2
          try clear c4
          try clear c4b0
          try clear c4b1
          try clear c5
          try clear c5b0
          try clear c5b1
          try clear c6
          try clear c7
          try clear c7b0
          try clear c8
          try clear c8b0
          try clear c10
          try clear c13
          try clear c15
          try clear c17
          try clear c18
          try clear c19
          try clear p19
          try clear q19
          try clear hx19
          try clear qi19
          try clear c20
          try clear p20
          try clear q20
          try clear hx20
          try clear c23
          try clear c25
          try clear c25b0
          try clear c26
          try clear c26b0
          try clear c28
          try clear c28b0
          try clear c30
          try clear c30b0
          try clear c31
          try clear c31b0
          try clear hcz11_0
          try clear hcz11_1
          try clear hcz11_2
          try clear hcz11_3
          try clear hcz11_4
          try clear hcz11_5
          try clear hcz19_0
          try clear hcz19_1
          try clear hcz19_2
          try clear hcz19_3
          try clear hcz19_4
          try clear hcz19_5
          try clear hcz20_0
          try clear hcz20_1
          try clear hcz20_2
          try clear hcz20_3
          try clear hcz20_4
          try clear hcz20_5
          try clear hcz21_0
          try clear hcz21_1
          try clear hcz21_2
          try clear hcz21_3
          try clear hcz21_4
          try clear hcz21_5
          try clear hcz22_0
          try clear hcz22_1
          try clear hcz22_2
          try clear hcz22_3
          try clear hcz22_4
          try clear hcz22_5
          try clear hcz27_0
          try clear hcz27_1
          try clear hcz27_2
          try clear hcz27_3
          try clear hcz27_4
          try clear hcz27_5
          try clear hcz29_0
          try clear hcz29_1
          try clear hcz29_2
          try clear hcz29_3
          try clear hcz29_4
          try clear hcz29_5
          try clear hcz32_0
          try clear hcz32_1
          try clear hcz32_2
          try clear hcz32_3
          try clear hcz32_4
          try clear hcz32_5
          try clear hfz11_0
          try clear hfz11_1
          try clear hfz11_2
          try clear hfz11_3
          try clear hfz11_4
          try clear hfz11_5
          try clear hfz19_0
          try clear hfz19_1
          try clear hfz19_2
          try clear hfz19_3
          try clear hfz19_4
          try clear hfz19_5
          try clear hfz20_0
          try clear hfz20_1
          try clear hfz20_2
          try clear hfz20_3
          try clear hfz20_4
          try clear hfz20_5
          try clear hfz21_0
          try clear hfz21_1
          try clear hfz21_2
          try clear hfz21_3
          try clear hfz21_4
          try clear hfz21_5
          try clear hfz22_0
          try clear hfz22_1
          try clear hfz22_2
          try clear hfz22_3
          try clear hfz22_4
          try clear hfz22_5
          try clear hfz27_0
          try clear hfz27_1
          try clear hfz27_2
          try clear hfz27_3
          try clear hfz27_4
          try clear hfz27_5
          try clear hfz29_0
          try clear hfz29_1
          try clear hfz29_2
          try clear hfz29_3
          try clear hfz29_4
          try clear hfz29_5
          try clear hfz32_0
          try clear hfz32_1
          try clear hfz32_2
          try clear hfz32_3
          try clear hfz32_4
          try clear hfz32_5
          try clear hx198_0
          try clear hx198_1
          try clear hx198_2
          try clear hx198_3
          try clear hx198_4
          try clear hx198_5
          try clear hx199_0
          try clear hx199_1
          try clear hx199_2
          try clear hx199_3
          try clear hx199_4
          try clear hx199_5
          try clear hx205_0
          try clear hx205_1
          try clear hx205_2
          try clear hx205_3
          try clear hx205_4
          try clear hx205_5
          try clear p1
          try clear p19
          try clear p198
          try clear p199
          try clear p2
          try clear p205
          try clear q1
          try clear q19
          try clear q198
          try clear q199
          try clear q205
          obtain ⟨kq, x74_23, rfl, HA, HJ23, BK200, HB⟩ := hcut
          cases kq with
          | zero => exact absurd HA.out (by simp [cardexref08_CanonRight.j3])
          | succ kj23 =>
           have H := HA.out
           clear HA
           simp only [cardexref08_CanonRight.j3] at H
           by_cases c33 : x74_23 = true
           ·subst c33
            have H1 : (some false) = some r := by rw [if_pos rfl] at H; exact H
            clear H
            have H := H1
            clear H1
            obtain rfl := Option.some.inj H
            go_wp2
            go_ret
            exact ⟨by first | rfl | (simp only [nemp]; rfl) | (simp [errW_none, errW_some] <;> rfl) | (simp [*, errW_none, errW_some] <;> rfl), by repeat (first | (with_reducible first | exact HB.out | apply below_alloc | apply pw_below_drewN | apply below_drew1 | refine below_set ?_ GE200.out) | exact HB.out)⟩
           replace c33 := Bool.eq_false_iff.mpr c33
           subst c33
           have H1 : (if x3_2 > 0 then ((cardexref08_depth.f kj23 l0 x3_2).bind fun t206 => (if t206 = 0 then (some false) else (if t206 > 12 then (some false) else (cardexref08_CanonRight.l0 kj23 l0 (wrap64 (x3_2 + 1)))))) else (cardexref08_CanonRight.l0 kj23 l0 (wrap64 (x3_2 + 1)))) = some r := by rw [if_neg (show ¬ (false = true) by decide)] at H; exact H
           clear H
           have H := H1
           clear H1
           by_cases c34 : x3_2 > 0
           ·rw [if_pos c34] at H
            have c34b0 : decide (0 < x3_2) = true := decide_eq_true c34
            clear c34
            replace H := Option.bind_eq_some_iff.mp H
            obtain ⟨t206, A350, H⟩ := H
            replace H : (if t206 = 0 then (some false) else (if t206 > 12 then (some false) else (cardexref08_CanonRight.l0 kj23 l0 (wrap64 (x3_2 + 1))))) = some r := H
            have A35 := Aside0.mk A350
            clear A350
            by_cases c36 : t206 = 0
            ·rw [if_pos c36] at H
             have c36b0 : (t206 == 0) = true := beq_iff_eq.mpr c36
             have c36b1 : (t206 != 0) = false := bne_eq_false_iff_eq.mpr c36
             clear c36
             obtain rfl := Option.some.inj H
             go_wp2_with (first | ((with_reducible refine gate_callee (f := 20) rfl ?_); refine goesL_ (some 79) rfl rfl Tryd.func20 (by kernel_rfl) rfl #[.slice (some ad199) l0.length c0, .int .i64 x3_2] rfl (by (try simp only [List.map_toArray, List.map_cons, List.map_nil]); first | done | rfl | (simp only [List.length_drop, List.length_take]; rfl)) ?_; (with_reducible refine (cardexref08_depth.calls kj23 _ _ l0 x3_2 t206 _ ?side1 ?side2 A35.out).mono ?_); (case side1 => repeat (first | exact (Kd.C_below HR0.out HB.out) | (with_reducible refine Kd.C_alloc ?_ _) | (with_reducible refine Kd.C_drewN ?_ _) | (with_reducible refine Kd.C_drew ?_))); (case side2 => exact HC0.out); rintro e w' ⟨rfl, ⟨nd, rfl⟩⟩; refine ⟨_, rfl, ?_⟩))
             go_ret
             exact ⟨by first | rfl | (simp only [nemp]; rfl) | (simp [errW_none, errW_some] <;> rfl) | (simp [*, errW_none, errW_some] <;> rfl), by repeat (first | (with_reducible first | exact HB.out | apply below_alloc | apply pw_below_drewN | apply below_drew1 | refine below_set ?_ GE200.out) | exact HB.out)⟩
            rw [if_neg c36] at H
            have c36b0 : (t206 == 0) = false := beq_eq_false_iff_ne.mpr c36
            have c36b1 : (t206 != 0) = true := bne_iff_ne.mpr c36
            by_cases c37 : t206 > 12
            ·rw [if_pos c37] at H
             have c37b0 : decide (12 < t206) = true := decide_eq_true c37
             clear c37
             obtain rfl := Option.some.inj H
             go_wp2_with (first | ((with_reducible refine gate_callee (f := 20) rfl ?_); refine goesL_ (some 79) rfl rfl Tryd.func20 (by kernel_rfl) rfl #[.slice (some ad199) l0.length c0, .int .i64 x3_2] rfl (by (try simp only [List.map_toArray, List.map_cons, List.map_nil]); first | done | rfl | (simp only [List.length_drop, List.length_take]; rfl)) ?_; (with_reducible refine (cardexref08_depth.calls kj23 _ _ l0 x3_2 t206 _ ?side1 ?side2 A35.out).mono ?_); (case side1 => repeat (first | exact (Kd.C_below HR0.out HB.out) | (with_reducible refine Kd.C_alloc ?_ _) | (with_reducible refine Kd.C_drewN ?_ _) | (with_reducible refine Kd.C_drew ?_))); (case side2 => exact HC0.out); rintro e w' ⟨rfl, ⟨nd, rfl⟩⟩; refine ⟨_, rfl, ?_⟩))
             go_ret
             exact ⟨by first | rfl | (simp only [nemp]; rfl) | (simp [errW_none, errW_some] <;> rfl) | (simp [*, errW_none, errW_some] <;> rfl), by repeat (first | (with_reducible first | exact HB.out | apply below_alloc | apply pw_below_drewN | apply below_drew1 | refine below_set ?_ GE200.out) | exact HB.out)⟩
            rw [if_neg c37] at H
            have c37b0 : decide (12 < t206) = false := decide_eq_false c37
            clear c37
            have H' := Aside0.mk H
            clear H
            go_wp2_with (first | ((with_reducible refine gate_callee (f := 20) rfl ?_); refine goesL_ (some 79) rfl rfl Tryd.func20 (by kernel_rfl) rfl #[.slice (some ad199) l0.length c0, .int .i64 x3_2] rfl (by (try simp only [List.map_toArray, List.map_cons, List.map_nil]); first | done | rfl | (simp only [List.length_drop, List.length_take]; rfl)) ?_; (with_reducible refine (cardexref08_depth.calls kj23 _ _ l0 x3_2 t206 _ ?side1 ?side2 A35.out).mono ?_); (case side1 => repeat (first | exact (Kd.C_below HR0.out HB.out) | (with_reducible refine Kd.C_alloc ?_ _) | (with_reducible refine Kd.C_drewN ?_ _) | (with_reducible refine Kd.C_drew ?_))); (case side2 => exact HC0.out); rintro e w' ⟨rfl, ⟨nd, rfl⟩⟩; refine ⟨_, rfl, ?_⟩))
            go_roundg kj23
            case measure => have := HJ1.out; have := HK2.out; have := HJ8.out; have := HJ23.out; omega
            case rel => exact ⟨(wrap64 (x3_2 + 1)), (by first | rfl | (simp; done) | exact congrArg Value.bool (nemp _) | exact congrArg Value.bool (emp _) | (simp [*]; done)), H', ⟨by have := HJ1.out; have := HK2.out; have := HJ8.out; have := HJ23.out; omega⟩, ⟨by repeat (first | (with_reducible first | exact HB.out | apply below_alloc | apply pw_below_drewN | apply below_drew1 | refine below_set ?_ GE200.out) | exact HB.out)⟩⟩
           rw [if_neg c34] at H
           have c34b0 : decide (0 < x3_2) = false := decide_eq_false c34
           clear c34
           have H' := Aside0.mk H
           clear H
           go_wp2
           go_roundg kj23
           case measure => have := HJ1.out; have := HK2.out; have := HJ8.out; have := HJ23.out; omega
           case rel => exact ⟨(wrap64 (x3_2 + 1)), (by first | rfl | (simp; done) | exact congrArg Value.bool (nemp _) | exact congrArg Value.bool (emp _) | (simp [*]; done)), H', ⟨by have := HJ1.out; have := HK2.out; have := HJ8.out; have := HJ23.out; omega⟩, ⟨by repeat (first | (with_reducible first | exact HB.out | apply below_alloc | apply pw_below_drewN | apply below_drew1 | refine below_set ?_ GE200.out) | exact HB.out)⟩⟩
      rw [if_neg c8] at H
      exact absurd H (by simp)
     rw [if_neg c7] at H
     have c7b0 : decide (x3_2 < (l0.length : Int)) = false := decide_eq_false c7
     clear c7
     obtain rfl := Option.some.inj H
     go_wp2
     go_ret
     exact ⟨by first | rfl | (simp only [nemp]; rfl) | (simp [errW_none, errW_some] <;> rfl) | (simp [*, errW_none, errW_some] <;> rfl), by repeat (first | (with_reducible first | exact HB.out | apply below_alloc | apply pw_below_drewN | apply below_drew1) | exact HB.out)⟩
end Go.Proofs.YtgacmniagmfckaaDoor.Q
