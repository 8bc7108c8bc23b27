-- Written by hookprint.py (wip/) of this session: the kit's print with hand-proved functions beside it. Not trusted: Lean checks it.
import Derived.Test.YtaekklpphlcngaaGreatDoorQ0
import Derived.Test.YtaekklpphlcngaaGreatDoorQ8
import Derived.Test.YtaekklpphlcngaaGreatDoorQ9
namespace Go.Proofs.YtaekklpphlcngaaGreatDoor.Q
open List (setIfInBounds_toArray set_cons_zero set_cons_succ)
open Go.RowKit Go.Lib Go.Proofs.YtaekklpphlcngaaGreatDoorX Go.Proofs.YtaekklpphlcngaaGreatDoorW.PrintWords Go.Proofs.YtaekklpphlcngaaGreatDoorW.PrintLast Go.Proofs.YtaekklpphlcngaaGreatDoorW.PrintMore
set_option linter.unusedVariables false
set_option linter.unusedSimpArgs false
def cardexref01_way.l0 : Nat → List Int → Bool → Bool → Int → Option (Bool)
 | 0, _, _, _, _ => none
 | k + 1, x0, x3, x4, x5 => if x5 < (x0.length : Int) then (if x3 = true then (if x4 = true then (cardexref01_way.l0 k x0 true true (wrap64 (x5 + 1))) else ((cardexref01_Letters.f k).bind fun t397 => (if 0 ≤ x5 then ((cardexref01_In.f k t397 (rd x0 x5)).bind fun t401 => (cardexref01_way.l0 k x0 true t401 (wrap64 (x5 + 1)))) else (none)))) else ((cardexref01_RightLeft.f k).bind fun t402 => (if 0 ≤ x5 then ((cardexref01_In.f k t402 (rd x0 x5)).bind fun t406 => (if x4 = true then (cardexref01_way.l0 k x0 t406 true (wrap64 (x5 + 1))) else ((cardexref01_Letters.f k).bind fun t407 => ((cardexref01_In.f k t407 (rd x0 x5)).bind fun t411 => (cardexref01_way.l0 k x0 t406 t411 (wrap64 (x5 + 1))))))) else (none)))) else (if x3 = true then (if x4 = true then (some false) else ((cardexref01_RightLeft.f k).bind fun t412 => (if 0 < (x0.length : Int) then ((cardexref01_In.f k t412 (rd x0 0)).bind fun t416 => (if t416 = true then ((cardexref01_RightLeft.f k).bind fun t417 => (if 0 ≤ (wrap64 ((x0.length : Int) - 1)) then (if (wrap64 ((x0.length : Int) - 1)) < (x0.length : Int) then ((cardexref01_In.f k t417 (rd x0 (wrap64 ((x0.length : Int) - 1)))).bind fun t421 => (some t421)) else (none)) else (none))) else (some false))) else (none)))) else (some true))
def cardexref01_way.f (k : Nat) (l0 : List Int) : Option (Bool) := cardexref01_way.l0 k l0 false false 0
def cardexref01_way.T5 : Bool × List (List Nat × List Nat) := (true, [([], []), ([0], [0]), ([1, 1], [1]), ([1], [1]), ([1], [1]), ([3, 4, 1], [1, 3, 4]), ([5, 1], [1, 5]), ([2, 6, 2, 1], [1, 2, 6]), ([1, 7], [1, 7]), ([], []), ([9, 7], [9]), ([10, 10], [10]), ([10], [10]), ([10], [10]), ([12, 13, 10], [10, 12, 13]), ([14, 10], [10, 14]), ([11, 15, 11, 10], [10, 11, 15]), ([10, 16], [10, 16]), ([8, 16, 0, 1, 2, 3, 4, 5, 6, 7, 8], [0, 8]), ([17, 18, 0, 1, 2, 3, 4, 5, 6, 7, 8, 9, 10, 11, 12, 13, 14, 15, 16, 17, 18], [9, 17])])
def cardexref01_way.B5 : List Nat := [0, 1, 3, 3, 3, 27, 59, 127, 255, 0, 767, 1791, 1791, 1791, 14079, 30463, 65279, 130815, 131071, 524287]
theorem cardexref01_way.tab5 : rtab .any (opsOf Tryz.f103 5) = cardexref01_way.T5 := by kernel_rfl
theorem cardexref01_way.bits5 : waitsOk cardexref01_way.T5.2 cardexref01_way.B5 = true := by kernel_rfl
def cardexref01_way.T6 : Bool × List (List Nat × List Nat) := (true, [([], []), ([0], [0]), ([1], [1]), ([2], [2]), ([3, 2], [2, 3]), ([4, 2, 2], [2, 4]), ([5, 5], [5]), ([5], [5]), ([7, 5], [5, 7]), ([8, 5], [5, 8]), ([6, 9, 6, 5], [5, 6, 9]), ([5, 10, 2], [2, 5, 10]), ([11, 10, 2], [2, 11]), ([12, 12], [12]), ([12], [12]), ([12], [12]), ([15, 12], [12, 15]), ([16, 12], [12, 16]), ([14, 17, 12], [12, 14, 17]), ([18, 12], [12, 18]), ([13, 19, 13, 12], [12, 13, 19]), ([12, 20, 2], [2, 12, 20]), ([2, 21], [2, 21]), ([22, 20, 0, 1, 2, 3, 4, 5, 6, 7, 8, 9, 10, 11, 12, 13, 14, 15, 16, 17, 18, 19, 20, 21, 22], [22])])
def cardexref01_way.B6 : List Nat := [0, 1, 3, 7, 15, 31, 63, 63, 191, 447, 1023, 2047, 4095, 8191, 8191, 8191, 40959, 106495, 253951, 516095, 1048575, 2097151, 4194303, 8388607]
theorem cardexref01_way.tab6 : rtab .any (opsOf Tryz.f103 6) = cardexref01_way.T6 := by kernel_rfl
theorem cardexref01_way.bits6 : waitsOk cardexref01_way.T6.2 cardexref01_way.B6 = true := by kernel_rfl
set_option maxHeartbeats 8000000 in
set_option maxRecDepth 100000 in
theorem cardexref01_way.calls (k : Nat) (A0 : Option Addr) (c0 : Nat) (l0 : List Int) (r : Bool) (w : World) (hr0 : Kd.C (Kd.int .i64) w A0 l0.length l0) (hc0 : l0.length ≤ c0) (h : cardexref01_way.f k l0 = some r) :
  Calls Tryz.prog 103 #[.slice A0 l0.length c0] w fun e w' => e = .returned (.bool r) ∧ Below w.heap.size w w' := by
 have HR0 := Aside0.mk hr0
 have HC0 := Aside0.mk hc0
 clear hr0 hc0
 have HB := Aside0.mk (Below.refl w.heap.size w)
 have H : (cardexref01_way.l0 k l0 false false 0) = some r := h
 clear h
 have H' := Aside0.mk H
 clear H
 go_enter Tryz.func103, Tryz.ntmps103
 go_wp2
 go_loopg [3, 4, 5] k (fun kq v3 v4 v5 w' => ∃ (x3_1 : Bool) (x4_1 : Bool) (x5_1 : Int), v3 = .bool x3_1 ∧ v4 = .bool x4_1 ∧ v5 = .int .i64 x5_1 ∧ Aside0 (cardexref01_way.l0 kq l0 x3_1 x4_1 x5_1 = some r) ∧ Aside0 (kq ≤ k) ∧ Aside0 (Below w.heap.size w w'))
 case atStart => exact ⟨(false), (false), (0), zz1, zz1, zz1, H', ⟨Nat.le_refl _⟩, ⟨zz0⟩⟩
 case round =>
  clear H'
  try clear c1
  obtain ⟨x3_1, x4_1, x5_1, rfl, rfl, rfl, HA, HK1, HB⟩ := hrel
  cases gk with
  | zero => exact absurd HA.out (by simp [cardexref01_way.l0])
  | succ k1 =>
   have H := HA.out
   clear HA
   simp only [cardexref01_way.l0] at H
   by_cases c2 : x5_1 < (l0.length : Int)
   ·rw [if_pos c2] at H
    have c2b0 := decide_eq_true c2
    clear c2
    by_cases c3 : x3_1 = true
    ·subst c3
     have H1 : (if x4_1 = true then (cardexref01_way.l0 k1 l0 true true (wrap64 (x5_1 + 1))) else ((cardexref01_Letters.f k1).bind fun t397 => (if 0 ≤ x5_1 then ((cardexref01_In.f k1 t397 (rd l0 x5_1)).bind fun t401 => (cardexref01_way.l0 k1 l0 true t401 (wrap64 (x5_1 + 1)))) else (none)))) = some r := by rw [if_pos rfl] at H; exact H
     clear H
     have H := H1
     clear H1
     by_cases c4 : x4_1 = true
     ·subst c4
      have H1 : (cardexref01_way.l0 k1 l0 true true (wrap64 (x5_1 + 1))) = some r := by rw [if_pos rfl] at H; exact H
      clear H
      have H := H1
      clear H1
      have H' := Aside0.mk H
      clear H
      try go_wp2
      replace HB := Aside0.mk (below_drew1 HB.out)
      refine sz20 (fun w' => True) [] cardexref01_way.tab5 cardexref01_way.bits5 trivial (fun hHeld HT_ HW_ => ?_)
      generalize wr.drew = w5 at HB hHeld ⊢
      refine pz 0 (some 12) ?_; refine pz 1 (some 13) ?_; refine pu 2 (some 14) ?_; refine pu 3 (some 15) ?_; refine pu 4 (some 16) ?_; refine pu 5 (some 17) ?_; refine pu 6 (some 18) ?_; refine pu 7 (some 19) ?_; refine pz 8 (some 20) ?_; refine pz 9 (some 21) ?_; refine pz 10 (some 22) ?_; refine pu 11 (some 23) ?_; refine pu 12 (some 24) ?_; refine pu 13 (some 25) ?_; refine pu 14 (some 26) ?_; refine pu 15 (some 27) ?_; refine pu 16 (some 28) ?_; refine pz 17 (some 29) ?_; refine pz 18 (some 3) ?_; refine pz 19 (some 4) ?_
      refine done_ (done_of HT_.out zz34) ?_
      try go_wp2
      go_roundg k1
      case measure => have := HK1.out; omega
      case rel => exact ⟨(true), (true), (wrap64 (x5_1 + 1)), zz1, zz1, zz1, H', ⟨zz58⟩, ⟨zz0⟩⟩
     replace c4 := Bool.eq_false_iff.mpr c4
     subst c4
     have H1 : ((cardexref01_Letters.f k1).bind fun t397 => (if 0 ≤ x5_1 then ((cardexref01_In.f k1 t397 (rd l0 x5_1)).bind fun t401 => (cardexref01_way.l0 k1 l0 true t401 (wrap64 (x5_1 + 1)))) else (none))) = some r := by rw [if_neg (show ¬ (false = true) by decide)] at H; exact H
     clear H
     have H := H1
     clear H1
     replace H := Option.bind_eq_some_iff.mp H
     obtain ⟨t397, A60, H⟩ := H
     try dsimp only at H
     have A6 := Aside0.mk A60
     clear A60
     by_cases c7 : 0 ≤ x5_1
     ·rw [if_pos c7] at H
      have c7b0 := decide_eq_true c7
      clear c7
      replace H := Option.bind_eq_some_iff.mp H
      obtain ⟨t401, A80, H⟩ := H
      try dsimp only at H
      have A8 := Aside0.mk A80
      clear A80
      have H' := Aside0.mk H
      clear H
      try go_wp2
      replace HB := Aside0.mk (below_drew1 HB.out)
      have p400 : 0 ≤ (x5_1 : Int) := of_decide_eq_true zz6
      have q400 : x5_1 < (l0.length : Int) := of_decide_eq_true zz6
      obtain ⟨ad400, e400, hx400_0⟩ := Kd.at_int HR0.out x5_1 p400 q400
      have hw400_0 := hx400_0
      cases e400
      replace hx400_0 := hereB HB hx400_0
      replace p400 := eq_true p400
      replace q400 := eq_true q400
      refine sz20 (fun w' => w'.cell? (ad400.add (x5_1).toNat) = some (.int .i64 (rd l0 x5_1))) [] cardexref01_way.tab5 cardexref01_way.bits5 (((HB.out.cell (World.block_lt_of_cell? w _ hw400_0)).trans hw400_0)) (fun hHeld HT_ HW_ => ?_)
      generalize wr.drew = w9 at HB hx400_0 hHeld ⊢
      refine pz 0 (some 12) ?_; refine pz 1 (some 13) ?_; refine pu 2 (some 14) ?_; refine pu 3 (some 15) ?_; refine pu 4 (some 16) ?_; refine pu 5 (some 17) ?_; refine pu 6 (some 18) ?_; refine pu 7 (some 19) ?_; refine pz 8 (some 20) ?_; refine pz 9 (some 21) ?_; refine pz 10 (some 22) ?_; refine pz 12 (some 24) ?_; refine pz 13 (some 25) ?_; refine pz 14 (some 26) ?_; refine t1 15 (some 27) ?_
      refine oz 11 (some 23) (fun K hK => ?_)
      refine gO Tryz.func120 #[] ?_
      with_reducible refine (cardexref01_Letters.calls k1  t397 _ A6.out).mono ?_
      rintro e w10 ⟨v398, rfl, ho0, hb⟩
      refine ⟨_, rfl, ?_⟩
      have n_ := as2 (Kd.R_lower ho0 (below_size zz0)) (below_step zz0 hb)
      clear HB
      obtain ⟨HO399, HB⟩ := n_
      (try clear hb ho0)
      obtain ⟨Ao11, co11, eo11⟩ := Kd.R_slice HO399.out
      (first | subst eo11 | (injection eo11 with f1_ f2_ f3_; have f4_ := f1_.symm; have f5_ := f3_.symm; clear f1_ f2_ f3_; subst f4_; subst f5_))
      refine hK.out _ _ (((HB.out.cell (World.block_lt_of_cell? w _ hw400_0)).trans hw400_0)) (fun hHeld => ?_)
      clear hK K
      refine norm_ (a' := ?_) ?_ ?_
      rotate_left
      ·show Act.put _ (some 23) _ = _
       simp only [Act.put, setIfInBounds_toArray, set_cons_zero, set_cons_succ, i64_w, i32_w]
       rfl
      refine oz 16 (some 28) (fun K hK => ?_)
      refine gO Tryz.func116 #[.slice Ao11 t397.length co11, .int .i64 (rd l0 x5_1)] ?_
      with_reducible refine (cardexref01_In.calls k1 _ _ t397 (rd l0 x5_1) t401 _ ?side1 ?side2 A8.out).mono ?_
      (case side1 => exact (by repeat (first | exact (Kd.R_reads' HO399.out).2.2 | (with_reducible refine Kd.C_alloc ?_ _) | (with_reducible refine Kd.C_drewN ?_ _) | (with_reducible refine Kd.C_drew ?_))))
      (case side2 => exact (Kd.R_reads' HO399.out).2.1)
      rintro e w' ⟨rfl, ⟨nd, rfl⟩⟩
      refine ⟨_, rfl, ?_⟩
      refine hK.out _ _ (((HB.out.cell (World.block_lt_of_cell? w _ hw400_0)).trans hw400_0)) (fun hHeld => ?_)
      clear hK K
      refine norm_ (a' := ?_) ?_ ?_
      rotate_left
      ·show Act.put _ (some 28) _ = _
       simp only [Act.put, setIfInBounds_toArray, set_cons_zero, set_cons_succ, i64_w, i32_w]
       rfl
      refine pz 17 (some 29) ?_; refine pz 18 (some 3) ?_; refine pz 19 (some 4) ?_
      refine done_ (done_of HT_.out zz34) ?_
      try go_wp2
      go_roundg k1
      case measure => have := HK1.out; omega
      case rel => exact ⟨(true), (t401), (wrap64 (x5_1 + 1)), zz1, zz1, zz1, H', ⟨zz58⟩, ⟨zz0⟩⟩
     rw [if_neg c7] at H
     exact absurd H (by simp)
    replace c3 := Bool.eq_false_iff.mpr c3
    subst c3
    have H1 : ((cardexref01_RightLeft.f k1).bind fun t402 => (if 0 ≤ x5_1 then ((cardexref01_In.f k1 t402 (rd l0 x5_1)).bind fun t406 => (if x4_1 = true then (cardexref01_way.l0 k1 l0 t406 true (wrap64 (x5_1 + 1))) else ((cardexref01_Letters.f k1).bind fun t407 => ((cardexref01_In.f k1 t407 (rd l0 x5_1)).bind fun t411 => (cardexref01_way.l0 k1 l0 t406 t411 (wrap64 (x5_1 + 1))))))) else (none))) = some r := by rw [if_neg (show ¬ (false = true) by decide)] at H; exact H
    clear H
    have H := H1
    clear H1
    replace H := Option.bind_eq_some_iff.mp H
    obtain ⟨t402, A120, H⟩ := H
    try dsimp only at H
    have A12 := Aside0.mk A120
    clear A120
    by_cases c13 : 0 ≤ x5_1
    ·rw [if_pos c13] at H
     have c13b0 := decide_eq_true c13
     clear c13
     replace H := Option.bind_eq_some_iff.mp H
     obtain ⟨t406, A140, H⟩ := H
     try dsimp only at H
     have A14 := Aside0.mk A140
     clear A140
     by_cases c15 : x4_1 = true
     ·subst c15
      have H1 : (cardexref01_way.l0 k1 l0 t406 true (wrap64 (x5_1 + 1))) = some r := by rw [if_pos rfl] at H; exact H
      clear H
      have H := H1
      clear H1
      have H' := Aside0.mk H
      clear H
      try go_wp2
      replace HB := Aside0.mk (below_drew1 HB.out)
      have p405 : 0 ≤ (x5_1 : Int) := of_decide_eq_true zz6
      have q405 : x5_1 < (l0.length : Int) := of_decide_eq_true zz6
      obtain ⟨ad405, e405, hx405_0⟩ := Kd.at_int HR0.out x5_1 p405 q405
      have hw405_0 := hx405_0
      cases e405
      replace hx405_0 := hereB HB hx405_0
      replace p405 := eq_true p405
      replace q405 := eq_true q405
      refine sz20 (fun w' => w'.cell? (ad405.add (x5_1).toNat) = some (.int .i64 (rd l0 x5_1))) [] cardexref01_way.tab5 cardexref01_way.bits5 (((HB.out.cell (World.block_lt_of_cell? w _ hw405_0)).trans hw405_0)) (fun hHeld HT_ HW_ => ?_)
      generalize wr.drew = w16 at HB hx405_0 hHeld ⊢
      refine pz 0 (some 12) ?_; refine pz 1 (some 13) ?_; refine pz 3 (some 15) ?_; refine pz 4 (some 16) ?_; refine pz 5 (some 17) ?_; refine pz 9 (some 21) ?_; refine t1 6 (some 18) ?_
      refine oz 2 (some 14) (fun K hK => ?_)
      refine gO Tryz.func121 #[] ?_
      with_reducible refine (cardexref01_RightLeft.calls k1  t402 _ A12.out).mono ?_
      rintro e w17 ⟨v403, rfl, ho0, hb⟩
      refine ⟨_, rfl, ?_⟩
      have n_ := as2 (Kd.R_lower ho0 (below_size zz0)) (below_step zz0 hb)
      clear HB
      obtain ⟨HO404, HB⟩ := n_
      (try clear hb ho0)
      obtain ⟨Ao18, co18, eo18⟩ := Kd.R_slice HO404.out
      (first | subst eo18 | (injection eo18 with f1_ f2_ f3_; have f4_ := f1_.symm; have f5_ := f3_.symm; clear f1_ f2_ f3_; subst f4_; subst f5_))
      refine hK.out _ _ (((HB.out.cell (World.block_lt_of_cell? w _ hw405_0)).trans hw405_0)) (fun hHeld => ?_)
      clear hK K
      refine norm_ (a' := ?_) ?_ ?_
      rotate_left
      ·show Act.put _ (some 14) _ = _
       simp only [Act.put, setIfInBounds_toArray, set_cons_zero, set_cons_succ, i64_w, i32_w]
       rfl
      refine oz 7 (some 19) (fun K hK => ?_)
      refine gO Tryz.func116 #[.slice Ao18 t402.length co18, .int .i64 (rd l0 x5_1)] ?_
      with_reducible refine (cardexref01_In.calls k1 _ _ t402 (rd l0 x5_1) t406 _ ?side1 ?side2 A14.out).mono ?_
      (case side1 => exact (by repeat (first | exact (Kd.R_reads' HO404.out).2.2 | (with_reducible refine Kd.C_alloc ?_ _) | (with_reducible refine Kd.C_drewN ?_ _) | (with_reducible refine Kd.C_drew ?_))))
      (case side2 => exact (Kd.R_reads' HO404.out).2.1)
      rintro e w' ⟨rfl, ⟨nd, rfl⟩⟩
      refine ⟨_, rfl, ?_⟩
      refine hK.out _ _ (((HB.out.cell (World.block_lt_of_cell? w _ hw405_0)).trans hw405_0)) (fun hHeld => ?_)
      clear hK K
      refine norm_ (a' := ?_) ?_ ?_
      rotate_left
      ·show Act.put _ (some 19) _ = _
       simp only [Act.put, setIfInBounds_toArray, set_cons_zero, set_cons_succ, i64_w, i32_w]
       rfl
      refine pz 8 (some 20) ?_; refine pz 10 (some 22) ?_; refine pu 11 (some 23) ?_; refine pu 12 (some 24) ?_; refine pu 13 (some 25) ?_; refine pu 14 (some 26) ?_; refine pu 15 (some 27) ?_; refine pu 16 (some 28) ?_; refine pz 17 (some 29) ?_; refine pz 18 (some 3) ?_; refine pz 19 (some 4) ?_
      refine done_ (done_of HT_.out zz34) ?_
      try go_wp2
      go_roundg k1
      case measure => have := HK1.out; omega
      case rel => exact ⟨(t406), (true), (wrap64 (x5_1 + 1)), zz1, zz1, zz1, H', ⟨zz58⟩, ⟨zz0⟩⟩
     replace c15 := Bool.eq_false_iff.mpr c15
     subst c15
     have H1 : ((cardexref01_Letters.f k1).bind fun t407 => ((cardexref01_In.f k1 t407 (rd l0 x5_1)).bind fun t411 => (cardexref01_way.l0 k1 l0 t406 t411 (wrap64 (x5_1 + 1))))) = some r := by rw [if_neg (show ¬ (false = true) by decide)] at H; exact H
     clear H
     have H := H1
     clear H1
     replace H := Option.bind_eq_some_iff.mp H
     obtain ⟨t407, A190, H⟩ := H
     try dsimp only at H
     have A19 := Aside0.mk A190
     clear A190
     replace H := Option.bind_eq_some_iff.mp H
     obtain ⟨t411, A200, H⟩ := H
     try dsimp only at H
     have A20 := Aside0.mk A200
     clear A200
     have H' := Aside0.mk H
     clear H
     try go_wp2
     replace HB := Aside0.mk (below_drew1 HB.out)
     have p405 : 0 ≤ (x5_1 : Int) := of_decide_eq_true zz6
     have q405 : x5_1 < (l0.length : Int) := of_decide_eq_true zz6
     obtain ⟨ad405, e405, hx405_0⟩ := Kd.at_int HR0.out x5_1 p405 q405
     have hw405_0 := hx405_0
     cases e405
     replace hx405_0 := hereB HB hx405_0
     replace p405 := eq_true p405
     replace q405 := eq_true q405
     have p410 : 0 ≤ (x5_1 : Int) := of_decide_eq_true zz6
     have q410 : x5_1 < (l0.length : Int) := of_decide_eq_true zz6
     obtain ⟨ad410, e410, hx410_0⟩ := Kd.at_int HR0.out x5_1 p410 q410
     have hw410_0 := hx410_0
     obtain rfl : ad405 = ad410 := (by injection e410)
     replace hx410_0 := hereB HB hx410_0
     replace p410 := eq_true p410
     replace q410 := eq_true q410
     refine sz20 (fun w' => w'.cell? (ad405.add (x5_1).toNat) = some (.int .i64 (rd l0 x5_1)) ∧ w'.cell? (ad405.add (x5_1).toNat) = some (.int .i64 (rd l0 x5_1))) [] cardexref01_way.tab5 cardexref01_way.bits5 ⟨((HB.out.cell (World.block_lt_of_cell? w _ hw405_0)).trans hw405_0), ((HB.out.cell (World.block_lt_of_cell? w _ hw410_0)).trans hw410_0)⟩ (fun hHeld HT_ HW_ => ?_)
     generalize wr.drew = w21 at HB hx405_0 hx410_0 hHeld ⊢
     refine pz 0 (some 12) ?_; refine pz 1 (some 13) ?_; refine pz 3 (some 15) ?_; refine pz 4 (some 16) ?_; refine pz 5 (some 17) ?_; refine pz 9 (some 21) ?_; refine t2 6 (some 18) ?_
     refine oz 2 (some 14) (fun K hK => ?_)
     refine gO Tryz.func121 #[] ?_
     with_reducible refine (cardexref01_RightLeft.calls k1  t402 _ A12.out).mono ?_
     rintro e w22 ⟨v403, rfl, ho0, hb⟩
     refine ⟨_, rfl, ?_⟩
     have n_ := as2 (Kd.R_lower ho0 (below_size zz0)) (below_step zz0 hb)
     clear HB
     obtain ⟨HO404, HB⟩ := n_
     (try clear hb ho0)
     obtain ⟨Ao23, co23, eo23⟩ := Kd.R_slice HO404.out
     (first | subst eo23 | (injection eo23 with f1_ f2_ f3_; have f4_ := f1_.symm; have f5_ := f3_.symm; clear f1_ f2_ f3_; subst f4_; subst f5_))
     refine hK.out _ _ ⟨((HB.out.cell (World.block_lt_of_cell? w _ hw405_0)).trans hw405_0), ((HB.out.cell (World.block_lt_of_cell? w _ hw410_0)).trans hw410_0)⟩ (fun hHeld => ?_)
     clear hK K
     refine norm_ (a' := ?_) ?_ ?_
     rotate_left
     ·show Act.put _ (some 14) _ = _
      simp only [Act.put, setIfInBounds_toArray, set_cons_zero, set_cons_succ, i64_w, i32_w]
      rfl
     refine oz 7 (some 19) (fun K hK => ?_)
     refine gO Tryz.func116 #[.slice Ao23 t402.length co23, .int .i64 (rd l0 x5_1)] ?_
     with_reducible refine (cardexref01_In.calls k1 _ _ t402 (rd l0 x5_1) t406 _ ?side1 ?side2 A14.out).mono ?_
     (case side1 => exact (by repeat (first | exact (Kd.R_reads' HO404.out).2.2 | (with_reducible refine Kd.C_alloc ?_ _) | (with_reducible refine Kd.C_drewN ?_ _) | (with_reducible refine Kd.C_drew ?_))))
     (case side2 => exact (Kd.R_reads' HO404.out).2.1)
     rintro e w' ⟨rfl, ⟨nd, rfl⟩⟩
     refine ⟨_, rfl, ?_⟩
     refine hK.out _ _ ⟨((HB.out.cell (World.block_lt_of_cell? w _ hw405_0)).trans hw405_0), ((HB.out.cell (World.block_lt_of_cell? w _ hw410_0)).trans hw410_0)⟩ (fun hHeld => ?_)
     clear hK K
     refine norm_ (a' := ?_) ?_ ?_
     rotate_left
     ·show Act.put _ (some 19) _ = _
      simp only [Act.put, setIfInBounds_toArray, set_cons_zero, set_cons_succ, i64_w, i32_w]
      rfl
     refine pz 8 (some 20) ?_; refine pz 10 (some 22) ?_; refine pz 12 (some 24) ?_; refine pz 13 (some 25) ?_; refine pz 14 (some 26) ?_; refine t2 15 (some 27) ?_
     refine oz 11 (some 23) (fun K hK => ?_)
     refine gO Tryz.func120 #[] ?_
     with_reducible refine (cardexref01_Letters.calls k1  t407 _ A19.out).mono ?_
     rintro e w24 ⟨v408, rfl, ho0, hb⟩
     refine ⟨_, rfl, ?_⟩
     have n_ := as3 (Kd.R_elder' (by (with_reducible repeat (first | apply Kd.R_alloc | apply Kd.R_drewN | apply Kd.R_drew)); exact HO404.out) (Kd.R_base ho0) hb) (Kd.R_lower (Kd.R_new' ho0 (Kd.R_lt (by (with_reducible repeat (first | apply Kd.R_alloc | apply Kd.R_drewN | apply Kd.R_drew)); exact HO404.out))) (below_size zz0)) (below_step zz0 hb)
     clear HO404 HB
     obtain ⟨HO404, HO409, HB⟩ := n_
     (try clear hb ho0)
     obtain ⟨Ao25, co25, eo25⟩ := Kd.R_slice HO409.out
     (first | subst eo25 | (injection eo25 with f1_ f2_ f3_; have f4_ := f1_.symm; have f5_ := f3_.symm; clear f1_ f2_ f3_; subst f4_; subst f5_))
     refine hK.out _ _ ⟨((HB.out.cell (World.block_lt_of_cell? w _ hw405_0)).trans hw405_0), ((HB.out.cell (World.block_lt_of_cell? w _ hw410_0)).trans hw410_0)⟩ (fun hHeld => ?_)
     clear hK K
     refine norm_ (a' := ?_) ?_ ?_
     rotate_left
     ·show Act.put _ (some 23) _ = _
      simp only [Act.put, setIfInBounds_toArray, set_cons_zero, set_cons_succ, i64_w, i32_w]
      rfl
     refine oz 16 (some 28) (fun K hK => ?_)
     refine gO Tryz.func116 #[.slice Ao25 t407.length co25, .int .i64 (rd l0 x5_1)] ?_
     with_reducible refine (cardexref01_In.calls k1 _ _ t407 (rd l0 x5_1) t411 _ ?side1 ?side2 A20.out).mono ?_
     (case side1 => exact (by repeat (first | exact (Kd.R_reads' HO409.out).2.2 | (with_reducible refine Kd.C_alloc ?_ _) | (with_reducible refine Kd.C_drewN ?_ _) | (with_reducible refine Kd.C_drew ?_))))
     (case side2 => exact (Kd.R_reads' HO409.out).2.1)
     rintro e w' ⟨rfl, ⟨nd, rfl⟩⟩
     refine ⟨_, rfl, ?_⟩
     refine hK.out _ _ ⟨((HB.out.cell (World.block_lt_of_cell? w _ hw405_0)).trans hw405_0), ((HB.out.cell (World.block_lt_of_cell? w _ hw410_0)).trans hw410_0)⟩ (fun hHeld => ?_)
     clear hK K
     refine norm_ (a' := ?_) ?_ ?_
     rotate_left
     ·show Act.put _ (some 28) _ = _
      simp only [Act.put, setIfInBounds_toArray, set_cons_zero, set_cons_succ, i64_w, i32_w]
      rfl
     refine pz 17 (some 29) ?_; refine pz 18 (some 3) ?_; refine pz 19 (some 4) ?_
     refine done_ (done_of HT_.out zz34) ?_
     try go_wp2
     go_roundg k1
     case measure => have := HK1.out; omega
     case rel => exact ⟨(t406), (t411), (wrap64 (x5_1 + 1)), zz1, zz1, zz1, H', ⟨zz58⟩, ⟨zz0⟩⟩
    rw [if_neg c13] at H
    exact absurd H (by simp)
   rw [if_neg c2] at H
   have c2b0 := decide_eq_false c2
   clear c2
   by_cases c26 : x3_1 = true
   ·subst c26
    have H1 : (if x4_1 = true then (some false) else ((cardexref01_RightLeft.f k1).bind fun t412 => (if 0 < (l0.length : Int) then ((cardexref01_In.f k1 t412 (rd l0 0)).bind fun t416 => (if t416 = true then ((cardexref01_RightLeft.f k1).bind fun t417 => (if 0 ≤ (wrap64 ((l0.length : Int) - 1)) then (if (wrap64 ((l0.length : Int) - 1)) < (l0.length : Int) then ((cardexref01_In.f k1 t417 (rd l0 (wrap64 ((l0.length : Int) - 1)))).bind fun t421 => (some t421)) else (none)) else (none))) else (some false))) else (none)))) = some r := by rw [if_pos rfl] at H; exact H
    clear H
    have H := H1
    clear H1
    by_cases c27 : x4_1 = true
    ·subst c27
     have H1 : (some false) = some r := by rw [if_pos rfl] at H; exact H
     clear H
     have H := H1
     clear H1
     obtain rfl := Option.some.inj H
     try go_wp2
     replace HB := Aside0.mk (below_drew1 HB.out)
     refine sz24 (fun w' => True) [] cardexref01_way.tab6 cardexref01_way.bits6 trivial (fun hHeld HT_ HW_ => ?_)
     generalize wr.drew = w28 at HB hHeld ⊢
     refine pz 0 (some 30) ?_; refine pz 1 (some 31) ?_; refine pz 2 (some 32) ?_; refine pz 3 (some 33) ?_; refine pz 4 (some 34) ?_; refine pz 5 (some 35) ?_; refine pu 6 (some 36) ?_; refine pu 7 (some 37) ?_; refine pu 8 (some 38) ?_; refine pu 9 (some 39) ?_; refine pu 10 (some 40) ?_; refine pz 11 (some 41) ?_; refine pz 12 (some 42) ?_; refine pu 13 (some 43) ?_; refine pu 14 (some 44) ?_; refine pu 15 (some 45) ?_; refine pu 16 (some 46) ?_; refine pu 17 (some 47) ?_; refine pu 18 (some 48) ?_; refine pu 19 (some 49) ?_; refine pu 20 (some 50) ?_; refine pz 21 (some 51) ?_; refine pz 22 (some 52) ?_; refine pz 23 (some 2) ?_
     refine done_ (done_of HT_.out zz34) ?_
     try go_wp2
     go_ret
     exact ⟨zz4, zz0⟩
    replace c27 := Bool.eq_false_iff.mpr c27
    subst c27
    have H1 : ((cardexref01_RightLeft.f k1).bind fun t412 => (if 0 < (l0.length : Int) then ((cardexref01_In.f k1 t412 (rd l0 0)).bind fun t416 => (if t416 = true then ((cardexref01_RightLeft.f k1).bind fun t417 => (if 0 ≤ (wrap64 ((l0.length : Int) - 1)) then (if (wrap64 ((l0.length : Int) - 1)) < (l0.length : Int) then ((cardexref01_In.f k1 t417 (rd l0 (wrap64 ((l0.length : Int) - 1)))).bind fun t421 => (some t421)) else (none)) else (none))) else (some false))) else (none))) = some r := by rw [if_neg (show ¬ (false = true) by decide)] at H; exact H
    clear H
    have H := H1
    clear H1
    replace H := Option.bind_eq_some_iff.mp H
    obtain ⟨t412, A290, H⟩ := H
    try dsimp only at H
    have A29 := Aside0.mk A290
    clear A290
    by_cases c30 : 0 < (l0.length : Int)
    ·rw [if_pos c30] at H
     have c30b0 := decide_eq_true c30
     have c30b1 : decide (0 < l0.length) = true := decide_eq_true (by omega)
     clear c30
     replace H := Option.bind_eq_some_iff.mp H
     obtain ⟨t416, A310, H⟩ := H
     try dsimp only at H
     have A31 := Aside0.mk A310
     clear A310
     by_cases c32 : t416 = true
     ·subst c32
      have H1 : ((cardexref01_RightLeft.f k1).bind fun t417 => (if 0 ≤ (wrap64 ((l0.length : Int) - 1)) then (if (wrap64 ((l0.length : Int) - 1)) < (l0.length : Int) then ((cardexref01_In.f k1 t417 (rd l0 (wrap64 ((l0.length : Int) - 1)))).bind fun t421 => (some t421)) else (none)) else (none))) = some r := by rw [if_pos rfl] at H; exact H
      clear H
      have H := H1
      clear H1
      replace H := Option.bind_eq_some_iff.mp H
      obtain ⟨t417, A330, H⟩ := H
      try dsimp only at H
      have A33 := Aside0.mk A330
      clear A330
      obtain ⟨ji34, hji34⟩ : ∃ j_ : Int, (wrap64 ((l0.length : Int) - 1)) = j_ := ⟨_, rfl⟩
      replace H : (if 0 ≤ (ji34) then (if (ji34) < (l0.length : Int) then ((cardexref01_In.f k1 t417 (rd l0 (ji34))).bind fun t421 => (some t421)) else (none)) else (none)) = some r := by first | (rw [hji34] at H; exact H) | (simp only [hji34] at H ⊢; exact H)
      (try rw [hji34] at A29)
      (try rw [hji34] at A31)
      (try rw [hji34] at A33)
      have hji34w : (IntKind.i64.wrap ((l0.length : Int) - 1)) = ji34 := (i64_w _).trans hji34
      by_cases c35 : 0 ≤ (ji34)
      ·rw [if_pos c35] at H
       have c35b0 := decide_eq_true c35
       clear c35
       by_cases c36 : (ji34) < (l0.length : Int)
       ·rw [if_pos c36] at H
        have c36b0 := decide_eq_true c36
        clear c36
        replace H := Option.bind_eq_some_iff.mp H
        obtain ⟨t421, A370, H⟩ := H
        try dsimp only at H
        have A37 := Aside0.mk A370
        clear A370
        obtain rfl := Option.some.inj H
        try go_wp2
        replace HB := Aside0.mk (below_drew1 HB.out)
        have p415 : 0 ≤ (0 : Int) := (by omega)
        have q415 : 0 < (l0.length : Int) := of_decide_eq_true zz6
        obtain ⟨ad415, e415, hx415_0⟩ := Kd.at_int HR0.out 0 p415 q415
        have hw415_0 := hx415_0
        (try rw [show ((0 : Int)).toNat = 0 from rfl] at hw415_0)
        (try rw [show 0 * 1 = 0 from rfl] at hw415_0)
        (try rw [Addr.add_zero'] at hw415_0)
        cases e415
        have qi415 : (0 < l0.length) = True := eq_true (by omega)
        (try rw [show ((0 : Int)).toNat = 0 from rfl] at hx415_0)
        (try rw [Addr.add_zero'] at hx415_0)
        replace hx415_0 := hereB HB hx415_0
        replace p415 := eq_true p415
        replace q415 := eq_true q415
        have p420 : 0 ≤ ((ji34) : Int) := of_decide_eq_true zz6
        have q420 : (ji34) < (l0.length : Int) := of_decide_eq_true zz6
        obtain ⟨ad420, e420, hx420_0⟩ := Kd.at_int HR0.out (ji34) p420 q420
        have hw420_0 := hx420_0
        obtain rfl : ad415 = ad420 := (by injection e420)
        replace hx420_0 := hereB HB hx420_0
        replace p420 := eq_true p420
        replace q420 := eq_true q420
        refine sz24 (fun w' => w'.cell? ad415 = some (.int .i64 (rd l0 0)) ∧ w'.cell? (ad415.add ((ji34)).toNat) = some (.int .i64 (rd l0 (ji34)))) [] cardexref01_way.tab6 cardexref01_way.bits6 ⟨((HB.out.cell (World.block_lt_of_cell? w _ hw415_0)).trans hw415_0), ((HB.out.cell (World.block_lt_of_cell? w _ hw420_0)).trans hw420_0)⟩ (fun hHeld HT_ HW_ => ?_)
        generalize wr.drew = w38 at HB hx415_0 hx420_0 hHeld ⊢
        refine pz 0 (some 30) ?_; refine pz 1 (some 31) ?_; refine pz 2 (some 32) ?_; refine pz 3 (some 33) ?_; refine pz 4 (some 34) ?_; refine pz 5 (some 35) ?_; refine pz 7 (some 37) ?_; refine pz 8 (some 38) ?_; refine t2 9 (some 39) ?_
        refine oz 6 (some 36) (fun K hK => ?_)
        refine gO Tryz.func121 #[] ?_
        with_reducible refine (cardexref01_RightLeft.calls k1  t412 _ A29.out).mono ?_
        rintro e w39 ⟨v413, rfl, ho0, hb⟩
        refine ⟨_, rfl, ?_⟩
        have n_ := as2 (Kd.R_lower ho0 (below_size zz0)) (below_step zz0 hb)
        clear HB
        obtain ⟨HO414, HB⟩ := n_
        (try clear hb ho0)
        obtain ⟨Ao40, co40, eo40⟩ := Kd.R_slice HO414.out
        (first | subst eo40 | (injection eo40 with f1_ f2_ f3_; have f4_ := f1_.symm; have f5_ := f3_.symm; clear f1_ f2_ f3_; subst f4_; subst f5_))
        refine hK.out _ _ ⟨((HB.out.cell (World.block_lt_of_cell? w _ hw415_0)).trans hw415_0), ((HB.out.cell (World.block_lt_of_cell? w _ hw420_0)).trans hw420_0)⟩ (fun hHeld => ?_)
        clear hK K
        refine norm_ (a' := ?_) ?_ ?_
        rotate_left
        ·show Act.put _ (some 36) _ = _
         simp only [Act.put, setIfInBounds_toArray, set_cons_zero, set_cons_succ, i64_w, i32_w]
         rfl
        refine oz 10 (some 40) (fun K hK => ?_)
        refine gO Tryz.func116 #[.slice Ao40 t412.length co40, .int .i64 (rd l0 0)] ?_
        with_reducible refine (cardexref01_In.calls k1 _ _ t412 (rd l0 0) true _ ?side1 ?side2 A31.out).mono ?_
        (case side1 => exact (by repeat (first | exact (Kd.R_reads' HO414.out).2.2 | (with_reducible refine Kd.C_alloc ?_ _) | (with_reducible refine Kd.C_drewN ?_ _) | (with_reducible refine Kd.C_drew ?_))))
        (case side2 => exact (Kd.R_reads' HO414.out).2.1)
        rintro e w' ⟨rfl, ⟨nd, rfl⟩⟩
        refine ⟨_, rfl, ?_⟩
        refine hK.out _ _ ⟨((HB.out.cell (World.block_lt_of_cell? w _ hw415_0)).trans hw415_0), ((HB.out.cell (World.block_lt_of_cell? w _ hw420_0)).trans hw420_0)⟩ (fun hHeld => ?_)
        clear hK K
        refine norm_ (a' := ?_) ?_ ?_
        rotate_left
        ·show Act.put _ (some 40) _ = _
         simp only [Act.put, setIfInBounds_toArray, set_cons_zero, set_cons_succ, i64_w, i32_w]
         rfl
        refine pz 11 (some 41) ?_; refine pz 12 (some 42) ?_; refine pz 14 (some 44) ?_; refine pz 15 (some 45) ?_; refine pz 16 (some 46) ?_; refine pz 17 (some 47) ?_; refine pz 18 (some 48) ?_; refine t2 19 (some 49) ?_
        refine oz 13 (some 43) (fun K hK => ?_)
        refine gO Tryz.func121 #[] ?_
        with_reducible refine (cardexref01_RightLeft.calls k1  t417 _ A33.out).mono ?_
        rintro e w41 ⟨v418, rfl, ho0, hb⟩
        refine ⟨_, rfl, ?_⟩
        have n_ := as3 (Kd.R_elder' (by (with_reducible repeat (first | apply Kd.R_alloc | apply Kd.R_drewN | apply Kd.R_drew)); exact HO414.out) (Kd.R_base ho0) hb) (Kd.R_lower (Kd.R_new' ho0 (Kd.R_lt (by (with_reducible repeat (first | apply Kd.R_alloc | apply Kd.R_drewN | apply Kd.R_drew)); exact HO414.out))) (below_size zz0)) (below_step zz0 hb)
        clear HO414 HB
        obtain ⟨HO414, HO419, HB⟩ := n_
        (try clear hb ho0)
        obtain ⟨Ao42, co42, eo42⟩ := Kd.R_slice HO419.out
        (first | subst eo42 | (injection eo42 with f1_ f2_ f3_; have f4_ := f1_.symm; have f5_ := f3_.symm; clear f1_ f2_ f3_; subst f4_; subst f5_))
        refine hK.out _ _ ⟨((HB.out.cell (World.block_lt_of_cell? w _ hw415_0)).trans hw415_0), ((HB.out.cell (World.block_lt_of_cell? w _ hw420_0)).trans hw420_0)⟩ (fun hHeld => ?_)
        clear hK K
        refine norm_ (a' := ?_) ?_ ?_
        rotate_left
        ·show Act.put _ (some 43) _ = _
         simp only [Act.put, setIfInBounds_toArray, set_cons_zero, set_cons_succ, i64_w, i32_w]
         rfl
        refine oz 20 (some 50) (fun K hK => ?_)
        refine goes_ Tryz.func116 zz34 rfl #[.slice Ao42 t417.length co42, .int .i64 (rd l0 (ji34))] (by rfl) rfl rfl (by (try simp only [List.map_toArray, List.map_cons, List.map_nil]); first | done | (simp only [hji34]; rfl) | rfl | (simp only [List.length_drop, List.length_take]; rfl)) ?_
        with_reducible refine (cardexref01_In.calls k1 _ _ t417 (rd l0 (ji34)) t421 _ ?side1 ?side2 A37.out).mono ?_
        (case side1 => exact (by repeat (first | exact (Kd.R_reads' HO419.out).2.2 | (with_reducible refine Kd.C_alloc ?_ _) | (with_reducible refine Kd.C_drewN ?_ _) | (with_reducible refine Kd.C_drew ?_))))
        (case side2 => exact (Kd.R_reads' HO419.out).2.1)
        rintro e w' ⟨rfl, ⟨nd, rfl⟩⟩
        refine ⟨_, rfl, ?_⟩
        refine hK.out _ _ ⟨((HB.out.cell (World.block_lt_of_cell? w _ hw415_0)).trans hw415_0), ((HB.out.cell (World.block_lt_of_cell? w _ hw420_0)).trans hw420_0)⟩ (fun hHeld => ?_)
        clear hK K
        refine norm_ (a' := ?_) ?_ ?_
        rotate_left
        ·show Act.put _ (some 50) _ = _
         simp only [Act.put, setIfInBounds_toArray, set_cons_zero, set_cons_succ, i64_w, i32_w]
         rfl
        refine pz 21 (some 51) ?_; refine pz 22 (some 52) ?_; refine pz 23 (some 2) ?_
        refine done_ (done_of HT_.out zz34) ?_
        try go_wp2
        go_ret
        exact ⟨by first | rfl | (simp only [nemp]; rfl) | (simp [errW_none, errW_some] <;> rfl) | (simp only [← hji34]; first | rfl | (simp [errW_none, errW_some] <;> rfl)) | (simp [*, errW_none, errW_some] <;> rfl), zz0⟩
       rw [if_neg c36] at H
       exact absurd H (by simp)
      rw [if_neg c35] at H
      exact absurd H (by simp)
     replace c32 := Bool.eq_false_iff.mpr c32
     subst c32
     have H1 : (some false) = some r := by rw [if_neg (show ¬ (false = true) by decide)] at H; exact H
     clear H
     have H := H1
     clear H1
     obtain rfl := Option.some.inj H
     try go_wp2
     replace HB := Aside0.mk (below_drew1 HB.out)
     have p415 : 0 ≤ (0 : Int) := (by omega)
     have q415 : 0 < (l0.length : Int) := of_decide_eq_true zz6
     obtain ⟨ad415, e415, hx415_0⟩ := Kd.at_int HR0.out 0 p415 q415
     have hw415_0 := hx415_0
     (try rw [show ((0 : Int)).toNat = 0 from rfl] at hw415_0)
     (try rw [show 0 * 1 = 0 from rfl] at hw415_0)
     (try rw [Addr.add_zero'] at hw415_0)
     cases e415
     have qi415 : (0 < l0.length) = True := eq_true (by omega)
     (try rw [show ((0 : Int)).toNat = 0 from rfl] at hx415_0)
     (try rw [Addr.add_zero'] at hx415_0)
     replace hx415_0 := hereB HB hx415_0
     replace p415 := eq_true p415
     replace q415 := eq_true q415
     refine sz24 (fun w' => w'.cell? ad415 = some (.int .i64 (rd l0 0))) [] cardexref01_way.tab6 cardexref01_way.bits6 (((HB.out.cell (World.block_lt_of_cell? w _ hw415_0)).trans hw415_0)) (fun hHeld HT_ HW_ => ?_)
     generalize wr.drew = w43 at HB hx415_0 hHeld ⊢
     refine pz 0 (some 30) ?_; refine pz 1 (some 31) ?_; refine pz 2 (some 32) ?_; refine pz 3 (some 33) ?_; refine pz 4 (some 34) ?_; refine pz 5 (some 35) ?_; refine pz 7 (some 37) ?_; refine pz 8 (some 38) ?_; refine t1 9 (some 39) ?_
     refine oz 6 (some 36) (fun K hK => ?_)
     refine gO Tryz.func121 #[] ?_
     with_reducible refine (cardexref01_RightLeft.calls k1  t412 _ A29.out).mono ?_
     rintro e w44 ⟨v413, rfl, ho0, hb⟩
     refine ⟨_, rfl, ?_⟩
     have n_ := as2 (Kd.R_lower ho0 (below_size zz0)) (below_step zz0 hb)
     clear HB
     obtain ⟨HO414, HB⟩ := n_
     (try clear hb ho0)
     obtain ⟨Ao45, co45, eo45⟩ := Kd.R_slice HO414.out
     (first | subst eo45 | (injection eo45 with f1_ f2_ f3_; have f4_ := f1_.symm; have f5_ := f3_.symm; clear f1_ f2_ f3_; subst f4_; subst f5_))
     refine hK.out _ _ (((HB.out.cell (World.block_lt_of_cell? w _ hw415_0)).trans hw415_0)) (fun hHeld => ?_)
     clear hK K
     refine norm_ (a' := ?_) ?_ ?_
     rotate_left
     ·show Act.put _ (some 36) _ = _
      simp only [Act.put, setIfInBounds_toArray, set_cons_zero, set_cons_succ, i64_w, i32_w]
      rfl
     refine oz 10 (some 40) (fun K hK => ?_)
     refine gO Tryz.func116 #[.slice Ao45 t412.length co45, .int .i64 (rd l0 0)] ?_
     with_reducible refine (cardexref01_In.calls k1 _ _ t412 (rd l0 0) false _ ?side1 ?side2 A31.out).mono ?_
     (case side1 => exact (by repeat (first | exact (Kd.R_reads' HO414.out).2.2 | (with_reducible refine Kd.C_alloc ?_ _) | (with_reducible refine Kd.C_drewN ?_ _) | (with_reducible refine Kd.C_drew ?_))))
     (case side2 => exact (Kd.R_reads' HO414.out).2.1)
     rintro e w' ⟨rfl, ⟨nd, rfl⟩⟩
     refine ⟨_, rfl, ?_⟩
     refine hK.out _ _ (((HB.out.cell (World.block_lt_of_cell? w _ hw415_0)).trans hw415_0)) (fun hHeld => ?_)
     clear hK K
     refine norm_ (a' := ?_) ?_ ?_
     rotate_left
     ·show Act.put _ (some 40) _ = _
      simp only [Act.put, setIfInBounds_toArray, set_cons_zero, set_cons_succ, i64_w, i32_w]
      rfl
     refine pz 11 (some 41) ?_; refine pz 12 (some 42) ?_; refine pu 13 (some 43) ?_; refine pu 14 (some 44) ?_; refine pu 15 (some 45) ?_; refine pu 16 (some 46) ?_; refine pu 17 (some 47) ?_; refine pu 18 (some 48) ?_; refine pu 19 (some 49) ?_; refine pu 20 (some 50) ?_; refine pz 21 (some 51) ?_; refine pz 22 (some 52) ?_; refine pz 23 (some 2) ?_
     refine done_ (done_of HT_.out zz34) ?_
     try go_wp2
     go_ret
     exact ⟨zz4, zz0⟩
    rw [if_neg c30] at H
    exact absurd H (by simp)
   replace c26 := Bool.eq_false_iff.mpr c26
   subst c26
   have H1 : (some true) = some r := by rw [if_neg (show ¬ (false = true) by decide)] at H; exact H
   clear H
   have H := H1
   clear H1
   obtain rfl := Option.some.inj H
   try go_wp2
   replace HB := Aside0.mk (below_drew1 HB.out)
   refine sz24 (fun w' => True) [] cardexref01_way.tab6 cardexref01_way.bits6 trivial (fun hHeld HT_ HW_ => ?_)
   generalize wr.drew = w46 at HB hHeld ⊢
   refine pz 0 (some 30) ?_; refine pz 1 (some 31) ?_; refine pz 2 (some 32) ?_; refine pu 3 (some 33) ?_; refine pu 4 (some 34) ?_; refine pu 5 (some 35) ?_; refine pu 6 (some 36) ?_; refine pu 7 (some 37) ?_; refine pu 8 (some 38) ?_; refine pu 9 (some 39) ?_; refine pu 10 (some 40) ?_; refine pu 11 (some 41) ?_; refine pu 12 (some 42) ?_; refine pu 13 (some 43) ?_; refine pu 14 (some 44) ?_; refine pu 15 (some 45) ?_; refine pu 16 (some 46) ?_; refine pu 17 (some 47) ?_; refine pu 18 (some 48) ?_; refine pu 19 (some 49) ?_; refine pu 20 (some 50) ?_; refine pu 21 (some 51) ?_; refine pz 22 (some 52) ?_; refine pz 23 (some 2) ?_
   refine done_ (done_of HT_.out zz34) ?_
   try go_wp2
   go_ret
   exact ⟨zz4, zz0⟩
end Go.Proofs.YtaekklpphlcngaaGreatDoor.Q
