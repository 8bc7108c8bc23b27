-- Written by hookprint.py (wip/) of this session: the kit's print with hand-proved functions beside it. Not trusted: Lean checks it.
import Derived.Test.YtjijbncheikagaaGreatDoorQ0
import Derived.Test.YtjijbncheikagaaGreatDoorQ8
import Derived.Test.YtjijbncheikagaaGreatDoorQ9
import Derived.Test.YtjijbncheikagaaGreatDoorQ11
namespace Go.Proofs.YtjijbncheikagaaGreatDoor.Q
open List (setIfInBounds_toArray set_cons_zero set_cons_succ)
open Go.RowKit Go.Lib Go.Proofs.YtjijbncheikagaaGreatDoorX Go.Proofs.YtjijbncheikagaaGreatDoorW.PrintWords Go.Proofs.YtjijbncheikagaaGreatDoorW.PrintLast Go.Proofs.YtjijbncheikagaaGreatDoorW.PrintMore
set_option linter.unusedVariables false
set_option linter.unusedSimpArgs false
mutual
def cardexref08_walk_attr.l0 : Nat → List (S45) → ByteArray → Int → ByteArray → Int → Option ((List (S45)) × Bool × ByteArray × Int)
  | 0, _, _, _, _, _ => none
  | k + 1, x1, x6, x7, x1000, x1001 => if x7 < (x1.length : Int) then (if 0 ≤ x7 then (if ((rd_T45 x1 x7).f0).toList = x6.toList then (some (([] : List (S45)), false, x1000, x1001)) else (cardexref08_walk_attr.l0 k x1 x6 (wrap64 (x7 + 1)) x1000 x1001)) else (none)) else ((cardexref08_walk_blanks.f k x1000 x1001).bind fun bt339 => (if x6.toList = ([] : List UInt8) then (cardexref08_walk_attr.j1 k x1 x6 true bt339.2.1 bt339.2.2) else ((cardexref08_walk_is.f bt339.2.1 bt339.2.2 (⟨#[61]⟩ : ByteArray)).bind fun bt342 => (cardexref08_walk_attr.j1 k x1 x6 (!bt342.1) bt342.2.1 bt342.2.2))))
def cardexref08_walk_attr.j1 : Nat → List (S45) → ByteArray → Bool → ByteArray → Int → Option ((List (S45)) × Bool × ByteArray × Int)
  | 0, _, _, _, _, _ => none
  | k + 1, x1, x6, x35, x1000, x1001 => if x35 = true then (some (([] : List (S45)), false, x1000, x1001)) else ((cardexref08_walk_blanks.f k x1000 x1001).bind fun bt345 => (if bt345.2.2 ≥ (bt345.2.1.size : Int) then (cardexref08_walk_attr.j2 k x1 x6 true bt345.2.1 bt345.2.2) else (if 0 ≤ bt345.2.2 then (if bt345.2.2 < (bt345.2.1.size : Int) then (if (bt bt345.2.1 bt345.2.2) = 34 then (cardexref08_walk_attr.j2 k x1 x6 false bt345.2.1 bt345.2.2) else (cardexref08_walk_attr.j2 k x1 x6 ((bt bt345.2.1 bt345.2.2) != 39) bt345.2.1 bt345.2.2)) else (none)) else (none))))
def cardexref08_walk_attr.j2 : Nat → List (S45) → ByteArray → Bool → ByteArray → Int → Option ((List (S45)) × Bool × ByteArray × Int)
  | 0, _, _, _, _, _ => none
  | k + 1, x1, x6, x71, x1000, x1001 => if x71 = true then (some (([] : List (S45)), false, x1000, x1001)) else (if 0 ≤ x1001 then (if x1001 < (x1000.size : Int) then (cardexref08_walk_attr.l1 k x1 x6 (bt x1000 x1001) (wrap64 (x1001 + 1)) x1000 (wrap64 (x1001 + 1))) else (none)) else (none))
def cardexref08_walk_attr.l1 : Nat → List (S45) → ByteArray → Int → Int → ByteArray → Int → Option ((List (S45)) × Bool × ByteArray × Int)
  | 0, _, _, _, _, _, _ => none
  | k + 1, x1, x6, x8, x9, x1000, x1001 => if x1001 < (x1000.size : Int) then (if 0 ≤ x1001 then (if (bt x1000 x1001) = x8 then (if x1001 ≥ (x1000.size : Int) then (some (([] : List (S45)), false, x1000, x1001)) else (if 0 ≤ x9 then (if x9 ≤ x1001 then (if x1001 ≤ (x1000.size : Int) then ((cardexref01_Back.f k (x1000.extract (x9 : Int).toNat (x1001 : Int).toNat)).bind fun bt349 => (if x1.length < 4398046511104 then (some ((x1 ++ [(⟨x6, bt349.1⟩ : S45)]), (bt349.2 == 0), x1000, wrap64 (x1001 + 1))) else (none))) else (none)) else (none)) else (none))) else (cardexref08_walk_attr.l1 k x1 x6 x8 x9 x1000 (wrap64 (x1001 + 1)))) else (none)) else (if x1001 ≥ (x1000.size : Int) then (some (([] : List (S45)), false, x1000, x1001)) else (if 0 ≤ x9 then (if x9 ≤ x1001 then (if x1001 ≤ (x1000.size : Int) then ((cardexref01_Back.f k (x1000.extract (x9 : Int).toNat (x1001 : Int).toNat)).bind fun bt355 => (if x1.length < 4398046511104 then (some ((x1 ++ [(⟨x6, bt355.1⟩ : S45)]), (bt355.2 == 0), x1000, wrap64 (x1001 + 1))) else (none))) else (none)) else (none)) else (none)))
end
def cardexref08_walk_attr.f (k : Nat) (s0_0 : ByteArray) (s0_1 : Int) (l1 : List (S45)) : Option ((List (S45)) × Bool × ByteArray × Int) := (cardexref08_walk_name.f k s0_0 s0_1).bind fun bt335 => (cardexref08_walk_attr.l0 k l1 bt335.1 0 bt335.2.1 bt335.2.2)
def cardexref08_walk_attr.T11 : Bool × List (List Nat × List Nat) := (true, [([], []), ([0], [0]), ([1], [1]), ([2], [2]), ([], []), ([4], [4]), ([5], [5]), ([6], [6]), ([7], [7]), ([3, 8], [3, 8]), ([9], [9]), ([10], [10]), ([11, 10], [10, 11]), ([12, 10], [10, 12]), ([13, 10], [10, 13]), ([10], [10]), ([15, 10], [10, 15]), ([16, 10], [10, 16]), ([17, 10], [10, 17]), ([14, 18, 10], [10, 14, 18]), ([19, 10], [10, 19]), ([20, 10, 10], [10, 20]), ([21], [21]), ([22, 21], [21, 22]), ([23, 21], [21, 23]), ([24, 21], [21, 24]), ([21], [21]), ([26, 21], [21, 26]), ([27, 21], [21, 27]), ([28, 21], [21, 28]), ([25, 29, 21], [21, 25, 29]), ([30, 21], [21, 30]), ([21, 31, 10], [10, 21, 31]), ([10, 32], [10, 32])])
def cardexref08_walk_attr.B11 : List Nat := [0, 1, 3, 7, 0, 16, 48, 112, 240, 511, 1023, 2047, 4095, 8191, 16383, 2047, 34815, 100351, 231423, 524287, 1048575, 2097151, 4194303, 8388607, 16777215, 33554431, 4194303, 71303167, 205520895, 473956351, 1073741823, 2147483647, 4294967295, 8589934591]
theorem cardexref08_walk_attr.tab11 : rtab .any (opsOf Tryz.f51 11) = cardexref08_walk_attr.T11 := by kernel_rfl
theorem cardexref08_walk_attr.bits11 : waitsOk cardexref08_walk_attr.T11.2 cardexref08_walk_attr.B11 = true := by kernel_rfl
def cardexref08_walk_attr.T13 : Bool × List (List Nat × List Nat) := (true, [([], []), ([0], [0]), ([1], [1]), ([2], [2]), ([], []), ([4], [4]), ([5], [5]), ([6], [6]), ([3, 7], [3, 7]), ([], []), ([9], [9]), ([10], [10]), ([11], [11]), ([12], [12]), ([8, 0, 1, 2, 3, 4, 5, 6, 7, 8], [8]), ([13, 14, 0, 1, 2, 3, 4, 5, 6, 7, 8, 9, 10, 11, 12, 13, 14], [13])])
def cardexref08_walk_attr.B13 : List Nat := [0, 1, 3, 7, 0, 16, 48, 112, 255, 0, 512, 1536, 3584, 7680, 511, 32767]
theorem cardexref08_walk_attr.tab13 : rtab .any (opsOf Tryz.f51 13) = cardexref08_walk_attr.T13 := by kernel_rfl
theorem cardexref08_walk_attr.bits13 : waitsOk cardexref08_walk_attr.T13.2 cardexref08_walk_attr.B13 = true := by kernel_rfl
def cardexref08_walk_attr.T15 : Bool × List (List Nat × List Nat) := (true, [([], []), ([0], [0]), ([1], [1]), ([2], [2]), ([], []), ([4], [4]), ([5], [5]), ([6], [6]), ([7], [7]), ([3, 8], [3, 8]), ([9], [9]), ([10], [10]), ([11, 10], [10, 11]), ([12, 10], [10, 12]), ([13, 10], [10, 13]), ([10], [10]), ([15, 10], [10, 15]), ([16, 10], [10, 16]), ([17, 10], [10, 17]), ([14, 18, 10], [10, 14, 18]), ([10], [10]), ([19, 20, 10], [10, 19, 20]), ([10, 21], [10, 21])])
def cardexref08_walk_attr.B15 : List Nat := [0, 1, 3, 7, 0, 16, 48, 112, 240, 511, 1023, 2047, 4095, 8191, 16383, 2047, 34815, 100351, 231423, 524287, 2047, 2097151, 4194303]
theorem cardexref08_walk_attr.tab15 : rtab .any (opsOf Tryz.f51 15) = cardexref08_walk_attr.T15 := by kernel_rfl
theorem cardexref08_walk_attr.bits15 : waitsOk cardexref08_walk_attr.T15.2 cardexref08_walk_attr.B15 = true := by kernel_rfl
def cardexref08_walk_attr.T17 : Bool × List (List Nat × List Nat) := (true, [([], []), ([0], [0]), ([1], [1]), ([2], [2]), ([], []), ([4], [4]), ([5], [5]), ([6], [6]), ([7], [7]), ([3, 8], [3, 8])])
def cardexref08_walk_attr.B17 : List Nat := [0, 1, 3, 7, 0, 16, 48, 112, 240, 511]
theorem cardexref08_walk_attr.tab17 : rtab .any (opsOf Tryz.f51 17) = cardexref08_walk_attr.T17 := by kernel_rfl
theorem cardexref08_walk_attr.bits17 : waitsOk cardexref08_walk_attr.T17.2 cardexref08_walk_attr.B17 = true := by kernel_rfl
def cardexref08_walk_attr.T19 : Bool × List (List Nat × List Nat) := (true, [([], []), ([0], [0]), ([1], [1]), ([2], [2]), ([], []), ([], []), ([5], [5]), ([6], [6]), ([7], [7]), ([3, 4, 8], [3, 4, 8]), ([9], [9]), ([10], [10]), ([11], [11]), ([11], [11]), ([12, 10, 0, 1, 2, 3, 4, 5, 6, 7, 8, 9, 10, 11, 12], [12]), ([13, 14, 0, 1, 2, 3, 4, 5, 6, 7, 8, 9, 10, 11, 12, 13, 14], [13])])
def cardexref08_walk_attr.B19 : List Nat := [0, 1, 3, 7, 0, 0, 32, 96, 224, 511, 1023, 2047, 4095, 4095, 8191, 32767]
theorem cardexref08_walk_attr.tab19 : rtab .any (opsOf Tryz.f51 19) = cardexref08_walk_attr.T19 := by kernel_rfl
theorem cardexref08_walk_attr.bits19 : waitsOk cardexref08_walk_attr.T19.2 cardexref08_walk_attr.B19 = true := by kernel_rfl
set_option maxHeartbeats 8000000 in
set_option maxRecDepth 100000 in
theorem cardexref08_walk_attr.calls (k : Nat) (g : Nat) (s0_0 : ByteArray) (s0_1 : Int) (P1_ : Nat → Prop) (u9000_ : Value) (l1 : List (S45)) (r1 : List (S45)) (r2 : Bool) (r3 : ByteArray) (r4 : Int) (w0 w : World) (hI : IsS41 w0 w g s0_0 s0_1) (hB : Below w0.heap.size w0 w) (ho1 : Kd.R k45 45 w w0.heap.size P1_ u9000_ l1) (h : cardexref08_walk_attr.f k s0_0 s0_1 l1 = some (r1, r2, r3, r4)) :
    Calls Tryz.prog 51 #[.pointer (some ⟨g, 0, none⟩), u9000_] w fun e w' => ∃ v0_ : Value, e = .returned (.tuple #[v0_, .bool r2]) ∧ Kd.R k45 45 w' w0.heap.size (fun k_ => (P1_ k_ ∨ w.heap.size ≤ k_)) v0_ r1 ∧ IsS41 w0 w' g r3 r4 ∧ Below w0.heap.size w0 w' ∧ Kept w w' (fun k_ => (P1_ k_) ∨ k_ = g) := by
  have hu45 := Tryz.underlying45
  have HO1 := Aside0.mk (show Kd.R k45 45 w w0.heap.size (fun k_ => (P1_ k_ ∨ w.heap.size ≤ k_)) u9000_ l1 from Kd.R_mono ho1 (fun k_ hk => (.inl hk)))
  have HI0 := Aside0.mk hI
  have HL := Aside0.mk hB.size
  clear hI
  have HK := Aside0.mk (Kept.refl w (fun k_ => (P1_ k_) ∨ k_ = g))
  have HW0 := Aside0.mk hB.size
  have HB := Aside0.mk hB
  clear hB
  have H : ((cardexref08_walk_name.f k s0_0 s0_1).bind fun bt335 => (cardexref08_walk_attr.l0 k l1 bt335.1 0 bt335.2.1 bt335.2.2)) = some (r1, r2, r3, r4) := h
  clear h
  replace H := Option.bind_eq_some_iff.mp H
  obtain ⟨⟨t335, t336, t337⟩, A30, H⟩ := H
  replace H : (cardexref08_walk_attr.l0 k l1 t335 0 t336 t337) = some (r1, r2, r3, r4) := H
  have A3 := Aside0.mk A30
  clear A30
  have H' := Aside0.mk H
  clear H
  go_enter Tryz.func51, Tryz.ntmps51
  go_wp2_with (first | ((with_reducible refine gate_callee (f := 25) rfl ?_); refine goesL_ (some 13) rfl rfl Tryz.func25 zz29 rfl #[.pointer (some ⟨g, 0, none⟩)] rfl zz1 ?_; (with_reducible refine (cardexref08_walk_name.calls k g s0_0 s0_1 t335 t336 t337 w0 _ ?side1 ?side2 A3.out).mono ?_); (case side1 => exact zz8); (case side2 => exact zz7); rintro e w4 ⟨rfl, hi, hb, hk⟩; refine ⟨_, rfl, ?_⟩; have n0_ := Aside0.mk (Kd.R_mono (Kd.R_keep (IsS41.apart (show IsS41 w0 _ g s0_0 s0_1 from by repeat (first | (with_reducible first | exact HI0.out | apply IsS41.alloc | apply IsS41.drewN | apply IsS41.drew | apply IsS41.set_0 | apply IsS41.set_1) | exact HI0.out)) (by (with_reducible repeat (first | apply Kd.R_alloc | apply Kd.R_drewN | apply Kd.R_drew)); exact HO1.out) (by decide)) hk (fun _ h => h.2)) (fun _ h => h.1)); have n1_ := Aside0.mk (Kept.of_keep (S := (fun k_ => (P1_ k_) ∨ k_ = g)) zz19 hk (.inl (.inr rfl))); have n2_ := Aside0.mk (hb); have n3_ := Aside0.mk (hi); clear HO1; clear HK; clear HB; clear HI0; have HO1 := n0_; have HK := n1_; have HB := n2_; have HI0 := n3_; clear n0_ n1_ n2_ n3_; (try clear hb); (try clear hb2); (try clear hk); (try clear hi)))
  go_loopg [7] k (fun kq v7 w' => ∃ (x7_1 : Int), v7 = .int .i64 x7_1 ∧ Aside0 (cardexref08_walk_attr.l0 kq l1 t335 x7_1 t336 t337 = some (r1, r2, r3, r4)) ∧ Aside0 (kq ≤ k) ∧ Aside0 (Kd.R k45 45 w' w0.heap.size (fun k_ => (P1_ k_ ∨ w.heap.size ≤ k_)) u9000_ l1) ∧ Aside0 (IsS41 w0 w' g t336 t337) ∧ Aside0 (Kept w w' (fun k_ => (P1_ k_) ∨ k_ = g)) ∧ Aside0 (Below w0.heap.size w0 w'))
  case atStart => exact ⟨(0), zz2, H', ⟨Nat.le_refl _⟩, ⟨by (with_reducible repeat (first | apply Kd.R_alloc | apply Kd.R_drewN | apply Kd.R_drew)); exact HO1.out⟩, ⟨zz8⟩, ⟨zz19⟩, ⟨zz7⟩⟩
  case round =>
    clear H'
    try clear c2
    try clear p2
    obtain ⟨x7_1, rfl, HA, HK1, HO_1, HI0, HK, HB⟩ := hrel
    cases gk with
    | zero => exact absurd HA.out (by simp [cardexref08_walk_attr.l0])
    | succ k1 =>
      have H := HA.out
      clear HA
      simp only [cardexref08_walk_attr.l0] at H
      by_cases c5 : x7_1 < (l1.length : Int)
      · rw [if_pos c5] at H
        have c5b0 : decide (x7_1 < (l1.length : Int)) = true := decide_eq_true c5
        clear c5
        by_cases c6 : 0 ≤ x7_1
        · rw [if_pos c6] at H
          have c6b0 : decide (0 ≤ x7_1) = true := decide_eq_true c6
          clear c6
          by_cases c7 : ((rd_T45 l1 x7_1).f0).toList = t335.toList
          · rw [if_pos c7] at H
            have c7b0 : (((rd_T45 l1 x7_1).f0).toList == t335.toList) = true := beq_iff_eq.mpr c7
            have c7b1 : (((rd_T45 l1 x7_1).f0).toList != t335.toList) = false := bne_eq_false_iff_eq.mpr c7
            clear c7
            simp only [Option.some.injEq, Prod.mk.injEq] at H
            obtain ⟨rfl, rfl, rfl, rfl⟩ := H
            obtain ⟨Ao8, co8, eo8⟩ := Kd.R_slice HO_1.out
            subst eo8
            have p338 : 0 ≤ (x7_1 : Int) := of_decide_eq_true zz9
            have q338 : x7_1 < (l1.length : Int) := of_decide_eq_true zz9
            obtain ⟨ad338, e338, hx338_0, hx338_1⟩ := at_T45 (Kd.R_reads' HO_1.out).2.2 x7_1 p338 q338
            cases e338
            replace p338 := eq_true p338
            replace q338 := eq_true q338
            go_wp2
            go_ret2
            exact ⟨_, zz4, zz40, zz8, zz7, zz19⟩
          rw [if_neg c7] at H
          have c7b0 : (((rd_T45 l1 x7_1).f0).toList == t335.toList) = false := beq_eq_false_iff_ne.mpr c7
          have c7b1 : (((rd_T45 l1 x7_1).f0).toList != t335.toList) = true := bne_iff_ne.mpr c7
          have H' := Aside0.mk H
          clear H
          obtain ⟨Ao9, co9, eo9⟩ := Kd.R_slice HO_1.out
          subst eo9
          have p338 : 0 ≤ (x7_1 : Int) := of_decide_eq_true zz9
          have q338 : x7_1 < (l1.length : Int) := of_decide_eq_true zz9
          obtain ⟨ad338, e338, hx338_0, hx338_1⟩ := at_T45 (Kd.R_reads' HO_1.out).2.2 x7_1 p338 q338
          cases e338
          replace p338 := eq_true p338
          replace q338 := eq_true q338
          go_wp2
          go_roundg k1
          case measure => have := HK1.out; omega
          case rel => exact ⟨(wrap64 (x7_1 + 1)), zz2, H', ⟨by have := HK1.out; omega⟩, ⟨zz57⟩, ⟨zz8⟩, ⟨zz19⟩, ⟨zz7⟩⟩
        rw [if_neg c6] at H
        exact absurd H (by simp)
      rw [if_neg c5] at H
      have c5b0 : decide (x7_1 < (l1.length : Int)) = false := decide_eq_false c5
      clear c5
      replace H := Option.bind_eq_some_iff.mp H
      obtain ⟨⟨t339, t340, t341⟩, A100, H⟩ := H
      replace H : (if t335.toList = ([] : List UInt8) then (cardexref08_walk_attr.j1 k1 l1 t335 true t340 t341) else ((cardexref08_walk_is.f t340 t341 (⟨#[61]⟩ : ByteArray)).bind fun bt342 => (cardexref08_walk_attr.j1 k1 l1 t335 (!bt342.1) bt342.2.1 bt342.2.2))) = some (r1, r2, r3, r4) := H
      have A10 := Aside0.mk A100
      clear A100
      have HC11 := Aside0.mk H
      clear H
      obtain ⟨Ao12, co12, eo12⟩ := Kd.R_slice HO_1.out
      subst eo12
      go_upto_region 8 with (first | ((with_reducible refine gate_callee (f := 26) rfl ?_); refine goesL_ (some 28) rfl rfl Tryz.func26 zz29 rfl #[.pointer (some ⟨g, 0, none⟩)] rfl zz1 ?_; (with_reducible refine (cardexref08_walk_blanks.calls k1 g t336 t337 t339 t340 t341 w0 _ ?side1 ?side2 A10.out).mono ?_); (case side1 => exact zz8); (case side2 => exact zz7); rintro e w13 ⟨rfl, hi, hb, hk⟩; refine ⟨_, rfl, ?_⟩; have n0_ := Aside0.mk (Kd.R_mono (Kd.R_keep (IsS41.apart (show IsS41 w0 _ g t336 t337 from by repeat (first | (with_reducible first | exact HI0.out | apply IsS41.alloc | apply IsS41.drewN | apply IsS41.drew | apply IsS41.set_0 | apply IsS41.set_1) | exact HI0.out)) zz57 (by decide)) hk (fun _ h => h.2)) (fun _ h => h.1)); have n1_ := Aside0.mk (Kept.of_keep (S := (fun k_ => (P1_ k_) ∨ k_ = g)) zz19 hk (.inl (.inr rfl))); have n2_ := Aside0.mk (hb); have n3_ := Aside0.mk (hi); clear HO_1; clear HK; clear HB; clear HI0; have HO_1 := n0_; have HK := n1_; have HB := n2_; have HI0 := n3_; clear n0_ n1_ n2_ n3_; (try clear hb); (try clear hb2); (try clear hk); (try clear hi)))
      (try simp only [Act.put, setIfInBounds_toArray, set_cons_zero, set_cons_succ])
      go_cut [35] (fun v35 wc => ∃ (kq : Nat) (x35_10 : Bool) (x1000_10 : ByteArray) (x1001_10 : Int), v35 = .bool x35_10 ∧ Aside0 (cardexref08_walk_attr.j1 kq l1 t335 x35_10 x1000_10 x1001_10 = some (r1, r2, r3, r4)) ∧ Aside0 (kq ≤ k1) ∧ Aside0 (Kd.R k45 45 wc w0.heap.size (fun k_ => (P1_ k_ ∨ w.heap.size ≤ k_)) (.slice Ao12 l1.length co12) l1) ∧ Aside0 (IsS41 w0 wc g x1000_10 x1001_10) ∧ Aside0 (Kept w wc (fun k_ => (P1_ k_) ∨ k_ = g)) ∧ Aside0 (Below w0.heap.size w0 wc))
      case first =>
        have H := HC11.out
        clear HC11
        by_cases c14 : t335.toList = ([] : List UInt8)
        · rw [if_pos c14] at H
          have c14b0 : (t335.toList == ([] : List UInt8)) = true := beq_iff_eq.mpr c14
          have c14b1 : (t335.toList != ([] : List UInt8)) = false := bne_eq_false_iff_eq.mpr c14
          clear c14
          (first | rw [c14b0] | (simp only [i64_w, i32_w]; rw [c14b0]) | skip)
          have H' := Aside0.mk H
          clear H
          go_wp2
          go_meet
          case rel => exact ⟨_, (true), (t340), (t341), zz2, H', ⟨by have := HK1.out; first | omega | exact Nat.le_refl _⟩, ⟨zz57⟩, ⟨zz8⟩, ⟨zz19⟩, ⟨zz7⟩⟩
        rw [if_neg c14] at H
        have c14b0 : (t335.toList == ([] : List UInt8)) = false := beq_eq_false_iff_ne.mpr c14
        have c14b1 : (t335.toList != ([] : List UInt8)) = true := bne_iff_ne.mpr c14
        (first | rw [c14b0] | (simp only [i64_w, i32_w]; rw [c14b0]) | skip)
        replace H := Option.bind_eq_some_iff.mp H
        obtain ⟨⟨t342, t343, t344⟩, A150, H⟩ := H
        replace H : (cardexref08_walk_attr.j1 k1 l1 t335 (!t342) t343 t344) = some (r1, r2, r3, r4) := H
        have A15 := Aside0.mk A150
        clear A150
        have H' := Aside0.mk H
        clear H
        go_wp2_with (first | (go_at_call 14; (with_reducible refine (cardexref08_walk_is.calls g t340 t341 (⟨#[61]⟩ : ByteArray) t342 t343 t344 w0 _ ?side1 ?side2 A15.out).mono ?_); (case side1 => exact zz8); (case side2 => exact zz7); rintro e w16 ⟨rfl, hi, hb, hk⟩; have n0_ := Aside0.mk (Kd.R_mono (Kd.R_keep (IsS41.apart (show IsS41 w0 _ g t340 t341 from by repeat (first | (with_reducible first | exact HI0.out | apply IsS41.alloc | apply IsS41.drewN | apply IsS41.drew | apply IsS41.set_0 | apply IsS41.set_1) | exact HI0.out)) zz57 (by decide)) hk (fun _ h => h.2)) (fun _ h => h.1)); have n1_ := Aside0.mk (Kept.of_keep (S := (fun k_ => (P1_ k_) ∨ k_ = g)) zz19 hk (.inl (.inr rfl))); have n2_ := Aside0.mk (hb); have n3_ := Aside0.mk (hi); clear HO_1; clear HK; clear HB; clear HI0; have HO_1 := n0_; have HK := n1_; have HB := n2_; have HI0 := n3_; clear n0_ n1_ n2_ n3_; (try clear hb); (try clear hb2); (try clear hk); (try clear hi)))
        go_meet
        case rel => exact ⟨_, (!t342), (t343), (t344), zz2, H', ⟨by have := HK1.out; first | omega | exact Nat.le_refl _⟩, ⟨zz57⟩, ⟨zz8⟩, ⟨zz19⟩, ⟨zz7⟩⟩
      case rest =>
        clear HC11
        try clear c1
        try clear c2
        try clear p2
        try clear p3
        try clear q3
        try clear hx3
        try clear c5
        try clear c5b0
        try clear c6
        try clear c6b0
        try clear p6
        try clear c7
        try clear c7b0
        try clear c7b1
        try clear c14
        try clear c14b0
        try clear c14b1
        try clear hx338_0
        try clear hx338_1
        try clear p2
        try clear p338
        try clear q338
        obtain ⟨kq, x35_10, x1000_10, x1001_10, rfl, HA, HJ10, HO_1, HI0, HK, HB⟩ := hcut
        cases kq with
        | zero => exact absurd HA.out (by simp [cardexref08_walk_attr.j1])
        | succ kj10 =>
          have H := HA.out
          clear HA
          simp only [cardexref08_walk_attr.j1] at H
          by_cases c17 : x35_10 = true
          · subst c17
            have H1 : (some (([] : List (S45)), false, x1000_10, x1001_10)) = some (r1, r2, r3, r4) := by rw [if_pos rfl] at H; exact H
            clear H
            have H := H1
            clear H1
            simp only [Option.some.injEq, Prod.mk.injEq] at H
            obtain ⟨rfl, rfl, rfl, rfl⟩ := H
            go_wp2
            go_ret2
            exact ⟨_, zz4, zz40, zz8, zz7, zz19⟩
          replace c17 := Bool.eq_false_iff.mpr c17
          subst c17
          have H1 : ((cardexref08_walk_blanks.f kj10 x1000_10 x1001_10).bind fun bt345 => (if bt345.2.2 ≥ (bt345.2.1.size : Int) then (cardexref08_walk_attr.j2 kj10 l1 t335 true bt345.2.1 bt345.2.2) else (if 0 ≤ bt345.2.2 then (if bt345.2.2 < (bt345.2.1.size : Int) then (if (bt bt345.2.1 bt345.2.2) = 34 then (cardexref08_walk_attr.j2 kj10 l1 t335 false bt345.2.1 bt345.2.2) else (cardexref08_walk_attr.j2 kj10 l1 t335 ((bt bt345.2.1 bt345.2.2) != 39) bt345.2.1 bt345.2.2)) else (none)) else (none)))) = some (r1, r2, r3, r4) := by rw [if_neg (show ¬ (false = true) by decide)] at H; exact H
          clear H
          have H := H1
          clear H1
          replace H := Option.bind_eq_some_iff.mp H
          obtain ⟨⟨t345, t346, t347⟩, A180, H⟩ := H
          replace H : (if t347 ≥ (t346.size : Int) then (cardexref08_walk_attr.j2 kj10 l1 t335 true t346 t347) else (if 0 ≤ t347 then (if t347 < (t346.size : Int) then (if (bt t346 t347) = 34 then (cardexref08_walk_attr.j2 kj10 l1 t335 false t346 t347) else (cardexref08_walk_attr.j2 kj10 l1 t335 ((bt t346 t347) != 39) t346 t347)) else (none)) else (none))) = some (r1, r2, r3, r4) := H
          have A18 := Aside0.mk A180
          clear A180
          have HC19 := Aside0.mk H
          clear H
          go_upto_region 11 with (first | ((with_reducible refine gate_callee (f := 26) rfl ?_); refine goesL_ (some 37) rfl rfl Tryz.func26 zz29 rfl #[.pointer (some ⟨g, 0, none⟩)] rfl zz1 ?_; (with_reducible refine (cardexref08_walk_blanks.calls kj10 g x1000_10 x1001_10 t345 t346 t347 w0 _ ?side1 ?side2 A18.out).mono ?_); (case side1 => exact zz8); (case side2 => exact zz7); rintro e w20 ⟨rfl, hi, hb, hk⟩; refine ⟨_, rfl, ?_⟩; have n0_ := Aside0.mk (Kd.R_mono (Kd.R_keep (IsS41.apart (show IsS41 w0 _ g x1000_10 x1001_10 from by repeat (first | (with_reducible first | exact HI0.out | apply IsS41.alloc | apply IsS41.drewN | apply IsS41.drew | apply IsS41.set_0 | apply IsS41.set_1) | exact HI0.out)) zz57 (by decide)) hk (fun _ h => h.2)) (fun _ h => h.1)); have n1_ := Aside0.mk (Kept.of_keep (S := (fun k_ => (P1_ k_) ∨ k_ = g)) zz19 hk (.inl (.inr rfl))); have n2_ := Aside0.mk (hb); have n3_ := Aside0.mk (hi); clear HO_1; clear HK; clear HB; clear HI0; have HO_1 := n0_; have HK := n1_; have HB := n2_; have HI0 := n3_; clear n0_ n1_ n2_ n3_; (try clear hb); (try clear hb2); (try clear hk); (try clear hi)))
          (try simp only [Act.put, setIfInBounds_toArray, set_cons_zero, set_cons_succ])
          go_cut [71] (fun v71 wc => ∃ (kq : Nat) (x71_18 : Bool), v71 = .bool x71_18 ∧ Aside0 (cardexref08_walk_attr.j2 kq l1 t335 x71_18 t346 t347 = some (r1, r2, r3, r4)) ∧ Aside0 (kq ≤ kj10) ∧ Aside0 (Kd.R k45 45 wc w0.heap.size (fun k_ => (P1_ k_ ∨ w.heap.size ≤ k_)) (.slice Ao12 l1.length co12) l1) ∧ Aside0 (IsS41 w0 wc g t346 t347) ∧ Aside0 (Kept w wc (fun k_ => (P1_ k_) ∨ k_ = g)) ∧ Aside0 (Below w0.heap.size w0 wc))
          case first =>
            have H := HC19.out
            clear HC19
            by_cases c21 : t347 ≥ (t346.size : Int)
            · rw [if_pos c21] at H
              have c21b0 : decide ((t346.size : Int) ≤ t347) = true := decide_eq_true c21
              clear c21
              (first | rw [c21b0] | (simp only [i64_w, i32_w]; rw [c21b0]) | skip)
              have H' := Aside0.mk H
              clear H
              try go_wp2
              have n0_ := Aside0.mk (Kd.R_drew HO_1.out)
              have n1_ := Aside0.mk (IsS41.drew HI0.out)
              have n2_ := Aside0.mk (Kept.drew HK.out)
              have n3_ := Aside0.mk (below_drew1 HB.out)
              clear HO_1
              clear HI0
              clear HK
              clear HB
              have HO_1 := n0_
              have HI0 := n1_
              have HK := n2_
              have HB := n3_
              clear n0_ n1_ n2_ n3_
              refine start_ (n := 34) (S := fun w' => w'.cell? ⟨g, 0, none⟩ = some (.string t346) ∧ w'.cell? ⟨g, 1, none⟩ = some (.int .i64 t347)) (ds := []) #[false, false, false, false, false, false, false, false, false, false, false, false, false, false, false, false, false, false, false, false, false, false, false, false, false, false, false, false, false, false, false, false, false, false] zz29 rfl rfl ⟨(blk_cell HI0.out.1 0).trans rfl, (blk_cell HI0.out.1 1).trans rfl⟩ (fun hHeld => ?_); refine with_tabW cardexref08_walk_attr.tab11 cardexref08_walk_attr.bits11 (fun HT_ HW_ => ?_)
              generalize w20.drew = w22 at HO_1 HI0 HK HB hHeld ⊢
              refine pz 0 (some 38) ?_; refine pz 1 (some 39) ?_; refine pz 2 (some 40) ?_; refine pz 4 (some 42) ?_; refine pz 5 (some 43) ?_; refine pz 6 (some 44) ?_; refine t2 3 (some 41) ?_; refine t2 7 (some 45) ?_; refine pz 8 (some 46) ?_; refine pz 9 (some 47) ?_; refine pz 10 (some 48) ?_; refine pu 11 (some 49) ?_; refine pu 12 (some 50) ?_; refine pu 13 (some 51) ?_; refine pu 14 (some 52) ?_; refine pu 15 (some 53) ?_; refine pu 16 (some 54) ?_; refine pu 17 (some 55) ?_; refine pu 18 (some 56) ?_; refine pu 19 (some 57) ?_; refine pu 20 (some 58) ?_; refine pu 21 (some 59) ?_; refine pu 22 (some 60) ?_; refine pu 23 (some 61) ?_; refine pu 24 (some 62) ?_; refine pu 25 (some 63) ?_; refine pu 26 (some 64) ?_; refine pu 27 (some 65) ?_; refine pu 28 (some 66) ?_; refine pu 29 (some 67) ?_; refine pu 30 (some 68) ?_; refine pu 31 (some 69) ?_; refine pu 32 (some 70) ?_; refine pz 33 (some 71) ?_
              refine done_ (done_of HT_.out zz29) ?_
              try go_wp2
              go_meet
              case rel => exact ⟨_, (true), zz2, H', ⟨by have := HK1.out; have := HJ10.out; first | omega | exact Nat.le_refl _⟩, ⟨zz57⟩, ⟨zz8⟩, ⟨zz19⟩, ⟨zz7⟩⟩
            rw [if_neg c21] at H
            have c21b0 : decide ((t346.size : Int) ≤ t347) = false := decide_eq_false c21
            clear c21
            (first | rw [c21b0] | (simp only [i64_w, i32_w]; rw [c21b0]) | skip)
            by_cases c23 : 0 ≤ t347
            · rw [if_pos c23] at H
              have c23b0 : decide (0 ≤ t347) = true := decide_eq_true c23
              clear c23
              by_cases c24 : t347 < (t346.size : Int)
              · rw [if_pos c24] at H
                have c24b0 : decide (t347 < (t346.size : Int)) = true := decide_eq_true c24
                clear c24
                by_cases c26 : (bt t346 t347) = 34
                · rw [if_pos c26] at H
                  have c26b0 : ((bt t346 t347) == 34) = true := beq_iff_eq.mpr c26
                  have c26b1 : ((bt t346 t347) != 34) = false := bne_eq_false_iff_eq.mpr c26
                  clear c26
                  have H' := Aside0.mk H
                  clear H
                  try go_wp2
                  have n0_ := Aside0.mk (Kd.R_drew HO_1.out)
                  have n1_ := Aside0.mk (IsS41.drew HI0.out)
                  have n2_ := Aside0.mk (Kept.drew HK.out)
                  have n3_ := Aside0.mk (below_drew1 HB.out)
                  clear HO_1
                  clear HI0
                  clear HK
                  clear HB
                  have HO_1 := n0_
                  have HI0 := n1_
                  have HK := n2_
                  have HB := n3_
                  clear n0_ n1_ n2_ n3_
                  have p25 : 0 ≤ (t347 : Int) := of_decide_eq_true zz9
                  have q25 : t347 < (t346.size : Int) := of_decide_eq_true zz9
                  have hx25 := bt_at t346 t347
                  replace p25 := eq_true p25
                  replace q25 := eq_true q25
                  refine start_ (n := 34) (S := fun w' => w'.cell? ⟨g, 0, none⟩ = some (.string t346) ∧ w'.cell? ⟨g, 1, none⟩ = some (.int .i64 t347)) (ds := []) #[false, false, false, false, false, false, false, false, false, false, false, false, false, false, false, false, false, false, false, false, false, false, false, false, false, false, false, false, false, false, false, false, false, false] zz29 rfl rfl ⟨(blk_cell HI0.out.1 0).trans rfl, (blk_cell HI0.out.1 1).trans rfl⟩ (fun hHeld => ?_); refine with_tabW cardexref08_walk_attr.tab11 cardexref08_walk_attr.bits11 (fun HT_ HW_ => ?_)
                  generalize w20.drew = w27 at HO_1 HI0 HK HB hHeld ⊢
                  refine pz 0 (some 38) ?_; refine pz 1 (some 39) ?_; refine pz 2 (some 40) ?_; refine pz 4 (some 42) ?_; refine pz 5 (some 43) ?_; refine pz 6 (some 44) ?_; refine t2 3 (some 41) ?_; refine t2 7 (some 45) ?_; refine pz 8 (some 46) ?_; refine pz 9 (some 47) ?_; refine pz 10 (some 48) ?_; refine pz 11 (some 49) ?_; refine pz 12 (some 50) ?_; refine pz 13 (some 51) ?_; refine pz 15 (some 53) ?_; refine pz 16 (some 54) ?_; refine pz 17 (some 55) ?_; refine t2 14 (some 52) ?_; refine t2 18 (some 56) ?_; refine t2 19 (some 57) ?_; refine pz 20 (some 58) ?_; refine pz 21 (some 59) ?_; refine pu 22 (some 60) ?_; refine pu 23 (some 61) ?_; refine pu 24 (some 62) ?_; refine pu 25 (some 63) ?_; refine pu 26 (some 64) ?_; refine pu 27 (some 65) ?_; refine pu 28 (some 66) ?_; refine pu 29 (some 67) ?_; refine pu 30 (some 68) ?_; refine pu 31 (some 69) ?_; refine pz 32 (some 70) ?_; refine pz 33 (some 71) ?_
                  refine done_ (done_of HT_.out zz29) ?_
                  try go_wp2
                  go_meet
                  case rel => exact ⟨_, (false), zz2, H', ⟨by have := HK1.out; have := HJ10.out; first | omega | exact Nat.le_refl _⟩, ⟨zz57⟩, ⟨zz8⟩, ⟨zz19⟩, ⟨zz7⟩⟩
                rw [if_neg c26] at H
                have c26b0 : ((bt t346 t347) == 34) = false := beq_eq_false_iff_ne.mpr c26
                have c26b1 : ((bt t346 t347) != 34) = true := bne_iff_ne.mpr c26
                have H' := Aside0.mk H
                clear H
                try go_wp2
                have n0_ := Aside0.mk (Kd.R_drew HO_1.out)
                have n1_ := Aside0.mk (IsS41.drew HI0.out)
                have n2_ := Aside0.mk (Kept.drew HK.out)
                have n3_ := Aside0.mk (below_drew1 HB.out)
                clear HO_1
                clear HI0
                clear HK
                clear HB
                have HO_1 := n0_
                have HI0 := n1_
                have HK := n2_
                have HB := n3_
                clear n0_ n1_ n2_ n3_
                have p25 : 0 ≤ (t347 : Int) := of_decide_eq_true zz9
                have q25 : t347 < (t346.size : Int) := of_decide_eq_true zz9
                have hx25 := bt_at t346 t347
                replace p25 := eq_true p25
                replace q25 := eq_true q25
                have p28 : 0 ≤ (t347 : Int) := of_decide_eq_true zz9
                have q28 : t347 < (t346.size : Int) := of_decide_eq_true zz9
                have hx28 := bt_at t346 t347
                replace p28 := eq_true p28
                replace q28 := eq_true q28
                refine start_ (n := 34) (S := fun w' => w'.cell? ⟨g, 0, none⟩ = some (.string t346) ∧ w'.cell? ⟨g, 1, none⟩ = some (.int .i64 t347)) (ds := []) #[false, false, false, false, false, false, false, false, false, false, false, false, false, false, false, false, false, false, false, false, false, false, false, false, false, false, false, false, false, false, false, false, false, false] zz29 rfl rfl ⟨(blk_cell HI0.out.1 0).trans rfl, (blk_cell HI0.out.1 1).trans rfl⟩ (fun hHeld => ?_); refine with_tabW cardexref08_walk_attr.tab11 cardexref08_walk_attr.bits11 (fun HT_ HW_ => ?_)
                generalize w20.drew = w29 at HO_1 HI0 HK HB hHeld ⊢
                refine pz 0 (some 38) ?_; refine pz 1 (some 39) ?_; refine pz 2 (some 40) ?_; refine pz 4 (some 42) ?_; refine pz 5 (some 43) ?_; refine pz 6 (some 44) ?_; refine t2 3 (some 41) ?_; refine t2 7 (some 45) ?_; refine pz 8 (some 46) ?_; refine pz 9 (some 47) ?_; refine pz 10 (some 48) ?_; refine pz 11 (some 49) ?_; refine pz 12 (some 50) ?_; refine pz 13 (some 51) ?_; refine pz 15 (some 53) ?_; refine pz 16 (some 54) ?_; refine pz 17 (some 55) ?_; refine t2 14 (some 52) ?_; refine t2 18 (some 56) ?_; refine t2 19 (some 57) ?_; refine pz 20 (some 58) ?_; refine pz 21 (some 59) ?_; refine pz 22 (some 60) ?_; refine pz 23 (some 61) ?_; refine pz 24 (some 62) ?_; refine pz 26 (some 64) ?_; refine pz 27 (some 65) ?_; refine pz 28 (some 66) ?_; refine t2 25 (some 63) ?_; refine t2 29 (some 67) ?_; refine t2 30 (some 68) ?_; refine pz 31 (some 69) ?_; refine pz 32 (some 70) ?_; refine pz 33 (some 71) ?_
                refine done_ (done_of HT_.out zz29) ?_
                try go_wp2
                go_meet
                case rel => exact ⟨_, (((bt t346 t347) != 39)), zz2, H', ⟨by have := HK1.out; have := HJ10.out; first | omega | exact Nat.le_refl _⟩, ⟨zz57⟩, ⟨zz8⟩, ⟨zz19⟩, ⟨zz7⟩⟩
              rw [if_neg c24] at H
              exact absurd H (by simp)
            rw [if_neg c23] at H
            exact absurd H (by simp)
          case rest =>
            clear HC19
            try clear c2
            try clear p2
            try clear q2
            try clear hx2
            try clear c21
            try clear c21b0
            try clear c23
            try clear c23b0
            try clear c24
            try clear c24b0
            try clear p25
            try clear q25
            try clear hx25
            try clear c26
            try clear c26b0
            try clear c26b1
            try clear p28
            try clear q28
            try clear hx28
            try clear p25
            try clear p28
            try clear q25
            try clear q28
            obtain ⟨kq, x71_18, rfl, HA, HJ18, HO_1, HI0, HK, HB⟩ := hcut
            cases kq with
            | zero => exact absurd HA.out (by simp [cardexref08_walk_attr.j2])
            | succ kj18 =>
              have H := HA.out
              clear HA
              simp only [cardexref08_walk_attr.j2] at H
              by_cases c30 : x71_18 = true
              · subst c30
                have H1 : (some (([] : List (S45)), false, t346, t347)) = some (r1, r2, r3, r4) := by rw [if_pos rfl] at H; exact H
                clear H
                have H := H1
                clear H1
                simp only [Option.some.injEq, Prod.mk.injEq] at H
                obtain ⟨rfl, rfl, rfl, rfl⟩ := H
                go_wp2
                go_ret2
                exact ⟨_, zz4, zz40, zz8, zz7, zz19⟩
              replace c30 := Bool.eq_false_iff.mpr c30
              subst c30
              have H1 : (if 0 ≤ t347 then (if t347 < (t346.size : Int) then (cardexref08_walk_attr.l1 kj18 l1 t335 (bt t346 t347) (wrap64 (t347 + 1)) t346 (wrap64 (t347 + 1))) else (none)) else (none)) = some (r1, r2, r3, r4) := by rw [if_neg (show ¬ (false = true) by decide)] at H; exact H
              clear H
              have H := H1
              clear H1
              by_cases c31 : 0 ≤ t347
              · rw [if_pos c31] at H
                have c31b0 : decide (0 ≤ t347) = true := decide_eq_true c31
                clear c31
                by_cases c32 : t347 < (t346.size : Int)
                · rw [if_pos c32] at H
                  have c32b0 : decide (t347 < (t346.size : Int)) = true := decide_eq_true c32
                  clear c32
                  have H' := Aside0.mk H
                  clear H
                  try go_wp2
                  have n0_ := Aside0.mk (Kd.R_drew HO_1.out)
                  have n1_ := Aside0.mk (IsS41.drew HI0.out)
                  have n2_ := Aside0.mk (Kept.drew HK.out)
                  have n3_ := Aside0.mk (below_drew1 HB.out)
                  clear HO_1
                  clear HI0
                  clear HK
                  clear HB
                  have HO_1 := n0_
                  have HI0 := n1_
                  have HK := n2_
                  have HB := n3_
                  clear n0_ n1_ n2_ n3_
                  have p33 : 0 ≤ (t347 : Int) := of_decide_eq_true zz9
                  have q33 : t347 < (t346.size : Int) := of_decide_eq_true zz9
                  have hx33 := bt_at t346 t347
                  replace p33 := eq_true p33
                  replace q33 := eq_true q33
                  refine start_ (n := 16) (S := fun w' => w'.cell? ⟨g, 0, none⟩ = some (.string t346) ∧ w'.cell? ⟨g, 1, none⟩ = some (.int .i64 t347)) (ds := []) #[false, false, false, false, false, false, false, false, false, false, false, false, false, false, false, false] zz29 rfl rfl ⟨(blk_cell HI0.out.1 0).trans rfl, (blk_cell HI0.out.1 1).trans rfl⟩ (fun hHeld => ?_); refine with_tabW cardexref08_walk_attr.tab13 cardexref08_walk_attr.bits13 (fun HT_ HW_ => ?_)
                  generalize wc.drew = w34 at HO_1 HI0 HK HB hHeld ⊢
                  refine pz 0 (some 72) ?_; refine pz 1 (some 73) ?_; refine pz 2 (some 74) ?_; refine pz 4 (some 76) ?_; refine pz 5 (some 77) ?_; refine pz 6 (some 78) ?_; refine pz 9 (some 81) ?_; refine pz 10 (some 82) ?_; refine pz 11 (some 83) ?_; refine t2 3 (some 75) ?_; refine t2 7 (some 79) ?_; refine t2 8 (some 80) ?_; refine pz 14 (some 8) ?_; refine t2 12 (some 84) ?_; refine pz 13 (some 85) ?_; refine pz 15 (some 9) ?_
                  refine done_ (done_of HT_.out zz29) ?_
                  obtain ⟨HGz35, hgz35⟩ := HI0.out
                  have hcz35_0 := cellS41_0 HGz35
                  have hcz35_1 := cellS41_1 HGz35
                  have hfz35_0 := blk_frozen HGz35 0
                  have hfz35_1 := blk_frozen HGz35 1
                  clear HGz35 hgz35
                  try go_wp2
                  go_loopg [] kj18 (fun kq w' => ∃ (x1001_4 : Int), Aside0 (cardexref08_walk_attr.l1 kq l1 t335 (bt t346 t347) (wrap64 (t347 + 1)) t346 x1001_4 = some (r1, r2, r3, r4)) ∧ Aside0 (kq ≤ kj18) ∧ Aside0 (Kd.R k45 45 w' w0.heap.size (fun k_ => (P1_ k_ ∨ w.heap.size ≤ k_)) (.slice Ao12 l1.length co12) l1) ∧ Aside0 (IsS41 w0 w' g t346 x1001_4) ∧ Aside0 (Kept w w' (fun k_ => (P1_ k_) ∨ k_ = g)) ∧ Aside0 (Below w0.heap.size w0 w'))
                  case atStart => exact ⟨(wrap64 (t347 + 1)), H', ⟨Nat.le_refl _⟩, ⟨by (with_reducible repeat (first | apply Kd.R_alloc | apply Kd.R_drewN | apply Kd.R_drew)); exact Kd.R_mono (Kd.R_far (p := ⟨g, 1, none⟩) (IsS41.apart HI0.out HO_1.out (by decide)) (fun _ hk => hk.2) (.int .i64 (wrap64 (t347 + 1)))) (fun _ hk => hk.1)⟩, ⟨zz8⟩, ⟨zz19⟩, ⟨zz7⟩⟩
                  case round =>
                    clear H'
                    try clear c2
                    try clear p2
                    try clear q2
                    try clear hx2
                    try clear c3
                    try clear p3
                    try clear q3
                    try clear hx3
                    try clear p6
                    try clear c21
                    try clear c21b0
                    try clear c23
                    try clear c23b0
                    try clear c24
                    try clear c24b0
                    try clear p25
                    try clear q25
                    try clear hx25
                    try clear c26
                    try clear c26b0
                    try clear c26b1
                    try clear p28
                    try clear q28
                    try clear hx28
                    try clear c30
                    try clear c31
                    try clear c31b0
                    try clear c32
                    try clear c32b0
                    try clear p33
                    try clear q33
                    try clear hx33
                    try clear hcz35_0
                    try clear hcz35_1
                    try clear hfz35_0
                    try clear hfz35_1
                    try clear p2
                    try clear p25
                    try clear p28
                    try clear p33
                    try clear q2
                    try clear q25
                    try clear q28
                    try clear q33
                    obtain ⟨x1001_4, HA, HK4, HO_1, HI0, HK, HB⟩ := hrel
                    cases gk with
                    | zero => exact absurd HA.out (by simp [cardexref08_walk_attr.l1])
                    | succ k4 =>
                      have H := HA.out
                      clear HA
                      simp only [cardexref08_walk_attr.l1] at H
                      by_cases c36 : x1001_4 < (t346.size : Int)
                      · rw [if_pos c36] at H
                        have c36b0 : decide (x1001_4 < (t346.size : Int)) = true := decide_eq_true c36
                        clear c36
                        by_cases c37 : 0 ≤ x1001_4
                        · rw [if_pos c37] at H
                          have c37b0 : decide (0 ≤ x1001_4) = true := decide_eq_true c37
                          clear c37
                          by_cases c39 : (bt t346 x1001_4) = (bt t346 t347)
                          · rw [if_pos c39] at H
                            have c39b0 : ((bt t346 x1001_4) == (bt t346 t347)) = true := beq_iff_eq.mpr c39
                            have c39b1 : ((bt t346 x1001_4) != (bt t346 t347)) = false := bne_eq_false_iff_eq.mpr c39
                            clear c39
                            by_cases c40 : x1001_4 ≥ (t346.size : Int)
                            · rw [if_pos c40] at H
                              have c40b0 : decide ((t346.size : Int) ≤ x1001_4) = true := decide_eq_true c40
                              clear c40
                              simp only [Option.some.injEq, Prod.mk.injEq] at H
                              obtain ⟨rfl, rfl, rfl, rfl⟩ := H
                              try go_wp2
                              have n0_ := Aside0.mk (Kd.R_drew HO_1.out)
                              have n1_ := Aside0.mk (IsS41.drew HI0.out)
                              have n2_ := Aside0.mk (Kept.drew HK.out)
                              have n3_ := Aside0.mk (below_drew1 HB.out)
                              clear HO_1
                              clear HI0
                              clear HK
                              clear HB
                              have HO_1 := n0_
                              have HI0 := n1_
                              have HK := n2_
                              have HB := n3_
                              clear n0_ n1_ n2_ n3_
                              have p38 : 0 ≤ (x1001_4 : Int) := of_decide_eq_true zz9
                              have q38 : x1001_4 < (t346.size : Int) := of_decide_eq_true zz9
                              have hx38 := bt_at t346 x1001_4
                              replace p38 := eq_true p38
                              replace q38 := eq_true q38
                              refine start_ (n := 23) (S := fun w' => w'.cell? ⟨g, 0, none⟩ = some (.string t346) ∧ w'.cell? ⟨g, 1, none⟩ = some (.int .i64 x1001_4)) (ds := []) #[false, false, false, false, false, false, false, false, false, false, false, false, false, false, false, false, false, false, false, false, false, false, false] zz29 rfl rfl ⟨(blk_cell HI0.out.1 0).trans rfl, (blk_cell HI0.out.1 1).trans rfl⟩ (fun hHeld => ?_); refine with_tabW cardexref08_walk_attr.tab15 cardexref08_walk_attr.bits15 (fun HT_ HW_ => ?_)
                              generalize wr.drew = w41 at HO_1 HI0 HK HB hHeld ⊢
                              refine pz 0 (some 90) ?_; refine pz 1 (some 91) ?_; refine pz 2 (some 92) ?_; refine pz 4 (some 94) ?_; refine pz 5 (some 95) ?_; refine pz 6 (some 96) ?_; refine t2 3 (some 93) ?_; refine t2 7 (some 97) ?_; refine pz 8 (some 98) ?_; refine pz 9 (some 99) ?_; refine pz 10 (some 100) ?_; refine pz 11 (some 101) ?_; refine pz 12 (some 102) ?_; refine pz 13 (some 103) ?_; refine pz 15 (some 105) ?_; refine pz 16 (some 106) ?_; refine pz 17 (some 107) ?_; refine pz 20 (some 110) ?_; refine t2 14 (some 104) ?_; refine t2 18 (some 108) ?_; refine t2 19 (some 109) ?_; refine pz 21 (some 111) ?_; refine pz 22 (some 112) ?_
                              refine done_ (done_of HT_.out zz29) ?_
                              try go_wp2
                              have n0_ := Aside0.mk (Kd.R_drew HO_1.out)
                              have n1_ := Aside0.mk (IsS41.drew HI0.out)
                              have n2_ := Aside0.mk (Kept.drew HK.out)
                              have n3_ := Aside0.mk (below_drew1 HB.out)
                              clear HO_1
                              clear HI0
                              clear HK
                              clear HB
                              have HO_1 := n0_
                              have HI0 := n1_
                              have HK := n2_
                              have HB := n3_
                              clear n0_ n1_ n2_ n3_
                              refine start_ (n := 10) (S := fun w' => w'.cell? ⟨g, 0, none⟩ = some (.string t346) ∧ w'.cell? ⟨g, 1, none⟩ = some (.int .i64 x1001_4)) (ds := []) #[false, false, false, false, false, false, false, false, false, false] zz29 rfl rfl ⟨(blk_cell HI0.out.1 0).trans rfl, (blk_cell HI0.out.1 1).trans rfl⟩ (fun hHeld => ?_); refine with_tabW cardexref08_walk_attr.tab17 cardexref08_walk_attr.bits17 (fun HT_ HW_ => ?_)
                              generalize w41.drew = w42 at HO_1 HI0 HK HB hHeld ⊢
                              refine pz 0 (some 120) ?_; refine pz 1 (some 121) ?_; refine pz 2 (some 122) ?_; refine pz 4 (some 124) ?_; refine pz 5 (some 125) ?_; refine pz 6 (some 126) ?_; refine t2 3 (some 123) ?_; refine t2 7 (some 127) ?_; refine pz 8 (some 128) ?_; refine pz 9 (some 129) ?_
                              refine done_ (done_of HT_.out zz29) ?_
                              try go_wp2
                              go_ret2
                              exact ⟨_, zz4, zz40, zz8, zz7, zz19⟩
                            rw [if_neg c40] at H
                            have c40b0 : decide ((t346.size : Int) ≤ x1001_4) = false := decide_eq_false c40
                            clear c40
                            obtain ⟨ji43, hji43⟩ : ∃ j_ : Int, (wrap64 (t347 + 1)) = j_ := ⟨_, rfl⟩
                            replace H : (if 0 ≤ (ji43) then (if (ji43) ≤ x1001_4 then (if x1001_4 ≤ (t346.size : Int) then ((cardexref01_Back.f k4 (t346.extract ((ji43) : Int).toNat (x1001_4 : Int).toNat)).bind fun bt349 => (if l1.length < 4398046511104 then (some ((l1 ++ [(⟨t335, bt349.1⟩ : S45)]), (bt349.2 == 0), t346, wrap64 (x1001_4 + 1))) else (none))) else (none)) else (none)) else (none)) = some (r1, r2, r3, r4) := by first | (rw [hji43] at H; exact H) | (simp only [hji43] at H ⊢; exact H)
                            have hji43w : (IntKind.i64.wrap (t347 + 1)) = ji43 := (i64_w _).trans hji43
                            by_cases c44 : 0 ≤ (ji43)
                            · rw [if_pos c44] at H
                              have c44b0 := eq_true c44
                              have c44b1 : decide (0 ≤ (ji43)) = true := decide_eq_true c44
                              clear c44
                              by_cases c45 : (ji43) ≤ x1001_4
                              · rw [if_pos c45] at H
                                have c45b0 := eq_true c45
                                have c45b1 : decide ((ji43) ≤ x1001_4) = true := decide_eq_true c45
                                clear c45
                                by_cases c46 : x1001_4 ≤ (t346.size : Int)
                                · rw [if_pos c46] at H
                                  have c46b0 := eq_true c46
                                  have c46b1 : decide (x1001_4 ≤ (t346.size : Int)) = true := decide_eq_true c46
                                  clear c46
                                  obtain ⟨y348, hy348⟩ : ∃ y_ : ByteArray, y_ = (t346.extract ((ji43) : Int).toNat (x1001_4 : Int).toNat) := ⟨_, rfl⟩
                                  replace H : ((cardexref01_Back.f k4 y348).bind fun bt349 => (if l1.length < 4398046511104 then (some ((l1 ++ [(⟨t335, bt349.1⟩ : S45)]), (bt349.2 == 0), t346, wrap64 (x1001_4 + 1))) else (none))) = some (r1, r2, r3, r4) := by first | (rw [hy348]; with_reducible exact H) | (have H2_ := (Option.bind_some _ _).symm.trans H; rw [hy348]; with_reducible exact H2_) | (have H2_ := (Option.bind_some _ _).symm.trans H; with_reducible exact H2_) | with_reducible exact H | (rw [hy348]; exact H) | exact H
                                  have Ny348 := Aside0.mk hy348
                                  clear hy348
                                  have ey348 : (t346.extract ((ji43) : Int).toNat (x1001_4 : Int).toNat) = y348 := Ny348.out.symm
                                  replace H := Option.bind_eq_some_iff.mp H
                                  obtain ⟨⟨t349, t350⟩, A470, H⟩ := H
                                  replace H : (if l1.length < 4398046511104 then (some ((l1 ++ [(⟨t335, t349⟩ : S45)]), (t350 == 0), t346, wrap64 (x1001_4 + 1))) else (none)) = some (r1, r2, r3, r4) := H
                                  have A47 := Aside0.mk A470
                                  clear A470
                                  by_cases c48 : l1.length < 4398046511104
                                  · rw [if_pos c48] at H
                                    have LMc48 := Aside0.mk c48
                                    clear c48
                                    obtain ⟨y351, hy351⟩ : ∃ y_ : List (S45), y_ = (l1 ++ [(⟨t335, t349⟩ : S45)]) := ⟨_, rfl⟩
                                    replace H : (some (y351, (t350 == 0), t346, wrap64 (x1001_4 + 1))) = some (r1, r2, r3, r4) := by first | (rw [hy351]; with_reducible exact H) | (have H2_ := (Option.bind_some _ _).symm.trans H; rw [hy351]; with_reducible exact H2_) | (have H2_ := (Option.bind_some _ _).symm.trans H; with_reducible exact H2_) | with_reducible exact H | (rw [hy351]; exact H) | exact H
                                    have Ny351 := Aside0.mk hy351
                                    clear hy351
                                    simp only [Option.some.injEq, Prod.mk.injEq] at H
                                    obtain ⟨rfl, rfl, rfl, rfl⟩ := H
                                    try go_wp2
                                    have n0_ := Aside0.mk (Kd.R_drew HO_1.out)
                                    have n1_ := Aside0.mk (IsS41.drew HI0.out)
                                    have n2_ := Aside0.mk (Kept.drew HK.out)
                                    have n3_ := Aside0.mk (below_drew1 HB.out)
                                    clear HO_1
                                    clear HI0
                                    clear HK
                                    clear HB
                                    have HO_1 := n0_
                                    have HI0 := n1_
                                    have HK := n2_
                                    have HB := n3_
                                    clear n0_ n1_ n2_ n3_
                                    have p38 : 0 ≤ (x1001_4 : Int) := of_decide_eq_true zz9
                                    have q38 : x1001_4 < (t346.size : Int) := of_decide_eq_true zz9
                                    have hx38 := bt_at t346 x1001_4
                                    replace p38 := eq_true p38
                                    replace q38 := eq_true q38
                                    refine start_ (n := 23) (S := fun w' => w'.cell? ⟨g, 0, none⟩ = some (.string t346) ∧ w'.cell? ⟨g, 1, none⟩ = some (.int .i64 x1001_4)) (ds := []) #[false, false, false, false, false, false, false, false, false, false, false, false, false, false, false, false, false, false, false, false, false, false, false] zz29 rfl rfl ⟨(blk_cell HI0.out.1 0).trans rfl, (blk_cell HI0.out.1 1).trans rfl⟩ (fun hHeld => ?_); refine with_tabW cardexref08_walk_attr.tab15 cardexref08_walk_attr.bits15 (fun HT_ HW_ => ?_)
                                    generalize wr.drew = w49 at HO_1 HI0 HK HB hHeld ⊢
                                    refine pz 0 (some 90) ?_; refine pz 1 (some 91) ?_; refine pz 2 (some 92) ?_; refine pz 4 (some 94) ?_; refine pz 5 (some 95) ?_; refine pz 6 (some 96) ?_; refine t2 3 (some 93) ?_; refine t2 7 (some 97) ?_; refine pz 8 (some 98) ?_; refine pz 9 (some 99) ?_; refine pz 10 (some 100) ?_; refine pz 11 (some 101) ?_; refine pz 12 (some 102) ?_; refine pz 13 (some 103) ?_; refine pz 15 (some 105) ?_; refine pz 16 (some 106) ?_; refine pz 17 (some 107) ?_; refine pz 20 (some 110) ?_; refine t2 14 (some 104) ?_; refine t2 18 (some 108) ?_; refine t2 19 (some 109) ?_; refine pz 21 (some 111) ?_; refine pz 22 (some 112) ?_
                                    refine done_ (done_of HT_.out zz29) ?_
                                    try go_wp2
                                    have n0_ := Aside0.mk (Kd.R_drew HO_1.out)
                                    have n1_ := Aside0.mk (IsS41.drew HI0.out)
                                    have n2_ := Aside0.mk (Kept.drew HK.out)
                                    have n3_ := Aside0.mk (below_drew1 HB.out)
                                    clear HO_1
                                    clear HI0
                                    clear HK
                                    clear HB
                                    have HO_1 := n0_
                                    have HI0 := n1_
                                    have HK := n2_
                                    have HB := n3_
                                    clear n0_ n1_ n2_ n3_
                                    refine start_ (n := 10) (S := fun w' => w'.cell? ⟨g, 0, none⟩ = some (.string t346) ∧ w'.cell? ⟨g, 1, none⟩ = some (.int .i64 x1001_4)) (ds := []) #[false, false, false, false, false, false, false, false, false, false] zz29 rfl rfl ⟨(blk_cell HI0.out.1 0).trans rfl, (blk_cell HI0.out.1 1).trans rfl⟩ (fun hHeld => ?_); refine with_tabW cardexref08_walk_attr.tab17 cardexref08_walk_attr.bits17 (fun HT_ HW_ => ?_)
                                    generalize w49.drew = w50 at HO_1 HI0 HK HB hHeld ⊢
                                    refine pz 0 (some 120) ?_; refine pz 1 (some 121) ?_; refine pz 2 (some 122) ?_; refine pz 4 (some 124) ?_; refine pz 5 (some 125) ?_; refine pz 6 (some 126) ?_; refine t2 3 (some 123) ?_; refine t2 7 (some 127) ?_; refine pz 8 (some 128) ?_; refine pz 9 (some 129) ?_
                                    refine done_ (done_of HT_.out zz29) ?_
                                    try go_wp2
                                    have n0_ := Aside0.mk (Kd.R_drew HO_1.out)
                                    have n1_ := Aside0.mk (IsS41.drew HI0.out)
                                    have n2_ := Aside0.mk (Kept.drew HK.out)
                                    have n3_ := Aside0.mk (below_drew1 HB.out)
                                    clear HO_1
                                    clear HI0
                                    clear HK
                                    clear HB
                                    have HO_1 := n0_
                                    have HI0 := n1_
                                    have HK := n2_
                                    have HB := n3_
                                    clear n0_ n1_ n2_ n3_
                                    refine start_ (n := 16) (S := fun w' => w'.cell? ⟨g, 0, none⟩ = some (.string t346) ∧ w'.cell? ⟨g, 1, none⟩ = some (.int .i64 x1001_4)) (ds := []) #[false, false, false, false, false, false, false, false, false, false, false, false, false, false, false, false] zz29 rfl rfl ⟨(blk_cell HI0.out.1 0).trans rfl, (blk_cell HI0.out.1 1).trans rfl⟩ (fun hHeld => ?_); refine with_tabW cardexref08_walk_attr.tab19 cardexref08_walk_attr.bits19 (fun HT_ HW_ => ?_)
                                    generalize w50.drew = w51 at HO_1 HI0 HK HB hHeld ⊢
                                    refine pz 0 (some 131) ?_; refine pz 1 (some 132) ?_; refine pz 2 (some 133) ?_; refine pz 4 (some 135) ?_; refine pz 5 (some 136) ?_; refine pz 6 (some 137) ?_; refine pz 7 (some 138) ?_; refine t2 3 (some 134) ?_; refine t2 8 (some 139) ?_; refine pz 9 (some 140) ?_
                                    refine one_ (i := 10) (N := some 141) #[true, true, true, true, true, true, true, true, true, true, true, false, false, false, false, false] rfl rfl (one_of HT_.out zz29) (by decide) (fun K hK => ?_)
                                    refine goes_ Tryz.func28 zz29 rfl #[.string y348] (by rfl) rfl rfl zz1 ?_
                                    with_reducible refine (cardexref01_Back.calls k4 y348 t349 t350 _ A47.out).mono ?_
                                    rintro e w52 ⟨rfl, hb⟩
                                    refine ⟨_, rfl, ?_⟩
                                    have n0_ := Aside0.mk (Kd.R_below zz57 hb)
                                    have n1_ := Aside0.mk (IsS41.below zz8 hb)
                                    have n2_ := Aside0.mk (Kept.below (S := (fun k_ => (P1_ k_) ∨ k_ = g)) zz19 hb)
                                    have n3_ := Aside0.mk (below_step zz7 hb)
                                    clear HO_1
                                    clear HI0
                                    clear HK
                                    clear HB
                                    have HO_1 := n0_
                                    have HI0 := n1_
                                    have HK := n2_
                                    have HB := n3_
                                    clear n0_ n1_ n2_ n3_
                                    (try clear hb)
                                    (try clear hb2)
                                    (try clear hk)
                                    (try clear hi)
                                    refine hK.out _ _ ⟨(blk_cell HI0.out.1 0).trans rfl, (blk_cell HI0.out.1 1).trans rfl⟩ (fun hHeld => ?_)
                                    clear hK K
                                    refine norm_ (a' := ?_) ?_ ?_
                                    rotate_left
                                    · show Act.put _ (some 141) _ = _
                                      simp only [Act.put, setIfInBounds_toArray, set_cons_zero, set_cons_succ, i64_w, i32_w]
                                      rfl
                                    refine pz 11 (some 130) ?_; refine pz 12 (some 142) ?_; refine pz 13 (some 143) ?_; refine pz 14 (some 10) ?_; refine pz 15 (some 11) ?_
                                    refine done_ (done_of HT_.out zz29) ?_
                                    obtain ⟨HGz53, hgz53⟩ := HI0.out
                                    have hcz53_0 := cellS41_0 HGz53
                                    have hcz53_1 := cellS41_1 HGz53
                                    have hfz53_0 := blk_frozen HGz53 0
                                    have hfz53_1 := blk_frozen HGz53 1
                                    clear HGz53 hgz53
                                    try go_wp2_with (first | ((with_reducible refine gate_builtin (b := .append) (xs := #[.tmp 151, .tmp 155]) rfl ?_); at_builtin; refine Kd.R_append k45 (w0 := w0) w0.heap.size rfl (.tmp 151) (.tmp 155) 28 45 (.agg #[(.string ⟨#[]⟩), (.string ⟨#[]⟩)]) 32 rfl Tryz.underlying28 info45 rfl (by decide) (by omega) (.slice Ao12 l1.length co12) l1 (⟨t335, t349⟩ : S45) [.string t335, .string t349] (fun k_ => (P1_ k_ ∨ w.heap.size ≤ k_)) (fun _ => False) rfl zz28 ?aP (fun _ hk => hk.elim) ?aF ?aO ?aB ?aS ?aL ?_; (case aP => exact k45_mkM _ _ _ (⟨t335, t349⟩ : S45)); (case aB => exact zz7); (case aF => exact (fun k_ hk => (.inr (Nat.le_trans (show Kept w _ (fun k_ => (P1_ k_) ∨ k_ = g) from by repeat (first | (with_reducible first | exact HK.out | apply Kept.alloc | apply Kept.drewN | apply Kept.drew | refine Kept.setCell ?_ (.inl (.inr rfl)) _) | exact HK.out)).1 hk)))); (case aO => exact zz79); (case aS => exact (below_size zz7)); (case aL => have := LMc48.out; omega); intro v352 w54 ho hb hg hat; rw [← Ny351.out] at ho; have n0_ := Aside0.mk (IsS41.grown zz8 hg (IsS41.own_ne HI0.out HO_1.out (by decide))); have n1_ := Aside0.mk (hb); have n2_ := Aside0.mk (Kept.of_grown (S := (fun k_ => (P1_ k_) ∨ k_ = g)) hg zz19 (fun k_ e_ => Or.imp_left Or.inl ((HO_1.out.1 k_ e_)))); have n3_ := Aside0.mk (ho); clear HI0; clear HB; clear HK; clear HO_1; have HI0 := n0_; have HB := n1_; have HK := n2_; have HO353 := n3_; clear n0_ n1_ n2_ n3_; clear ho hb hg hat))
                                    go_ret2
                                    exact ⟨_, by first | rfl | (simp only [nemp]; rfl) | (simp [errW_none, errW_some] <;> rfl) | (simp only [← hji43]; first | rfl | (simp [errW_none, errW_some] <;> rfl)) | (simp [*, errW_none, errW_some] <;> rfl), by (with_reducible repeat (first | apply Kd.R_alloc | apply Kd.R_drewN | apply Kd.R_drew)); exact HO353.out, zz8, zz7, zz19⟩
                                  rw [if_neg c48] at H
                                  exact absurd H (by simp)
                                rw [if_neg c46] at H
                                exact absurd H (by simp)
                              rw [if_neg c45] at H
                              exact absurd H (by simp)
                            rw [if_neg c44] at H
                            exact absurd H (by simp)
                          rw [if_neg c39] at H
                          have c39b0 : ((bt t346 x1001_4) == (bt t346 t347)) = false := beq_eq_false_iff_ne.mpr c39
                          have c39b1 : ((bt t346 x1001_4) != (bt t346 t347)) = true := bne_iff_ne.mpr c39
                          have H' := Aside0.mk H
                          clear H
                          try go_wp2
                          have n0_ := Aside0.mk (Kd.R_drew HO_1.out)
                          have n1_ := Aside0.mk (IsS41.drew HI0.out)
                          have n2_ := Aside0.mk (Kept.drew HK.out)
                          have n3_ := Aside0.mk (below_drew1 HB.out)
                          clear HO_1
                          clear HI0
                          clear HK
                          clear HB
                          have HO_1 := n0_
                          have HI0 := n1_
                          have HK := n2_
                          have HB := n3_
                          clear n0_ n1_ n2_ n3_
                          have p38 : 0 ≤ (x1001_4 : Int) := of_decide_eq_true zz9
                          have q38 : x1001_4 < (t346.size : Int) := of_decide_eq_true zz9
                          have hx38 := bt_at t346 x1001_4
                          replace p38 := eq_true p38
                          replace q38 := eq_true q38
                          refine start_ (n := 23) (S := fun w' => w'.cell? ⟨g, 0, none⟩ = some (.string t346) ∧ w'.cell? ⟨g, 1, none⟩ = some (.int .i64 x1001_4)) (ds := []) #[false, false, false, false, false, false, false, false, false, false, false, false, false, false, false, false, false, false, false, false, false, false, false] zz29 rfl rfl ⟨(blk_cell HI0.out.1 0).trans rfl, (blk_cell HI0.out.1 1).trans rfl⟩ (fun hHeld => ?_); refine with_tabW cardexref08_walk_attr.tab15 cardexref08_walk_attr.bits15 (fun HT_ HW_ => ?_)
                          generalize wr.drew = w55 at HO_1 HI0 HK HB hHeld ⊢
                          refine pz 0 (some 90) ?_; refine pz 1 (some 91) ?_; refine pz 2 (some 92) ?_; refine pz 4 (some 94) ?_; refine pz 5 (some 95) ?_; refine pz 6 (some 96) ?_; refine t2 3 (some 93) ?_; refine t2 7 (some 97) ?_; refine pz 8 (some 98) ?_; refine pz 9 (some 99) ?_; refine pz 10 (some 100) ?_; refine pz 11 (some 101) ?_; refine pz 12 (some 102) ?_; refine pz 13 (some 103) ?_; refine pz 15 (some 105) ?_; refine pz 16 (some 106) ?_; refine pz 17 (some 107) ?_; refine pz 20 (some 110) ?_; refine t2 14 (some 104) ?_; refine t2 18 (some 108) ?_; refine t2 19 (some 109) ?_; refine pz 21 (some 111) ?_; refine pz 22 (some 112) ?_
                          refine done_ (done_of HT_.out zz29) ?_
                          obtain ⟨HGz56, hgz56⟩ := HI0.out
                          have hcz56_0 := cellS41_0 HGz56
                          have hcz56_1 := cellS41_1 HGz56
                          have hfz56_0 := blk_frozen HGz56 0
                          have hfz56_1 := blk_frozen HGz56 1
                          clear HGz56 hgz56
                          try go_wp2
                          go_roundg k4
                          case measure => have := HK1.out; have := HJ10.out; have := HJ18.out; have := HK4.out; omega
                          case rel => exact ⟨(wrap64 (x1001_4 + 1)), H', ⟨by have := HK1.out; have := HJ10.out; have := HJ18.out; have := HK4.out; omega⟩, ⟨zz79⟩, ⟨zz8⟩, ⟨zz19⟩, ⟨zz7⟩⟩
                        rw [if_neg c37] at H
                        exact absurd H (by simp)
                      rw [if_neg c36] at H
                      have c36b0 : decide (x1001_4 < (t346.size : Int)) = false := decide_eq_false c36
                      clear c36
                      by_cases c57 : x1001_4 ≥ (t346.size : Int)
                      · rw [if_pos c57] at H
                        have c57b0 : decide ((t346.size : Int) ≤ x1001_4) = true := decide_eq_true c57
                        clear c57
                        simp only [Option.some.injEq, Prod.mk.injEq] at H
                        obtain ⟨rfl, rfl, rfl, rfl⟩ := H
                        try go_wp2
                        have n0_ := Aside0.mk (Kd.R_drew HO_1.out)
                        have n1_ := Aside0.mk (IsS41.drew HI0.out)
                        have n2_ := Aside0.mk (Kept.drew HK.out)
                        have n3_ := Aside0.mk (below_drew1 HB.out)
                        clear HO_1
                        clear HI0
                        clear HK
                        clear HB
                        have HO_1 := n0_
                        have HI0 := n1_
                        have HK := n2_
                        have HB := n3_
                        clear n0_ n1_ n2_ n3_
                        refine start_ (n := 23) (S := fun w' => w'.cell? ⟨g, 0, none⟩ = some (.string t346) ∧ w'.cell? ⟨g, 1, none⟩ = some (.int .i64 x1001_4)) (ds := []) #[false, false, false, false, false, false, false, false, false, false, false, false, false, false, false, false, false, false, false, false, false, false, false] zz29 rfl rfl ⟨(blk_cell HI0.out.1 0).trans rfl, (blk_cell HI0.out.1 1).trans rfl⟩ (fun hHeld => ?_); refine with_tabW cardexref08_walk_attr.tab15 cardexref08_walk_attr.bits15 (fun HT_ HW_ => ?_)
                        generalize wr.drew = w58 at HO_1 HI0 HK HB hHeld ⊢
                        refine pz 0 (some 90) ?_; refine pz 1 (some 91) ?_; refine pz 2 (some 92) ?_; refine pz 4 (some 94) ?_; refine pz 5 (some 95) ?_; refine pz 6 (some 96) ?_; refine t2 3 (some 93) ?_; refine t2 7 (some 97) ?_; refine pz 8 (some 98) ?_; refine pz 9 (some 99) ?_; refine pz 10 (some 100) ?_; refine pu 11 (some 101) ?_; refine pu 12 (some 102) ?_; refine pu 13 (some 103) ?_; refine pu 14 (some 104) ?_; refine pu 15 (some 105) ?_; refine pu 16 (some 106) ?_; refine pu 17 (some 107) ?_; refine pu 18 (some 108) ?_; refine pu 19 (some 109) ?_; refine pu 20 (some 110) ?_; refine pu 21 (some 111) ?_; refine pz 22 (some 112) ?_
                        refine done_ (done_of HT_.out zz29) ?_
                        try go_wp2
                        have n0_ := Aside0.mk (Kd.R_drew HO_1.out)
                        have n1_ := Aside0.mk (IsS41.drew HI0.out)
                        have n2_ := Aside0.mk (Kept.drew HK.out)
                        have n3_ := Aside0.mk (below_drew1 HB.out)
                        clear HO_1
                        clear HI0
                        clear HK
                        clear HB
                        have HO_1 := n0_
                        have HI0 := n1_
                        have HK := n2_
                        have HB := n3_
                        clear n0_ n1_ n2_ n3_
                        refine start_ (n := 10) (S := fun w' => w'.cell? ⟨g, 0, none⟩ = some (.string t346) ∧ w'.cell? ⟨g, 1, none⟩ = some (.int .i64 x1001_4)) (ds := []) #[false, false, false, false, false, false, false, false, false, false] zz29 rfl rfl ⟨(blk_cell HI0.out.1 0).trans rfl, (blk_cell HI0.out.1 1).trans rfl⟩ (fun hHeld => ?_); refine with_tabW cardexref08_walk_attr.tab17 cardexref08_walk_attr.bits17 (fun HT_ HW_ => ?_)
                        generalize w58.drew = w59 at HO_1 HI0 HK HB hHeld ⊢
                        refine pz 0 (some 120) ?_; refine pz 1 (some 121) ?_; refine pz 2 (some 122) ?_; refine pz 4 (some 124) ?_; refine pz 5 (some 125) ?_; refine pz 6 (some 126) ?_; refine t2 3 (some 123) ?_; refine t2 7 (some 127) ?_; refine pz 8 (some 128) ?_; refine pz 9 (some 129) ?_
                        refine done_ (done_of HT_.out zz29) ?_
                        try go_wp2
                        go_ret2
                        exact ⟨_, zz4, zz40, zz8, zz7, zz19⟩
                      rw [if_neg c57] at H
                      have c57b0 : decide ((t346.size : Int) ≤ x1001_4) = false := decide_eq_false c57
                      clear c57
                      obtain ⟨ji60, hji60⟩ : ∃ j_ : Int, (wrap64 (t347 + 1)) = j_ := ⟨_, rfl⟩
                      replace H : (if 0 ≤ (ji60) then (if (ji60) ≤ x1001_4 then (if x1001_4 ≤ (t346.size : Int) then ((cardexref01_Back.f k4 (t346.extract ((ji60) : Int).toNat (x1001_4 : Int).toNat)).bind fun bt355 => (if l1.length < 4398046511104 then (some ((l1 ++ [(⟨t335, bt355.1⟩ : S45)]), (bt355.2 == 0), t346, wrap64 (x1001_4 + 1))) else (none))) else (none)) else (none)) else (none)) = some (r1, r2, r3, r4) := by first | (rw [hji60] at H; exact H) | (simp only [hji60] at H ⊢; exact H)
                      have hji60w : (IntKind.i64.wrap (t347 + 1)) = ji60 := (i64_w _).trans hji60
                      by_cases c61 : 0 ≤ (ji60)
                      · rw [if_pos c61] at H
                        have c61b0 := eq_true c61
                        have c61b1 : decide (0 ≤ (ji60)) = true := decide_eq_true c61
                        clear c61
                        by_cases c62 : (ji60) ≤ x1001_4
                        · rw [if_pos c62] at H
                          have c62b0 := eq_true c62
                          have c62b1 : decide ((ji60) ≤ x1001_4) = true := decide_eq_true c62
                          clear c62
                          by_cases c63 : x1001_4 ≤ (t346.size : Int)
                          · rw [if_pos c63] at H
                            have c63b0 := eq_true c63
                            have c63b1 : decide (x1001_4 ≤ (t346.size : Int)) = true := decide_eq_true c63
                            clear c63
                            obtain ⟨y354, hy354⟩ : ∃ y_ : ByteArray, y_ = (t346.extract ((ji60) : Int).toNat (x1001_4 : Int).toNat) := ⟨_, rfl⟩
                            replace H : ((cardexref01_Back.f k4 y354).bind fun bt355 => (if l1.length < 4398046511104 then (some ((l1 ++ [(⟨t335, bt355.1⟩ : S45)]), (bt355.2 == 0), t346, wrap64 (x1001_4 + 1))) else (none))) = some (r1, r2, r3, r4) := by first | (rw [hy354]; with_reducible exact H) | (have H2_ := (Option.bind_some _ _).symm.trans H; rw [hy354]; with_reducible exact H2_) | (have H2_ := (Option.bind_some _ _).symm.trans H; with_reducible exact H2_) | with_reducible exact H | (rw [hy354]; exact H) | exact H
                            have Ny354 := Aside0.mk hy354
                            clear hy354
                            have ey354 : (t346.extract ((ji60) : Int).toNat (x1001_4 : Int).toNat) = y354 := Ny354.out.symm
                            replace H := Option.bind_eq_some_iff.mp H
                            obtain ⟨⟨t355, t356⟩, A640, H⟩ := H
                            replace H : (if l1.length < 4398046511104 then (some ((l1 ++ [(⟨t335, t355⟩ : S45)]), (t356 == 0), t346, wrap64 (x1001_4 + 1))) else (none)) = some (r1, r2, r3, r4) := H
                            have A64 := Aside0.mk A640
                            clear A640
                            by_cases c65 : l1.length < 4398046511104
                            · rw [if_pos c65] at H
                              have LMc65 := Aside0.mk c65
                              clear c65
                              obtain ⟨y357, hy357⟩ : ∃ y_ : List (S45), y_ = (l1 ++ [(⟨t335, t355⟩ : S45)]) := ⟨_, rfl⟩
                              replace H : (some (y357, (t356 == 0), t346, wrap64 (x1001_4 + 1))) = some (r1, r2, r3, r4) := by first | (rw [hy357]; with_reducible exact H) | (have H2_ := (Option.bind_some _ _).symm.trans H; rw [hy357]; with_reducible exact H2_) | (have H2_ := (Option.bind_some _ _).symm.trans H; with_reducible exact H2_) | with_reducible exact H | (rw [hy357]; exact H) | exact H
                              have Ny357 := Aside0.mk hy357
                              clear hy357
                              simp only [Option.some.injEq, Prod.mk.injEq] at H
                              obtain ⟨rfl, rfl, rfl, rfl⟩ := H
                              try go_wp2
                              have n0_ := Aside0.mk (Kd.R_drew HO_1.out)
                              have n1_ := Aside0.mk (IsS41.drew HI0.out)
                              have n2_ := Aside0.mk (Kept.drew HK.out)
                              have n3_ := Aside0.mk (below_drew1 HB.out)
                              clear HO_1
                              clear HI0
                              clear HK
                              clear HB
                              have HO_1 := n0_
                              have HI0 := n1_
                              have HK := n2_
                              have HB := n3_
                              clear n0_ n1_ n2_ n3_
                              refine start_ (n := 23) (S := fun w' => w'.cell? ⟨g, 0, none⟩ = some (.string t346) ∧ w'.cell? ⟨g, 1, none⟩ = some (.int .i64 x1001_4)) (ds := []) #[false, false, false, false, false, false, false, false, false, false, false, false, false, false, false, false, false, false, false, false, false, false, false] zz29 rfl rfl ⟨(blk_cell HI0.out.1 0).trans rfl, (blk_cell HI0.out.1 1).trans rfl⟩ (fun hHeld => ?_); refine with_tabW cardexref08_walk_attr.tab15 cardexref08_walk_attr.bits15 (fun HT_ HW_ => ?_)
                              generalize wr.drew = w66 at HO_1 HI0 HK HB hHeld ⊢
                              refine pz 0 (some 90) ?_; refine pz 1 (some 91) ?_; refine pz 2 (some 92) ?_; refine pz 4 (some 94) ?_; refine pz 5 (some 95) ?_; refine pz 6 (some 96) ?_; refine t2 3 (some 93) ?_; refine t2 7 (some 97) ?_; refine pz 8 (some 98) ?_; refine pz 9 (some 99) ?_; refine pz 10 (some 100) ?_; refine pu 11 (some 101) ?_; refine pu 12 (some 102) ?_; refine pu 13 (some 103) ?_; refine pu 14 (some 104) ?_; refine pu 15 (some 105) ?_; refine pu 16 (some 106) ?_; refine pu 17 (some 107) ?_; refine pu 18 (some 108) ?_; refine pu 19 (some 109) ?_; refine pu 20 (some 110) ?_; refine pu 21 (some 111) ?_; refine pz 22 (some 112) ?_
                              refine done_ (done_of HT_.out zz29) ?_
                              try go_wp2
                              have n0_ := Aside0.mk (Kd.R_drew HO_1.out)
                              have n1_ := Aside0.mk (IsS41.drew HI0.out)
                              have n2_ := Aside0.mk (Kept.drew HK.out)
                              have n3_ := Aside0.mk (below_drew1 HB.out)
                              clear HO_1
                              clear HI0
                              clear HK
                              clear HB
                              have HO_1 := n0_
                              have HI0 := n1_
                              have HK := n2_
                              have HB := n3_
                              clear n0_ n1_ n2_ n3_
                              refine start_ (n := 10) (S := fun w' => w'.cell? ⟨g, 0, none⟩ = some (.string t346) ∧ w'.cell? ⟨g, 1, none⟩ = some (.int .i64 x1001_4)) (ds := []) #[false, false, false, false, false, false, false, false, false, false] zz29 rfl rfl ⟨(blk_cell HI0.out.1 0).trans rfl, (blk_cell HI0.out.1 1).trans rfl⟩ (fun hHeld => ?_); refine with_tabW cardexref08_walk_attr.tab17 cardexref08_walk_attr.bits17 (fun HT_ HW_ => ?_)
                              generalize w66.drew = w67 at HO_1 HI0 HK HB hHeld ⊢
                              refine pz 0 (some 120) ?_; refine pz 1 (some 121) ?_; refine pz 2 (some 122) ?_; refine pz 4 (some 124) ?_; refine pz 5 (some 125) ?_; refine pz 6 (some 126) ?_; refine t2 3 (some 123) ?_; refine t2 7 (some 127) ?_; refine pz 8 (some 128) ?_; refine pz 9 (some 129) ?_
                              refine done_ (done_of HT_.out zz29) ?_
                              try go_wp2
                              have n0_ := Aside0.mk (Kd.R_drew HO_1.out)
                              have n1_ := Aside0.mk (IsS41.drew HI0.out)
                              have n2_ := Aside0.mk (Kept.drew HK.out)
                              have n3_ := Aside0.mk (below_drew1 HB.out)
                              clear HO_1
                              clear HI0
                              clear HK
                              clear HB
                              have HO_1 := n0_
                              have HI0 := n1_
                              have HK := n2_
                              have HB := n3_
                              clear n0_ n1_ n2_ n3_
                              refine start_ (n := 16) (S := fun w' => w'.cell? ⟨g, 0, none⟩ = some (.string t346) ∧ w'.cell? ⟨g, 1, none⟩ = some (.int .i64 x1001_4)) (ds := []) #[false, false, false, false, false, false, false, false, false, false, false, false, false, false, false, false] zz29 rfl rfl ⟨(blk_cell HI0.out.1 0).trans rfl, (blk_cell HI0.out.1 1).trans rfl⟩ (fun hHeld => ?_); refine with_tabW cardexref08_walk_attr.tab19 cardexref08_walk_attr.bits19 (fun HT_ HW_ => ?_)
                              generalize w67.drew = w68 at HO_1 HI0 HK HB hHeld ⊢
                              refine pz 0 (some 131) ?_; refine pz 1 (some 132) ?_; refine pz 2 (some 133) ?_; refine pz 4 (some 135) ?_; refine pz 5 (some 136) ?_; refine pz 6 (some 137) ?_; refine pz 7 (some 138) ?_; refine t2 3 (some 134) ?_; refine t2 8 (some 139) ?_; refine pz 9 (some 140) ?_
                              refine one_ (i := 10) (N := some 141) #[true, true, true, true, true, true, true, true, true, true, true, false, false, false, false, false] rfl rfl (one_of HT_.out zz29) (by decide) (fun K hK => ?_)
                              refine goes_ Tryz.func28 zz29 rfl #[.string y354] (by rfl) rfl rfl zz1 ?_
                              with_reducible refine (cardexref01_Back.calls k4 y354 t355 t356 _ A64.out).mono ?_
                              rintro e w69 ⟨rfl, hb⟩
                              refine ⟨_, rfl, ?_⟩
                              have n0_ := Aside0.mk (Kd.R_below zz57 hb)
                              have n1_ := Aside0.mk (IsS41.below zz8 hb)
                              have n2_ := Aside0.mk (Kept.below (S := (fun k_ => (P1_ k_) ∨ k_ = g)) zz19 hb)
                              have n3_ := Aside0.mk (below_step zz7 hb)
                              clear HO_1
                              clear HI0
                              clear HK
                              clear HB
                              have HO_1 := n0_
                              have HI0 := n1_
                              have HK := n2_
                              have HB := n3_
                              clear n0_ n1_ n2_ n3_
                              (try clear hb)
                              (try clear hb2)
                              (try clear hk)
                              (try clear hi)
                              refine hK.out _ _ ⟨(blk_cell HI0.out.1 0).trans rfl, (blk_cell HI0.out.1 1).trans rfl⟩ (fun hHeld => ?_)
                              clear hK K
                              refine norm_ (a' := ?_) ?_ ?_
                              rotate_left
                              · show Act.put _ (some 141) _ = _
                                simp only [Act.put, setIfInBounds_toArray, set_cons_zero, set_cons_succ, i64_w, i32_w]
                                rfl
                              refine pz 11 (some 130) ?_; refine pz 12 (some 142) ?_; refine pz 13 (some 143) ?_; refine pz 14 (some 10) ?_; refine pz 15 (some 11) ?_
                              refine done_ (done_of HT_.out zz29) ?_
                              obtain ⟨HGz70, hgz70⟩ := HI0.out
                              have hcz70_0 := cellS41_0 HGz70
                              have hcz70_1 := cellS41_1 HGz70
                              have hfz70_0 := blk_frozen HGz70 0
                              have hfz70_1 := blk_frozen HGz70 1
                              clear HGz70 hgz70
                              try go_wp2_with (first | ((with_reducible refine gate_builtin (b := .append) (xs := #[.tmp 151, .tmp 155]) rfl ?_); at_builtin; refine Kd.R_append k45 (w0 := w0) w0.heap.size rfl (.tmp 151) (.tmp 155) 28 45 (.agg #[(.string ⟨#[]⟩), (.string ⟨#[]⟩)]) 32 rfl Tryz.underlying28 info45 rfl (by decide) (by omega) (.slice Ao12 l1.length co12) l1 (⟨t335, t355⟩ : S45) [.string t335, .string t355] (fun k_ => (P1_ k_ ∨ w.heap.size ≤ k_)) (fun _ => False) rfl zz28 ?aP (fun _ hk => hk.elim) ?aF ?aO ?aB ?aS ?aL ?_; (case aP => exact k45_mkM _ _ _ (⟨t335, t355⟩ : S45)); (case aB => exact zz7); (case aF => exact (fun k_ hk => (.inr (Nat.le_trans (show Kept w _ (fun k_ => (P1_ k_) ∨ k_ = g) from by repeat (first | (with_reducible first | exact HK.out | apply Kept.alloc | apply Kept.drewN | apply Kept.drew | refine Kept.setCell ?_ (.inl (.inr rfl)) _) | exact HK.out)).1 hk)))); (case aO => exact zz79); (case aS => exact (below_size zz7)); (case aL => have := LMc65.out; omega); intro v358 w71 ho hb hg hat; rw [← Ny357.out] at ho; have n0_ := Aside0.mk (IsS41.grown zz8 hg (IsS41.own_ne HI0.out HO_1.out (by decide))); have n1_ := Aside0.mk (hb); have n2_ := Aside0.mk (Kept.of_grown (S := (fun k_ => (P1_ k_) ∨ k_ = g)) hg zz19 (fun k_ e_ => Or.imp_left Or.inl ((HO_1.out.1 k_ e_)))); have n3_ := Aside0.mk (ho); clear HI0; clear HB; clear HK; clear HO_1; have HI0 := n0_; have HB := n1_; have HK := n2_; have HO359 := n3_; clear n0_ n1_ n2_ n3_; clear ho hb hg hat))
                              go_ret2
                              exact ⟨_, by first | rfl | (simp only [nemp]; rfl) | (simp [errW_none, errW_some] <;> rfl) | (simp only [← hji60]; first | rfl | (simp [errW_none, errW_some] <;> rfl)) | (simp [*, errW_none, errW_some] <;> rfl), by (with_reducible repeat (first | apply Kd.R_alloc | apply Kd.R_drewN | apply Kd.R_drew)); exact HO359.out, zz8, zz7, zz19⟩
                            rw [if_neg c65] at H
                            exact absurd H (by simp)
                          rw [if_neg c63] at H
                          exact absurd H (by simp)
                        rw [if_neg c62] at H
                        exact absurd H (by simp)
                      rw [if_neg c61] at H
                      exact absurd H (by simp)
                rw [if_neg c32] at H
                exact absurd H (by simp)
              rw [if_neg c31] at H
              exact absurd H (by simp)
end Go.Proofs.YtjijbncheikagaaGreatDoor.Q
