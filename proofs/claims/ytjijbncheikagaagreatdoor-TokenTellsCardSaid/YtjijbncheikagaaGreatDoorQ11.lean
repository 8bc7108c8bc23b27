-- Written by hookprint.py (wip/) of this session: the kit's print with hand-proved functions beside it. Not trusted: Lean checks it.
import Derived.Test.YtjijbncheikagaaGreatDoorQ0
import Derived.Test.YtjijbncheikagaaGreatDoorQ8
import Derived.Test.YtjijbncheikagaaGreatDoorQ10
namespace Go.Proofs.YtjijbncheikagaaGreatDoor.Q
open List (setIfInBounds_toArray set_cons_zero set_cons_succ)
open Go.RowKit Go.Lib Go.Proofs.YtjijbncheikagaaGreatDoorX Go.Proofs.YtjijbncheikagaaGreatDoorW.PrintWords Go.Proofs.YtjijbncheikagaaGreatDoorW.PrintLast Go.Proofs.YtjijbncheikagaaGreatDoorW.PrintMore
set_option linter.unusedVariables false
set_option linter.unusedSimpArgs false
mutual
def cardexref01_Back.l0 : Nat → ByteArray → ByteArray → Int → Option (ByteArray × Int)
  | 0, _, _, _ => none
  | k + 1, x0, x4, x5 => if x5 < (x0.size : Int) then (if 0 ≤ x5 then (if (bt x0 x5) = 60 then (some ((⟨#[]⟩ : ByteArray), 5)) else (if (bt x0 x5) = 38 then (cardexref01_Back.l1 k x0 x4 x5 x5) else (if x5 ≤ (wrap64 (x5 + 1)) then (if (wrap64 (x5 + 1)) ≤ (x0.size : Int) then ((some (x0.extract (x5 : Int).toNat ((wrap64 (x5 + 1)) : Int).toNat : ByteArray)).bind fun y332 => (if x4.size + y332.size ≤ 9223372036854775807 then (cardexref01_Back.l0 k x0 (x4 ++ y332) (wrap64 (x5 + 1))) else (none))) else (none)) else (none)))) else (none)) else (some (x4, 0))
def cardexref01_Back.j2 : Nat → ByteArray → ByteArray → Int → Int → Option (ByteArray × Int)
  | 0, _, _, _, _ => none
  | k + 1, x0, x4, x5, x6 => if x6 < (x0.size : Int) then (if 0 ≤ (wrap64 (x5 + 1)) then (if (wrap64 (x5 + 1)) ≤ x6 then (if x6 ≤ (x0.size : Int) then ((cardexref01_entity.f k (x0.extract ((wrap64 (x5 + 1)) : Int).toNat (x6 : Int).toNat)).bind fun t334 => (if t334.toList = ([] : List UInt8) then (some ((⟨#[]⟩ : ByteArray), 5)) else (if x4.size + t334.size ≤ 9223372036854775807 then (cardexref01_Back.l0 k x0 (x4 ++ t334) (wrap64 (x6 + 1))) else (none)))) else (none)) else (none)) else (none)) else (some ((⟨#[]⟩ : ByteArray), 5))
def cardexref01_Back.l1 : Nat → ByteArray → ByteArray → Int → Int → Option (ByteArray × Int)
  | 0, _, _, _, _ => none
  | k + 1, x0, x4, x5, x6 => if x6 < (x0.size : Int) then (if 0 ≤ x6 then (if (bt x0 x6) = 59 then (cardexref01_Back.j2 k x0 x4 x5 x6) else (cardexref01_Back.l1 k x0 x4 x5 (wrap64 (x6 + 1)))) else (none)) else (cardexref01_Back.j2 k x0 x4 x5 x6)
end
def cardexref01_Back.f (k : Nat) (a0 : ByteArray) : Option (ByteArray × Int) := (cardexref01_Valid.f k a0).bind fun t331 => (if t331 = true then (cardexref01_Back.l0 k a0 (⟨#[]⟩ : ByteArray) 0) else (some ((⟨#[]⟩ : ByteArray), 3)))
set_option maxHeartbeats 8000000 in
set_option maxRecDepth 100000 in
theorem cardexref01_Back.calls (k : Nat) (a0 : ByteArray) (r1 : ByteArray) (r2 : Int) (w : World) (h : cardexref01_Back.f k a0 = some (r1, r2)) :
    Calls Tryz.prog 28 #[.string a0] w fun e w' => e = .returned (.tuple #[.string r1, .int .i64 r2]) ∧ Below w.heap.size w w' := by
  have HB := Aside0.mk (Below.refl w.heap.size w)
  have H : ((cardexref01_Valid.f k a0).bind fun t331 => (if t331 = true then (cardexref01_Back.l0 k a0 (⟨#[]⟩ : ByteArray) 0) else (some ((⟨#[]⟩ : ByteArray), 3)))) = some (r1, r2) := h
  clear h
  replace H := Option.bind_eq_some_iff.mp H
  obtain ⟨t331, A20, H⟩ := H
  replace H : (if t331 = true then (cardexref01_Back.l0 k a0 (⟨#[]⟩ : ByteArray) 0) else (some ((⟨#[]⟩ : ByteArray), 3))) = some (r1, r2) := H
  have A2 := Aside0.mk A20
  clear A20
  by_cases c3 : t331 = true
  · subst c3
    have H1 : (cardexref01_Back.l0 k a0 (⟨#[]⟩ : ByteArray) 0) = some (r1, r2) := by rw [if_pos rfl] at H; exact H
    clear H
    have H := H1
    clear H1
    have H' := Aside0.mk H
    clear H
    go_enter Tryz.func28, Tryz.ntmps28
    go_wp2_with (first | ((with_reducible refine gate_callee (f := 13) rfl ?_); refine goesL_ (some 9) rfl rfl Tryz.func13 zz29 rfl #[.string a0] rfl zz1 ?_; (with_reducible refine (cardexref01_Valid.calls k a0 true _ A2.out).mono ?_); rintro e w' ⟨rfl, ⟨nd, rfl⟩⟩; refine ⟨_, rfl, ?_⟩))
    go_loopg [4, 5] k (fun kq v4 v5 w' => ∃ (x4_1 : ByteArray) (x5_1 : Int), v4 = .string x4_1 ∧ v5 = .int .i64 x5_1 ∧ Aside0 (cardexref01_Back.l0 kq a0 x4_1 x5_1 = some (r1, r2)) ∧ Aside0 (kq ≤ k) ∧ Aside0 (Below w.heap.size w w'))
    case atStart => exact ⟨((⟨#[]⟩ : ByteArray)), (0), zz2, zz2, H', ⟨Nat.le_refl _⟩, ⟨zz0⟩⟩
    case round =>
      clear H'
      try clear c1
      try clear c2
      try clear p2
      try clear c3
      obtain ⟨x4_1, x5_1, rfl, rfl, HA, HK1, HB⟩ := hrel
      cases gk with
      | zero => exact absurd HA.out (by simp [cardexref01_Back.l0])
      | succ k1 =>
        have H := HA.out
        clear HA
        simp only [cardexref01_Back.l0] at H
        by_cases c4 : x5_1 < (a0.size : Int)
        · rw [if_pos c4] at H
          have c4b0 : decide (x5_1 < (a0.size : Int)) = true := decide_eq_true c4
          clear c4
          by_cases c5 : 0 ≤ x5_1
          · rw [if_pos c5] at H
            have c5b0 : decide (0 ≤ x5_1) = true := decide_eq_true c5
            clear c5
            by_cases c7 : (bt a0 x5_1) = 60
            · rw [if_pos c7] at H
              have c7b0 : ((bt a0 x5_1) == 60) = true := beq_iff_eq.mpr c7
              have c7b1 : ((bt a0 x5_1) != 60) = false := bne_eq_false_iff_eq.mpr c7
              clear c7
              simp only [Option.some.injEq, Prod.mk.injEq] at H
              obtain ⟨rfl, rfl⟩ := H
              have p6 : 0 ≤ (x5_1 : Int) := of_decide_eq_true zz9
              have q6 : x5_1 < (a0.size : Int) := of_decide_eq_true zz9
              have hx6 := bt_at a0 x5_1
              replace p6 := eq_true p6
              replace q6 := eq_true q6
              go_wp2
              go_ret2
              exact ⟨zz4, zz0⟩
            · rw [if_neg c7] at H
              have c7b0 : ((bt a0 x5_1) == 60) = false := beq_eq_false_iff_ne.mpr c7
              have c7b1 : ((bt a0 x5_1) != 60) = true := bne_iff_ne.mpr c7
              by_cases c9 : (bt a0 x5_1) = 38
              · rw [if_pos c9] at H
                have c9b0 : ((bt a0 x5_1) == 38) = true := beq_iff_eq.mpr c9
                have c9b1 : ((bt a0 x5_1) != 38) = false := bne_eq_false_iff_eq.mpr c9
                clear c9
                have HC10 := Aside0.mk H
                clear H
                have p6 : 0 ≤ (x5_1 : Int) := of_decide_eq_true zz9
                have q6 : x5_1 < (a0.size : Int) := of_decide_eq_true zz9
                have hx6 := bt_at a0 x5_1
                replace p6 := eq_true p6
                replace q6 := eq_true q6
                have p8 : 0 ≤ (x5_1 : Int) := of_decide_eq_true zz9
                have q8 : x5_1 < (a0.size : Int) := of_decide_eq_true zz9
                have hx8 := bt_at a0 x5_1
                replace p8 := eq_true p8
                replace q8 := eq_true q8
                go_upto_block 2 with (fail)
                go_cut [6] (fun v6 wc => ∃ (kq : Nat) (x6_9 : Int), v6 = .int .i64 x6_9 ∧ Aside0 (cardexref01_Back.j2 kq a0 x4_1 x5_1 x6_9 = some (r1, r2)) ∧ Aside0 (kq ≤ k1) ∧ Aside0 (Below w.heap.size w wc))
                case first =>
                  have H := HC10.out
                  clear HC10
                  have H' := Aside0.mk H
                  clear H
                  go_wp2
                  go_loopg [6] k1 (fun kq v6 w' => ∃ (x6_2 : Int), v6 = .int .i64 x6_2 ∧ Aside0 (cardexref01_Back.l1 kq a0 x4_1 x5_1 x6_2 = some (r1, r2)) ∧ Aside0 (kq ≤ k1) ∧ Aside0 (Below w.heap.size w w'))
                  case atStart => exact ⟨(x5_1), zz2, H', ⟨Nat.le_refl _⟩, ⟨zz0⟩⟩
                  case round =>
                    clear H'
                    try clear c1
                    try clear c2
                    try clear p2
                    try clear c3
                    try clear c4
                    try clear c4b0
                    try clear c5
                    try clear c5b0
                    try clear p6
                    try clear q6
                    try clear hx6
                    try clear c7
                    try clear c7b0
                    try clear c7b1
                    try clear p8
                    try clear q8
                    try clear hx8
                    try clear c9
                    try clear c9b0
                    try clear c9b1
                    try clear p2
                    try clear p6
                    try clear p8
                    try clear q6
                    try clear q8
                    obtain ⟨x6_2, rfl, HA, HK2, HB⟩ := hrel
                    cases gk with
                    | zero => exact absurd HA.out (by simp [cardexref01_Back.l1])
                    | succ k2 =>
                      have H := HA.out
                      clear HA
                      simp only [cardexref01_Back.l1] at H
                      by_cases c11 : x6_2 < (a0.size : Int)
                      · rw [if_pos c11] at H
                        have c11b0 : decide (x6_2 < (a0.size : Int)) = true := decide_eq_true c11
                        clear c11
                        (first | rw [c11b0] | (simp only [i64_w, i32_w]; rw [c11b0]) | skip)
                        by_cases c12 : 0 ≤ x6_2
                        · rw [if_pos c12] at H
                          have c12b0 : decide (0 ≤ x6_2) = true := decide_eq_true c12
                          clear c12
                          by_cases c14 : (bt a0 x6_2) = 59
                          · rw [if_pos c14] at H
                            have c14b0 : ((bt a0 x6_2) == 59) = true := beq_iff_eq.mpr c14
                            have c14b1 : ((bt a0 x6_2) != 59) = false := bne_eq_false_iff_eq.mpr c14
                            clear c14
                            have H' := Aside0.mk H
                            clear H
                            have p13 : 0 ≤ (x6_2 : Int) := of_decide_eq_true zz9
                            have q13 : x6_2 < (a0.size : Int) := of_decide_eq_true zz9
                            have hx13 := bt_at a0 x6_2
                            replace p13 := eq_true p13
                            replace q13 := eq_true q13
                            go_wp2
                            go_meet
                            case rel => exact ⟨_, (x6_2), zz2, H', ⟨by have := HK1.out; have := HK2.out; first | omega | exact Nat.le_refl _⟩, ⟨zz0⟩⟩
                          · rw [if_neg c14] at H
                            have c14b0 : ((bt a0 x6_2) == 59) = false := beq_eq_false_iff_ne.mpr c14
                            have c14b1 : ((bt a0 x6_2) != 59) = true := bne_iff_ne.mpr c14
                            have H' := Aside0.mk H
                            clear H
                            have p13 : 0 ≤ (x6_2 : Int) := of_decide_eq_true zz9
                            have q13 : x6_2 < (a0.size : Int) := of_decide_eq_true zz9
                            have hx13 := bt_at a0 x6_2
                            replace p13 := eq_true p13
                            replace q13 := eq_true q13
                            go_wp2
                            go_roundg k2
                            case measure => have := HK1.out; have := HK2.out; omega
                            case rel => exact ⟨(wrap64 (x6_2 + 1)), zz2, H', ⟨by have := HK1.out; have := HK2.out; omega⟩, ⟨zz0⟩⟩
                        · rw [if_neg c12] at H
                          exact absurd H (by simp)
                      · rw [if_neg c11] at H
                        have c11b0 : decide (x6_2 < (a0.size : Int)) = false := decide_eq_false c11
                        clear c11
                        (first | rw [c11b0] | (simp only [i64_w, i32_w]; rw [c11b0]) | skip)
                        have H' := Aside0.mk H
                        clear H
                        go_wp2
                        go_meet
                        case rel => exact ⟨_, (x6_2), zz2, H', ⟨by have := HK1.out; have := HK2.out; first | omega | exact Nat.le_refl _⟩, ⟨zz0⟩⟩
                case rest =>
                  clear HC10
                  try clear c1
                  try clear p1
                  try clear q1
                  try clear hx1
                  try clear c2
                  try clear p2
                  try clear c3
                  try clear c4
                  try clear c4b0
                  try clear c5
                  try clear c5b0
                  try clear p6
                  try clear q6
                  try clear hx6
                  try clear c7
                  try clear c7b0
                  try clear c7b1
                  try clear p8
                  try clear q8
                  try clear hx8
                  try clear c9
                  try clear c9b0
                  try clear c9b1
                  try clear c11
                  try clear c11b0
                  try clear c12
                  try clear c12b0
                  try clear c13
                  try clear p13
                  try clear q13
                  try clear hx13
                  try clear c14
                  try clear c14b0
                  try clear c14b1
                  try clear p13
                  try clear p2
                  try clear p6
                  try clear p8
                  try clear q13
                  try clear q6
                  try clear q8
                  obtain ⟨kq, x6_9, rfl, HA, HJ9, HB⟩ := hcut
                  cases kq with
                  | zero => exact absurd HA.out (by simp [cardexref01_Back.j2])
                  | succ kj9 =>
                    have H := HA.out
                    clear HA
                    simp only [cardexref01_Back.j2] at H
                    by_cases c15 : x6_9 < (a0.size : Int)
                    · rw [if_pos c15] at H
                      have c15b0 : decide (x6_9 < (a0.size : Int)) = true := decide_eq_true c15
                      clear c15
                      obtain ⟨ji16, hji16⟩ : ∃ j_ : Int, (wrap64 (x5_1 + 1)) = j_ := ⟨_, rfl⟩
                      replace H : (if 0 ≤ (ji16) then (if (ji16) ≤ x6_9 then (if x6_9 ≤ (a0.size : Int) then ((cardexref01_entity.f kj9 (a0.extract ((ji16) : Int).toNat (x6_9 : Int).toNat)).bind fun t334 => (if t334.toList = ([] : List UInt8) then (some ((⟨#[]⟩ : ByteArray), 5)) else (if x4_1.size + t334.size ≤ 9223372036854775807 then (cardexref01_Back.l0 kj9 a0 (x4_1 ++ t334) (wrap64 (x6_9 + 1))) else (none)))) else (none)) else (none)) else (none)) = some (r1, r2) := by first | (rw [hji16] at H; exact H) | (simp only [hji16] at H ⊢; exact H)
                      have hji16w : (IntKind.i64.wrap (x5_1 + 1)) = ji16 := (i64_w _).trans hji16
                      by_cases c17 : 0 ≤ (ji16)
                      · rw [if_pos c17] at H
                        have c17b0 := eq_true c17
                        have c17b1 : decide (0 ≤ (ji16)) = true := decide_eq_true c17
                        clear c17
                        by_cases c18 : (ji16) ≤ x6_9
                        · rw [if_pos c18] at H
                          have c18b0 := eq_true c18
                          have c18b1 : decide ((ji16) ≤ x6_9) = true := decide_eq_true c18
                          clear c18
                          by_cases c19 : x6_9 ≤ (a0.size : Int)
                          · rw [if_pos c19] at H
                            have c19b0 := eq_true c19
                            have c19b1 : decide (x6_9 ≤ (a0.size : Int)) = true := decide_eq_true c19
                            clear c19
                            obtain ⟨y333, hy333⟩ : ∃ y_ : ByteArray, y_ = (a0.extract ((ji16) : Int).toNat (x6_9 : Int).toNat) := ⟨_, rfl⟩
                            replace H : ((cardexref01_entity.f kj9 y333).bind fun t334 => (if t334.toList = ([] : List UInt8) then (some ((⟨#[]⟩ : ByteArray), 5)) else (if x4_1.size + t334.size ≤ 9223372036854775807 then (cardexref01_Back.l0 kj9 a0 (x4_1 ++ t334) (wrap64 (x6_9 + 1))) else (none)))) = some (r1, r2) := by first | (rw [hy333]; with_reducible exact H) | (have H2_ := (Option.bind_some _ _).symm.trans H; rw [hy333]; with_reducible exact H2_) | (have H2_ := (Option.bind_some _ _).symm.trans H; with_reducible exact H2_) | with_reducible exact H | (rw [hy333]; exact H) | exact H
                            have Ny333 := Aside0.mk hy333
                            clear hy333
                            have ey333 : (a0.extract ((ji16) : Int).toNat (x6_9 : Int).toNat) = y333 := Ny333.out.symm
                            replace H := Option.bind_eq_some_iff.mp H
                            obtain ⟨t334, A200, H⟩ := H
                            replace H : (if t334.toList = ([] : List UInt8) then (some ((⟨#[]⟩ : ByteArray), 5)) else (if x4_1.size + t334.size ≤ 9223372036854775807 then (cardexref01_Back.l0 kj9 a0 (x4_1 ++ t334) (wrap64 (x6_9 + 1))) else (none))) = some (r1, r2) := H
                            have A20 := Aside0.mk A200
                            clear A200
                            by_cases c21 : t334.toList = ([] : List UInt8)
                            · rw [if_pos c21] at H
                              have c21b0 : (t334.toList == ([] : List UInt8)) = true := beq_iff_eq.mpr c21
                              have c21b1 : (t334.toList != ([] : List UInt8)) = false := bne_eq_false_iff_eq.mpr c21
                              clear c21
                              simp only [Option.some.injEq, Prod.mk.injEq] at H
                              obtain ⟨rfl, rfl⟩ := H
                              go_wp2_with (first | ((with_reducible refine gate_callee (f := 52) rfl ?_); refine goesL_ (some 54) rfl rfl Tryz.func52 zz29 rfl #[.string y333] rfl zz1 ?_; (with_reducible refine (cardexref01_entity.calls kj9 y333 t334 _ A20.out).mono ?_); rintro e w22 ⟨rfl, hb⟩; refine ⟨_, rfl, ?_⟩; have n0_ := Aside0.mk (below_step zz0 hb); clear HB; have HB := n0_; clear n0_; (try clear hb); (try clear hb2); (try clear hk); (try clear hi)))
                              go_ret2
                              exact ⟨by first | rfl | (simp only [nemp]; rfl) | (simp [errW_none, errW_some] <;> rfl) | (simp only [← hji16]; first | rfl | (simp [errW_none, errW_some] <;> rfl)) | (simp [*, errW_none, errW_some] <;> rfl), zz0⟩
                            · rw [if_neg c21] at H
                              have c21b0 : (t334.toList == ([] : List UInt8)) = false := beq_eq_false_iff_ne.mpr c21
                              have c21b1 : (t334.toList != ([] : List UInt8)) = true := bne_iff_ne.mpr c21
                              by_cases c23 : x4_1.size + t334.size ≤ 9223372036854775807
                              · rw [if_pos c23] at H
                                have c23b0 := eq_true c23
                                have c23b1 : decide (x4_1.size + t334.size ≤ 9223372036854775807) = true := decide_eq_true c23
                                try have c23b2 : (9223372036854775807 < x4_1.size + t334.size) = False := eq_false (Nat.not_lt.2 c23)
                                have H' := Aside0.mk H
                                clear H
                                go_wp2_with (first | ((with_reducible refine gate_callee (f := 52) rfl ?_); refine goesL_ (some 54) rfl rfl Tryz.func52 zz29 rfl #[.string y333] rfl zz1 ?_; (with_reducible refine (cardexref01_entity.calls kj9 y333 t334 _ A20.out).mono ?_); rintro e w24 ⟨rfl, hb⟩; refine ⟨_, rfl, ?_⟩; have n0_ := Aside0.mk (below_step zz0 hb); clear HB; have HB := n0_; clear n0_; (try clear hb); (try clear hb2); (try clear hk); (try clear hi)))
                                go_roundg kj9
                                case measure => have := HK1.out; have := HJ9.out; omega
                                case rel => exact ⟨(x4_1 ++ t334), (wrap64 (x6_9 + 1)), zz2, zz2, H', ⟨by have := HK1.out; have := HJ9.out; omega⟩, ⟨zz0⟩⟩
                              · rw [if_neg c23] at H
                                exact absurd H (by simp)
                          · rw [if_neg c19] at H
                            exact absurd H (by simp)
                        · rw [if_neg c18] at H
                          exact absurd H (by simp)
                      · rw [if_neg c17] at H
                        exact absurd H (by simp)
                    · rw [if_neg c15] at H
                      have c15b0 : decide (x6_9 < (a0.size : Int)) = false := decide_eq_false c15
                      clear c15
                      simp only [Option.some.injEq, Prod.mk.injEq] at H
                      obtain ⟨rfl, rfl⟩ := H
                      go_wp2
                      go_ret2
                      exact ⟨zz4, zz0⟩
              · rw [if_neg c9] at H
                have c9b0 : ((bt a0 x5_1) == 38) = false := beq_eq_false_iff_ne.mpr c9
                have c9b1 : ((bt a0 x5_1) != 38) = true := bne_iff_ne.mpr c9
                have c25b0 := eq_true (of_decide_eq_true zz9 : 0 ≤ x5_1)
                by_cases c26 : x5_1 ≤ (wrap64 (x5_1 + 1))
                · rw [if_pos c26] at H
                  have c26b0 := eq_true c26
                  have c26b1 : decide (x5_1 ≤ (wrap64 (x5_1 + 1))) = true := decide_eq_true c26
                  by_cases c27 : (wrap64 (x5_1 + 1)) ≤ (a0.size : Int)
                  · rw [if_pos c27] at H
                    have c27b0 := eq_true c27
                    have c27b1 : decide ((wrap64 (x5_1 + 1)) ≤ (a0.size : Int)) = true := decide_eq_true c27
                    obtain ⟨y332, hy332⟩ : ∃ y_ : ByteArray, y_ = (a0.extract (x5_1 : Int).toNat ((wrap64 (x5_1 + 1)) : Int).toNat) := ⟨_, rfl⟩
                    replace H : (if x4_1.size + y332.size ≤ 9223372036854775807 then (cardexref01_Back.l0 k1 a0 (x4_1 ++ y332) (wrap64 (x5_1 + 1))) else (none)) = some (r1, r2) := by first | (rw [hy332]; with_reducible exact H) | (have H2_ := (Option.bind_some _ _).symm.trans H; rw [hy332]; with_reducible exact H2_) | (have H2_ := (Option.bind_some _ _).symm.trans H; with_reducible exact H2_) | with_reducible exact H | (rw [hy332]; exact H) | exact H
                    have Ny332 := Aside0.mk hy332
                    clear hy332
                    have ey332 : (a0.extract (x5_1 : Int).toNat ((wrap64 (x5_1 + 1)) : Int).toNat) = y332 := Ny332.out.symm
                    by_cases c28 : x4_1.size + y332.size ≤ 9223372036854775807
                    · rw [if_pos c28] at H
                      have c28b0 := eq_true c28
                      have c28b1 : decide (x4_1.size + y332.size ≤ 9223372036854775807) = true := decide_eq_true c28
                      try have c28b2 : (9223372036854775807 < x4_1.size + y332.size) = False := eq_false (Nat.not_lt.2 c28)
                      have H' := Aside0.mk H
                      clear H
                      have p6 : 0 ≤ (x5_1 : Int) := of_decide_eq_true zz9
                      have q6 : x5_1 < (a0.size : Int) := of_decide_eq_true zz9
                      have hx6 := bt_at a0 x5_1
                      replace p6 := eq_true p6
                      replace q6 := eq_true q6
                      have p8 : 0 ≤ (x5_1 : Int) := of_decide_eq_true zz9
                      have q8 : x5_1 < (a0.size : Int) := of_decide_eq_true zz9
                      have hx8 := bt_at a0 x5_1
                      replace p8 := eq_true p8
                      replace q8 := eq_true q8
                      go_wp2
                      go_roundg k1
                      case measure => have := HK1.out; omega
                      case rel => exact ⟨(x4_1 ++ y332), (wrap64 (x5_1 + 1)), zz2, zz2, H', ⟨by have := HK1.out; omega⟩, ⟨zz0⟩⟩
                    · rw [if_neg c28] at H
                      exact absurd H (by simp)
                  · rw [if_neg c27] at H
                    exact absurd H (by simp)
                · rw [if_neg c26] at H
                  exact absurd H (by simp)
          · rw [if_neg c5] at H
            exact absurd H (by simp)
        · rw [if_neg c4] at H
          have c4b0 : decide (x5_1 < (a0.size : Int)) = false := decide_eq_false c4
          clear c4
          simp only [Option.some.injEq, Prod.mk.injEq] at H
          obtain ⟨rfl, rfl⟩ := H
          go_wp2
          go_ret2
          exact ⟨zz4, zz0⟩
  · replace c3 := Bool.eq_false_iff.mpr c3
    subst c3
    have H1 : (some ((⟨#[]⟩ : ByteArray), 3)) = some (r1, r2) := by rw [if_neg (show ¬ (false = true) by decide)] at H; exact H
    clear H
    have H := H1
    clear H1
    simp only [Option.some.injEq, Prod.mk.injEq] at H
    obtain ⟨rfl, rfl⟩ := H
    go_enter Tryz.func28, Tryz.ntmps28
    go_wp2_with (first | ((with_reducible refine gate_callee (f := 13) rfl ?_); refine goesL_ (some 9) rfl rfl Tryz.func13 zz29 rfl #[.string a0] rfl zz1 ?_; (with_reducible refine (cardexref01_Valid.calls k a0 false _ A2.out).mono ?_); rintro e w' ⟨rfl, ⟨nd, rfl⟩⟩; refine ⟨_, rfl, ?_⟩))
    go_ret2
    exact ⟨zz4, zz0⟩
end Go.Proofs.YtjijbncheikagaaGreatDoor.Q
